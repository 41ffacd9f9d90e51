/-
  A small logic for walking functions of a translated program: data types, what a heap holds, and the rules for control. Nothing of a program is named here; no condition.
-/
import Derived.WalkKit
import Derived.Orders
import Derived.LoopN
import Derived.Laws.AppendOwnNone
import Derived.Laws.MakeOwn
import Derived.ChangeKeysEq
namespace Go.Sm
structure Hd where
 a:Option Addr
 n:Nat
 cap:Nat
abbrev Hd.val (h:Hd):Value:=.slice h.a h.n h.cap
def Hd.blk (h:Hd):Nat:=match h.a with
 | some ⟨b,_,_⟩=>b
 | none=>0
inductive Nd
 | mk (kind:Int) (text:List UInt8) (n:Int) (kids:List Nd)
def Nd.tup:Nd→Int×List UInt8×Int×List Nd
 | .mk k t n l=>(k,t,n,l)
def Nd.of (v:Int×List UInt8×Int×List Nd):Nd:=.mk v.1 v.2.1 v.2.2.1 v.2.2.2
def Nd.fill (x:Nd) (h:Hd):List Value:=[.int .i64 x.tup.1, .string ⟨x.tup.2.1.toArray⟩, .int .i64 x.tup.2.2.1,h.val]
def sb:List Nd→List Hd→List Value
 | x::xs,y::ys=>x.fill y++sb xs ys
 | _,_=>[]
inductive Ty:Type 1
 | one (α:Type) (f:α→Value) (h : ∀ x,(f x).oneCell' = true)
 | arr (n:Nat) (α:Type) (d:α) (f:α→Value) (h : ∀ x,(f x).oneCell' = true)
 | unit
 | pair (a b:Ty)
 | slice (t:Ty)
 | node
 | mp (k v:Ty)
abbrev Ty.den:Ty→Type
 | .one α _ _=>α
 | .arr _ α _ _ _=>List α
 | .unit=>Unit
 | .pair a b=>a.den×b.den
 | .slice t=>List t.den
 | .node=>Nd
 | .mp k v=>List (k.den×v.den)
abbrev Ty.sz:Ty→Nat
 | .one _ _ _=>1
 | .arr n _ _ _ _=>n
 | .unit=>0
 | .pair a b=>a.sz+b.sz
 | .slice _=>1
 | .node=>4
 | .mp _ _=>1
abbrev Ty.Refs:Ty→Type
 | .one _ _ _=>Unit
 | .arr _ _ _ _ _=>Unit
 | .unit=>Unit
 | .pair a b=>a.Refs×b.Refs
 | .slice _=>Hd
 | .node=>Hd
 | .mp _ _=>Hd
def Ty.fill:(t:Ty)→t.den→t.Refs→List Value
 | .one _ f _,x,_=>[f x]
 | .arr n _ d f _,x,_=>(List.range n).map fun i=>f (x.getD i d)
 | .unit,_,_=>[]
 | .pair a b,x,y=>a.fill x.1 y.1++b.fill x.2 y.2
 | .slice _,_,h=>[h.val]
 | .node,x,h=>x.fill h
 | .mp _ _,_,h=>[.map (some (Hd.blk h))]
theorem Ty.fill_length:(t:Ty)→(x:t.den)→(y:t.Refs)→(t.fill x y).length=t.sz
 | .one _ _ _,_,_=>rfl
 | .arr _ _ _ _ _,_,_=>by simp [Ty.fill,Ty.sz]
 | .unit,_,_=>rfl
 | .pair a b,x,y=>by simp [Ty.fill,Ty.sz,a.fill_length,b.fill_length]
 | .slice _,_,_=>rfl
 | .node,_,_=>rfl
 | .mp _ _,_,_=>rfl
def bK {α β:Type} (R:α→β→Prop):List α→List β→Prop
 | [],[]=>True
 | x::xs,y::ys=>R x y∧bK R xs ys
 | _,_=>False
def cellsOf (t:Ty):List t.den→List t.Refs→List Value
 | x::xs,y::ys=>t.fill x y++cellsOf t xs ys
 | _,_=>[]
def Sl (w:World) (S:Nat→Prop) (sz:Nat) (h:Hd) (n:Nat) (cells:List Value):Prop:=
 h.n=n∧n≤h.cap∧h.cap≤maxLen∧((True∧h.cap=0)∨∃ b off arr ty fz,h.a=some ⟨b,off,none⟩∧S b ∧
  w.heap[b]? = some (.cells arr ty fz)∧off+h.cap * sz≤arr.size∧(arr.toList.drop off).take (n * sz)=cells)
mutual
def oA (w:World) (S:Nat→Prop):Nd→Hd→Prop
 | .mk _ _ _ kids,h=>∃ ys:List Hd,gz w S kids ys∧Sl w S 4 h kids.length (sb kids ys)
def gz (w:World) (S:Nat→Prop):List Nd→List Hd→Prop
 | [],[]=>True
 | x::xs,y::ys=>oA w S x y∧gz w S xs ys
 | _,_=>False
end
def bA (w:World) (S:Nat→Prop):(t:Ty)→t.den→t.Refs→Prop
 | .one _ _ _,_,_=>True
 | .arr _ _ _ _ _,_,_=>True
 | .unit,_,_=>True
 | .pair a b,x,y=>bA w S a x.1 y.1∧bA w S b x.2 y.2
 | .slice t,xs,v=>∃ ys:List t.Refs,bK (bA w S t) xs ys∧Sl w S t.sz v xs.length (cellsOf t xs ys)
 | .node,x,h=>oA w S x h
 | .mp _ _,_,_=>True
def Ty.pureB:Ty→Bool
 | .one _ _ _=>true
 | .arr _ _ _ _ _=>true
 | .unit=>true
 | .pair a b=>a.pureB&&b.pureB
 | .slice _=>false
 | .node=>false
 | .mp _ _=>false
theorem bA.pure {w:World} {S:Nat→Prop}:(t:Ty)→(x:t.den)→(y:t.Refs)→t.pureB=true→bA w S t x y
 | .one _ _ _,_,_,_=>trivial
 | .arr _ _ _ _ _,_,_,_=>trivial
 | .unit,_,_,_=>trivial
 | .pair a b,x,y,h=>by
  simp only [Ty.pureB,Bool.and_eq_true] at h
  exact ⟨bA.pure a x.1 y.1 h.1,bA.pure b x.2 y.2 h.2⟩
 | .slice _,_,_,h=>by cases h
 | .node,_,_,h=>by cases h
 | .mp _ _,_,_,h=>by cases h
theorem bK.mono {α β:Type} {R R' : α→β→Prop} (h : ∀ x y,R x y→R' x y) : ∀ {xs:List α} {ys:List β},bK R xs ys→bK R' xs ys
 | [],[],_=>trivial
 | _::_,_::_,⟨h1,h2⟩=>⟨h _ _ h1,bK.mono h h2⟩
 | [],_::_,hh=>hh
 | _::_,[],hh=>hh
theorem bK.length {α β:Type} {R:α→β→Prop} : ∀ {xs:List α} {ys:List β},bK R xs ys→xs.length=ys.length
 | [],[],_=>rfl
 | _::_,_::_,⟨_,h2⟩=>by simp [bK.length h2]
 | [],_::_,hh=>hh.elim
 | _::_,[],hh=>hh.elim
theorem bK.append {α β:Type} {R:α→β→Prop} : ∀ {xs:List α} {ys:List β} {xs' : List α} {ys' : List β},bK R xs ys→bK R xs' ys' → bK R (xs++xs') (ys++ys')
 | [],[],_,_,_,h=>h
 | _::_,_::_,_,_,⟨h1,h2⟩,h=>⟨h1,bK.append h2 h⟩
 | [],_::_,_,_,hh,_=>hh.elim
 | _::_,[],_,_,hh,_=>hh.elim
theorem bK.get {α β:Type} {R:α→β→Prop} : ∀ {xs:List α} {ys:List β} {i:Nat} {x:α},bK R xs ys→xs[i]? = some x→∃ y,ys[i]? = some y∧R x y
 | x' :: _,y' :: _,0,x,⟨h1,_⟩,h=>⟨y',rfl,by simp at h; exact h ▸ h1⟩
 | _::_,_::_,i+1,x,⟨_,h2⟩,h=>by
  simp at h
  obtain ⟨y,hy,hr⟩:=bK.get h2 h
  exact ⟨y,by simpa using hy,hr⟩
 | [],[],_,_,_,h=>by simp at h
 | [],_::_,_,_,hh,_=>hh.elim
 | _::_,[],_,_,hh,_=>hh.elim
theorem bK.take {α β:Type} {R:α→β→Prop} : ∀ {xs:List α} {ys:List β} (k:Nat),bK R xs ys→bK R (xs.take k) (ys.take k)
 | [],[],_,_=>by simp [bK]
 | _::_,_::_,0,_=>by simp [bK]
 | _::_,_::_,k+1,⟨h1,h2⟩=>⟨h1,bK.take k h2⟩
 | [],_::_,_,hh=>hh.elim
 | _::_,[],_,hh=>hh.elim
theorem bK.drop {α β:Type} {R:α→β→Prop} : ∀ {xs:List α} {ys:List β} (k:Nat),bK R xs ys→bK R (xs.drop k) (ys.drop k)
 | [],[],_,_=>by simp [bK]
 | _::_,_::_,0,h=>h
 | _::_,_::_,k+1,⟨_,h2⟩=>bK.drop k h2
 | [],_::_,_,hh=>hh.elim
 | _::_,[],_,hh=>hh.elim
theorem bK.set {α β:Type} {R:α→β→Prop} : ∀ {xs:List α} {ys:List β} (k:Nat) {x:α} {y:β},bK R xs ys→R x y→bK R (xs.set k x) (ys.set k y)
 | [],[],_,_,_,_,_=>by simp [bK]
 | _::_,_::_,0,_,_,⟨_,h2⟩,h=>⟨h,h2⟩
 | _::_,_::_,k+1,_,_,⟨h1,h2⟩,h=>⟨h1,bK.set k h2 h⟩
 | [],_::_,_,_,_,hh,_=>hh.elim
 | _::_,[],_,_,_,hh,_=>hh.elim
theorem bU (t:Ty) : ∀ {xs:List t.den} {ys:List t.Refs},xs.length=ys.length→(cellsOf t xs ys).length=xs.length * t.sz
 | [],[],_=>by simp [cellsOf]
 | x::xs,y::ys,h=>by
  have:=bU t (xs:=xs) (ys:=ys) (by simpa using h)
  simp [cellsOf,t.fill_length,this,Nat.add_mul]; omega
 | [],_::_,h=>by simp at h
 | _::_,[],h=>by simp at h
theorem dC (t:Ty) : ∀ {xs:List t.den} {ys:List t.Refs} {xs' : List t.den} {ys' : List t.Refs},xs.length=ys.length →
  cellsOf t (xs++xs') (ys++ys')=cellsOf t xs ys++cellsOf t xs' ys'
 | [],[],_,_,_=>by simp [cellsOf]
 | x::xs,y::ys,xs',ys',h=>by
  have:=dC t (xs:=xs) (ys:=ys) (xs' := xs') (ys' := ys') (by simpa using h)
  simp [cellsOf,this]
 | [],_::_,_,_,h=>by simp at h
 | _::_,[],_,_,h=>by simp at h
theorem px (t:Ty) : ∀ {xs:List t.den} {ys:List t.Refs} {i:Nat} {x:t.den} {y:t.Refs},xs[i]? = some x→ys[i]? = some y →
  ((cellsOf t xs ys).drop (i * t.sz)).take t.sz=t.fill x y
 | x' :: xs,y' :: ys,0,x,y,hx,hy=>by
  simp at hx hy; subst hx; subst hy
  simp [cellsOf,t.fill_length]
 | x' :: xs,y' :: ys,i+1,x,y,hx,hy=>by
  simp at hx hy
  have:=px t hx hy
  simp only [cellsOf]
  rw [show (i+1) * t.sz=(t.fill x' y').length+i * t.sz by rw [t.fill_length,Nat.add_mul]; omega,List.drop_append,List.drop_eq_nil_of_le (by omega)]
  simpa using this
 | [],_,_,_,_,hx,_=>by simp at hx
 | _::_,[],_,_,_,_,hy=>by simp at hy
theorem gO (t:Ty) : ∀ {xs:List t.den} {ys:List t.Refs} (k:Nat),xs.length=ys.length →
  cellsOf t (xs.take k) (ys.take k)=(cellsOf t xs ys).take (k * t.sz)
 | [],[],_,_=>by simp [cellsOf]
 | x::xs,y::ys,0,_=>by simp [cellsOf]
 | x::xs,y::ys,k+1,h=>by
  have:=gO t (xs:=xs) (ys:=ys) k (by simpa using h)
  simp only [List.take_succ_cons,cellsOf,this]
  rw [show (k+1) * t.sz=(t.fill x y).length+k * t.sz by rw [t.fill_length,Nat.add_mul]; omega,List.take_append,List.take_of_length_le (l:=t.fill x y) (by omega)]
  simp
 | [],_::_,_,h=>by simp at h
 | _::_,[],_,h=>by simp at h
theorem ow (t:Ty) : ∀ {xs:List t.den} {ys:List t.Refs} (k:Nat),xs.length=ys.length →
  cellsOf t (xs.drop k) (ys.drop k)=(cellsOf t xs ys).drop (k * t.sz)
 | [],[],_,_=>by simp [cellsOf]
 | x::xs,y::ys,0,_=>by simp
 | x::xs,y::ys,k+1,h=>by
  have:=ow t (xs:=xs) (ys:=ys) k (by simpa using h)
  simp only [List.drop_succ_cons,cellsOf,this]
  rw [show (k+1) * t.sz=(t.fill x y).length+k * t.sz by rw [t.fill_length,Nat.add_mul]; omega,List.drop_append,List.drop_eq_nil_of_le (as:=t.fill x y) (by omega)]
  simp
 | [],_::_,_,h=>by simp at h
 | _::_,[],_,h=>by simp at h
def nv (l:List Value):Prop:=∀ v∈l,v.oneCell' = true
theorem sC:(t:Ty)→(x:t.den)→(y:t.Refs)→nv (t.fill x y)
 | .one _ _ h,x,_=>by simp [nv,Ty.fill,h]
 | .arr _ _ _ _ h,x,_=>by
  simp only [nv,Ty.fill,List.mem_map]
  rintro v ⟨i,_,rfl⟩
  exact h _
 | .unit,_,_=>by simp [nv,Ty.fill]
 | .pair a b,x,y=>by
  simp only [nv,Ty.fill,List.mem_append]
  rintro v (hv | hv)
  ·exact sC a x.1 y.1 v hv
  ·exact sC b x.2 y.2 v hv
 | .slice t,xs,v=>by
  simp only [nv,Ty.fill,List.mem_singleton]
  rintro u rfl
  rfl
 | .node,x,h=>by
  simp only [nv,Ty.fill,Nd.fill,List.mem_cons,List.not_mem_nil,or_false]
  rintro u (rfl | rfl | rfl | rfl) <;> rfl
 | .mp _ _,_,h=>by
  simp only [nv,Ty.fill,List.mem_singleton]
  rintro u rfl
  rfl
theorem gK (t:Ty) : ∀ {xs:List t.den} {ys:List t.Refs},nv (cellsOf t xs ys)
 | [],[]=>by simp [nv,cellsOf]
 | x::xs,y::ys=>by
  simp only [nv,cellsOf,List.mem_append]
  rintro v (hv | hv)
  ·exact sC t x y v hv
  ·exact gK t v hv
 | [],_::_=>by simp [nv,cellsOf]
 | _::_,[]=>by simp [nv,cellsOf]
def gU (w w' : World) (S S' : Nat→Prop):Prop:=∀ b,b<w.heap.size→S b→S' b∧w'.heap[b]? = w.heap[b]?
theorem Sl.keep {w w' : World} {S S' : Nat→Prop} (hk:gU w w' S S') {sz:Nat} {v:Hd} {n:Nat} {cells:List Value} (h:Sl w S sz v n cells):Sl w' S' sz v n cells:=by
 obtain ⟨hv,hn,hm,hc⟩:=h
 refine ⟨hv,hn,hm,?_⟩
 rcases hc with hc | ⟨b,off,arr,ty,fz,ha,hS,hb,hrest⟩
 ·exact .inl hc
 ·have hlt:b<w.heap.size:=(Array.getElem?_eq_some_iff.1 hb).1
  obtain ⟨hS',hb'⟩:=hk b hlt hS
  exact .inr ⟨b,off,arr,ty,fz,ha,hS',hb'.trans hb,hrest⟩
theorem rx : ∀ (xs:List Nd) (ys:List Hd),sb xs ys=cellsOf .node xs ys
 | [],[]=>rfl
 | x::xs,y::ys=>by simp only [sb,cellsOf,rx xs ys]; rfl
 | [],_::_=>rfl
 | _::_,[]=>rfl
theorem sL {w:World} {S:Nat→Prop} : ∀ {xs:List Nd} {ys:List Hd},gz w S xs ys↔bK (oA w S) xs ys
 | [],[]=>by simp [gz,bK]
 | x::xs,y::ys=>by
  rw [gz,bK,sL]
 | [],_::_=>by simp [gz,bK]
 | _::_,[]=>by simp [gz,bK]
theorem lQ {w:World} {S:Nat→Prop} {x:Nd} {h:Hd}:oA w S x h↔bA w S (.slice .node) x.tup.2.2.2 h:=by
 cases x with
 | mk k t n l=>
  rw [oA]
  constructor
  ·rintro ⟨ys,h1,h2⟩
   exact ⟨ys,sL.1 h1,by rw [← rx]; exact h2⟩
  ·rintro ⟨ys,h1,h2⟩
   exact ⟨ys,sL.2 h1,by rw [rx]; exact h2⟩
mutual
theorem oA.keep {w w' : World} {S S' : Nat→Prop} (hk:gU w w' S S'):(x:Nd)→(h:Hd)→oA w S x h→oA w' S' x h
 | .mk k t n l,h,hr=>by
  rw [oA] at hr ⊢
  obtain ⟨ys,h1,h2⟩:=hr
  exact ⟨ys,gz.keep hk l ys h1,h2.keep hk⟩
theorem gz.keep {w w' : World} {S S' : Nat→Prop} (hk:gU w w' S S'):(xs:List Nd)→(ys:List Hd)→gz w S xs ys→gz w' S' xs ys
 | [],[],h=>h
 | x::xs,y::ys,h=>by
  rw [gz] at h ⊢
  exact ⟨oA.keep hk x y h.1,gz.keep hk xs ys h.2⟩
 | [],_::_,h=>by rw [gz] at h; exact h.elim; all_goals simp
 | _::_,[],h=>by rw [gz] at h; exact h.elim; all_goals simp
end
theorem bA.keep {w w' : World} {S S' : Nat→Prop} (hk:gU w w' S S'):(t:Ty)→(x:t.den)→(y:t.Refs)→bA w S t x y→bA w' S' t x y
 | .one _ _ _,_,_,_=>trivial
 | .arr _ _ _ _ _,_,_,_=>trivial
 | .unit,_,_,_=>trivial
 | .pair a b,x,y,h=>⟨bA.keep hk a x.1 y.1 h.1,bA.keep hk b x.2 y.2 h.2⟩
 | .slice t,_,_,⟨ys,h1,h2⟩=>⟨ys,h1.mono (bA.keep hk t),h2.keep hk⟩
 | .node,x,h,hh=>oA.keep hk x h hh
 | .mp _ _,_,_,_=>trivial
end Go.Sm
namespace Go.Sm
abbrev cF:=Nat→Value
abbrev bd:=Nat→Nat
def vf (ρ:cF) (d:Nat) (v:Value):cF:=fun t=>cond (Nat.beq t d) v (ρ t)
def aK (ρ:cF):Operand→Value
  | .tmp t=>ρ t
  | .const v=>v
  | .global g=>.pointer (some ⟨g,0,none⟩)
  | .func f=>.func (.func f) #[] #[]
structure Rel (n:Nat) (ρ:cF) (a:Act):Prop where
  defers:a.defers=[]
  size:a.tmps.size=n
  val : ∀ t,a.tmps.getD t undef=ρ t
theorem Rel.eval {n:Nat} {ρ:cF} {a:Act} (h:Rel n ρ a):a.eval=aK ρ:=by
  funext x; cases x <;> simp [Act.eval,aK,h.val]
theorem Rel.put {n:Nat} {ρ:cF} {a:Act} (h:Rel n ρ a) {d:Nat} (hd:Nat.blt d n=true) (v:Value):Rel n (vf ρ d v) (a.put (some d) v):=by
  have hd' : d<n:=Nat.le_of_ble_eq_true hd
  refine ⟨h.defers,by simp [Act.put,h.size],fun t=>?_⟩
  have hv:=h.val t
  simp only [Act.put,vf,Array.getD_eq_getD_getElem?,Array.getElem?_setIfInBounds] at hv ⊢
  by_cases ht:t=d
  · subst ht; simp [h.size,hd']
  · have:Nat.beq t d=false:=by
      cases hb:Nat.beq t d
      · rfl
      · exact absurd (Nat.eq_of_beq_eq_true hb) ht
    rw [if_neg (fun e=>ht e.symm),this]
    exact hv
noncomputable def nq (S:Nat→Prop):bd:=open Classical in fun b=>if S b then 1 else 0
theorem ZL (S:Nat→Prop) (b:Nat):nq S b=0∨nq S b=1:=by
  unfold nq; split <;> simp
def kW (w w' : World):Prop:=w'.os=w.os∧w'.output=w.output
theorem kW.refl (w:World):kW w w:=⟨rfl,rfl⟩
theorem kW.trans {a b c:World} (h:kW a b) (k:kW b c):kW a c:=⟨k.1.trans h.1,k.2.trans h.2⟩
def rf (w:World) (e:TypeId) (sz:Nat) (v:Value) (n:Nat) (xs:List Value):Prop:=
  xs.length=n * sz∧((v = .slice none 0 0∧n=0) ∨
   ∃ (g cap:Nat) (cur:Array Value) (ty:TypeId) (fz:Nat×Nat),v = .slice (some ⟨g,0,none⟩) n cap∧w.heap[g]? = some (.cells cur ty fz)∧((ty=e∧fz=(0,0))∨(1048576≤e∧cur.size≤fz.1)) ∧
     n≤cap∧cap≤maxLen∧cur.size=cap * sz∧cur.toList.take (n * sz)=xs)
theorem tV {w:World} {base:Nat} {e:TypeId} {sz:Nat} {v:Value} {n:Nat} {xs:List Value} (h:w.ownsRow base e sz v n xs):rf w e sz v n xs:=
  ⟨h.1,h.2.imp id fun ⟨g,cap,cur,hv,_,hg,h1,h2,h3,h4⟩=>⟨g,cap,cur,e,(0,0),hv,hg, .inl ⟨rfl,rfl⟩,h1,h2,h3,h4⟩⟩
theorem rf.plain {w:World} {e:TypeId} {sz:Nat} {v:Value} {n:Nat} {xs:List Value} (h:rf w e sz v n xs) (he:Nat.blt e 1048576=true):w.ownsRow 0 e sz v n xs:=
  ⟨h.1,h.2.imp id fun ⟨g,cap,cur,ty,fz,hv,hg,hm,h1,h2,h3,h4⟩=>by
    have he' : e+1≤1048576:=Nat.le_of_ble_eq_true he
    rcases hm with ⟨rfl,rfl⟩ | ⟨hge,_⟩
    · exact ⟨g,cap,cur,hv,Nat.zero_le _,hg,h1,h2,h3,h4⟩
    · exact absurd (Nat.le_trans he' hge) (Nat.not_succ_le_self e)⟩
theorem rf.lt {w:World} {e:TypeId} {sz:Nat} {v:Value} {n:Nat} {xs:List Value} (h:rf w e sz v n xs) : ∀ g,v.ownBlock=some g→g<w.heap.size:=by
  intro g hg
  rcases h.2 with ⟨rfl,_⟩ | ⟨g',cap,cur,ty,fz,rfl,hgg,_⟩
  · simp [Value.ownBlock] at hg
  · simp only [Value.ownBlock,Option.some.injEq] at hg
    subst hg
    exact (Array.getElem?_eq_some_iff.1 hgg).1
theorem rf.same {w w' : World} {e:TypeId} {sz:Nat} {v:Value} {n:Nat} {cells:List Value} (h:rf w e sz v n cells)
    (hb : ∀ g,v.ownBlock=some g→g<w.heap.size→w'.heap[g]? = w.heap[g]?):rf w' e sz v n cells:=by
  refine ⟨h.1,?_⟩
  rcases h.2 with h2 | ⟨g,cap,cur,ty,fz,rfl,hg,hrest⟩
  · exact .inl h2
  · exact .inr ⟨g,cap,cur,ty,fz,rfl,(hb g rfl (Array.getElem?_eq_some_iff.1 hg).1).trans hg,hrest⟩
inductive EI
  | leaf
  | pair (a b:EI)
  | row (e:TypeId) (s:EI)
  deriving DecidableEq
def EI.fst:EI→EI
  | .pair a _=>a
  | _=>.leaf
def EI.snd:EI→EI
  | .pair _ b=>b
  | _=>.leaf
def EI.dec:Nat→Nat→EI×Nat
  | 0,n=>(.leaf,n)
  | f+1,n=>match n % 65536 with
    | 0=>(.leaf,n / 65536)
    | 1=>(.pair (EI.dec f (n / 65536)).1 (EI.dec f (EI.dec f (n / 65536)).2).1,(EI.dec f (EI.dec f (n / 65536)).2).2)
    | e+2=>(.row e (EI.dec f (n / 65536)).1,(EI.dec f (n / 65536)).2)
def ep (e:TypeId):Bool:=Nat.ble 1099511627776 e
def e6 (e:TypeId):EI:=(EI.dec 16 (e / 1099511627776)).1
def Ai (w:World) (S:Nat→Prop) (d:Nat→List Nat) (π:List Nat) (e:TypeId) (sz:Nat) (h:Hd) (n:Nat) (cells:List Value):Prop:=
  ∃ (g cap:Nat) (cur:Array Value),h=⟨some ⟨g,0,none⟩,n,cap⟩∧w.heap[g]? = some (.cells cur e (0,0))∧n≤cap∧cap≤maxLen∧cur.size=cap * sz∧cur.toList.take (n * sz)=cells∧S g∧d g=π
def bo (w:World) (S:Nat→Prop) (d:Nat→List Nat):(t:Ty)→EI→List Nat→t.den→t.Refs→Prop
  | .one _ _ _,_,_,_,_=>True
  | .arr _ _ _ _ _,_,_,_,_=>True
  | .unit,_,_,_,_=>True
  | .pair a b,ε,π,x,y=>bo w S d a ε.fst (0::π) x.1 y.1∧bo w S d b ε.snd (1::π) x.2 y.2
  | .slice t,ε,π,xs,h=>(h=⟨none,0,0⟩∧xs=[])∨∃ e s,ε = .row e s∧∃ ys:List t.Refs,ys.length=xs.length∧Ai w S d π e t.sz h xs.length (cellsOf t xs ys) ∧
      ∀ (j:Nat) (x:t.den) (y:t.Refs),xs[j]? = some x→ys[j]? = some y→bo w S d t s (j::π) x y
  | .node,_,_,_,_=>False
  | .mp _ _,_,_,_,_=>False
theorem Ai.keep {w w' : World} {S S' : Nat→Prop} {d:Nat→List Nat} {π:List Nat} {e:TypeId} {sz n:Nat} {h:Hd} {cells:List Value} (hk:gU w w' S S')
    (hr:Ai w S d π e sz h n cells):Ai w' S' d π e sz h n cells:=by
  obtain ⟨g,cap,cur,h1,h2,h3,h4,h5,h6,h7,h8⟩:=hr
  obtain ⟨k1,k2⟩:=hk g (Array.getElem?_eq_some_iff.1 h2).1 h7
  exact ⟨g,cap,cur,h1,k2.trans h2,h3,h4,h5,h6,k1,h8⟩
theorem bo.keep {w w' : World} {S S' : Nat→Prop} {d:Nat→List Nat} (hk:gU w w' S S'):(t:Ty)→(ε:EI)→(π:List Nat)→(x:t.den)→(y:t.Refs) →
    bo w S d t ε π x y→bo w' S' d t ε π x y
  | .one _ _ _,_,_,_,_,_=>trivial
  | .arr _ _ _ _ _,_,_,_,_,_=>trivial
  | .unit,_,_,_,_,_=>trivial
  | .pair a b,ε,π,x,y,h=>⟨bo.keep hk a _ _ _ _ h.1,bo.keep hk b _ _ _ _ h.2⟩
  | .slice t,ε,π,xs,h,hh=>by
    rcases hh with hh | ⟨e,s,he,ys,h1,h2,h3⟩
    · exact .inl hh
    · exact .inr ⟨e,s,he,ys,h1,h2.keep hk,fun j x y hx hy=>bo.keep hk t s (j::π) x y (h3 j x y hx hy)⟩
theorem iK {α β:Type} {R:α→β→Prop} : ∀ {xs:List α} {ys:List β},ys.length=xs.length→(∀ (j:Nat) (x:α) (y:β),xs[j]? = some x→ys[j]? = some y→R x y)→bK R xs ys
  | [],[],_,_=>trivial
  | x::xs,y::ys,hl,h=>⟨h 0 x y rfl rfl,iK (by simpa using hl) fun j a b ha hb=>h (j+1) a b (by simpa using ha) (by simpa using hb)⟩
  | [],_::_,hl,_=>by simp at hl
  | _::_,[],hl,_=>by simp at hl
theorem bo.rep {w:World} {S S' : Nat→Prop} {d:Nat→List Nat} (hS : ∀ b,S b→S' b):(t:Ty)→(ε:EI)→(π:List Nat)→(x:t.den)→(y:t.Refs)→bo w S d t ε π x y→bA w S' t x y
  | .one _ _ _,_,_,_,_,_=>trivial
  | .arr _ _ _ _ _,_,_,_,_,_=>trivial
  | .unit,_,_,_,_,_=>trivial
  | .pair a b,ε,π,x,y,h=>⟨bo.rep hS a _ _ _ _ h.1,bo.rep hS b _ _ _ _ h.2⟩
  | .slice t,ε,π,xs,h,hh=>by
    rcases hh with ⟨rfl,rfl⟩ | ⟨e,s,he,ys,h1,h2,h3⟩
    · exact ⟨[],trivial,rfl,by simp,by simp [maxLen], .inl ⟨trivial,rfl⟩⟩
    · refine ⟨ys,iK h1 fun j x y hx hy=>bo.rep hS t s (j::π) x y (h3 j x y hx hy),?_⟩
      obtain ⟨g,cap,cur,rfl,g2,g3,g4,g5,g6,g7,g8⟩:=h2
      exact ⟨rfl,g3,g4, .inr ⟨g,0,cur,e,(0,0),rfl,hS g g7,g2,by show 0+cap * t.sz≤cur.size; omega,by simpa using g6⟩⟩
def dE (t:Ty) (xs:List t.den) (ys:List t.Refs) (k:Nat) (cs:List Value):List Value:=cellsOf t (xs.take k) (ys.take k)++cs++cellsOf t (xs.drop (k+1)) (ys.drop (k+1))
def iD (w:World) (S:Nat→Prop) (t:Ty) (e:TypeId) (xs:List t.den) (v:Hd) (k:Nat) (cs:List Value):Prop:=
  ∃ (d:Nat→List Nat) (e0:TypeId) (s:EI) (ys:List t.Refs),e6 e = .row e0 s∧ys.length=xs.length∧k<xs.length∧cs.length=t.sz∧Ai w S d [] e0 t.sz v xs.length (dE t xs ys k cs) ∧
    ∀ (j:Nat) (x:t.den) (y:t.Refs),j≠k→xs[j]? = some x→ys[j]? = some y→bo w S d t s [j] x y
theorem iD.keep {w w' : World} {S S' : Nat→Prop} {t:Ty} {e:TypeId} {xs:List t.den} {v:Hd} {k:Nat} {cs:List Value} (hk:gU w w' S S')
    (h:iD w S t e xs v k cs):iD w' S' t e xs v k cs:=by
  obtain ⟨d,e0,s,ys,h1,h2,h3,h4,h5,h6⟩:=h
  exact ⟨d,e0,s,ys,h1,h2,h3,h4,h5.keep hk,fun j x y hj hx hy=>bo.keep hk t s _ x y (h6 j x y hj hx hy)⟩
def cp (w:World) (S:Nat→Prop) (t:Ty) (ε:EI) (x:t.den) (y:t.Refs):Prop:=∃ d:Nat→List Nat,bo w S d t ε [] x y
theorem cp.keep {w w' : World} {S S' : Nat→Prop} {t:Ty} {ε:EI} {x:t.den} {y:t.Refs} (hk:gU w w' S S') (h:cp w S t ε x y):cp w' S' t ε x y:=h.imp fun _ h=>bo.keep hk t ε [] x y h
def qf (w:World) (S:Nat→Prop) (b:Nat) (es:List (Value×Value)):Prop:=
  ∃ (arr:Array MapEntry) (clock:Nat),w.heap[b]? = some (.map arr clock)∧arr.toList.map (fun e=>(e.key,e.val))=es∧(∀ e∈arr.toList,e.born<clock)∧(arr.toList.map (·.born)).Nodup∧S b
theorem qf.keep {w w' : World} {S S' : Nat→Prop} {b:Nat} {es:List (Value×Value)} (hk:gU w w' S S') (h:qf w S b es):qf w' S' b es:=by
  obtain ⟨arr,clock,h1,h2,h3,h4,h5⟩:=h
  obtain ⟨k1,k2⟩:=hk b (Array.getElem?_eq_some_iff.1 h1).1 h5
  exact ⟨arr,clock,k2.trans h1,h2,h3,h4,k1⟩
def tE (w:World) (S SK:Nat→Prop) (t:Ty) (e:TypeId) (xs:List t.den) (v:Hd) (m:Int):Prop:=
  (v=⟨none,0,0⟩∧xs=[])∨∃ (d:Nat→List Nat) (e0:TypeId) (s:EI) (ys:List t.Refs),e6 e = .row e0 s∧ys.length=xs.length∧Ai w S d [] e0 t.sz v xs.length (cellsOf t xs ys) ∧
    (∀ (j:Nat) (x:t.den) (y:t.Refs),(j:Int)<m→xs[j]? = some x→ys[j]? = some y→bo w S d t s [j] x y)∧(∀ (j:Nat) (x:t.den) (y:t.Refs),m≤(j:Int)→xs[j]? = some x→ys[j]? = some y→bA w SK t x y)
theorem tE.keep {w w' : World} {S S' SK SK' : Nat→Prop} {t:Ty} {e:TypeId} {xs:List t.den} {v:Hd} {m:Int} (hk:gU w w' S S') (hk2:gU w w' SK SK') (h:tE w S SK t e xs v m):tE w' S' SK' t e xs v m:=by
  rcases h with h | ⟨d,e0,s,ys,h1,h2,h3,h4,h5⟩
  · exact .inl h
  · refine .inr ⟨d,e0,s,ys,h1,h2,h3.keep hk,fun j x y hj hx hy=>bo.keep hk t s _ x y (h4 j x y hj hx hy),fun j x y hj hx hy=>bA.keep hk2 t x y (h5 j x y hj hx hy)⟩
inductive HA:Type 1
  | pt (t:Ty) (e:TypeId) (i:Nat) (K:List Nat) (xs:List t.den) (v:Hd) (m:Int)
  | mp (i b:Nat) (es:List (Value×Value))
  | tr (t:Ty) (e:TypeId) (i:Nat) (K:List Nat) (xs:List t.den) (v:Hd)
  | hol (t:Ty) (e:TypeId) (i:Nat) (xs:List t.den) (v:Hd) (k:Nat) (cs:List Value)
  | rep (t:Ty) (K:List Nat) (xs:List t.den) (v:Hd)
  | own (t:Ty) (e:TypeId) (i:Nat) (K:List Nat) (xs:List t.den) (v:Hd)
  | box (i b:Nat) (cs:List Value)
  | elem (t:Ty) (K:List Nat) (x:t.den) (p:Addr)
  | old (w0:World) (c0:bd)
  | pure (p:Prop)
  | gl (g n:Nat) (cs:List Value)
def HA.holds (w:World) (c:bd):HA→Prop
  | .pt t e i K xs v m=>tE w (fun b=>c b=i) (fun b=>c b∈K) t e xs v m
  | .tr t e i _ xs v=>cp w (fun b=>c b=i) (.slice t) (e6 e) xs v
  | .hol t e i xs v k cs=>iD w (fun b=>c b=i) t e xs v k cs
  | .mp i b es=>qf w (fun b=>c b=i) b es
  | .rep t K xs v=>bA w (fun b=>c b∈K) (.slice t) xs v
  | .own t e i K xs v=>∃ ys,bK (bA w (fun b=>c b∈K) t) xs ys∧rf w e t.sz v.val xs.length (cellsOf t xs ys)∧∀ g,v.val.ownBlock=some g→c g=i
  | .box i b cs=>(∃ ty,w.heap[b]? = some (.cells cs.toArray ty (0,0)))∧c b=i
  | .elem t K x p=>∃ y b off arr ty fz,p=⟨b,off,none⟩∧c b∈K∧w.heap[b]? = some (.cells arr ty fz)∧off+t.sz≤arr.size ∧
      (arr.toList.drop off).take t.sz=t.fill x y∧bA w (fun b=>c b∈K) t x y
  | .old w0 c0=>w0.heap.size≤w.heap.size∧(∀ b,b<w0.heap.size→c0 b≤1→w.heap[b]? = w0.heap[b]? ∧ c b=c0 b)∧(∀ b,b<w.heap.size→(b<w0.heap.size→2≤c0 b)→2≤c b)∧kW w0 w
  | .pure p=>p
  | .gl g n cs=>(∃ ty fz,w.heap[g]? = some (.cells cs.toArray ty fz))∧c g≤1∧n≤maxLen
def HA.uses:HA→List Nat
  | .pt _ _ i K _ _ _=>i::K
  | .tr _ _ i K _ _=>i::K
  | .hol _ _ i _ _ _ _=>[i]
  | .mp i _ _=>[i]
  | .rep _ K _ _=>K
  | .own _ _ i K _ _=>i::K
  | .box i _ _=>[i]
  | .elem _ K _ _=>K
  | .old _ _=>[0,1]
  | .pure _=>[]
  | .gl _ _ _=>[0,1]
structure Stp (κ:List Nat) (w:World) (c:bd) (w' : World) (c' : bd):Prop where
  size:w.heap.size≤w'.heap.size
  col : ∀ b,b<w.heap.size→c b∉κ→c' b=c b
  same : ∀ b,b<w.heap.size→c b∉κ→w'.heap[b]? = w.heap[b]?
  two : ∀ b,b<w'.heap.size→(b<w.heap.size→c b∈κ∧2≤c b)→2≤c' b
  env:kW w w'
theorem Stp.mk0 {κ:List Nat} {w:World} {c:bd} {w' : World} {c' : bd} (size:w.heap.size≤w'.heap.size) (col : ∀ b,b<w.heap.size→c' b=c b) (same : ∀ b,b<w.heap.size→c b∉κ→w'.heap[b]? = w.heap[b]?)
    (two : ∀ b,w.heap.size≤b→b<w'.heap.size→2≤c' b) (env:kW w w'):Stp κ w c w' c' :=
  ⟨size,fun b hb _=>col b hb,same,fun b hb h=>if hlt:b<w.heap.size then (col b hlt).symm ▸ (h hlt).2 else two b (by omega) hb,env⟩
theorem Stp.refl (w:World) (c:bd):Stp [] w c w c:=.mk0 (Nat.le_refl _) (fun _ _=>rfl) (fun _ _ _=>rfl) (fun b h1 h2=>by omega) (kW.refl w)
theorem Stp.keeps {κ:List Nat} {w:World} {c:bd} {w' : World} {c' : bd} (h:Stp κ w c w' c') {K:List Nat} (hK : ∀ k∈K,k∉κ) :
    gU w w' (fun b=>c b∈K) (fun b=>c' b∈K):=fun b hb hc=>⟨by show c' b∈K; rw [h.col b hb (hK _ hc)]; exact hc,h.same b hb (hK _ hc)⟩
theorem HA.stp {κ:List Nat} {w:World} {c:bd} {w' : World} {c' : bd} (hs:Stp κ w c w' c'):(A:HA)→(∀ k∈A.uses,k∉κ)→A.holds w c→A.holds w' c'
  | .tr t e i K xs v,hK,h=>by
    have hi:i∉κ:=hK i (by simp [HA.uses])
    exact cp.keep (fun b hb (hc:c b=i)=>⟨by show c' b=i; rw [hs.col b hb (by rw [hc]; exact hi)]; exact hc,hs.same b hb (by rw [hc]; exact hi)⟩) h
  | .pt t e i K xs v m,hK,h=>by
    have hi:i∉κ:=hK i (by simp [HA.uses])
    exact tE.keep (fun b hb (hc:c b=i)=>⟨by show c' b=i; rw [hs.col b hb (by rw [hc]; exact hi)]; exact hc,hs.same b hb (by rw [hc]; exact hi)⟩) (hs.keeps (fun k hk=>hK k (by simp [HA.uses,hk]))) h
  | .hol t e i xs v k cs,hK,h=>by
    have hi:i∉κ:=hK i (by simp [HA.uses])
    exact iD.keep (fun b hb (hc:c b=i)=>⟨by show c' b=i; rw [hs.col b hb (by rw [hc]; exact hi)]; exact hc,hs.same b hb (by rw [hc]; exact hi)⟩) h
  | .mp i b es,hK,h=>by
    have hi:i∉κ:=hK i (by simp [HA.uses])
    exact qf.keep (fun b hb (hc:c b=i)=>⟨by show c' b=i; rw [hs.col b hb (by rw [hc]; exact hi)]; exact hc,hs.same b hb (by rw [hc]; exact hi)⟩) h
  | .rep t K xs v,hK,h=>bA.keep (hs.keeps hK) (.slice t) xs v h
  | .own t e i K xs v,hK,⟨ys,h1,h2,h3⟩=>by
    have hi:i∉κ:=hK i (by simp [HA.uses])
    have hlt : ∀ g,v.val.ownBlock=some g→g<w.heap.size:=fun g hg=>h2.lt g hg
    exact ⟨ys,h1.mono (bA.keep (hs.keeps (fun k hk=>hK k (by simp [HA.uses,hk]))) t),h2.same (fun g hg hl=>hs.same g hl (by rw [h3 g hg]; exact hi)),
      fun g hg=>by rw [hs.col g (hlt g hg) (by rw [h3 g hg]; exact hi)]; exact h3 g hg⟩
  | .box i b cs,hK,⟨⟨ty,hb⟩,hc⟩=>by
    have hlt:b<w.heap.size:=(Array.getElem?_eq_some_iff.1 hb).1
    exact ⟨⟨ty,(hs.same b hlt (by rw [hc]; exact hK i (by simp [HA.uses]))).trans hb⟩,by rw [hs.col b hlt (by rw [hc]; exact hK i (by simp [HA.uses]))]; exact hc⟩
  | .elem t K x p,hK,⟨y,b,off,arr,ty,fz,hp,hc,hb,h1,h2,h3⟩=>by
    have hlt:b<w.heap.size:=(Array.getElem?_eq_some_iff.1 hb).1
    exact ⟨y,b,off,arr,ty,fz,hp,by rw [hs.col b hlt (hK _ hc)]; exact hc,(hs.same b hlt (hK _ hc)).trans hb,h1,h2,bA.keep (hs.keeps hK) t x y h3⟩
  | .old w0 c0,hK,⟨h1,h2,h5,h6⟩=>by
    refine ⟨Nat.le_trans h1 hs.size,fun b hb h01=>?_,fun b hb hb' => ?_,h6.trans hs.env⟩
    · obtain ⟨h3,h4⟩:=h2 b hb h01
      have hlt:b<w.heap.size:=Nat.lt_of_lt_of_le hb h1
      have hn:c b∉κ:=by
        rw [h4]
        rcases (show c0 b=0∨c0 b=1 by omega) with e | e <;> rw [e] <;> exact hK _ (by simp [HA.uses])
      exact ⟨(hs.same b hlt hn).trans h3,by rw [hs.col b hlt hn]; exact h4⟩
    · by_cases hlt:b<w.heap.size
      · have h2' := h5 b hlt hb'
        by_cases hk:c b∈κ
        · exact hs.two b hb fun _=>⟨hk,h2'⟩
        · rw [hs.col b hlt hk]; exact h2'
      · exact hs.two b hb fun h=>absurd h hlt
  | .pure _,_,h=>h
  | .gl g n cs,hK,⟨⟨ty,fz,hb⟩,hc,hn⟩=>by
    have hlt:g<w.heap.size:=(Array.getElem?_eq_some_iff.1 hb).1
    have hk:c g∉κ:=by
      rcases (show c g=0∨c g=1 by omega) with e | e <;> rw [e] <;> exact hK _ (by simp [HA.uses])
    exact ⟨⟨ty,fz,(hs.same g hlt hk).trans hb⟩,by rw [hs.col g hlt hk]; exact hc,hn⟩
def ai (w:World) (c:bd) (L:List HA):Prop:=∀ A∈L,A.holds w c
theorem ai.nil (w:World) (c:bd):ai w c []:=fun _ h=>by simp at h
theorem ai.cons {w:World} {c:bd} {A:HA} {L:List HA} (h:A.holds w c) (hL:ai w c L):ai w c (A::L):=fun B hB=>by
  rcases List.mem_cons.1 hB with rfl | hB
  · exact h
  · exact hL B hB
theorem ai.append {w:World} {c:bd} {L L' : List HA} (h:ai w c L) (h' : ai w c L'):ai w c (L++L'):=fun A hA=>by
  rcases List.mem_append.1 hA with hA | hA
  · exact h A hA
  · exact h' A hA
theorem ai.at {w:World} {c:bd} {L:List HA} (h:ai w c L) {k:Nat} {A:HA} (hk:L[k]? = some A):A.holds w c:=h A (List.mem_of_getElem? hk)
theorem ai.sub {w:World} {c:bd} {L:List HA} (h:ai w c L) (is:List Nat) {L' : List HA} (he:is.filterMap (L[·]?)=L'):ai w c L' := by
  subst he
  intro A hA
  obtain ⟨i,_,hi⟩:=List.mem_filterMap.1 hA
  exact h.at hi
def oa (κ:List Nat) (A:HA):Bool:=A.uses.all fun k=>κ.all fun j=>!(Nat.beq k j)
def keep (κ:List Nat) (L:List HA):List HA:=L.filter (oa κ)
theorem ai.stp {κ:List Nat} {w:World} {c:bd} {w' : World} {c' : bd} (hs:Stp κ w c w' c') {L:List HA} (h:ai w c L):ai w' c' (keep κ L):=by
  intro A hA
  simp only [keep,List.mem_filter] at hA
  refine HA.stp hs A (fun k hk hκ=>?_) (h A hA.1)
  have:=List.all_eq_true.1 (List.all_eq_true.1 hA.2 k hk) k hκ
  simp at this
theorem ai.stp0 {w:World} {c:bd} {w' : World} {c' : bd} (hs:Stp [] w c w' c') {L:List HA} (h:ai w c L):ai w' c' L:=
  fun A hA=>HA.stp hs A (by simp) (h A hA)
def cz (P:Program) (ρ:cF) (o:Oper) (L:List HA) (κ:List Nat) {Y:Type} (val:Y→Value) (Φ:Y→List HA):Prop:=
  ∀ (a:Act) (ev:Operand→Value) (w:World) (c:bd) (next:Act→World→Prop) (Q:Exit→Act→World→Prop),ev=aK ρ→ai w c L →
    (∀ y w' c',Stp κ w c w' c' → ai w' c' (Φ y)→next (a.put o.dst (val y)) w') →
    o.upon P a next Q ((execOp ev o).run P w)
def aY (P:Program) (ρ:cF) (o:Oper) (L:List HA) (v:Value):Prop:=
  ∀ (ev:Operand→Value) (w:World) (c:bd),ev=aK ρ→ai w c L→(execOp ev o).run P w = .ok (.value v) w
theorem aY.op {P:Program} {ρ:cF} {o:Oper} {L:List HA} {v:Value} (h:aY P ρ o L v):cz P ρ o L [] (fun _:Unit=>v) (fun _=>[]):=by
  intro a ev w c next Q ha hL hk
  rw [h ev w c ha hL]
  exact hk () w c (Stp.refl w c) (ai.nil _ _)
def Sim (P:Program) (n:Nat) (cd:Code) (Q:Exit→Act→World→Prop) (ρ:cF) (L:List HA):Prop:=
  ∀ a w c,Rel n ρ a→ai w c L→cd.wp P Q a w
section
variable {P:Program} {n:Nat} {Q:Exit→Act→World→Prop} {ρ:cF} {L:List HA} {ops:Array Oper} {rest:List Oper} {o:Oper}
end
end Go.Sm
namespace Go.Sm
def HA.ren (g:Nat→Nat):HA→HA
 | .tr t e i K xs v=>.tr t e (g i) (K.map g) xs v
 | .pt t e i K xs v m=>.pt t e (g i) (K.map g) xs v m
 | .hol t e i xs v k cs=>.hol t e (g i) xs v k cs
 | .mp i b es=>.mp (g i) b es
 | .rep t K xs v=>.rep t (K.map g) xs v
 | .own t e i K xs v=>.own t e (g i) (K.map g) xs v
 | .box i b cs=>.box (g i) b cs
 | .elem t K x p=>.elem t (K.map g) x p
 | .old w0 S=>.old w0 S
 | .pure p=>.pure p
 | .gl g n cs=>.gl g n cs
structure Gd (g:Nat→Nat):Prop where
 z:g 0=0
 o:g 1=1
 two : ∀ k,2≤k→2≤g k
theorem HA.ren_holds {g:Nat→Nat} (hg:Gd g) {w:World} {c:bd}:(A:HA)→A.holds w c→(A.ren g).holds w (fun b=>g (c b))
 | .tr t e i K xs v,h=>cp.keep (fun b _ (hc:c b=i)=>⟨by show g (c b)=g i; rw [hc],rfl⟩) h
 | .hol t e i xs v k cs,h=>iD.keep (fun b _ (hc:c b=i)=>⟨by show g (c b)=g i; rw [hc],rfl⟩) h
 | .pt t e i K xs v m,h=>tE.keep (S:=fun b=>c b=i) (SK:=fun b=>c b∈K) (fun b _ (hc:c b=i)=>⟨by show g (c b)=g i; rw [hc],rfl⟩) (fun b _ hb=>⟨List.mem_map.2 ⟨_,hb,rfl⟩,rfl⟩) h
 | .mp i b es,h=>qf.keep (S' := fun b=>g (c b)=g i) (fun b _ (hc:c b=i)=>⟨by show g (c b)=g i; rw [hc],rfl⟩) h
 | .rep t K xs v,h=>bA.keep (S:=fun b=>c b∈K) (fun b _ hb=>⟨List.mem_map.2 ⟨_,hb,rfl⟩,rfl⟩) (.slice t) xs v h
 | .own t e i K xs v,⟨ys,h1,h2,h3⟩=>⟨ys,h1.mono (bA.keep (S:=fun b=>c b∈K) (fun b _ hb=>⟨List.mem_map.2 ⟨_,hb,rfl⟩,rfl⟩) t),h2,fun b hb=>by show g (c b)=g i; rw [h3 b hb]⟩
 | .box i b cs,⟨h1,h2⟩=>⟨h1,by show g (c b)=g i; rw [h2]⟩
 | .elem t K x p,⟨y,b,off,arr,ty,fz,hp,hc,h1,h2,h3,h4⟩=>
  ⟨y,b,off,arr,ty,fz,hp,List.mem_map.2 ⟨_,hc,rfl⟩,h1,h2,h3,bA.keep (S:=fun b=>c b∈K) (fun b _ hb=>⟨List.mem_map.2 ⟨_,hb,rfl⟩,rfl⟩) t x y h4⟩
 | .old w0 c0,⟨h1,h2,h3,h4⟩=>⟨h1,fun b hb h01=>⟨(h2 b hb h01).1,by
   show g (c b)=_
   rw [(h2 b hb h01).2]
   rcases (show c0 b=0∨c0 b=1 by omega) with e | e <;> rw [e]
   ·exact hg.z
   ·exact hg.o⟩,fun b hb hb' => hg.two _ (h3 b hb hb'),h4⟩
 | .pure _,h=>h
 | .gl b n cs,⟨h1,h2,h3⟩=>⟨h1,by
   show g (c b)≤1
   rcases (show c b=0∨c b=1 by omega) with e | e <;> rw [e]
   ·rw [hg.z]; omega
   ·rw [hg.o]; omega,h3⟩
theorem ai.ren {g:Nat→Nat} (hg:Gd g) {w:World} {c:bd} {L:List HA} (h:ai w c L):ai w (fun b=>g (c b)) (L.map (HA.ren g)):=by
 intro A hA
 obtain ⟨B,hB,rfl⟩:=List.mem_map.1 hA
 exact B.ren_holds hg (h B hB)
def nM (l:List (Nat×Nat)) (d:Nat) (k:Nat):Nat:=
 match k with
 | 0=>0
 | 1=>1
 | _=>match l with
  | []=>d
  | (a,b)::r=>cond (Nat.beq k a) b (nM r d k)
theorem Ig {l:List (Nat×Nat)} {d:Nat} (h:(d::l.map (·.2)).all (fun x=>Nat.ble 2 x)=true):Gd (nM l d):=by
 have hd:2≤d:=Nat.le_of_ble_eq_true (List.all_eq_true.1 h d (by simp))
 have hl : ∀ p∈l,2≤p.2:=fun p hp=>Nat.le_of_ble_eq_true (List.all_eq_true.1 h p.2 (by simp only [List.mem_cons,List.mem_map]; exact .inr ⟨p,hp,rfl⟩))
 refine ⟨by simp [nM],by simp [nM],?_⟩
 intro k hk
 clear h
 induction l with
 | nil=>
  match k,hk with
  | k+2,_=>exact hd
 | cons p r ih=>
  obtain ⟨a,b⟩:=p
  match k,hk with
  | k+2,hk=>
   simp only [nM]
   cases hb:Nat.beq (k+2) a
   ·exact ih fun q hq=>hl q (List.mem_cons_of_mem _ hq)
   ·exact hl (a,b) (by simp)
theorem adp {K Ka:List Nat} (h:K.all (fun k=>Ka.any fun j=>Nat.beq k j)=true) {k:Nat} (hk:k∈K):k∈Ka:=by
 obtain ⟨j,hj,he⟩:=List.any_eq_true.1 (List.all_eq_true.1 h k hk)
 exact (Nat.eq_of_beq_eq_true he) ▸ hj
theorem wE {w:World} {c:bd} {t:Ty} {e:TypeId} {i:Nat} {K:List Nat} {xs:List t.den} {v:Hd} (h:HA.holds w c (.own t e i K xs v)):HA.holds w c (.rep t (i::K) xs v):=by
 obtain ⟨ys,h1,h2,h3⟩:=h
 obtain ⟨a,n,cap⟩:=v
 refine ⟨ys,h1.mono (bA.keep (fun b _ hb=>⟨List.mem_cons_of_mem _ hb,rfl⟩) t),?_⟩
 rcases h2.2 with ⟨hv,hn⟩ | ⟨g,cap',cur,ty,fz,hv,hg,_,hle,hm,hsz,hcells⟩
 ·simp only [Hd.val,Value.slice.injEq] at hv
  obtain ⟨rfl,rfl,rfl⟩:=hv
  exact ⟨by simp [hn],by simp [hn],by simp [maxLen], .inl ⟨trivial,rfl⟩⟩
 ·simp only [Hd.val,Value.slice.injEq] at hv
  obtain ⟨rfl,rfl,rfl⟩:=hv
  exact ⟨rfl,hle,hm, .inr ⟨g,0,cur,ty,fz,rfl,by show c g∈i::K; rw [h3 g rfl]; simp,hg,by simp [hsz],by simpa using hcells⟩⟩
def At (A A' : HA):Prop:=∀ w c,A.holds w c→A'.holds w c
theorem vy {t:Ty} {e:TypeId} {i:Nat} {K K' : List Nat} {xs:List t.den} {v:Hd} (h:t.pureB=true):At (.own t e i K xs v) (.own t e i K' xs v):=
 fun _ _ ⟨ys,h1,h2,h3⟩=>⟨ys,h1.mono (fun x y _=>bA.pure t x y h),h2,h3⟩
theorem su {A:HA}:At A A:=fun _ _ h=>h
def Bi (A:HA):Prop:=∀ w c,A.holds w c
theorem oW {t:Ty} {K:List Nat}:Bi (.rep t K [] ⟨none,0,0⟩):=fun _ _=>⟨[],trivial,rfl,by simp,by simp [maxLen], .inl ⟨trivial,rfl⟩⟩
theorem yL {t:Ty} {e:TypeId} {i:Nat} {K:List Nat}:Bi (.own t e i K [] ⟨none,0,0⟩):=fun _ _=>⟨[],trivial,⟨by simp [cellsOf], .inl ⟨rfl,rfl⟩⟩,fun g hg=>by simp [Value.ownBlock] at hg⟩
def mr (L:List HA):List HA→Prop
 | []=>True
 | A' :: r=>((∃ (k:Nat) (A:HA),L[k]? = some A∧At A A')∨Bi A')∧mr L r
theorem mr.heap {w:World} {c:bd} {L:List HA} (hL:ai w c L) : ∀ {l:List HA},mr L l→ai w c l
 | [],_=>ai.nil _ _
 | _::_,⟨.inl ⟨_,_,hk,hc⟩,hr⟩=>ai.cons (hc w c (hL.at hk)) (hr.heap hL)
 | _::_,⟨.inr hf,hr⟩=>ai.cons (hf w c) (hr.heap hL)
def rh {S R:Type} (f:S→Option (S⊕R)):Nat→S→Option R
 | 0,_=>none
 | k+1,s=>(f s).bind fun | .inl s' => rh f k s' | .inr r=>some r
section
variable {P:Program} {n:Nat} {Q:Exit→Act→World→Prop} {ρ:cF} {L:List HA}
theorem bind_some {α β:Type} {m:Option α} {k:α→Option β} {r:β} (h:m.bind k=some r) : ∃ s,m=some s∧k s=some r:=Option.bind_eq_some_iff.1 h
theorem Ko {f:FuncId} {fn:Func} {cd:Code} {R:Ending→World→Prop} (hf:P.funcs[f]? = some fn) (hb:fn.body=some cd) (hn:fn.ntmps=n) (args:List Value) {w0:World} {c0:bd}
  (hargs:Nat.ble args.length n=true) (hL:ai w0 c0 L) (h:Sim P n cd (bodyPost P fn R) (fun t=>args.getD t undef) (.old w0 c0::L)):Calls P f args.toArray w0 R:=by
 refine calls_of_wp hf hb (h _ w0 c0 ⟨rfl,?_,fun t=>?_⟩ (ai.cons ⟨Nat.le_refl _,fun b _ _=>⟨rfl,rfl⟩,fun b h1 h2=>h2 h1,kW.refl _⟩ hL))
 ·have:=Nat.le_of_ble_eq_true hargs
  simp [hn]; omega
 ·simp only [Array.getD_eq_getD_getElem?,List.getD_eq_getElem?_getD,Array.getElem?_append,Array.getElem?_replicate,List.size_toArray,List.getElem?_toArray]
  split
  ·rfl
  ·rename_i hge
   rw [List.getElem?_eq_none (by omega)]
   split <;> rfl
def acn (K:List Nat) (A A' : HA):Prop:=∀ w c,A.holds w c→A'.holds w (nq fun b=>c b∈K)
def M2 (L:List HA) (Ka:List Nat):List HA→Prop
 | []=>True
 | A' :: r=>((∃ (k:Nat) (A:HA),L[k]? = some A∧acn Ka A A')∨Bi A')∧M2 L Ka r
theorem M2.heap {Ka:List Nat} {w:World} {c:bd} (hL:ai w c L) : ∀ {l:List HA},M2 L Ka l→ai w (nq fun b=>c b∈Ka) l
 | [],_=>ai.nil _ _
 | _::_,⟨.inl ⟨_,_,hk,hc⟩,hr⟩=>ai.cons (hc w c (hL.at hk)) (hr.heap hL)
 | _::_,⟨.inr hf,hr⟩=>ai.cons (hf w _) (hr.heap hL)
def instK (N:Nat) (Ka:List Nat):List Nat→List Nat
 | []=>[]
 | 0::r=>instK N Ka r
 | 1::r=>Ka++instK N Ka r
 | (k+2)::r=>(N+k)::instK N Ka r
def HA.inst (N:Nat) (Ka:List Nat):HA→HA
 | .tr t e i K xs v=>.tr t e (N+(i - 2)) (instK N Ka K) xs v
 | .pt t e i K xs v m=>.pt t e (N+(i - 2)) (instK N Ka K) xs v m
 | .hol t e i xs v k cs=>.hol t e (N+(i - 2)) xs v k cs
 | .mp i b es=>.mp (N+(i - 2)) b es
 | .rep t K xs v=>.rep t (instK N Ka K) xs v
 | .own t e i K xs v=>.own t e (N+(i - 2)) (instK N Ka K) xs v
 | .box i b cs=>.box (N+(i - 2)) b cs
 | .elem t K x p=>.elem t (instK N Ka K) x p
 | .old w0 S=>.old w0 S
 | .pure p=>.pure p
 | .gl g n cs=>.gl g n cs
def HA.leaves:HA→Bool
 | .tr _ _ i K _ _=>Nat.ble 2 i&&K.all fun k=>Nat.ble 1 k
 | .pt _ _ i K _ _ _=>Nat.ble 2 i&&K.all fun k=>Nat.ble 1 k
 | .hol _ _ i _ _ _ _=>Nat.ble 2 i
 | .mp i _ _=>Nat.ble 2 i
 | .rep _ K _ _=>K.all fun k=>Nat.ble 1 k
 | .own _ _ i K _ _=>Nat.ble 2 i&&K.all fun k=>Nat.ble 1 k
 | .box i _ _=>Nat.ble 2 i
 | .elem _ K _ _=>K.all fun k=>Nat.ble 1 k
 | .old _ _=>false
 | .pure _=>true
 | .gl _ _ _=>false
theorem instK_mem {N:Nat} {Ka:List Nat} : ∀ {K:List Nat} {k:Nat},k+2∈K→N+k∈instK N Ka K
 | 0::r,k,h=>by
  rcases List.mem_cons.1 h with h | h
  ·omega
  ·exact instK_mem (K:=r) h
 | 1::r,k,h=>by
  rcases List.mem_cons.1 h with h | h
  ·omega
  ·exact List.mem_append_right _ (instK_mem (K:=r) h)
 | (j+2)::r,k,h=>by
  rcases List.mem_cons.1 h with h | h
  ·simp only [instK]; rw [show k=j by omega]; exact List.mem_cons_self
  ·exact List.mem_cons_of_mem _ (instK_mem (K:=r) h)
theorem instK_one {N:Nat} {Ka:List Nat} : ∀ {K:List Nat} {k:Nat},1∈K→k∈Ka→k∈instK N Ka K
 | 0::r,k,h,hk=>by
  rcases List.mem_cons.1 h with h | h
  ·omega
  ·exact instK_one (K:=r) h hk
 | 1::r,k,_,hk=>List.mem_append_left _ hk
 | (j+2)::r,k,h,hk=>by
  rcases List.mem_cons.1 h with h | h
  ·omega
  ·exact List.mem_cons_of_mem _ (instK_one (K:=r) h hk)
def dx (t:Ty) (e:TypeId) (i:Nat) (K:List Nat) (xs:List t.den) (v:Hd):HA:=match ep e with
 | true=>.tr t e i K xs v
 | false=>.own t e i K xs v
section
variable {t:Ty} {e:TypeId} {i:Nat} {K:List Nat} {xs:List t.den} {v:Hd}
theorem gN (h:ep e=true):dx t e i K xs v = .tr t e i K xs v:=by unfold dx; rw [h]
theorem dw (h:ep e=false):dx t e i K xs v = .own t e i K xs v:=by unfold dx; rw [h]
theorem P4:(dx t e i K xs v).uses=i::K:=by unfold dx; cases ep e <;> rfl
theorem Rb {g:Nat→Nat}:(dx t e i K xs v).ren g=dx t e (g i) (K.map g) xs v:=by unfold dx; cases ep e <;> rfl
theorem vX {N:Nat} {Ka:List Nat}:(dx t e i K xs v).inst N Ka=dx t e (N+(i - 2)) (instK N Ka K) xs v:=by unfold dx; cases ep e <;> rfl
theorem sK:(dx t e i K xs v).leaves=(Nat.ble 2 i&&K.all fun k=>Nat.ble 1 k):=by unfold dx; cases ep e <;> rfl
theorem eh {e:Nat} (h:Nat.blt e 1048576=true):ep e=false:=by
 have h1:e+1≤1048576:=Nat.le_of_ble_eq_true h
 cases hb:ep e
 ·rfl
 ·have:1099511627776≤e:=Nat.le_of_ble_eq_true hb
  omega
theorem E1 {w:World} {c:bd} (h:HA.holds w c (.tr t e i K xs v)):HA.holds w c (.rep t (i::K) xs v):=by
 obtain ⟨d,h⟩:=h
 exact bo.rep (S' := fun b=>c b∈i::K) (fun b (hb:c b=i)=>by rw [hb]; exact List.mem_cons_self) (.slice t) _ _ _ _ h
theorem HC {w:World} {c:bd} (h:HA.holds w c (dx t e i K xs v)):HA.holds w c (.rep t (i::K) xs v):=by
 unfold dx at h
 split at h
 ·exact E1 h
 ·exact wE h
theorem pE:Bi (dx t e i K [] ⟨none,0,0⟩):=by
 intro w c
 unfold dx
 split
 ·exact ⟨fun _=>[], .inl ⟨rfl,rfl⟩⟩
 ·exact yL w c
theorem HZ {w:World} {c c' : bd} {i' : Nat} {K' : List Nat} (hi : ∀ b,b<w.heap.size→c b=i→c' b=i') (hK : ∀ b,b<w.heap.size→c b∈K→c' b∈K') (h:HA.holds w c (dx t e i K xs v)):HA.holds w c' (dx t e i' K' xs v):=by
 unfold dx at h ⊢
 split at h
 ·exact cp.keep (fun b hb hc=>⟨hi b hb hc,rfl⟩) h
 ·obtain ⟨ys,h1,h2,h3⟩:=h
  exact ⟨ys,h1.mono (bA.keep (fun b hb hc=>⟨hK b hb hc,rfl⟩) t),h2,fun g hg=>hi g (h2.lt g hg) (h3 g hg)⟩
end
end
end Go.Sm
namespace Go.Sm
def TI (P:Program) (t:TypeId) (sz by_:Nat) (z:Value):Prop:=(P.info? t).map (fun i=>(i.zero,i.size,i.bytes))=some (some z,sz,by_)
theorem TI.get {P:Program} {t:TypeId} {sz by_:Nat} {z:Value} (h:TI P t sz by_ z) : ∃ i,P.info? t=some i∧i.zero=some z∧i.size=sz∧i.bytes=by_:=by
 unfold TI at h
 cases hi:P.info? t with
 | none=>rw [hi] at h; cases h
 | some i=>
  rw [hi] at h
  simp only [Option.map_some,Option.some.injEq,Prod.mk.injEq] at h
  exact ⟨i,rfl,h.1,h.2.1,h.2.2⟩
def jx:TypeDesc→Bool
 | .struct _=>true
 | .array _ _=>true
 | _=>false
def Qy:TypeDesc→Bool
 | .interface _=>true
 | _=>false
section
variable {P:Program} {ρ:cF} {L:List HA} {o:Oper} {N:Nat}
theorem abx {x:Operand} {v:Value} (ho:o.op = .move x) (hx:aK ρ x=v):aY P ρ o L v:=fun ev w c he _=>by
 subst he; simp [execOp,ho,hx]
theorem Tl {x:Operand} {v:Value} (ho:o.op = .assign x) (hx:aK ρ x=v):aY P ρ o L v:=fun ev w c he _=>by
 subst he; simp [execOp,ho,hx]
theorem acb {c x y:Operand} {b p q:Bool} (ho:o.op = .pick c x y) (hc:aK ρ c = .bool b) (hx:b=true→aK ρ x = .bool p) (hy:b=false→aK ρ y = .bool q) :
  aY P ρ o L (.bool (bif b then p else q)):=fun ev w c he _=>by
 subst he
 cases b
 ·simp [execOp,ho,hc,asBool,hy rfl]
 ·simp [execOp,ho,hc,asBool,hx rfl]
theorem cr {w:World} {op:BinOp} {t:TypeId} {x y:Operand} {k k' : IntKind} {a b:Int}:(eqGuard op t x y (.int k a) (.int k' b)).run P w = .ok () w:=by
 cases op <;> simp [eqGuard]
theorem ad6 {t t' : TypeId} {x y:Operand} {k:IntKind} {a b:Int} (ho:o.op = .binOp .add t x y t') (hx:aK ρ x = .int k a) (hy:aK ρ y = .int k b) :
  aY P ρ o L (.int k (k.wrap (a+b))):=fun ev w c he _=>by
 subst he; simp [execOp,ho,hx,hy,cr,binOp,Op.intArith,Result.andThen]
theorem ad9 {t t' : TypeId} {x y:Operand} {k:IntKind} {a b:Int} (ho:o.op = .binOp .sub t x y t') (hx:aK ρ x = .int k a) (hy:aK ρ y = .int k b) :
  aY P ρ o L (.int k (k.wrap (a - b))):=fun ev w c he _=>by
 subst he; simp [execOp,ho,hx,hy,cr,binOp,Op.intArith,Result.andThen]
theorem aey {t t' : TypeId} {x y:Operand} {k:IntKind} {a b:Int} (ho:o.op = .binOp .mul t x y t') (hx:aK ρ x = .int k a) (hy:aK ρ y = .int k b) :
  aY P ρ o L (.int k (k.wrap (a * b))):=fun ev w c he _=>by
 subst he; simp [execOp,ho,hx,hy,cr,binOp,Op.intArith,Result.andThen]
theorem ael {t t' : TypeId} {x y:Operand} {k:IntKind} {a b:Int} (ho:o.op = .binOp .quo t x y t') (hx:aK ρ x = .int k a) (hy:aK ρ y = .int k b) (hb:(b==0)=false) :
  aY P ρ o L (.int k (k.wrap (a.tdiv b))):=fun ev w c he _=>by
 have : ¬ b=0:=by simpa using hb
 subst he; simp [execOp,ho,hx,hy,cr,binOp,Op.intDiv,Result.andThen,this]
theorem ad7 {t t' : TypeId} {x y:Operand} {k:IntKind} {a b:Int} (ho:o.op = .binOp .rem t x y t') (hx:aK ρ x = .int k a) (hy:aK ρ y = .int k b) (hb:(b==0)=false) :
  aY P ρ o L (.int k (a.tmod b)):=fun ev w c he _=>by
 have : ¬ b=0:=by simpa using hb
 subst he; simp [execOp,ho,hx,hy,cr,binOp,Op.intDiv,Result.andThen,this]
theorem adN {t t' : TypeId} {x y:Operand} {k:IntKind} {a b:Int} (ho:o.op = .binOp .lss t x y t') (hx:aK ρ x = .int k a) (hy:aK ρ y = .int k b) :
  aY P ρ o L (.bool (decide (a<b))):=fun ev w c he _=>by
 subst he; simp [execOp,ho,hx,hy,cr,binOp,Op.intCmp,Result.andThen]
theorem aef {t t' : TypeId} {x y:Operand} {k:IntKind} {a b:Int} (ho:o.op = .binOp .leq t x y t') (hx:aK ρ x = .int k a) (hy:aK ρ y = .int k b) :
  aY P ρ o L (.bool (decide (a≤b))):=fun ev w c he _=>by
 subst he; simp [execOp,ho,hx,hy,cr,binOp,Op.intCmp,Result.andThen]
theorem aei {t t' : TypeId} {x y:Operand} {k:IntKind} {a b:Int} (ho:o.op = .binOp .gtr t x y t') (hx:aK ρ x = .int k a) (hy:aK ρ y = .int k b) :
  aY P ρ o L (.bool (decide (b<a))):=fun ev w c he _=>by
 subst he; simp [execOp,ho,hx,hy,cr,binOp,Op.intCmp,Result.andThen]
theorem ad4 {t t' : TypeId} {x y:Operand} {k:IntKind} {a b:Int} (ho:o.op = .binOp .geq t x y t') (hx:aK ρ x = .int k a) (hy:aK ρ y = .int k b) :
  aY P ρ o L (.bool (decide (b≤a))):=fun ev w c he _=>by
 subst he; simp [execOp,ho,hx,hy,cr,binOp,Op.intCmp,Result.andThen]
theorem ad3 {t t' : TypeId} {x y:Operand} {k:IntKind} {a b:Int} (ho:o.op = .binOp .eql t x y t') (hx:aK ρ x = .int k a) (hy:aK ρ y = .int k b) :
  aY P ρ o L (.bool (a==b)):=fun ev w c he _=>by
 subst he; simp [execOp,ho,hx,hy,cr,binOp,Op.intCmp,Result.andThen]
theorem adR {t t' : TypeId} {x y:Operand} {k:IntKind} {a b:Int} (ho:o.op = .binOp .neq t x y t') (hx:aK ρ x = .int k a) (hy:aK ρ y = .int k b) :
  aY P ρ o L (.bool (a != b)):=fun ev w c he _=>by
 subst he; simp [execOp,ho,hx,hy,cr,binOp,Op.intCmp,Result.andThen]
theorem aem {t:TypeId} {x:Operand} {b:Bool} (ho:o.op = .unOp .not t x) (hx:aK ρ x = .bool b):aY P ρ o L (.bool (!b)):=fun ev w c he _=>by
 subst he; simp [execOp,ho,hx,Op.unary]
theorem adP {t:TypeId} {x:Operand} {k:IntKind} {a:Int} (ho:o.op = .unOp .neg t x) (hx:aK ρ x = .int k a):aY P ρ o L (.int k (k.wrap (0 - a))):=fun ev w c he _=>by
 subst he; simp [execOp,ho,hx,Op.unary,Op.intArith]
theorem abO {s d:TypeId} {x:Operand} {k k' : IntKind} {ds:TypeDesc} {a:Int} (ho:o.op = .convert s d x) (hs:P.underlying s=some ds) (hd:P.underlying d=some (.int k')) (hx:aK ρ x = .int k a) :
  aY P ρ o L (.int k' (k'.wrap a)):=fun ev w c he _=>by
 subst he; simp [execOp,ho,hx,convert,run_underlying hs,run_underlying hd,Conv.intToInt,Result.andThen]
theorem NB {t:TypeId} {e:TypeId} {x:Operand} {h:Hd} (ho:o.op = .call { callee:=.builtin .len,args:=#[x],argTypes:=#[t] }) (ht:P.underlying t=some (.slice e)) (hx:aK ρ x=h.val) :
  aY P ρ o L (.int .i64 h.n):=fun ev w c he _=>by
 subst he; simp [execOp,ho,hx,resolve,invoke,builtin,Builtin.len_,run_underlying ht,goInt,Result.andThen]
theorem Z3 {w:World} {c:bd} {t:Ty} {K:List Nat} {xs:List t.den} {h:Hd} (hA:HA.holds w c (.rep t K xs h)):h.n=xs.length:=by
 obtain ⟨ys,_,hs,_⟩:=hA; exact hs
theorem P2 {t:TypeId} {e:TypeId} {x:Operand} {h:Hd} {ty:Ty} {K:List Nat} {xs:List ty.den} (k:Nat) (hk:L[k]? = some (.rep ty K xs h))
  (ho:o.op = .call { callee:=.builtin .len,args:=#[x],argTypes:=#[t] }) (ht:P.underlying t=some (.slice e)) (hx:aK ρ x=h.val) :
  aY P ρ o L (.int .i64 xs.length):=fun ev w c he hL=>by
 rw [← Z3 (hL.at hk)]; exact NB ho ht hx ev w c he hL
theorem adV {ts:Array TypeId} {x y:Operand} {k:IntKind} {a b:Int} (ho:o.op = .call { callee:=.builtin .max,args:=#[x,y],argTypes:=ts }) (hx:aK ρ x = .int k a) (hy:aK ρ y = .int k b) :
  aY P ρ o L (.int k (if b > a then b else a)):=fun ev w c he _=>by
 subst he; simp [execOp,ho,hx,hy,resolve,invoke,builtin,run_max_int2,Result.andThen]
theorem aeq {ts:Array TypeId} {x y:Operand} {k:IntKind} {a b:Int} (ho:o.op = .call { callee:=.builtin .min,args:=#[x,y],argTypes:=ts }) (hx:aK ρ x = .int k a) (hy:aK ρ y = .int k b) :
  aY P ρ o L (.int k (if b<a then b else a)):=fun ev w c he _=>by
 subst he; simp [execOp,ho,hx,hy,resolve,invoke,builtin,run_min_int2,Result.andThen]
theorem Qc {x:Operand} {vs:List Value} {i:Nat} {v:Value} (ho:o.op = .extract x i) (hx:aK ρ x = .tuple vs.toArray) (hv:vs[i]? = some v):aY P ρ o L v:=fun ev w c he _=>by
 subst he; simp [execOp,ho,hx,Instr.extract,hv]
theorem tp {s:TypeId} {x:Operand} {b off fo f:Nat} {fs:Array Field} {fd:Field} {sz by_:Nat} {z:Value} (ho:o.op = .fieldAddr s x f) (hs:P.underlying s=some (.struct fs)) (hf:fs[f]? = some fd)
  (hi:TI P fd.type sz by_ z) (hz:Nat.beq sz 0=false) (hfo:fd.offset=fo) (hx:aK ρ x = .pointer (some ⟨b,off,none⟩)):aY P ρ o L (.pointer (some ⟨b,off+fo,none⟩)):=fun ev w c he _=>by
 subst he
 have htihi:=hi; clear hi
 obtain ⟨i,hi,_,rfl,_⟩:=htihi.get
 have hz' : i.size≠0:=Nat.ne_of_beq_eq_false hz
 have hadd:(⟨b,off,none⟩:Addr).add fd.offset=⟨b,off+fo,none⟩:=by
  unfold Addr.add; split <;> simp_all
 simp [execOp,ho,hx,Instr.fieldAt,run_underlying hs,hf,Instr.sureAddr,fieldPlace,sizeOf,typeInfo,hi,hz',hadd,Result.andThen]
theorem ko {w:World} {t:TypeId} {d:TypeDesc} (ht:P.underlying t=some d) (hd:jx d=false):(isAgg t).run P w = .ok false w:=by
 unfold isAgg
 simp only [bind,Sem.run_bind',run_underlying ht,Result.andThen]
 cases d <;> first | rfl | simp [jx] at hd | simp [Qy] at hd
theorem uK {w:World} {t:TypeId} {d:TypeDesc} (ht:P.underlying t=some d) (hd:jx d=true):(isAgg t).run P w = .ok true w:=by
 unfold isAgg
 simp only [bind,Sem.run_bind',run_underlying ht,Result.andThen]
 cases d <;> first | rfl | simp [jx] at hd | simp [Qy] at hd
theorem d6 (b off n:Nat):(⟨b,off,none⟩:Addr).add n=⟨b,off+n,none⟩:=by
 unfold Addr.add; split <;> simp_all
theorem kn {w:World} {b off:Nat} {arr:Array Value} {ty:TypeId} {fz:Nat×Nat} (hb:w.heap[b]? = some (.cells arr ty fz)):w.cell? ⟨b,off,none⟩=arr[off]? := by
 simp [World.cell?,hb]
theorem sa {w:World} {t:TypeId} {d:TypeDesc} {a:Addr} {v:Value} (ht:P.underlying t=some d) (hd:jx d=false)
  (hc:w.cell? a=some v):(Instr.loadAt t (.pointer (some a))).run P w = .ok v w:=by
 simp [Instr.loadAt,Instr.sureAddr,loadVar,ko ht hd,hc,Result.andThen]
theorem rX {w:World} {t:TypeId} {d:TypeDesc} {b off:Nat} {arr:Array Value} {ty:TypeId} {fz:Nat×Nat} {i:TypeInfo} {cs:List Value} (ht:P.underlying t=some d)
  (hd:jx d=true) (hi:P.info? t=some i) (hb:w.heap[b]? = some (.cells arr ty fz)) (hcs:(arr.toList.drop off).take i.size=cs) (hl:cs.length=i.size) :
  (Instr.loadAt t (.pointer (some ⟨b,off,none⟩))).run P w = .ok (.agg cs.toArray) w:=by
 have hload:=run_loadCells_list (P:=P) (w:=w) ⟨b,off,none⟩ cs (fun j v hv=>by
  rw [d6,kn hb]
  rw [← hcs,List.getElem?_take] at hv
  split at hv
  ·simpa [List.getElem?_drop] using hv
  ·cases hv)
 rw [hl] at hload
 simp [Instr.loadAt,Instr.sureAddr,loadVar,uK ht hd,sizeOf,typeInfo,hi,hload,Result.andThen]
theorem yY {t:TypeId} {x:Operand} {b off i:Nat} {cs:List Value} {v:Value} {d:TypeDesc} (k:Nat) (hk:L[k]? = some (.box i b cs)) (ho:o.op = .load t x) (ht:P.underlying t=some d)
  (hd:jx d=false) (hx:aK ρ x = .pointer (some ⟨b,off,none⟩)) (hv:cs[off]? = some v):aY P ρ o L v:=fun ev w c he hL=>by
 subst he
 obtain ⟨⟨ty,hb⟩,_⟩:=hL.at hk
 simp [execOp,ho,hx,sa ht hd (v:=v) (w:=w) (by rw [kn hb]; simpa using hv),Result.andThen]
theorem ID {t:TypeId} {x:Operand} {b off i:Nat} {cs cs' : List Value} {d:TypeDesc} {sz by_:Nat} {z:Value} (k:Nat) (hk:L[k]? = some (.box i b cs)) (ho:o.op = .load t x) (ht:P.underlying t=some d)
  (hd:jx d=true) (hi:TI P t sz by_ z) (hx:aK ρ x = .pointer (some ⟨b,off,none⟩))
  (hv:(cs.drop off).take sz=cs') (hl:Nat.beq cs'.length sz=true):aY P ρ o L (.agg cs'.toArray):=fun ev w c he hL=>by
 subst he
 have htihi:=hi; clear hi
 obtain ⟨inf,hi,_,rfl,_⟩:=htihi.get
 obtain ⟨⟨ty,hb⟩,_⟩:=hL.at hk
 simp [execOp,ho,hx,rX ht hd hi hb (cs:=cs') (off:=off) (by simpa using hv) (Nat.eq_of_beq_eq_true hl),Result.andThen]
theorem qM {w:World} {c:bd} (hN:Nat.ble 2 N=true) (ob:Obj):Stp [] w c (w.alloc ob) (fun b=>if b<w.heap.size then c b else N):=by
 have h2:=Nat.le_of_ble_eq_true hN
 refine .mk0 (by simp) (fun b hb=>by simp [hb]) (fun b hb _=>heap_alloc_old w ob hb) (fun b hb _=>?_) ⟨rfl,rfl⟩
 show 2≤if b<w.heap.size then c b else N
 rw [if_neg (by omega)]; exact h2
theorem QK {a:Act} {ev:Operand→Value} {w:World} {c:bd} {next:Act→World→Prop} {Q:Exit→Act→World→Prop} {cs:List Value} {ty:TypeId} (hN:Nat.ble 2 N=true)
  (hrun:(execOp ev o).run P w = .ok (.value (.pointer (some ⟨w.heap.size,0,none⟩))) (w.alloc (.cells cs.toArray ty)))
  (hk : ∀ (y:Nat) w' c',Stp [] w c w' c' → ai w' c' [.box N y cs]→next (a.put o.dst (.pointer (some ⟨y,0,none⟩))) w') :
  o.upon P a next Q ((execOp ev o).run P w):=by
 rw [hrun]
 exact hk w.heap.size _ _ (qM hN _) (ai.cons ⟨⟨ty,heap_alloc_new w _⟩,by simp⟩ (ai.nil _ _))
theorem SO {t:TypeId} {sz by_:Nat} {z:Value} {cs:List Value} (ho:o.op = .alloc t) (hi:TI P t sz by_ z) (hcs:z.cells=cs.toArray) (hN:Nat.ble 2 N=true) :
  cz P ρ o L [] (fun b:Nat=>.pointer (some ⟨b,0,none⟩)) (fun b=>[.box N b cs]):=fun a ev w c next Q _ _ hk=>by
 have htihi:=hi; clear hi
 obtain ⟨i,hi,hz,_,_⟩:=htihi.get
 exact QK (ty:=t) hN (by simp [execOp,ho,Instr.alloc,zeroValue,typeInfo,hi,hz,newVar,newRow,hcs]) hk
theorem adj {t:TypeId} {x:Operand} {v:Value} {cs:List Value} (ho:o.op = .box t x) (hx:aK ρ x=v) (hcs:v.cells=cs.toArray) (hN:Nat.ble 2 N=true) :
  cz P ρ o L [] (fun b:Nat=>.pointer (some ⟨b,0,none⟩)) (fun b=>[.box N b cs]):=fun a ev w c next Q ha _ hk=>
 QK (ty:=t) hN (by simp [execOp,ho,ha,hx,Instr.box,newVar,newRow,hcs]) hk
theorem wP {l:List Value} (h:l.all Value.oneCell' = true) : ∀ v∈l,v.oneCell' = true:=List.all_eq_true.1 h
theorem ph (w:World) (g:Nat) (cs:Array Value):(w.setRow g cs).heap.size=w.heap.size:=by simp [World.setRow]
theorem qG {w:World} {c:bd} {b i:Nat} {cs:Array Value} (hc:c b=i):Stp [i] w c (w.setRow b cs) c:=by
 refine .mk0 (by rw [ph]; exact Nat.le_refl _) (fun _ _=>rfl) (fun b' hb' hn=>?_) (fun b' h1 h2=>by rw [ph] at h2; omega) ⟨rfl,rfl⟩
 have:b≠b' := fun e=>hn (by rw [← e,hc]; simp)
 simp [World.setRow,Array.getElem?_modify,this]
theorem wt {t:TypeId} {x y:Operand} {b off i:Nat} {cs vs cs' : List Value} {v z:Value} {sz by_:Nat} (k:Nat) (hk:L[k]? = some (.box i b cs)) (ho:o.op = .store t x y) (hi:TI P t sz by_ z)
  (hx:aK ρ x = .pointer (some ⟨b,off,none⟩)) (hy:aK ρ y=v) (hv:v.cells=vs.toArray) (hl:Nat.beq vs.length sz=true) (hones:vs.all Value.oneCell' = true)
  (hin:Nat.ble (off+vs.length) cs.length=true) (hcs:cs.take off++vs++cs.drop (off+vs.length)=cs'):cz P ρ o L [i] (fun _:Unit=>undef) (fun _=>[.box i b cs']):=by
 intro a ev w c next Q ha hL hn
 have htihi:=hi; clear hi
 obtain ⟨inf,hi,_,rfl,_⟩:=htihi.get
 obtain ⟨⟨ty,hb⟩,hc⟩:=hL.at hk
 have hle:=Nat.le_of_ble_eq_true hin
 have hst:=run_storeCells_at P b off ty vs 0 cs.toArray w hb (by simpa using hle) (wP hones)
 have hrun:(execOp ev o).run P w = .ok .skip (w.setRow b cs'.toArray):=by
  simp only [Nat.add_zero] at hst
  simp [execOp,ho,ha,hx,hy,Instr.storeAt,Instr.sureAddr,storeVar,hv,sizeOf,typeInfo,hi,Nat.eq_of_beq_eq_true hl,hst,← hcs,Result.andThen]
 rw [hrun]
 have hrow:=setRow_heap w b _ cs'.toArray ty (0,0) hb
 exact hn () _ c (qG hc) (ai.cons ⟨⟨ty,hrow⟩,hc⟩ (ai.nil _ _))
end
end Go.Sm
namespace Go.Sm
def ac {α:Type} (xs:List α) (i:Int):Option α:=if 0≤i then xs[i.toNat]? else none
theorem lg {α:Type} {xs:List α} {i:Int} {x:α} (h:ac xs i=some x):0≤i∧xs[i.toNat]? = some x∧i.toNat<xs.length:=by
 unfold ac at h
 split at h
 ·rename_i h0
  exact ⟨h0,h,(List.getElem?_eq_some_iff.1 h).1⟩
 ·simp at h
def facts:(t:Ty)→List Nat→t.den→t.Refs→List HA
 | .one _ _ _,_,_,_=>[]
 | .arr _ _ _ _ _,_,_,_=>[]
 | .unit,_,_,_=>[]
 | .pair a b,K,x,y=>facts a K x.1 y.1++facts b K x.2 y.2
 | .slice t,K,xs,h=>[.rep t K xs h]
 | .node,K,x,h=>[.rep .node K x.tup.2.2.2 h]
 | .mp _ _,_,_,_=>[]
theorem nz {w:World} {c:bd} {K:List Nat}:(t:Ty)→(x:t.den)→(y:t.Refs)→bA w (fun b=>c b∈K) t x y→ai w c (facts t K x y)
 | .one _ _ _,_,_,_=>ai.nil _ _
 | .arr _ _ _ _ _,_,_,_=>ai.nil _ _
 | .unit,_,_,_=>ai.nil _ _
 | .pair a b,x,y,h=>(nz a x.1 y.1 h.1).append (nz b x.2 y.2 h.2)
 | .slice _,_,_,h=>ai.cons h (ai.nil _ _)
 | .node,_,_,h=>ai.cons (lQ.1 h) (ai.nil _ _)
 | .mp _ _,_,_,_=>ai.nil _ _
theorem uu {w:World} {c:bd} {K:List Nat}:(t:Ty)→(x:t.den)→(y:t.Refs)→ai w c (facts t K x y)→bA w (fun b=>c b∈K) t x y
 | .one _ _ _,_,_,_=>trivial
 | .arr _ _ _ _ _,_,_,_=>trivial
 | .unit,_,_,_=>trivial
 | .pair a b,x,y,h=>⟨uu a x.1 y.1 fun A hA=>h A (List.mem_append_left _ hA),uu b x.2 y.2 fun A hA=>h A (List.mem_append_right _ hA)⟩
 | .slice t,xs,hd,h=>h (.rep t K xs hd) (by simp [facts])
 | .node,x,hd,h=>lQ.2 (h (.rep .node K x.tup.2.2.2 hd) (by simp [facts]))
 | .mp _ _,_,_,_=>trivial
abbrev Ty.nodeT:Ty:=.pair (.one Int (fun x=>.int .i64 x) (fun _=>rfl)) (.pair (.one (List UInt8) (fun x=>.string ⟨x.toArray⟩) (fun _=>rfl)) (.pair (.one Int (fun x=>.int .i64 x) (fun _=>rfl)) (.slice .node)))
inductive Pth:Ty→Ty→Type 1
 | here {t:Ty}:Pth t t
 | fst {a b t:Ty} (p:Pth a t):Pth (.pair a b) t
 | snd {a b t:Ty} (p:Pth b t):Pth (.pair a b) t
 | nd {t:Ty} (p:Pth Ty.nodeT t):Pth .node t
def Pth.get : {t u:Ty}→Pth t u→t.den→u.den
 | _,_, .here,x=>x
 | _,_, .fst p,x=>p.get x.1
 | _,_, .snd p,x=>p.get x.2
 | _,_, .nd p,x=>p.get x.tup
def Pth.set : {t u:Ty}→Pth t u→t.den→u.den→t.den
 | _,_, .here,_,z=>z
 | _,_, .fst p,x,z=>(p.set x.1 z,x.2)
 | _,_, .snd p,x,z=>(x.1,p.set x.2 z)
 | _,_, .nd p,x,z=>Nd.of (p.set x.tup z)
def Pth.refs : {t u:Ty}→Pth t u→t.Refs→u.Refs
 | _,_, .here,x=>x
 | _,_, .fst p,x=>p.refs x.1
 | _,_, .snd p,x=>p.refs x.2
 | _,_, .nd p,h=>p.refs ((),(),(),h)
def Pth.off : {t u:Ty}→Pth t u→Nat
 | _,_, .here=>0
 | _,_, .fst p=>p.off
 | _,_,@Pth.snd a _ _ p=>a.sz+p.off
 | _,_, .nd p=>p.off
theorem Pth.le : {t u:Ty}→(p:Pth t u)→p.off+u.sz≤t.sz
 | _,_, .here=>by simp [Pth.off]
 | _,_, .fst p=>by have:=p.le; simp [Pth.off,Ty.sz]; omega
 | _,_, .snd p=>by have:=p.le; simp [Pth.off,Ty.sz]; omega
 | _,_, .nd p=>p.le
theorem Pth.cells : {t u:Ty}→(p:Pth t u)→(x:t.den)→(y:t.Refs)→((t.fill x y).drop p.off).take u.sz=u.fill (p.get x) (p.refs y)
 | _,u, .here,x,y=>by simp [Pth.off,Pth.get,Pth.refs,← u.fill_length x y]
 | _,u, .fst (a:=a) (b:=b) p,x,y=>by
  have:=p.cells x.1 y.1
  have hl:=p.le
  have h1:=a.fill_length x.1 y.1
  simp only [Pth.off,Ty.fill,Pth.get,Pth.refs]
  rw [List.drop_append,List.take_append,show u.sz - (List.drop p.off (a.fill x.1 y.1)).length=0 by simp; omega]
  simpa using this
 | _,u, .snd (a:=a) (b:=b) p,x,y=>by
  have:=p.cells x.2 y.2
  have h1:=a.fill_length x.1 y.1
  simp only [Pth.off,Ty.fill,Pth.get,Pth.refs]
  rw [List.drop_append,List.drop_eq_nil_of_le (as:=a.fill x.1 y.1) (by omega),show a.sz+p.off - (a.fill x.1 y.1).length=p.off by omega]
  simpa using this
 | _,_, .nd p,x,h=>p.cells x.tup ((),(),(),h)
theorem Pth.rep {w:World} {S:Nat→Prop} : {t u:Ty}→(p:Pth t u)→(x:t.den)→(y:t.Refs)→bA w S t x y→bA w S u (p.get x) (p.refs y)
 | _,_, .here,_,_,h=>h
 | _,_, .fst p,x,y,h=>p.rep x.1 y.1 h.1
 | _,_, .snd p,x,y,h=>p.rep x.2 y.2 h.2
 | _,_, .nd p,x,y,h=>p.rep x.tup ((),(),(),y) ⟨trivial,trivial,trivial,lQ.1 h⟩
def mR (place:Nat→Option (Nat×Nat)) (cells:List Value):List (Nat×List Value)→Option (List Value)
 | []=>some cells
 | (i,vs)::rest=>match place i with
  | none=>none
  | some (off,size)=>bif Nat.beq vs.length size&&Nat.ble (off+vs.length) cells.length then mR place (cells.take off++vs++cells.drop (off+vs.length)) rest else none
theorem EY : ∀ (vs:List Value) (k off:Nat) (cs:Array Value),off+k+vs.length≤cs.size →
  (vs.zipIdx k).foldl (fun cs (x:Value×Nat)=>cs.setIfInBounds (off+x.2) x.1) cs=(cs.toList.take (off+k)++vs++cs.toList.drop (off+k+vs.length)).toArray
 | [],k,off,cs,_=>by apply Array.ext'; simp
 | v::vs,k,off,cs,h=>by
  simp only [List.length_cons] at h
  rw [List.zipIdx_cons,List.foldl_cons,EY vs (k+1) off _ (by simp; omega)]
  have hl:off+k<cs.toList.length:=by simp; omega
  have ht:(cs.toList.take (off+k)).length=off+k:=by simp; omega
  apply Array.ext'
  simp only [Array.toList_setIfInBounds,List.set_eq_take_append_cons_drop,if_pos hl]
  rw [show off+(k+1)=(cs.toList.take (off+k)).length+1 by omega,List.take_length_add_append,Nat.add_assoc (cs.toList.take (off+k)).length 1 vs.length,List.drop_length_add_append]
  simp only [List.take_succ_cons,List.take_zero,List.append_assoc,List.cons_append,List.nil_append]
  rw [Nat.add_comm 1 vs.length,List.drop_succ_cons,List.drop_drop]
  rw [List.length_cons,Nat.add_assoc (off+k),Nat.add_comm 1 vs.length]
theorem wA (place:Nat→Option (Nat×Nat)) (parts:Array (Nat×Operand)) (ρ:cF) : ∀ (vals:List (Nat×List Value)) (zero cells:List Value),
  parts.toList.map (fun p=>(p.1,(aK ρ p.2).cells.toList))=vals→mR place zero vals=some cells →
  Instr.fill place zero.toArray (parts.map fun p=>(p.1,aK ρ p.2)).toList=some cells.toArray:=by
 intro vals zero cells hp h
 have gen : ∀ (ps:List (Nat×Operand)) (vals:List (Nat×List Value)) (zero:List Value),ps.map (fun p=>(p.1,(aK ρ p.2).cells.toList))=vals→mR place zero vals=some cells →
   Instr.fill place zero.toArray (ps.map fun p=>(p.1,aK ρ p.2))=some cells.toArray:=by
  intro ps
  induction ps with
  | nil=>
   intro vals zero hp h
   subst hp
   simp only [List.map_nil,mR,Option.some.injEq] at h
   subst h
   rfl
  | cons p ps ih=>
   intro vals zero hp h
   subst hp
   simp only [List.map_cons,mR] at h
   cases hpl:place p.1 with
   | none=>simp [hpl] at h
   | some os=>
    obtain ⟨off,size⟩:=os
    simp only [hpl] at h
    cases hc:Nat.beq (aK ρ p.2).cells.toList.length size&&Nat.ble (off+(aK ρ p.2).cells.toList.length) zero.length
    ·rw [hc] at h; cases h
    ·rw [hc] at h
     simp only [Bool.and_eq_true] at hc
     have h1:=Nat.eq_of_beq_eq_true hc.1
     have h2:=Nat.le_of_ble_eq_true hc.2
     have:=ih _ _ rfl h
     have h1' : (aK ρ p.2).cells.size=size:=by simpa using h1
     have h2' : off+(aK ρ p.2).cells.size≤zero.length:=by simpa using h2
     simp only [List.map_cons,Instr.fill,hpl]
     rw [if_neg (by simp [h1']; omega)]
     rw [← Array.foldl_toList,Array.toList_zipIdx]
     have hf:=EY (aK ρ p.2).cells.toList 0 off zero.toArray (by simpa using h2')
     simp only [Nat.add_zero] at hf
     rw [show (List.foldl (fun cs x=>match x with | (c,j)=>cs.setIfInBounds (off+j) c) zero.toArray (aK ρ p.2).cells.toList.zipIdx)=_ from hf]
     exact this
 simpa using gen parts.toList vals zero hp h
section
variable {P:Program} {ρ:cF} {L:List HA} {o:Oper} {N:Nat}
theorem tJ {Y:Type} {val:Y→Value} {Φ:Y→List HA} (h : ∀ (ev:Operand→Value) (w:World) (c:bd),ev=aK ρ→ai w c L→∃ y,(execOp ev o).run P w = .ok (.value (val y)) w∧ai w c (Φ y)):cz P ρ o L [] val Φ:=by
 intro a ev w c next Q ha hL hk
 obtain ⟨y,hr,hF⟩:=h ev w c ha hL
 rw [hr]
 exact hk y w c (Stp.refl w c) hF
theorem Lu {t:TypeId} {x:Operand} {d:TypeDesc} {α:Type} {f:α→Value} {hf : ∀ x,(f x).oneCell' = true} {K:List Nat} {p:Addr} {v:α} (k:Nat) (hk:L[k]? = some (.elem (.one α f hf) K v p)) (ho:o.op = .load t x)
  (ht:P.underlying t=some d) (hd:jx d=false) (hx:aK ρ x = .pointer (some p)):aY P ρ o L (f v):=fun ev w c he hL=>by
 subst he
 obtain ⟨y,b,off,arr,ty,fz,rfl,_,hb,hle,hcs,_⟩:=hL.at hk
 have hc:w.cell? ⟨b,off,none⟩=some (f v):=by
  rw [kn hb]
  have:=congrArg (·[0]?) hcs
  simpa [Ty.fill,List.getElem?_take] using this
 simp [execOp,ho,hx,sa ht hd hc]
def rH (t:Ty) (K:List Nat):List t.den→List t.Refs→List HA
 | x::xs,y::ys=>facts t K x y++rH t K xs ys
 | _,_=>[]
theorem BT {w:World} {c:bd} {K:List Nat} (t:Ty) : ∀ {xs:List t.den} {ys:List t.Refs},xs.length=ys.length→ai w c (rH t K xs ys)→bK (bA w (fun b=>c b∈K) t) xs ys
 | [],[],_,_=>trivial
 | x::xs,y::ys,hl,h=>⟨uu t x y fun A hA=>h A (List.mem_append_left _ hA),BT t (by simpa using hl) fun A hA=>h A (List.mem_append_right _ hA)⟩
 | [],_::_,hl,_=>by simp at hl
 | _::_,[],hl,_=>by simp at hl
theorem sA {w w' : World} {c:bd} {v:Value} {i:Nat} (hi:Nat.ble 2 i=true) (hg:w.grownBy w' v.ownBlock) (hc : ∀ g,v.ownBlock=some g→c g=i):Stp [i] w c w' (fun b=>if b<w.heap.size then c b else i):=by
 refine .mk0 hg.size (fun b hb=>by simp [hb]) (fun b hb hn=>hg.block b hb fun e=>hn ?_) (fun b h1 _=>?_) ⟨hg.os,hg.output⟩
 ·rw [hc b e.symm]; simp
 ·show 2≤if b<w.heap.size then c b else i
  rw [if_neg (by omega)]; exact Nat.le_of_ble_eq_true hi
theorem wF {w:World} {c:bd} {h' : Hd} {i:Nat} {v:Value} (hb : ∀ g,h'.val.ownBlock=some g→v.ownBlock=some g∨w.heap.size≤g)
  (hc : ∀ g,v.ownBlock=some g→c g=i) : ∀ g,h'.val.ownBlock=some g→(fun b=>if b<w.heap.size then c b else i) g=i:=by
 intro g hg
 show (if g<w.heap.size then c g else i)=i
 split
 ·rename_i hlt
  rcases hb g hg with h | h
  ·exact hc g h
  ·omega
 ·rfl
theorem AQ {w:World} {t ty e:TypeId} {i:TypeInfo} {z:Value} (ht:P.underlying t=some (.slice e)) (hi:P.info? e=some i) (hz:i.zero=some z) (hzs:z.cells.size=i.size) (hsz:0<i.size)
  {h:Hd} {n:Nat} {xs:List Value} (hown:w.ownsRow 0 e i.size h.val n xs) {x:Hd} {m:Nat} {news:List Value} (hl:news.length=m * i.size) (hx:(x.a=none∧m=0∧x.n=0∧x.cap=0)∨∃ a,x.a=some a∧x.n=m∧∀ j u,news[j]? = some u→w.cell? (a.add j)=some u)
  (h1 : ∀ u∈news,u.oneCell' = true) (h63:n+m≤maxLen) (hbytes:(n+m) * i.bytes≤140737488355328) :
  ∃ (h' : Hd) (w' : World),(Builtin.append_ #[t,t] ty #[h.val,x.val]).run P w = .ok h'.val w' ∧ w'.ownsRow 0 e i.size h'.val (n+m) (xs++news)∧w.grownBy w' h.val.ownBlock ∧
   (∀ g,h'.val.ownBlock=some g→h.val.ownBlock=some g∨w.heap.size≤g):=by
 have toHd : ∀ (v' : Value) (w' : World),w'.ownsRow 0 e i.size v' (n+m) (xs++news)→∃ h' : Hd,v' = h'.val:=by
  intro v' w' ho
  rcases ho.2 with ⟨rfl,_⟩ | ⟨g,cap,cur,rfl,_⟩
  ·exact ⟨⟨none,0,0⟩,rfl⟩
  ·exact ⟨⟨some ⟨g,0,none⟩,n+m,cap⟩,rfl⟩
 obtain ⟨xa,xn,xc⟩:=x
 obtain ⟨ha,hn,hcap⟩:=h
 rcases hx with ⟨hxa,rfl,hxn,hxc⟩ | ⟨a,hxa,hxn,hnews⟩
 ·simp only at hxa hxn hxc
  subst hxa hxn hxc
  have hn0:news=[]:=List.eq_nil_of_length_eq_zero (by simpa using hl)
  subst hn0
  refine ⟨_,w,run_append_owned_none (P:=P) (w:=w) 0 t ty e i i.size ht hi _ n xs hown,by simpa using hown,⟨rfl,rfl,rfl,Nat.le_refl _,fun _ _ _=>rfl⟩,fun g hg=>.inl hg⟩
 ·simp only at hxa hxn
  subst hxa hxn
  by_cases hroom : ∃ g cap cur,(Hd.val ⟨ha,hn,hcap⟩) = .slice (some ⟨g,0,none⟩) n cap∧w.heap[g]? = some (.cells cur e (0,0))∧n+xn≤cap
  ·obtain ⟨v',w',hr,h2,h3,_⟩:=run_append_own (P:=P) w 0 t ty e i z i.size i.bytes ht hi hz rfl rfl hzs hsz _ n xs hown a xn xc news hl hnews h1 h63 hbytes (Nat.zero_le _)
   obtain ⟨g,cap,cur,hv,hg,hle⟩:=hroom
   have hfit:n * i.size+news.length≤cur.size:=by
    rcases hown.2 with ⟨hv',_⟩ | ⟨g',cap',cur',hv',_,hg',_,_,hcs,_⟩
    ·rw [hv] at hv'; simp at hv'
    ·rw [hv] at hv'
     simp only [Value.slice.injEq,Option.some.injEq,Addr.mk.injEq,and_true,true_and] at hv'
     obtain ⟨rfl,rfl⟩:=hv'
     rw [hg] at hg'
     simp only [Option.some.injEq,Obj.cells.injEq,and_true] at hg'
     subst hg'
     rw [hl,hcs,← Nat.add_mul]; exact Nat.mul_le_mul_right _ hle
   have hr2:=run_append_room (P:=P) w t ty e i ht hi g n cap cur hg a xn xc news hl hnews h1 hle hfit
   rw [hv] at hr
   rw [hr2] at hr
   simp only [Result.ok.injEq] at hr
   obtain ⟨rfl,rfl⟩:=hr
   refine ⟨⟨some ⟨g,0,none⟩,n+xn,cap⟩,_,by rw [hv]; exact hr2,h2,h3,fun g' hg' => .inl ?_⟩
   rw [hv]; simpa [Value.ownBlock] using hg'
  ·by_cases hnil:(Hd.val ⟨ha,hn,hcap⟩) = .slice none 0 0
   ·have hown' : w.ownsRow w.heap.size e i.size (Hd.val ⟨ha,hn,hcap⟩) n xs:=by
     refine ⟨hown.1, .inl ⟨hnil,?_⟩⟩
     rcases hown.2 with ⟨_,hn⟩ | ⟨g',cap',cur',hv',_⟩
     ·exact hn
     ·rw [hnil] at hv'; simp at hv'
    obtain ⟨v',w',hr,h2,h3,_⟩:=run_append_own (P:=P) w w.heap.size t ty e i z i.size i.bytes ht hi hz rfl rfl hzs hsz _ n xs hown' a xn xc news hl hnews h1 h63 hbytes (Nat.le_refl _)
    have h2' : w'.ownsRow 0 e i.size v' (n+xn) (xs++news):=⟨h2.1,h2.2.imp id fun ⟨g,cap,cur,hv,_,hrest⟩=>⟨g,cap,cur,hv,Nat.zero_le _,hrest⟩⟩
    obtain ⟨h',rfl⟩:=toHd v' w' h2'
    exact ⟨h',w',hr,h2',h3,fun g hg=>.inr (h2.lt g hg).1⟩
   ·rcases hown.2 with ⟨hv,_⟩ | ⟨g,cap,cur,hv,_,hg,hnc,hcm,hcs,htake⟩
    ·exact absurd hv hnil
    ·have hgrow:cap<n+xn:=by
      by_cases hle:n+xn≤cap
      ·exact absurd ⟨g,cap,cur,hv,hg,hle⟩ hroom
      ·omega
     have holds : ∀ j u,xs[j]? = some u→w.cell? ((⟨g,0,none⟩:Addr).add j)=some u:=hown.cells (g:=g) (by rw [hv]; rfl)
     have hr:=run_append_grow (P:=P) w t ty e i z ht hi hz ⟨g,0,none⟩ n cap xs hown.1 holds a xn xc news hl hnews hgrow (by simp only [maxLen] at h63; omega) (growslice_fits (by omega) hbytes)
     obtain ⟨v',w',hr',h2,h3,_⟩:=run_append_own (P:=P) w 0 t ty e i z i.size i.bytes ht hi hz rfl rfl hzs hsz _ n xs hown a xn xc news hl hnews h1 h63 hbytes (Nat.zero_le _)
     rw [hv] at hr'
     rw [hr] at hr'
     simp only [Result.ok.injEq] at hr'
     obtain ⟨rfl,rfl⟩:=hr'
     refine ⟨⟨some ⟨w.heap.size,0,none⟩,n+xn,_⟩,_,by rw [hv]; exact hr,h2,h3,fun g' hg' => .inr ?_⟩
     simp [Value.ownBlock] at hg'
     omega
theorem zX {t e:TypeId} {sz by_:Nat} {z:Value} {s x:Operand} {ty:Ty} {ci:Nat} {K K2 K' : List Nat} {xs ys:List ty.den} {h hx:Hd} (j j' : Nat)
  (hj:L[j]? = some (.own ty e ci K xs h)) (A:HA) (hj' : L[j']? = some A) (hA:At A (.rep ty K2 ys hx))
  (ho:o.op = .call { callee:=.builtin .append,args:=#[s,x],argTypes:=#[t,t] }) (ht:P.underlying t=some (.slice e)) (hi:TI P e sz by_ z) (hs:sz=ty.sz)
  (hzs:Nat.beq z.cells.size sz=true) (hsz:Nat.ble 1 sz=true) (hse:aK ρ s=h.val) (hxe:aK ρ x=hx.val)
  (hroom:decide ((xs.length+ys.length) * by_≤140737488355328∧xs.length+ys.length≤maxLen)=true) (hci:Nat.ble 2 ci=true) (hK:ty.pureB=true∨(K++K2).all (fun k=>!(Nat.beq k ci))=true) (hK' : K++K2=K') (he:Nat.blt e 1048576=true) :
  cz P ρ o L [ci] Hd.val (fun h' => [.own ty e ci K' (xs++ys) h']):=by
 intro a ev w c next Q ha hL hk
 have htihi:=hi; clear hi
 obtain ⟨inf,hi,hz,rfl,rfl⟩:=htihi.get
 obtain ⟨rs,hr1,hown,hcol⟩:=hL.at hj
 obtain ⟨rs2,hr2,hn2,hle2,hm2,hc2⟩:=hA w c (hL.at hj')
 obtain ⟨hb,h63⟩:=of_decide_eq_true hroom
 have hl2:=hr2.length
 have hlen:=bU ty hl2
 replace hown:=hown.plain he
 rw [← hs] at hown hlen
 have hsrc:(hx.a=none∧ys.length=0∧hx.n=0∧hx.cap=0)∨∃ a,hx.a=some a∧hx.n=ys.length∧∀ j u,(cellsOf ty ys rs2)[j]? = some u→w.cell? (a.add j)=some u:=by
  rcases hc2 with ⟨h1,h2⟩ | ⟨b,off,arr,tt,fz,h1,hS,hbb,hfit,hcells⟩
  ·cases hxa:hx.a with
   | none=>exact .inl ⟨rfl,by omega,by omega,h2⟩
   | some a=>
    refine .inr ⟨a,rfl,by omega,fun j u hu=>?_⟩
    have e0:ys=[]:=List.eq_nil_of_length_eq_zero (by omega)
    have e1:rs2=[]:=List.eq_nil_of_length_eq_zero (by omega)
    subst e0 e1
    simp [cellsOf] at hu
  ·refine .inr ⟨_,h1,hn2,fun j u hu=>?_⟩
   rw [d6,kn hbb]
   rw [← hcells,List.getElem?_take] at hu
   split at hu
   ·simpa [List.getElem?_drop] using hu
   ·cases hu
 obtain ⟨h',w',hrun,ho',hg,hblk⟩:=AQ (P:=P) (ty:=o.type) ht hi hz (Nat.eq_of_beq_eq_true hzs) (Nat.le_of_ble_eq_true hsz) hown hlen hsrc (gK ty) h63 hb
 have hex:(execOp ev o).run P w = .ok (.value h'.val) w' := by
  simp [execOp,ho,ha,hse,hxe,resolve,invoke,builtin,hrun,Result.andThen]
 rw [hex]
 have hst:=sA hci hg hcol
 refine hk h' w' _ hst (ai.cons ⟨rs++rs2,?_,?_,wF hblk hcol⟩ (ai.nil _ _))
 ·rcases hK with hp | hK
  ·exact (hr1.mono fun x y _=>bA.pure ty x y hp).append (hr2.mono fun x y _=>bA.pure ty x y hp)
  ·have hno : ∀ k∈K++K2,k∉[ci]:=fun k hk hm=>by
    have:=List.all_eq_true.1 hK k hk
    simp only [List.mem_singleton] at hm
    subst hm
    simp at this
   subst hK'
   exact (hr1.mono (bA.keep (fun b hb hcb=>⟨List.mem_append_left _ ((hst.keeps (K:=K) (fun k hk=>hno k (List.mem_append_left _ hk))) b hb hcb).1,((hst.keeps (K:=K) (fun k hk=>hno k (List.mem_append_left _ hk))) b hb hcb).2⟩) ty)).append
    (hr2.mono (bA.keep (fun b hb hcb=>⟨List.mem_append_right _ ((hst.keeps (K:=K2) (fun k hk=>hno k (List.mem_append_right _ hk))) b hb hcb).1,((hst.keeps (K:=K2) (fun k hk=>hno k (List.mem_append_right _ hk))) b hb hcb).2⟩) ty))
 ·rw [dC ty hr1.length,List.length_append,← hs]
  exact tV ho'
theorem P7 {t e:TypeId} {sz by_:Nat} {z:Value} {s x:Operand} {ty:Ty} {ci:Nat} {K K2 K' : List Nat} {xs ys:List ty.den} {h hx:Hd} (j j' : Nat)
  (hj:L[j]? = some (.own ty e ci K xs h)) (A:HA) (hj' : L[j']? = some A) (hA:At A (.rep ty K2 ys hx))
  (ho:o.op = .call { callee:=.builtin .append,args:=#[s,x],argTypes:=#[t,t] }) (ht:P.underlying t=some (.slice e)) (hi:TI P e sz by_ z) (hs:sz=ty.sz)
  (hzs:Nat.beq z.cells.size sz=true) (hsz:Nat.ble 1 sz=true) (hse:aK ρ s=h.val) (hxe:aK ρ x=hx.val)
  (hroom:decide ((xs.length+ys.length) * by_≤140737488355328∧xs.length+ys.length≤maxLen)=true) (hci:Nat.ble 2 ci=true) (hK:(K++K2).all (fun k=>!(Nat.beq k ci))=true) (hK' : K++K2=K') (he:Nat.blt e 1048576=true) :
  cz P ρ o L [ci] Hd.val (fun h' => [.own ty e ci K' (xs++ys) h']):=
 zX j j' hj A hj' hA ho ht hi hs hzs hsz hse hxe hroom hci (.inr hK) hK' he
theorem cz.weaken {κ:List Nat} {Y:Type} {val:Y→Value} {Φ Φ' : Y→List HA} (h:cz P ρ o L κ val Φ) (hw : ∀ y w c,ai w c (Φ y)→ai w c (Φ' y)):cz P ρ o L κ val Φ' :=
 fun a ev w c next Q ha hL hk=>h a ev w c next Q ha hL fun y w' c' hs hF=>hk y w' c' hs (hw y w' c' hF)
theorem xQ {t e:TypeId} {sz by_:Nat} {z:Value} {s x:Operand} {ty:Ty} {ci:Nat} {K K2:List Nat} {xs ys:List ty.den} {h hx:Hd} (hpure:ty.pureB=true) (j j' : Nat)
  (hj:L[j]? = some (.own ty e ci K xs h)) (A:HA) (hj' : L[j']? = some A) (hA:At A (.rep ty K2 ys hx))
  (ho:o.op = .call { callee:=.builtin .append,args:=#[s,x],argTypes:=#[t,t] }) (ht:P.underlying t=some (.slice e)) (hi:TI P e sz by_ z) (hs:sz=ty.sz)
  (hzs:Nat.beq z.cells.size sz=true) (hsz:Nat.ble 1 sz=true) (hse:aK ρ s=h.val) (hxe:aK ρ x=hx.val)
  (hroom:decide ((xs.length+ys.length) * by_≤140737488355328∧xs.length+ys.length≤maxLen)=true) (hci:Nat.ble 2 ci=true) (he:Nat.blt e 1048576=true) :
  cz P ρ o L [ci] Hd.val (fun h' => [.own ty e ci K (xs++ys) h']):=
 (zX j j' hj A hj' hA ho ht hi hs hzs hsz hse hxe hroom hci (.inl hpure) rfl he).weaken fun _ w c hF=>ai.cons (vy hpure w c (hF.at (k:=0) rfl)) (ai.nil _ _)
theorem ve {t e:TypeId} {sz by_:Nat} {z:Value} {n:Nat} {parts:Array (Nat×Operand)} {vals:List (Nat×List Value)} {cells:List Value} {ty:Ty} {K:List Nat} {xs:List ty.den} {ys:List ty.Refs}
  (ho:o.op = .buildSlice t n parts) (ht:P.underlying t=some (.slice e)) (hi:TI P e sz by_ z) (_hs:sz=ty.sz) (hsmall:Nat.ble (n * sz) 16777216=true) (h0:Nat.ble 1 (n * sz)=true)
  (hp:parts.toList.map (fun p=>(p.1,(aK ρ p.2).cells.toList))=vals) (hfill:mR (fun i=>some (i * sz,sz)) ((List.range (n * sz)).map (fun j=>z.cells.toList.getD (j % z.cells.toList.length) default)) vals=some cells)
  (hx:Nat.beq xs.length n=true) (hy:Nat.beq ys.length n=true) (hcells:cellsOf ty xs ys=cells) (hpaid:mr L (rH ty K xs ys)) (hN:Nat.ble 2 N=true) :
  cz P ρ o L [] Hd.val (fun h=>[.own ty e N K xs h]):=by
 intro a ev w c next Q ha hL hk
 have htihi:=hi; clear hi
 obtain ⟨inf,hi,hz,rfl,_⟩:=htihi.get
 have hxl:=Nat.eq_of_beq_eq_true hx
 have hyl:=Nat.eq_of_beq_eq_true hy
 have hsm:=Nat.le_of_ble_eq_true hsmall
 have hpos:=Nat.le_of_ble_eq_true h0
 have hlen:=bU ty (xs:=xs) (ys:=ys) (by omega)
 have hex:(execOp ev o).run P w = .ok (.value (.slice (some ⟨w.heap.size,0,none⟩) n n)) (w.alloc (.cells cells.toArray e)):=by
  have hsm' : ¬ 16777216<n * inf.size:=by omega
  have hne : ¬ n * inf.size=0:=by omega
  have hfill' := wA _ _ _ _ _ _ hp hfill
  have hzero:(Array.range (n * inf.size)).map (z.cells[· % z.cells.size]!)=((List.range (n * inf.size)).map (fun j=>z.cells.toList.getD (j % z.cells.toList.length) default)).toArray:=by
   apply Array.ext'
   simp [Array.getElem!_eq_getD,Array.getD_eq_getD_getElem?,List.getD_eq_getElem?_getD]
  rw [← hzero] at hfill'
  simp only [execOp,ho,ha,Instr.buildSlice,Sem.run_bind,run_underlying ht,sizeOf,typeInfo,zeroValue,run_program,Result.andThen_ok,hi,hz,Sem.run_pure,if_neg hsm',if_neg hne]
  rw [hfill']
  simp [newRow,Result.andThen]
 rw [hex]
 have hst:=qM (w:=w) (c:=c) hN (.cells cells.toArray e)
 refine hk ⟨some ⟨w.heap.size,0,none⟩,n,n⟩ _ _ hst (ai.cons ⟨ys,?_,⟨?_, .inr ⟨w.heap.size,n,cells.toArray,e,(0,0),by rw [hxl],heap_alloc_new w _, .inl ⟨rfl,rfl⟩,by omega,?_,?_,?_⟩⟩,fun g hg=>?_⟩ (ai.nil _ _))
 ·exact (BT ty (by omega) (hpaid.heap hL)).mono (bA.keep (hst.keeps (by simp)) ty)
 ·rw [hlen]
 ·simp only [maxLen]
  have:n≤n * inf.size:=Nat.le_mul_of_pos_right n (Nat.pos_of_ne_zero fun h=>by simp [h] at hpos)
  omega
 ·simp only [List.size_toArray]; rw [← hcells,hlen,hxl]
 ·simp only [hcells]
  rw [List.take_of_length_le]
  rw [← hcells,hlen]; exact Nat.le_refl _
 ·simp [Value.ownBlock] at hg
  subst hg
  simp
theorem Ao {t e:TypeId} {sz by_:Nat} {z:Value} {parts:Array (Nat×Operand)} {ty:Ty} {K:List Nat} (ho:o.op = .buildSlice t 0 parts) (ht:P.underlying t=some (.slice e)) (hi:TI P e sz by_ z) (hp:parts = #[]) (hN:Nat.ble 2 N=true) :
  cz P ρ o L [] Hd.val (fun h=>[.own ty e N K [] h]):=by
 intro a ev w c next Q ha hL hk
 have htihi:=hi; clear hi
 obtain ⟨inf,hi,_,_,_⟩:=htihi.get
 have hex:(execOp ev o).run P w = .ok (.value (.slice (some ⟨w.heap.size,0,none⟩) 0 0)) (w.alloc (.cells #[] e)):=by
  simp [execOp,ho,ha,Instr.buildSlice,run_underlying ht,sizeOf,typeInfo,hi,hp,newRow,Instr.fill,Result.andThen]
  exact congrArg (fun x=>w.alloc (.cells x e)) (Array.eq_empty_of_size_eq_zero (by simp))
 rw [hex]
 have hst:=qM (w:=w) (c:=c) hN (.cells #[] e)
 refine hk ⟨some ⟨w.heap.size,0,none⟩,0,0⟩ _ _ hst (ai.cons ⟨[],trivial,⟨by simp [cellsOf], .inr ⟨w.heap.size,0,#[],e,(0,0),rfl,heap_alloc_new w _, .inl ⟨rfl,rfl⟩,by simp,by simp [maxLen],by simp,by simp [cellsOf]⟩⟩,fun g hg=>?_⟩ (ai.nil _ _))
 ·simp [Value.ownBlock] at hg
  subst hg
  simp
end
end Go.Sm
namespace Go.Sm
structure OSp:Type 1 where
 ex:Bool
 d:Nat
 pre:List Nat
 Y:Type
 val:Y→Value
 Φ:Y→List HA
 κ:List Nat
 eat:List Nat
 tl:List (Nat×(Y→Value))
def W5 {Y:Type} (ρ:cF) (tl:List (Nat×(Y→Value))) (y:Y):Prop:=∀ p∈tl,ρ p.1=p.2 y
def acD {Y:Type} (ρ:cF) (y:Y):List (Nat×(Y→Value))→cF
 | []=>ρ
 | p::r=>acD (vf ρ p.1 (p.2 y)) y r
def OSp.ok (s:OSp) (ρ:cF) (w:World) (c:bd):Prop:=(s.ex=true→∃ y,ρ s.d=s.val y∧W5 ρ s.tl y∧ai w c (s.Φ y))∧(s.ex=false→ρ s.d=undef)
def Ob (P:Program) (o:Oper) (s:OSp) (es:List OSp):List Nat→cF→List HA→Prop
 | [],ρ,L=>cz P ρ o L s.κ s.val (fun y=>.pure (W5 ρ s.tl y)::s.Φ y)
 | j::js,ρ,L=>match es[j]? with
  | none=>False
  | some e=>(e.ex=true→∀ y,Ob P o s es js (vf ρ e.d (e.val y)) (e.Φ y++L))∧(e.ex=false→Ob P o s es js (vf ρ e.d undef) L)
def Fin (R:cF→List HA→Prop) (es:List OSp):List Nat→cF→List HA→Prop
 | [],ρ,L=>R ρ L
 | j::js,ρ,L=>match es[j]? with
  | none=>False
  | some e=>(e.ex=true→∀ y,Fin R es js (acD (vf ρ e.d (e.val y)) y e.tl) (e.Φ y++L))∧(e.ex=false→Fin R es js (vf ρ e.d undef) L)
def pn (o:Oper):List Nat:=(o.after.toList.filter (Region.binds .any)).map (·.on)
def bM (j:Nat) (l:List Nat):Bool:=l.any fun k=>Nat.beq j k
theorem mem_iff {j:Nat} {l:List Nat}:bM j l=true↔j∈l:=by
 simp only [bM,List.any_eq_true]
 exact ⟨fun ⟨k,hk,he⟩=>(Nat.eq_of_beq_eq_true he) ▸ hk,fun h=>⟨j,h,by simp⟩⟩
def AS (l:List Oper) (cl:List (List Nat)):Bool:=
 (List.range l.length).all fun i=>match l[i]?,cl[i]? with
  | some o,some c=>(pn o).all (fun j=>Nat.blt j i)&&c.all fun j=>bM j (pn o)||(pn o).any fun k=>match cl[k]? with | some ck=>bM j ck | none=>false
  | _,_=>false
def AT (o:Oper) (es:List OSp) (pre:List Nat):Bool:=
 o.op.operands.toList.all fun x=>match x with
  | .tmp t=>!(es.any fun e=>Nat.beq t e.d)||pre.any fun j=>match es[j]? with | some e=>Nat.beq t e.d | none=>false
  | _=>true
def Tp (s:OSp) (es:List OSp):Bool:=s.tl.all fun p=>s.pre.any fun j=>match es[j]? with | some e=>Nat.beq p.1 e.d | none=>false
def ww (o:Oper):Bool:=match o.op with | .select .. => false | _=>true
def Rn (n:Nat) (o:Oper) (s:OSp) (es:List OSp) (c:List Nat):Prop:=
 match o.guard with
 | none=>s.ex=true
 | some (j,want)=>bM j c=true∧∃ e b,es[j]? = some e∧Nat.blt e.d n=true∧(∀ y,e.val y = .bool b)∧s.ex=(e.ex&&(b==want))
def LA (n:Nat) (o:Oper) (s:OSp):Prop:=(o.dst=some s.d∧Nat.blt s.d n=true)∨(o.dst=none∧Nat.ble n s.d=true∧∀ y,s.val y=undef)
def wX (P:Program) (n:Nat) (es:List OSp) (ρ:cF) (B:Nat→List HA):List Oper→List OSp→List (List Nat)→Nat→Prop
 | o::l,s::ss,c::cs,i=>(LA n o s∧ww o=true∧s.pre.all (fun j=>bM j c)=true∧AT o es s.pre=true∧Tp s es=true∧Rn n o s es c∧(s.ex=true→Ob P o s es s.pre ρ (B i)))∧wX P n es ρ B l ss cs (i+1)
 | _,[],_,_=>True
 | _,_,_,_=>False
theorem wX.at {P:Program} {n:Nat} {es:List OSp} {ρ:cF} {B:Nat→List HA} : ∀ {l:List Oper} {ss:List OSp} {cs:List (List Nat)} {m i:Nat} {o:Oper} {s:OSp},wX P n es ρ B l ss cs m→l[i]? = some o→ss[i]? = some s →
  ∃ c,cs[i]? = some c∧LA n o s∧ww o=true∧s.pre.all (fun j=>bM j c)=true∧AT o es s.pre=true∧Tp s es=true∧Rn n o s es c∧(s.ex=true→Ob P o s es s.pre ρ (B (m+i)))
 | o' :: l,s' :: ss,c' :: cs,m,0,o,s,h,ho,hs=>by
  simp at ho hs; subst ho; subst hs
  exact ⟨c',rfl,h.1⟩
 | o' :: l,s' :: ss,c' :: cs,m,i+1,o,s,h,ho,hs=>by
  simp at ho hs
  obtain ⟨c,hc,hr⟩:=wX.at h.2 ho hs
  rw [show m+1+i=m+(i+1) by omega] at hr
  exact ⟨c,by simpa using hc,hr⟩
 | _,[],_,_,i,_,_,_,_,hs=>by simp at hs
 | [],s::ss,cs,_,i,_,_,h,_,_=>by cases cs <;> exact h.elim
 | o::l,s::ss,[],_,i,_,_,h,_,_=>h.elim
def tO (κ eat:List Nat):Nat→List OSp→Prop
 | _,[]=>True
 | k,e::r=>(bM k eat=true∨∀ y,(e.Φ y).all (oa κ)=true)∧tO κ eat (k+1) r
def Pw (cl:List (List Nat)) (i:Nat):List Nat:=(List.range cl.length).filter fun k=>match cl[k]? with | some c=>bM i c | none=>false
def Dv (es:List OSp) (cl:List (List Nat)):List OSp→Nat→Prop
 | [],_=>True
 | s::r,i=>(s.κ=[]∨tO s.κ (i::(s.eat++Pw cl i)) 0 es)∧Dv es cl r (i+1)
theorem tO.at {κ eat:List Nat} : ∀ {es:List OSp} {k j:Nat} {e:OSp},tO κ eat k es→es[j]? = some e→bM (k+j) eat=true∨∀ y,(e.Φ y).all (oa κ)=true
 | e' :: r,k,0,e,h,he=>by simp at he; subst he; exact h.1
 | e' :: r,k,j+1,e,h,he=>by
  simp at he
  have:=tO.at h.2 he
  rwa [show k+1+j=k+(j+1) by omega] at this
 | [],_,_,_,_,he=>by simp at he
theorem Dv.at {es:List OSp} {cl:List (List Nat)} : ∀ {ss:List OSp} {k i:Nat} {s:OSp},Dv es cl ss k→ss[i]? = some s→s.κ=[]∨tO s.κ ((k+i)::(s.eat++Pw cl (k+i))) 0 es
 | e' :: r,k,0,e,h,he=>by simp at he; subst he; exact h.1
 | e' :: r,k,j+1,e,h,he=>by
  simp at he
  have:=Dv.at h.2 he
  rwa [show k+1+j=k+(j+1) by omega] at this
 | [],_,_,_,_,he=>by simp at he
section
variable {P:Program} {n:Nat} {Q:Exit→Act→World→Prop}
def nI (f:Nat→Bool):Nat→Nat
 | 0=>0
 | k+1=>nI f k+cond (f k) 1 0
theorem G6 {f g:Nat→Bool} : ∀ {k:Nat},(∀ j,j<k→f j=g j)→nI f k=nI g k
 | 0,_=>rfl
 | k+1,h=>by simp only [nI,G6 (k:=k) fun j hj=>h j (by omega),h k (by omega)]
theorem Jo {f g:Nat→Bool} {i:Nat} (hf:f i=true) (hg:g i=false) : ∀ {k:Nat},i<k→(∀ j,j<k→j≠i→f j=g j)→nI f k=nI g k+1
 | k+1,hi,h=>by
  simp only [nI]
  by_cases he:i=k
  ·subst he
   rw [G6 (k:=i) fun j hj=>h j (by omega) (by omega),hf,hg]; rfl
  ·rw [Jo hf hg (k:=k) (by omega) fun j hj hne=>h j (by omega) hne,h k (by omega) (by omega)]; omega
theorem GS {f:Nat→Bool} : ∀ {k:Nat},nI f k=0→∀ i,i<k→f i=false
 | k+1,h,i,hi=>by
  simp only [nI] at h
  by_cases he:i=k
  ·subst he; cases hf:f i
   ·rfl
   ·rw [hf] at h; simp at h
  ·exact GS (k:=k) (by omega) i (by omega)
def Ci (listed:Array Bool) (i:Nat):Bool:=!(listed.getD i false)
theorem Zz {l:List Oper} {cl:List (List Nat)} (hcl:AS l cl=true) {k:Nat} (hk:k<l.length) : ∃ c,cl[k]? = some c:=by
 have h:=List.all_eq_true.1 hcl k (List.mem_range.2 hk)
 simp only [show l[k]? = some l[k] by simp [hk]] at h
 cases hc:cl[k]? with
 | none=>simp [hc] at h
 | some c=>exact ⟨c,rfl⟩
def G0 (l:List Oper) (listed:Array Bool):Prop:=∀ (i:Nat) (o:Oper),l[i]? = some o→listed.getD i false=true→∀ j∈pn o,listed.getD j false=true
theorem sO {l:List Oper} {cl:List (List Nat)} (hcl:AS l cl=true) {listed:Array Bool} (hd:G0 l listed) : ∀ (i:Nat) (o:Oper) (c:List Nat),l[i]? = some o→cl[i]? = some c →
  (∀ j∈pn o,listed.getD j false=true)→∀ j∈c,listed.getD j false=true:=by
 intro i
 induction i using Nat.strongRecOn with
 | _ i ih=>
  intro o c ho hc hp j hj
  have hlt:i<l.length:=(List.getElem?_eq_some_iff.1 ho).1
  have h:=List.all_eq_true.1 hcl i (List.mem_range.2 hlt)
  simp only [ho,hc,Bool.and_eq_true] at h
  have h2:=List.all_eq_true.1 h.2 j hj
  simp only [Bool.or_eq_true] at h2
  rcases h2 with h2 | h2
  ·exact hp j (mem_iff.1 h2)
  ·obtain ⟨k,hk,hm⟩:=List.any_eq_true.1 h2
   have hki:k<i:=Nat.le_of_ble_eq_true (List.all_eq_true.1 h.1 k hk)
   cases hck:cl[k]? with
   | none=>simp [hck] at hm
   | some ck=>
    simp only [hck] at hm
    have hkl:k<l.length:=by omega
    exact ih k hki l[k] ck (by simp [hkl]) hck (hd k l[k] (by simp [hkl]) (hp k hk)) j (mem_iff.1 hm)
theorem J9 {listed:Array Bool} {i:Nat} (h:i<listed.size) (b:Bool):listed.getD i b=listed.getD i false:=by
 simp [h]
theorem wJ {listed:Array Bool} {i j:Nat} (h:i<listed.size):(listed.setIfInBounds i true).getD j false=(Nat.beq j i||listed.getD j false):=by
 by_cases hij:i=j
 ·subst hij; simp [h]
 ·have:Nat.beq j i=false:=by
   cases hb:Nat.beq j i
   ·rfl
   ·exact absurd (Nat.eq_of_beq_eq_true hb).symm hij
  rw [getD_set_ne false hij,this]; rfl
theorem uq {l:List Oper} {listed:Array Bool} (hsz:listed.size=l.length) {i:Nat} (h:i∈Region.ready .any l.toArray listed) :
  ∃ o,l[i]? = some o∧listed.getD i false=false∧∀ j∈pn o,listed.getD j false=true:=by
 rw [mem_ready] at h
 obtain ⟨h0,o,ho,hall⟩:=h
 have ho' : l[i]? = some o:=by simpa using ho
 have hlt:i<l.length:=(List.getElem?_eq_some_iff.1 ho').1
 refine ⟨o,ho',by rw [← J9 (by omega) true]; exact h0,fun j hj=>?_⟩
 obtain ⟨e,he,rfl⟩:=List.mem_map.1 hj
 simp only [List.mem_filter] at he
 exact hall e (by simpa using he.1) he.2
theorem Ag {l:List Oper} {cl:List (List Nat)} (hcl:AS l cl=true) {listed:Array Bool} (hsz:listed.size=l.length) (h:Region.ready .any l.toArray listed=[]) :
  ∀ i,i<l.length→listed.getD i false=true:=by
 intro i
 induction i using Nat.strongRecOn with
 | _ i ih=>
  intro hi
  cases hb:listed.getD i false
  ·exfalso
   have hmem:i∈Region.ready .any l.toArray listed:=by
    rw [mem_ready]
    have ho:l[i]? = some l[i]:=by simp [hi]
    refine ⟨by rw [J9 (by omega)]; exact hb,l[i],by simp [hi],fun e he hbd=>?_⟩
    have hc:=List.all_eq_true.1 hcl i (List.mem_range.2 hi)
    simp only [ho] at hc
    cases hci:cl[i]? with
    | none=>simp [hci] at hc
    | some c=>
     simp only [hci,Bool.and_eq_true] at hc
     have hlt:e.on<i:=Nat.le_of_ble_eq_true (List.all_eq_true.1 hc.1 e.on (List.mem_map.2 ⟨e,List.mem_filter.2 ⟨by simpa using he,hbd⟩,rfl⟩))
     exact ih e.on hlt (by omega)
   rw [h] at hmem
   simp at hmem
  ·rfl
theorem EW {l:List Oper} {listed:Array Bool} (hsz:listed.size=l.length) (hd:G0 l listed) {i:Nat} {o:Oper} (ho:l[i]? = some o) (hp : ∀ j∈pn o,listed.getD j false=true) :
  G0 l (listed.setIfInBounds i true):=by
 have hlt:i<l.length:=(List.getElem?_eq_some_iff.1 ho).1
 intro k o' ho' hk j hj
 rw [wJ (by omega)] at hk ⊢
 by_cases hki:k=i
 ·subst hki
  rw [ho] at ho'
  simp only [Option.some.injEq] at ho'
  subst ho'
  rw [hp j hj]; simp
 ·have:Nat.beq k i=false:=by
   cases hb:Nat.beq k i
   ·rfl
   ·exact absurd (Nat.eq_of_beq_eq_true hb) hki
  rw [this] at hk
  rw [hd k o' ho' (by simpa using hk) j hj]; simp
def Ze (l:List Oper) (cl:List (List Nat)) (p:Nat):Bool:=(List.range l.length).all fun i=>Nat.blt i p||match cl[i]? with | some c=>(List.range i).all fun j=>bM j c | none=>false
theorem UF {l:List Oper} {k:Nat} (hk:k<l.length):l.drop k=l[k]::l.drop (k+1):=by rw [List.drop_eq_getElem_cons hk]
theorem Py {l:List Oper} {cl:List (List Nat)} (hcl:AS l cl=true) {p:Nat} (hseq:Ze l cl p=true) (hpl:p≤l.length)
  (J:Array Bool→Act→World→Prop) (hJend : ∀ listed a w,J listed a w→(∀ i,i<p→listed.getD i false=true)→(∀ i,p≤i→listed.getD i false=false)→wpList P l.toArray Q (l.drop p) a w)
  (hJ : ∀ listed a w i o,J listed a w→G0 l listed→listed.size=l.length→i<p→l[i]? = some o→listed.getD i false=false→(∀ j∈pn o,listed.getD j false=true) →
   wpOp P l.toArray Q i (J (listed.setIfInBounds i true)) a w) :
  ∀ (fuel:Nat) (listed:Array Bool) (a:Act) (w:World),listed.size=l.length→G0 l listed→nI (Ci listed) l.length≤fuel →
   ((J listed a w∧∀ i,p≤i→listed.getD i false=false)∨∃ k,p≤k∧k≤l.length∧(∀ i,listed.getD i false=decide (i<k))∧wpList P l.toArray Q (l.drop k) a w) →
   wpAny P .any l.toArray Q fuel listed a w:=by
 intro fuel
 induction fuel with
 | zero=>
  intro listed a w hsz hd hc hst
  have hall : ∀ i,i<l.length→listed.getD i false=true:=fun i hi=>by
   have:=GS (Nat.le_zero.1 hc) i hi
   simpa [Ci] using this
  have hready:Region.ready .any l.toArray listed=[]:=by
   cases hr:Region.ready .any l.toArray listed with
   | nil=>rfl
   | cons x xs=>
    obtain ⟨o,ho,hf,_⟩:=uq hsz (i:=x) (by rw [hr]; simp)
    rw [hall x (List.getElem?_eq_some_iff.1 ho).1] at hf
    cases hf
  refine ⟨hready,?_⟩
  rcases hst with ⟨hj,hrest⟩ | ⟨k,hpk,hkl,hk,hw⟩
  ·have hpe:p=l.length:=by
    rcases Nat.lt_or_ge p l.length with h | h
    ·have:=hall p h; rw [hrest p (Nat.le_refl _)] at this; cases this
    ·omega
   have:=hJend listed a w hj (fun i hi=>hall i (by omega)) hrest
   rw [hpe,List.drop_length] at this
   exact this
  ·have hke:k=l.length:=by
    rcases Nat.lt_or_ge k l.length with h | h
    ·have:=hall k h; rw [hk k] at this; simp at this
    ·omega
   rw [hke,List.drop_length] at hw
   exact hw
 | succ fuel ih=>
  intro listed a w hsz hd hc hst
  have hst' : (J listed a w∧(∀ i,p≤i→listed.getD i false=false)∧∃ i,i<p∧listed.getD i false=false) ∨
    ∃ k,p≤k∧k≤l.length∧(∀ i,listed.getD i false=decide (i<k))∧wpList P l.toArray Q (l.drop k) a w:=by
   rcases hst with ⟨hj,hrest⟩ | h
   ·by_cases hex : ∃ i,i<p∧listed.getD i false=false
    ·exact .inl ⟨hj,hrest,hex⟩
    ·have hall : ∀ i,i<p→listed.getD i false=true:=fun i hi=>by
      cases hb:listed.getD i false
      ·exact absurd ⟨i,hi,hb⟩ hex
      ·rfl
     refine .inr ⟨p,Nat.le_refl _,hpl,fun i=>?_,hJend listed a w hj hall hrest⟩
     by_cases hi:i<p
     ·rw [hall i hi]; simp [hi]
     ·rw [hrest i (by omega)]; simp [hi]
   ·exact .inr h
  have hdec : ∀ i,i<l.length→listed.getD i false=false→nI (Ci (listed.setIfInBounds i true)) l.length≤fuel:=by
   intro i hi hf
   have:=Jo (f:=Ci listed) (g:=Ci (listed.setIfInBounds i true)) (i:=i) (by simp [Ci,hf]) (by simp only [Ci]; rw [wJ (by omega)]; simp) hi (fun j _ hne=>by
    simp only [Ci]
    rw [getD_set_ne false (Ne.symm hne)])
   omega
  rcases hst' with ⟨hj,hrest,i0,hi0,hf0⟩ | ⟨k,hpk,hkl,hk,hw⟩
  ·refine ⟨fun hr=>absurd (Ag hcl hsz hr i0 (by omega)) (by rw [hf0]; simp),fun i hi=>?_⟩
   obtain ⟨o,ho,hf,hp⟩:=uq hsz hi
   have hlt:i<l.length:=(List.getElem?_eq_some_iff.1 ho).1
   have hip:i<p:=by
    rcases Nat.lt_or_ge i p with h | h
    ·exact h
    ·exfalso
     have hs:=List.all_eq_true.1 hseq i (List.mem_range.2 hlt)
     have:Nat.blt i p=false:=by
      cases hb:Nat.blt i p
      ·rfl
      ·have:=Nat.le_of_ble_eq_true hb; omega
     rw [this] at hs
     cases hci:cl[i]? with
     | none=>simp [hci] at hs
     | some c=>
      simp only [hci,Bool.false_or] at hs
      have hm:=List.all_eq_true.1 hs i0 (List.mem_range.2 (by omega))
      have:=sO hcl hd i o c ho hci hp i0 (mem_iff.1 hm)
      rw [hf0] at this; cases this
   refine wpOp_mono (fun a' w' hj' => ih _ a' w' (by simpa using hsz) (EW hsz hd ho hp) (hdec i hlt hf) (.inl ⟨hj',fun j hpj=>?_⟩)) (hJ listed a w i o hj hd hsz hip ho hf hp)
   rw [getD_set_ne false (by omega)]; exact hrest j hpj
  ·refine ⟨fun hr=>?_,fun i hi=>?_⟩
   ·have hke:k=l.length:=by
     rcases Nat.lt_or_ge k l.length with h | h
     ·have:=Ag hcl hsz hr k h; rw [hk k] at this; simp at this
     ·omega
    rw [hke,List.drop_length] at hw
    exact hw
   ·obtain ⟨o,ho,hf,hp⟩:=uq hsz hi
    have hlt:i<l.length:=(List.getElem?_eq_some_iff.1 ho).1
    have hik:i=k:=by
     rw [hk i] at hf
     have hge:k≤i:=by simpa using hf
     rcases Nat.lt_or_ge k i with h | h
     ·exfalso
      have hs:=List.all_eq_true.1 hseq i (List.mem_range.2 hlt)
      have:Nat.blt i p=false:=by
       cases hb:Nat.blt i p
       ·rfl
       ·have:=Nat.le_of_ble_eq_true hb; omega
      rw [this] at hs
      cases hci:cl[i]? with
      | none=>simp [hci] at hs
      | some c=>
       simp only [hci,Bool.false_or] at hs
       have hm:=List.all_eq_true.1 hs k (List.mem_range.2 h)
       have:=sO hcl hd i o c ho hci hp k (mem_iff.1 hm)
       rw [hk k] at this; simp at this
     ·omega
    subst hik
    rw [UF hlt] at hw
    have hoe:l[i]=o:=by
     have:=List.getElem?_eq_getElem hlt
     rw [ho] at this
     simpa using this.symm
    rw [hoe] at hw
    have hnext : ∀ a' w',wpList P l.toArray Q (l.drop (i+1)) a' w' → wpAny P .any l.toArray Q fuel (listed.setIfInBounds i true) a' w' := fun a' w' hw' =>
     ih _ a' w' (by simpa using hsz) (EW hsz hd ho hp) (hdec i hlt hf) (.inr ⟨i+1,by omega,by omega,fun j=>by
      rw [wJ (by omega),hk j]
      by_cases hj:j=i
      ·subst hj; simp
      ·have:Nat.beq j i=false:=by
        cases hb:Nat.beq j i
        ·rfl
        ·exact absurd (Nat.eq_of_beq_eq_true hb) hj
       rw [this]
       by_cases h:j<i
       ·simp [h,show j<i+1 by omega]
       ·simp [h,show ¬ j<i+1 by omega],hw'⟩)
    unfold wpOp
    rw [show l.toArray[i]? = some o by simpa using ho]
    unfold wpList at hw
    simp only
    split
    ·rename_i hwd
     rw [if_pos hwd] at hw
     exact hw.imp (fun h=>Oper.wp_mono hnext h) id
    ·rename_i hwd
     rw [if_neg hwd] at hw
     exact hnext _ _ hw
theorem Pv {ρ:cF} {a:Act} (ha:Rel n ρ a) {l:List Oper} {j d:Nat} {o:Oper} (ho:l[j]? = some o) (hd:o.dst=some d) (hlt:Nat.blt d n=true) :
  yielded l.toArray a.tmps j=match ρ d with | .bool b=>some b | _=>none:=by
 have hlt' : d<a.tmps.size:=by rw [ha.size]; exact Nat.le_of_ble_eq_true hlt
 have hv:=ha.val d
 simp only [yielded,List.getElem?_toArray,ho,Option.bind_some,hd]
 simp only [Array.getD_eq_getD_getElem?,Array.getElem?_eq_getElem hlt',Option.getD_some] at hv ⊢
 rw [hv]
 cases ρ d <;> rfl
theorem Ux {w:World} {c:bd}:Stp [] w c { w with drawn:=w.drawn+1 } c:=.mk0 (Nat.le_refl _) (fun _ _=>rfl) (fun _ _ _=>rfl) (fun _ h1 h2=>absurd (Nat.lt_of_le_of_lt h1 h2) (Nat.lt_irrefl _)) ⟨rfl,rfl⟩
theorem vw (k i:Nat):(Array.replicate k false).getD i false=false:=by
 rw [Array.getD_eq_getD_getElem?,Array.getElem?_replicate]; split <;> rfl
theorem Qq (f:Nat→Bool) : ∀ k,nI f k≤k
 | 0=>by simp [nI]
 | k+1=>by
  have:=Qq f k
  simp only [nI]
  cases f k
  ·exact Nat.le_succ_of_le this
  ·exact Nat.succ_le_succ this
end
section
variable {P:Program} {n:Nat} {Q:Exit→Act→World→Prop} {ρ:cF} {L:List HA} {o:Oper}
theorem all_cons {es:List OSp} {l:List Oper} {s:OSp} {ss:List OSp} {c:List Nat} {cs:List (List Nat)} {B:Nat→List HA} {i:Nat} (Li:List HA) (hB:B i=Li) (h1:LA n o s) (h3:ww o=true) (h4:s.pre.all (fun j=>bM j c)=true) (h5:AT o es s.pre=true) (h5' : Tp s es=true)
  (h6:Rn n o s es c) (h7:s.ex=true→Ob P o s es s.pre ρ Li) (h:wX P n es ρ B l ss cs (i+1)):wX P n es ρ B (o::l) (s::ss) (c::cs) i:=⟨⟨h1,h3,h4,h5,h5',h6,hB ▸ h7⟩,h⟩
end
end Go.Sm
namespace Go.Sm
abbrev tA (n:Nat) (k:IntKind):Ty:=.arr n Int 0 (Value.int k) (fun _=>rfl)
def ut (n:Nat) (x y:List Int):Bool:=(List.range n).all fun i=>x.getD i 0==y.getD i 0
section
variable {P:Program} {n:Nat} {ρ:cF} {L:List HA} {o:Oper}
def Lm (P:Program):List Field→List (Nat×Nat)→Prop
 | [],[]=>True
 | f::fs,p::ps=>f.offset=p.1∧(∃ by_ z,TI P f.type p.2 by_ z)∧Lm P fs ps
 | _,_=>False
theorem Ar {t:TypeId} {parts:Array (Nat×Operand)} {vals:List (Nat×List Value)} {sz by_:Nat} {z:Value} {fs:Array Field} {places:List (Nat×Nat)} {cells:List Value}
  (ho:o.op = .build t parts) (ht:P.underlying t=some (.struct fs)) (hi:TI P t sz by_ z) (hpl:Lm P fs.toList places)
  (hp:parts.toList.map (fun p=>(p.1,(aK ρ p.2).cells.toList))=vals) (hfill:mR (fun j=>places[j]?) z.cells.toList vals=some cells):aY P ρ o L (.agg cells.toArray):=fun ev w c he _=>by
 subst he
 have htihi:=hi; clear hi
 obtain ⟨inf,hi,hz,_,_⟩:=htihi.get
 have hm : ∀ (l:List Field) (ps:List (Nat×Nat)),Lm P l ps→(l.mapM (fun f=>do pure (f.offset,← sizeOf f.type):Field→Sem (Nat×Nat))).run P w = .ok ps w:=by
  intro l
  induction l with
  | nil=>intro ps h; cases ps <;> first | rfl | exact h.elim
  | cons f l ih=>
   intro ps h
   cases ps with
   | nil=>exact h.elim
   | cons p ps=>
    obtain ⟨h1,⟨_,_,h2⟩,h3⟩:=h
    obtain ⟨i,hi,_,hs',_⟩:=h2.get
    have hs:(sizeOf f.type).run P w = .ok p.2 w:=by simp [sizeOf,typeInfo,hi,hs']
    simp only [List.mapM_cons,Sem.run_bind,hs,Result.andThen_ok,Sem.run_pure,ih ps h3,h1]
 have hpl' : (fs.mapM (fun f=>do pure (f.offset,← sizeOf f.type):Field→Sem (Nat×Nat))).run P w = .ok places.toArray w:=by
  rw [Array.mapM_eq_mapM_toList,Sem.run_map,hm _ _ hpl]
  rfl
 have hfill' := wA (fun j=>places.toArray[j]?) parts ρ vals z.cells.toList cells hp (by simpa using hfill)
 simp only [Array.toArray_toList] at hfill'
 simp only [execOp,ho,Instr.build,Sem.run_bind,zeroValue,typeInfo,run_program,Result.andThen_ok,hi,hz,Sem.run_pure,run_underlying ht,hpl']
 rw [hfill']
 rfl
theorem Co {t e:TypeId} {k:Nat} {parts:Array (Nat×Operand)} {vals:List (Nat×List Value)} {sz by_ esz eby:Nat} {z ez:Value} {cells:List Value}
  (ho:o.op = .build t parts) (ht:P.underlying t=some (.array k e)) (hi:TI P t sz by_ z) (he:TI P e esz eby ez)
  (hp:parts.toList.map (fun p=>(p.1,(aK ρ p.2).cells.toList))=vals) (hfill:mR (fun j=>some (j * esz,esz)) z.cells.toList vals=some cells):aY P ρ o L (.agg cells.toArray):=fun ev w c hev _=>by
 subst hev
 have htihi:=hi; clear hi
 obtain ⟨inf,hi,hz,_,_⟩:=htihi.get
 have htihe:=he; clear he
 obtain ⟨einf,he,_,rfl,_⟩:=htihe.get
 have hfill' := wA (fun j=>some (j * einf.size,einf.size)) parts ρ vals z.cells.toList cells hp hfill
 simp only [Array.toArray_toList] at hfill'
 simp only [execOp,ho,Instr.build,Sem.run_bind,zeroValue,typeInfo,run_program,Result.andThen_ok,hi,hz,Sem.run_pure,run_underlying ht,sizeOf,he]
 rw [hfill']
 rfl
def yz (tmps:Array Value):ResultVar→Sem Value
 | .tmp t=>pure (tmps.getD t undef)
 | .cell x t=>do loadVar t (← asAddr (tmps.getD x undef))
def CY (P:Program) (ρ:cF) (L:List HA) (r:ResultVar) (v:Value):Prop:=∀ (a:Act) (w:World) (c:bd),(∀ t,a.tmps.getD t undef=ρ t)→ai w c L→(yz a.tmps r).run P w = .ok v w
theorem adm {t:Tmp} {v:Value} (h:ρ t=v):CY P ρ L (.tmp t) v:=fun a w _ ha _=>by simp only [yz,ha,h]; rfl
theorem UR {x:Tmp} {t:TypeId} {d:TypeDesc} {i b:Nat} {cs:List Value} {v:Value} (k:Nat) (hk:L[k]? = some (.box i b cs)) (ht:P.underlying t=some d)
  (hd:jx d=false) (hx:ρ x = .pointer (some ⟨b,0,none⟩)) (hv:cs[0]? = some v):CY P ρ L (.cell x t) v:=fun a w c ha hL=>by
 obtain ⟨⟨ty,hb⟩,_⟩:=hL.at hk
 simp only [yz,ha,hx]
 simp [asAddr,loadVar,ko ht hd,kn hb,hv,Result.andThen]
theorem SY {x:Tmp} {t:TypeId} {d:TypeDesc} {i b:Nat} {cs:List Value} {sz by_:Nat} {z:Value} (k:Nat) (hk:L[k]? = some (.box i b cs)) (ht:P.underlying t=some d)
  (hd:jx d=true) (hi:TI P t sz by_ z) (hx:ρ x = .pointer (some ⟨b,0,none⟩)) (hl:Nat.beq cs.length sz=true):CY P ρ L (.cell x t) (.agg cs.toArray):=fun a w c ha hL=>by
 have htihi:=hi; clear hi
 obtain ⟨inf,hi,_,rfl,_⟩:=htihi.get
 obtain ⟨⟨ty,hb⟩,_⟩:=hL.at hk
 have hl' := Nat.eq_of_beq_eq_true hl
 have hload:=run_loadCells_list (P:=P) (w:=w) ⟨b,0,none⟩ cs (fun j v hv=>by
  rw [d6,kn hb]; simpa using hv)
 rw [hl'] at hload
 simp only [yz,ha,hx]
 simp [asAddr,loadVar,uK ht hd,sizeOf,typeInfo,hi,hload,Result.andThen]
def Np (P:Program) (ρ:cF) (L:List HA):List ResultVar→List Value→Prop
 | [],[]=>True
 | r::rs,v::vs=>CY P ρ L r v∧Np P ρ L rs vs
 | _,_=>False
theorem Ic {a:Act} {w:World} {c:bd} (ha : ∀ t,a.tmps.getD t undef=ρ t) (hL:ai w c L) : ∀ {rs:List ResultVar} {vs:List Value},Np P ρ L rs vs→(rs.mapM (yz a.tmps)).run P w = .ok vs w
 | [],[],_=>rfl
 | r::rs,v::vs,⟨h1,h2⟩=>by
  simp only [List.mapM_cons,Sem.run_bind,h1 a w c ha hL,Result.andThen_ok,Ic ha hL h2,Sem.run_pure]
 | [],_::_,h=>h.elim
 | _::_,[],h=>h.elim
theorem xM {fn:Func} {rs:List ResultVar} {vs:List Value} (h:fn.results=rs.toArray) {a:Act} {w:World} {c:bd} (ha : ∀ t,a.tmps.getD t undef=ρ t) (hL:ai w c L) (hr:Np P ρ L rs vs) :
  (results fn a.tmps).run P w = .ok (if h:vs.toArray.size=1 then vs.toArray[0] else .tuple vs.toArray) w:=by
 have he:results fn a.tmps=(do let vs ← fn.results.mapM (yz a.tmps); pure (if h:vs.size=1 then vs[0] else .tuple vs)):=by
  unfold results
  congr 2
 rw [he,h]
 simp only [Sem.run_bind]
 rw [show (Array.mapM (yz a.tmps) rs.toArray).run P w = .ok vs.toArray w by rw [Array.mapM_eq_mapM_toList,Sem.run_map]; simp only [Ic ha hL hr]; rfl]
 rfl
theorem ze {w:World} (d:Nat) {t e:TypeId} {m:Nat} {k:IntKind} {i:TypeInfo} (x y:List Int) (ht:P.underlying t=some (.array m e)) (he:P.underlying e=some (.int k)) (hi:P.info? e=some i) (hs:i.size=1) :
  (Op.equalIn (d+2) t (.agg ((tA m k).fill x ()).toArray) (.agg ((tA m k).fill y ()).toArray)).run P w = .ok (ut m x y) w:=by
 rw [run_equalIn_array (P:=P) w (d+1) _ _ ht hi]
 have hc:P.cellsOf e=1:=by simp [Program.cellsOf,hi,hs]
 have gen : ∀ is:List Nat,(∀ j∈is,j<m)→(Op.eqItems (d+1) e (P.cellsOf e) ((tA m k).fill x ()).toArray ((tA m k).fill y ()).toArray is).run P w = .ok (is.all fun i=>x.getD i 0==y.getD i 0) w:=by
  intro is
  induction is with
  | nil=>intro _; simp [Op.eqItems]
  | cons j is ih=>
   intro hj
   have hjm:j<m:=hj j (by simp)
   have hx:(part e ((tA m k).fill x ()).toArray (j * P.cellsOf e)).run P w = .ok (.int k (x.getD j 0)) w:=by
    simp [part,ko he rfl,hc,Ty.fill,hjm,Result.andThen]
   have hy:(part e ((tA m k).fill y ()).toArray (j * P.cellsOf e)).run P w = .ok (.int k (y.getD j 0)) w:=by
    simp [part,ko he rfl,hc,Ty.fill,hjm,Result.andThen]
   simp only [Op.eqItems,Sem.run_bind,hx,hy,Result.andThen_ok,run_equalIn_int w d e k k _ _ he,List.all_cons]
   have ih' := ih fun j' hj' => hj j' (by simp [hj'])
   cases hb:(x.getD j 0==y.getD j 0)
   ·simp
   ·simp [ih']
 exact gen _ fun j hj=>by simpa using hj
theorem PA {t t' e:TypeId} {a b:Operand} {m:Nat} {k:IntKind} {by_:Nat} {z:Value} {x y:List Int} (ho:o.op = .binOp .eql t a b t') (ht:P.underlying t=some (.array m e)) (he:P.underlying e=some (.int k)) (hi:TI P e 1 by_ z)
  (hg:P.eqGuardType P.depth t=false) (hx:aK ρ a = .agg ((tA m k).fill x ()).toArray) (hy:aK ρ b = .agg ((tA m k).fill y ()).toArray):aY P ρ o L (.bool (ut m x y)):=fun ev w c hev _=>by
 subst hev
 have htihi:=hi; clear hi
 obtain ⟨i,hi,_,hs,_⟩:=htihi.get
 have h1:(eqGuard .eql t a b (.agg ((tA m k).fill x ()).toArray) (.agg ((tA m k).fill y ()).toArray)).run P w = .ok () w:=run_eqGuard_agg w .eql t a b _ _ hg
 have h2:(binOp .eql t (.agg ((tA m k).fill x ()).toArray) (.agg ((tA m k).fill y ()).toArray)).run P w = .ok (.bool (ut m x y)) w:=by
  rw [run_eql_struct,ze 9998 x y ht he hi hs]; rfl
 simp only [execOp,ho,hx,hy,Sem.run_bind,h1,h2,Result.andThen_ok,Sem.run_pure]
theorem Vk {t:TypeId} {x:Operand} {f:Nat} {fs:Array Field} {fd:Field} {d:TypeDesc} {cs:List Value} {v:Value} (ho:o.op = .field t x f) (ht:P.underlying t=some (.struct fs)) (hf:fs[f]? = some fd)
  (hu:P.underlying fd.type=some d) (hd:jx d=false) (hx:aK ρ x = .agg cs.toArray) (hv:cs[fd.offset]? = some v):aY P ρ o L v:=fun ev w c he _=>by
 subst he
 simp [execOp,ho,hx,Instr.field,run_underlying ht,hf,asAgg,part,ko hu hd,hv,Result.andThen]
theorem Ra {t:TypeId} {x:Operand} {f:Nat} {fs:Array Field} {fd:Field} {d:TypeDesc} {cs cs' : List Value} {sz by_:Nat} {z:Value} (ho:o.op = .field t x f) (ht:P.underlying t=some (.struct fs)) (hf:fs[f]? = some fd)
  (hu:P.underlying fd.type=some d) (hd:jx d=true) (hi:TI P fd.type sz by_ z) (hx:aK ρ x = .agg cs.toArray) (hv:(cs.drop fd.offset).take sz=cs') :
  aY P ρ o L (.agg cs'.toArray):=fun ev w c he _=>by
 subst he
 have htihi:=hi; clear hi
 obtain ⟨inf,hi,_,rfl,_⟩:=htihi.get
 simp [execOp,ho,hx,Instr.field,run_underlying ht,hf,asAgg,part,uK hu hd,sizeOf,typeInfo,hi,hv,Result.andThen]
abbrev ad (n:Int):Int:=IntKind.i64.wrap n
def aH (m k b:Nat):Bool:=decide ((m+k) * b≤140737488355328∧m+k≤maxLen)
def ah {α:Type} (b:Bool) (m:Option α):Option α:=bif b then m else none
theorem HW {α:Type} {b:Bool} {m:Option α} {r:α} (h:ah b m=some r):b=true∧m=some r:=by
 cases b
 ·cases h
 ·exact ⟨rfl,h⟩
end
end Go.Sm
