/-
  A small logic for walking functions of a translated program: data types, what a heap holds, and the rules for control. Nothing of a program is named here; no condition.
-/
import Derived.WalkKit
import Derived.Orders
import Derived.LoopN
import Derived.Laws.AppendOwnNone
import Derived.Laws.MakeOwn
namespace Go.Sm
structure Hd where
 a:Option Addr
 n:Nat
 cap:Nat
abbrev Hd.val (h:Hd):Value:=.slice h.a h.n h.cap
inductive Ty:Type 1
 | one (α:Type) (f:α→Value) (h : ∀ x,(f x).oneCell' = true)
 | arr (n:Nat) (α:Type) (d:α) (f:α→Value) (h : ∀ x,(f x).oneCell' = true)
 | unit
 | pair (a b:Ty)
 | slice (t:Ty)
abbrev Ty.den:Ty→Type
 | .one α _ _=>α
 | .arr _ α _ _ _=>List α
 | .unit=>Unit
 | .pair a b=>a.den×b.den
 | .slice t=>List t.den
abbrev Ty.sz:Ty→Nat
 | .one _ _ _=>1
 | .arr n _ _ _ _=>n
 | .unit=>0
 | .pair a b=>a.sz+b.sz
 | .slice _=>1
abbrev Ty.Refs:Ty→Type
 | .one _ _ _=>Unit
 | .arr _ _ _ _ _=>Unit
 | .unit=>Unit
 | .pair a b=>a.Refs×b.Refs
 | .slice _=>Hd
def Ty.fill:(t:Ty)→t.den→t.Refs→List Value
 | .one _ f _,x,_=>[f x]
 | .arr n _ d f _,x,_=>(List.range n).map fun i=>f (x.getD i d)
 | .unit,_,_=>[]
 | .pair a b,x,y=>a.fill x.1 y.1++b.fill x.2 y.2
 | .slice _,_,h=>[h.val]
theorem Ty.fill_length:(t:Ty)→(x:t.den)→(y:t.Refs)→(t.fill x y).length=t.sz
 | .one _ _ _,_,_=>rfl
 | .arr _ _ _ _ _,_,_=>by simp [Ty.fill,Ty.sz]
 | .unit,_,_=>rfl
 | .pair a b,x,y=>by simp [Ty.fill,Ty.sz,a.fill_length,b.fill_length]
 | .slice _,_,_=>rfl
def RepAll {α β:Type} (R:α→β→Prop):List α→List β→Prop
 | [],[]=>True
 | x::xs,y::ys=>R x y∧RepAll R xs ys
 | _,_=>False
def cellsOf (t:Ty):List t.den→List t.Refs→List Value
 | x::xs,y::ys=>t.fill x y++cellsOf t xs ys
 | _,_=>[]
def Sl (w:World) (S:Nat→Prop) (sz:Nat) (h:Hd) (n:Nat) (cells:List Value):Prop:=
 h.n=n∧n≤h.cap∧h.cap≤maxLen∧((True∧h.cap=0)∨∃ b off arr ty fz,h.a=some ⟨b,off,none⟩∧S b ∧
  w.heap[b]? = some (.cells arr ty fz)∧off+h.cap * sz≤arr.size∧(arr.toList.drop off).take (n * sz)=cells)
def RepR (w:World) (S:Nat→Prop):(t:Ty)→t.den→t.Refs→Prop
 | .one _ _ _,_,_=>True
 | .arr _ _ _ _ _,_,_=>True
 | .unit,_,_=>True
 | .pair a b,x,y=>RepR w S a x.1 y.1∧RepR w S b x.2 y.2
 | .slice t,xs,v=>∃ ys:List t.Refs,RepAll (RepR w S t) xs ys∧Sl w S t.sz v xs.length (cellsOf t xs ys)
def Ty.pureB:Ty→Bool
 | .one _ _ _=>true
 | .arr _ _ _ _ _=>true
 | .unit=>true
 | .pair a b=>a.pureB&&b.pureB
 | .slice _=>false
theorem RepR.pure {w:World} {S:Nat→Prop}:(t:Ty)→(x:t.den)→(y:t.Refs)→t.pureB=true→RepR w S t x y
 | .one _ _ _,_,_,_=>trivial
 | .arr _ _ _ _ _,_,_,_=>trivial
 | .unit,_,_,_=>trivial
 | .pair a b,x,y,h=>by
  simp only [Ty.pureB,Bool.and_eq_true] at h
  exact ⟨RepR.pure a x.1 y.1 h.1,RepR.pure b x.2 y.2 h.2⟩
 | .slice _,_,_,h=>by cases h
theorem RepAll.mono {α β:Type} {R R' : α→β→Prop} (h : ∀ x y,R x y→R' x y) : ∀ {xs:List α} {ys:List β},RepAll R xs ys→RepAll R' xs ys
 | [],[],_=>trivial
 | _::_,_::_,⟨h1,h2⟩=>⟨h _ _ h1,RepAll.mono h h2⟩
 | [],_::_,hh=>hh
 | _::_,[],hh=>hh
theorem RepAll.length {α β:Type} {R:α→β→Prop} : ∀ {xs:List α} {ys:List β},RepAll R xs ys→xs.length=ys.length
 | [],[],_=>rfl
 | _::_,_::_,⟨_,h2⟩=>by simp [RepAll.length h2]
 | [],_::_,hh=>hh.elim
 | _::_,[],hh=>hh.elim
theorem RepAll.append {α β:Type} {R:α→β→Prop} : ∀ {xs:List α} {ys:List β} {xs' : List α} {ys' : List β},RepAll R xs ys→RepAll R xs' ys' → RepAll R (xs++xs') (ys++ys')
 | [],[],_,_,_,h=>h
 | _::_,_::_,_,_,⟨h1,h2⟩,h=>⟨h1,RepAll.append h2 h⟩
 | [],_::_,_,_,hh,_=>hh.elim
 | _::_,[],_,_,hh,_=>hh.elim
theorem RepAll.get {α β:Type} {R:α→β→Prop} : ∀ {xs:List α} {ys:List β} {i:Nat} {x:α},RepAll R xs ys→xs[i]? = some x→∃ y,ys[i]? = some y∧R x y
 | x' :: _,y' :: _,0,x,⟨h1,_⟩,h=>⟨y',rfl,by simp at h; exact h ▸ h1⟩
 | _::_,_::_,i+1,x,⟨_,h2⟩,h=>by
  simp at h
  obtain ⟨y,hy,hr⟩:=RepAll.get h2 h
  exact ⟨y,by simpa using hy,hr⟩
 | [],[],_,_,_,h=>by simp at h
 | [],_::_,_,_,hh,_=>hh.elim
 | _::_,[],_,_,hh,_=>hh.elim
theorem RepAll.take {α β:Type} {R:α→β→Prop} : ∀ {xs:List α} {ys:List β} (k:Nat),RepAll R xs ys→RepAll R (xs.take k) (ys.take k)
 | [],[],_,_=>by simp [RepAll]
 | _::_,_::_,0,_=>by simp [RepAll]
 | _::_,_::_,k+1,⟨h1,h2⟩=>⟨h1,RepAll.take k h2⟩
 | [],_::_,_,hh=>hh.elim
 | _::_,[],_,hh=>hh.elim
theorem RepAll.drop {α β:Type} {R:α→β→Prop} : ∀ {xs:List α} {ys:List β} (k:Nat),RepAll R xs ys→RepAll R (xs.drop k) (ys.drop k)
 | [],[],_,_=>by simp [RepAll]
 | _::_,_::_,0,h=>h
 | _::_,_::_,k+1,⟨_,h2⟩=>RepAll.drop k h2
 | [],_::_,_,hh=>hh.elim
 | _::_,[],_,hh=>hh.elim
theorem RepAll.set {α β:Type} {R:α→β→Prop} : ∀ {xs:List α} {ys:List β} (k:Nat) {x:α} {y:β},RepAll R xs ys→R x y→RepAll R (xs.set k x) (ys.set k y)
 | [],[],_,_,_,_,_=>by simp [RepAll]
 | _::_,_::_,0,_,_,⟨_,h2⟩,h=>⟨h,h2⟩
 | _::_,_::_,k+1,_,_,⟨h1,h2⟩,h=>⟨h1,RepAll.set k h2 h⟩
 | [],_::_,_,_,_,hh,_=>hh.elim
 | _::_,[],_,_,_,hh,_=>hh.elim
theorem cellsOf_length (t:Ty) : ∀ {xs:List t.den} {ys:List t.Refs},xs.length=ys.length→(cellsOf t xs ys).length=xs.length * t.sz
 | [],[],_=>by simp [cellsOf]
 | x::xs,y::ys,h=>by
  have:=cellsOf_length t (xs:=xs) (ys:=ys) (by simpa using h)
  simp [cellsOf,t.fill_length,this,Nat.add_mul]; omega
 | [],_::_,h=>by simp at h
 | _::_,[],h=>by simp at h
theorem cellsOf_append (t:Ty) : ∀ {xs:List t.den} {ys:List t.Refs} {xs' : List t.den} {ys' : List t.Refs},xs.length=ys.length →
  cellsOf t (xs++xs') (ys++ys')=cellsOf t xs ys++cellsOf t xs' ys'
 | [],[],_,_,_=>by simp [cellsOf]
 | x::xs,y::ys,xs',ys',h=>by
  have:=cellsOf_append t (xs:=xs) (ys:=ys) (xs' := xs') (ys' := ys') (by simpa using h)
  simp [cellsOf,this]
 | [],_::_,_,_,h=>by simp at h
 | _::_,[],_,_,h=>by simp at h
theorem cellsOf_get (t:Ty) : ∀ {xs:List t.den} {ys:List t.Refs} {i:Nat} {x:t.den} {y:t.Refs},xs[i]? = some x→ys[i]? = some y →
  ((cellsOf t xs ys).drop (i * t.sz)).take t.sz=t.fill x y
 | x' :: xs,y' :: ys,0,x,y,hx,hy=>by
  simp at hx hy; subst hx; subst hy
  simp [cellsOf,t.fill_length]
 | x' :: xs,y' :: ys,i+1,x,y,hx,hy=>by
  simp at hx hy
  have:=cellsOf_get t hx hy
  simp only [cellsOf]
  rw [show (i+1) * t.sz=(t.fill x' y').length+i * t.sz by rw [t.fill_length,Nat.add_mul]; omega,List.drop_append,List.drop_eq_nil_of_le (by omega)]
  simpa using this
 | [],_,_,_,_,hx,_=>by simp at hx
 | _::_,[],_,_,_,_,hy=>by simp at hy
theorem cellsOf_take (t:Ty) : ∀ {xs:List t.den} {ys:List t.Refs} (k:Nat),xs.length=ys.length →
  cellsOf t (xs.take k) (ys.take k)=(cellsOf t xs ys).take (k * t.sz)
 | [],[],_,_=>by simp [cellsOf]
 | x::xs,y::ys,0,_=>by simp [cellsOf]
 | x::xs,y::ys,k+1,h=>by
  have:=cellsOf_take t (xs:=xs) (ys:=ys) k (by simpa using h)
  simp only [List.take_succ_cons,cellsOf,this]
  rw [show (k+1) * t.sz=(t.fill x y).length+k * t.sz by rw [t.fill_length,Nat.add_mul]; omega,List.take_append,List.take_of_length_le (l:=t.fill x y) (by omega)]
  simp
 | [],_::_,_,h=>by simp at h
 | _::_,[],_,h=>by simp at h
theorem cellsOf_drop (t:Ty) : ∀ {xs:List t.den} {ys:List t.Refs} (k:Nat),xs.length=ys.length →
  cellsOf t (xs.drop k) (ys.drop k)=(cellsOf t xs ys).drop (k * t.sz)
 | [],[],_,_=>by simp [cellsOf]
 | x::xs,y::ys,0,_=>by simp
 | x::xs,y::ys,k+1,h=>by
  have:=cellsOf_drop t (xs:=xs) (ys:=ys) k (by simpa using h)
  simp only [List.drop_succ_cons,cellsOf,this]
  rw [show (k+1) * t.sz=(t.fill x y).length+k * t.sz by rw [t.fill_length,Nat.add_mul]; omega,List.drop_append,List.drop_eq_nil_of_le (as:=t.fill x y) (by omega)]
  simp
 | [],_::_,_,h=>by simp at h
 | _::_,[],_,h=>by simp at h
def Ones (l:List Value):Prop:=∀ v∈l,v.oneCell' = true
theorem fill_ones:(t:Ty)→(x:t.den)→(y:t.Refs)→Ones (t.fill x y)
 | .one _ _ h,x,_=>by simp [Ones,Ty.fill,h]
 | .arr _ _ _ _ h,x,_=>by
  simp only [Ones,Ty.fill,List.mem_map]
  rintro v ⟨i,_,rfl⟩
  exact h _
 | .unit,_,_=>by simp [Ones,Ty.fill]
 | .pair a b,x,y=>by
  simp only [Ones,Ty.fill,List.mem_append]
  rintro v (hv | hv)
  ·exact fill_ones a x.1 y.1 v hv
  ·exact fill_ones b x.2 y.2 v hv
 | .slice t,xs,v=>by
  simp only [Ones,Ty.fill,List.mem_singleton]
  rintro u rfl
  rfl
theorem cellsOf_ones (t:Ty) : ∀ {xs:List t.den} {ys:List t.Refs},Ones (cellsOf t xs ys)
 | [],[]=>by simp [Ones,cellsOf]
 | x::xs,y::ys=>by
  simp only [Ones,cellsOf,List.mem_append]
  rintro v (hv | hv)
  ·exact fill_ones t x y v hv
  ·exact cellsOf_ones t v hv
 | [],_::_=>by simp [Ones,cellsOf]
 | _::_,[]=>by simp [Ones,cellsOf]
def Keeps (w w' : World) (S S' : Nat→Prop):Prop:=∀ b,b<w.heap.size→S b→S' b∧w'.heap[b]? = w.heap[b]?
theorem Sl.keep {w w' : World} {S S' : Nat→Prop} (hk:Keeps w w' S S') {sz:Nat} {v:Hd} {n:Nat} {cells:List Value} (h:Sl w S sz v n cells):Sl w' S' sz v n cells:=by
 obtain ⟨hv,hn,hm,hc⟩:=h
 refine ⟨hv,hn,hm,?_⟩
 rcases hc with hc | ⟨b,off,arr,ty,fz,ha,hS,hb,hrest⟩
 ·exact .inl hc
 ·have hlt:b<w.heap.size:=(Array.getElem?_eq_some_iff.1 hb).1
  obtain ⟨hS',hb'⟩:=hk b hlt hS
  exact .inr ⟨b,off,arr,ty,fz,ha,hS',hb'.trans hb,hrest⟩
theorem RepR.keep {w w' : World} {S S' : Nat→Prop} (hk:Keeps w w' S S'):(t:Ty)→(x:t.den)→(y:t.Refs)→RepR w S t x y→RepR w' S' t x y
 | .one _ _ _,_,_,_=>trivial
 | .arr _ _ _ _ _,_,_,_=>trivial
 | .unit,_,_,_=>trivial
 | .pair a b,x,y,h=>⟨RepR.keep hk a x.1 y.1 h.1,RepR.keep hk b x.2 y.2 h.2⟩
 | .slice t,_,_,⟨ys,h1,h2⟩=>⟨ys,h1.mono (RepR.keep hk t),h2.keep hk⟩
end Go.Sm
