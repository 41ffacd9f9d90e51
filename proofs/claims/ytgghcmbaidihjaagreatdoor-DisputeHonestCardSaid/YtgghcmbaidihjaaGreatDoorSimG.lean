/- Laws for the row. No condition. -/
import Derived.WalkKit
import Derived.Orders
import Derived.LoopN
import Derived.Laws.AppendOwnNone
import Derived.Laws.MakeOwn
import Derived.TacticsIn
import Derived.OrdersIn
import Derived.LoopNIn
import Derived.Scope
import Derived.ChangeKeysEq
namespace Go.Sm
abbrev aj9:=@Array.ext'
abbrev ac1:=@Array.getD_eq_getD_getElem?
abbrev aaA:=@Array.getElem?_eq_some_iff
abbrev ajW:=@Array.getElem?_replicate
abbrev alf:=@Array.getElem?_setIfInBounds
abbrev ak8:=@Array.length_toList
abbrev alx:=@Array.mapM_eq_mapM_toList
abbrev aln:=@BitVec.toNat_ofInt
abbrev akC:=@Bool.and_eq_false_iff
abbrev Y5:=@Bool.and_eq_true
abbrev aea:=@Bool.and_self
abbrev ahn:=@Bool.and_true
abbrev acZ:=@Bool.false_eq_true
abbrev ajF:=@Bool.false_or
abbrev abc:=@Bool.not_eq_true'
abbrev aaX:=@Bool.not_false
abbrev acF:=@Bool.not_true
abbrev abW:=@Bool.or_eq_false_iff
abbrev abl:=@Bool.or_eq_true
abbrev ak9:=@Function.comp_apply
abbrev alM:=@Int.eq_ofNat_of_zero_le
abbrev acH:=@Int.le_refl
abbrev aiv:=@Int.le_trans
abbrev ac5:=@Int.lt_or_le
abbrev ajJ:=@Int.tdiv_eq_ediv_of_nonneg
abbrev ade:=@Int.tmod_eq_emod_of_nonneg
abbrev ZH:=@Int.toNat_natCast
abbrev ajL:=@Int.toNat_of_nonneg
abbrev ae2:=@Int.zero_add
abbrev ali:=@List.Perm.refl
abbrev acw:=@List.all_cons
abbrev Zy:=@List.all_eq_true
abbrev amG:=@List.any_cons
abbrev ako:=@List.any_eq_false
abbrev aeL:=@List.any_eq_true
abbrev aaf:=@List.append_assoc
abbrev Z2:=@List.append_nil
abbrev akQ:=@List.concat_eq_append
abbrev ahv:=@List.cons.injEq
abbrev acI:=@List.cons_append
abbrev ak4:=@List.dropLast_concat
abbrev abe:=@List.drop_append
abbrev adg:=@List.drop_drop
abbrev aa6:=@List.drop_eq_nil_of_le
abbrev aeO:=@List.drop_length
abbrev ajK:=@List.drop_succ_cons
abbrev ad0:=@List.drop_take
abbrev adq:=@List.drop_zero
abbrev abT:=@List.eq_nil_of_length_eq_zero
abbrev akJ:=@List.eq_nil_or_concat
abbrev aeZ:=@List.eq_of_mem_replicate
abbrev ace:=@List.ext_getElem?
abbrev aku:=@List.flatMap_cons
abbrev akx:=@List.foldl_append
abbrev alQ:=@List.foldl_cons
abbrev aav:=@List.getD_eq_getElem?_getD
abbrev akR:=@List.getElem?_append
abbrev adv:=@List.getElem?_append_left
abbrev abV:=@List.getElem?_append_right
abbrev afT:=@List.getElem?_cons_succ
abbrev acM:=@List.getElem?_cons_zero
abbrev aci:=@List.getElem?_drop
abbrev ZB:=@List.getElem?_eq_getElem
abbrev aaw:=@List.getElem?_eq_some_iff
abbrev aeJ:=@List.getElem?_map
abbrev ae9:=@List.getElem?_range
abbrev acN:=@List.getElem?_set_ne
abbrev abG:=@List.getElem?_set_self
abbrev aht:=@List.getElem?_take
abbrev akB:=@List.getElem?_toArray
abbrev aek:=@List.getElem_mem
abbrev afL:=@List.getElem_of_mem
abbrev akZ:=@List.headD_cons
abbrev ZD:=@List.length_append
abbrev aaG:=@List.length_cons
abbrev adT:=@List.length_drop
abbrev aes:=@List.length_map
abbrev aer:=@List.length_nil
abbrev alo:=@List.length_range
abbrev adE:=@List.length_replicate
abbrev aa1:=@List.length_set
abbrev aal:=@List.length_singleton
abbrev acs:=@List.length_take
abbrev amo:=@List.mapM_cons
abbrev abz:=@List.map_append
abbrev abw:=@List.map_congr_left
abbrev aas:=@List.map_cons
abbrev amC:=@List.map_drop
abbrev akz:=@List.map_id
abbrev adK:=@List.map_map
abbrev ad5:=@List.map_nil
abbrev ajI:=@List.map_take
abbrev aad:=@List.mem_append
abbrev ZW:=@List.mem_append_left
abbrev Z7:=@List.mem_append_right
abbrev aaa:=@List.mem_cons
abbrev Zf:=@List.mem_cons_of_mem
abbrev ZO:=@List.mem_cons_self
abbrev aa0:=@List.mem_filter
abbrev akF:=@List.mem_iff_getElem?
abbrev ZA:=@List.mem_map
abbrev aa2:=@List.mem_of_getElem?
abbrev akY:=@List.mem_of_mem_drop
abbrev ajj:=@List.mem_of_mem_take
abbrev ab2:=@List.mem_or_eq_of_mem_set
abbrev adp:=@List.mem_range
abbrev ZK:=@List.mem_singleton
abbrev abx:=@List.nil_append
abbrev al4:=@List.nodup_cons
abbrev ai3:=@List.not_mem_nil
abbrev acB:=@List.pairwise_cons
abbrev ak3:=@List.range_succ
abbrev adF:=@List.replicate_succ
abbrev ajc:=@List.replicate_succ'
abbrev alF:=@List.set_set
abbrev aeu:=@List.size_toArray
abbrev amK:=@List.take_add
abbrev alr:=@List.take_add_one
abbrev acE:=@List.take_append
abbrev adB:=@List.take_append_drop
abbrev ahB:=@List.take_append_of_le_length
abbrev alJ:=@List.take_length
abbrev aaU:=@List.take_of_length_le
abbrev ae5:=@List.take_succ_cons
abbrev ail:=@List.take_take
abbrev adX:=@List.take_zero
abbrev ajp:=@Nat.add_assoc
abbrev acG:=@Nat.add_mul
abbrev abj:=@Nat.add_zero
abbrev aah:=@Nat.ble_eq_true_of_le
abbrev f9:=@Nat.eq_of_beq_eq_true
abbrev alL:=@Nat.le_mul_of_pos_right
abbrev Zh:=@Nat.le_of_ble_eq_true
abbrev Z0:=@Nat.le_refl
abbrev alC:=@Nat.le_trans
abbrev ajS:=@Nat.lt_of_lt_of_le
abbrev abD:=@Nat.lt_or_ge
abbrev ab5:=@Nat.min_eq_left
abbrev aka:=@Nat.mod_lt
abbrev aaR:=@Nat.mul_le_mul_right
abbrev aep:=@Nat.mul_one
abbrev acx:=@Nat.ne_of_beq_eq_false
abbrev aky:=@Nat.one_mul
abbrev aj8:=@Nat.sub_self
abbrev aj7:=@Nat.zero_add
abbrev aen:=@Nat.zero_le
abbrev ami:=@Ne.symm
abbrev aeh:=@Option.bind_eq_some_iff
abbrev f8:=@Option.bind_some
abbrev aeQ:=@Option.getD_some
abbrev ad6:=@Option.isSome_iff_exists
abbrev aa8:=@Option.map_eq_some_iff
abbrev al3:=@Option.map_some
abbrev ajQ:=@Option.some.inj
abbrev no:=@Option.some.injEq
abbrev ZC:=@Prod.mk.injEq
abbrev alE:=@and_true
abbrev aej:=@beq_eq_false_iff_ne
abbrev ajk:=@beq_iff_eq
abbrev aat:=@beq_self_eq_true
abbrev aaH:=@bne_self_eq_false
abbrev Zr:=@cond_false
abbrev Ze:=@cond_true
abbrev aae:=@congrArg
abbrev akg:=@decide_eq_false_iff_not
abbrev ad1:=@decide_eq_true
abbrev acK:=@decide_eq_true_eq
abbrev aeU:=@decide_false
abbrev aeK:=@decide_true
abbrev aaS:=@if_false
abbrev aaL:=@if_true
abbrev akj:=@not_false_eq_true
abbrev aaq:=@of_decide_eq_true
abbrev amw:=@or_false
structure Hd where
 a:Option Addr
 n:Nat
 cap:Nat
abbrev Hd.val(h:Hd):Value:=.slice h.a h.n h.cap
def Hd.blk(h:Hd):Nat:=match h.a with
 |some ⟨b,_,_⟩=>b
 |none=>0
inductive Nd
 |mk (kind:Int) (text:List UInt8) (n:Int) (kids:List Nd)
def Nd.tup:Nd->Int×List UInt8×Int×List Nd
 |.mk k t n l=>(k,t,n,l)
def Nd.of(v:Int×List UInt8×Int×List Nd):Nd:=.mk v.1 v.2.1 v.2.2.1 v.2.2.2
def Nd.fill(x:Nd)(h:Hd):List Value:=[.int .i64 x.tup.1,.string ⟨x.tup.2.1.toArray⟩,.int .i64 x.tup.2.2.1,h.val]
def vC:List Nd->List Hd->List Value
 |x::xs,y::ys=>x.fill y++vC xs ys
 |_,_=>[]
inductive Ty:Type 1
 |one (α:Type) (f:α->Value) (h:∀x,(f x).oneCell'=true)
 |arr (n:Nat) (α:Type) (d:α) (f:α->Value) (h:∀x,(f x).oneCell'=true)
 |unit
 |pair (a b:Ty)
 |slice (t:Ty)
 |node
 |mp (k v:Ty)
abbrev Ty.den:Ty->Type
 |.one α _ _=>α
 |.arr _ α _ _ _=>List α
 |.unit=>Unit
 |.pair a b=>a.den×b.den
 |.slice t=>List t.den
 |.node=>Nd
 |.mp k v=>List (k.den×v.den)
abbrev Ty.sz:Ty->Nat
 |.one _ _ _=>1
 |.arr n _ _ _ _=>n
 |.unit=>0
 |.pair a b=>a.sz+b.sz
 |.slice _=>1
 |.node=>4
 |.mp _ _=>1
abbrev Ty.Refs:Ty->Type
 |.one _ _ _=>Unit
 |.arr _ _ _ _ _=>Unit
 |.unit=>Unit
 |.pair a b=>a.Refs×b.Refs
 |.slice _=>Hd
 |.node=>Hd
 |.mp _ _=>Hd
def Ty.fill:(t:Ty)->t.den->t.Refs->List Value
 |.one _ f _,x,_=>[f x]
 |.arr n _ d f _,x,_=>(List.range n).map λi=>f (x.getD i d)
 |.unit,_,_=>[]
 |.pair a b,x,y=>a.fill x.1 y.1++b.fill x.2 y.2
 |.slice _,_,h=>[h.val]
 |.node,x,h=>x.fill h
 |.mp _ _,_,h=>[.map (some (Hd.blk h))]
theorem Ty.fill_length:(t:Ty)->(x:t.den)->(y:t.Refs)->(t.fill x y).length=t.sz
 |.one _ _ _,_,_=>rfl
 |.arr _ _ _ _ _,_,_=>by simp[Ty.fill,Ty.sz]
 |.unit,_,_=>rfl
 |.pair a b,x,y=>by simp[Ty.fill,Ty.sz,a.fill_length,b.fill_length]
 |.slice _,_,_=>rfl
 |.node,_,_=>rfl
 |.mp _ _,_,_=>rfl
def bX{α β:Type}(R:α->β->Prop):List α->List β->Prop
 |[],[]=>True
 |x::xs,y::ys=>R x y/\bX R xs ys
 |_,_=>False
def cellsOf(t:Ty):List t.den->List t.Refs->List Value
 |x::xs,y::ys=>t.fill x y++cellsOf t xs ys
 |_,_=>[]
def Sl(w:World)(S:Nat->Prop)(sz:Nat)(h:Hd)(n:Nat)(cells:List Value):Prop:=
 h.n=n/\n<=h.cap/\h.cap<=maxLen/\((True/\h.cap=0)\/∃b off arr ty fz,h.a=some ⟨b,off,none⟩/\S b /\
  w.heap[b]?=some (.cells arr ty fz)/\off+h.cap*sz<=arr.size/\(arr.toList.drop off).take (n*sz)=cells)
mutual
def qq(w:World)(S:Nat->Prop):Nd->Hd->Prop
 |.mk _ _ _ kids,h=>∃ys:List Hd,jZ w S kids ys/\Sl w S 4 h kids.length (vC kids ys)
def jZ(w:World)(S:Nat->Prop):List Nd->List Hd->Prop
 |[],[]=>True
 |x::xs,y::ys=>qq w S x y/\jZ w S xs ys
 |_,_=>False
end
def bD(w:World)(S:Nat->Prop):(t:Ty)->t.den->t.Refs->Prop
 |.one _ _ _,_,_=>True
 |.arr _ _ _ _ _,_,_=>True
 |.unit,_,_=>True
 |.pair a b,x,y=>bD w S a x.1 y.1/\bD w S b x.2 y.2
 |.slice t,xs,v=>∃ys:List t.Refs,bX (bD w S t) xs ys/\Sl w S t.sz v xs.length (cellsOf t xs ys)
 |.node,x,h=>qq w S x h
 |.mp _ _,_,_=>True
def Ty.pureB:Ty->Bool
 |.one _ _ _=>true
 |.arr _ _ _ _ _=>true
 |.unit=>true
 |.pair a b=>a.pureB&&b.pureB
 |.slice _=>false
 |.node=>false
 |.mp _ _=>false
theorem bD.pure{w:World}{S:Nat->Prop}:(t:Ty)->(x:t.den)->(y:t.Refs)->t.pureB=true->bD w S t x y
 |.one _ _ _,_,_,_=>trivial
 |.arr _ _ _ _ _,_,_,_=>trivial
 |.unit,_,_,_=>trivial
 |.pair a b,x,y,h=>by simp only[Ty.pureB,Y5]at h;exact⟨bD.pure a x.1 y.1 h.1,bD.pure b x.2 y.2 h.2⟩
 |.slice _,_,_,h=>by cases h
 |.node,_,_,h=>by cases h
 |.mp _ _,_,_,h=>by cases h
theorem bX.mono{α β:Type}{R R':α->β->Prop}(h:∀x y,R x y->R' x y):∀{xs:List α} {ys:List β},bX R xs ys->bX R' xs ys
 |[],[],_=>trivial
 |_::_,_::_,⟨h1,h2⟩=>⟨h _ _ h1,bX.mono h h2⟩
 |[],_::_,hh=>hh
 |_::_,[],hh=>hh
theorem bX.length{α β:Type}{R:α->β->Prop}:∀{xs:List α} {ys:List β},bX R xs ys->xs.length=ys.length
 |[],[],_=>rfl
 |_::_,_::_,⟨_,h2⟩=>by simp[bX.length h2]
 |[],_::_,hh=>hh.elim
 |_::_,[],hh=>hh.elim
theorem bX.append{α β:Type}{R:α->β->Prop}:∀{xs:List α} {ys:List β} {xs':List α} {ys':List β},bX R xs ys->bX R xs' ys'->bX R (xs++xs') (ys++ys')
 |[],[],_,_,_,h=>h
 |_::_,_::_,_,_,⟨h1,h2⟩,h=>⟨h1,bX.append h2 h⟩
 |[],_::_,_,_,hh,_=>hh.elim
 |_::_,[],_,_,hh,_=>hh.elim
theorem bX.get{α β:Type}{R:α->β->Prop}:∀{xs:List α} {ys:List β} {i:Nat} {x:α},bX R xs ys->xs[i]?=some x->∃y,ys[i]?=some y/\R x y
 |x'::_,y'::_,0,x,⟨h1,_⟩,h=>⟨y',rfl,by grind⟩
 |_::_,_::_,i+1,x,⟨_,h2⟩,h=>by simp at h;obtain⟨y,hy,hr⟩:=bX.get h2 h;grind
 |[],[],_,_,_,h=>by simp at h
 |[],_::_,_,_,hh,_=>hh.elim
 |_::_,[],_,_,hh,_=>hh.elim
theorem bX.take{α β:Type}{R:α->β->Prop}:∀{xs:List α} {ys:List β} (k:Nat),bX R xs ys->bX R (xs.take k) (ys.take k)
 |[],[],_,_=>by simp[bX]
 |_::_,_::_,0,_=>by simp[bX]
 |_::_,_::_,k+1,⟨h1,h2⟩=>⟨h1,bX.take k h2⟩
 |[],_::_,_,hh=>hh.elim
 |_::_,[],_,hh=>hh.elim
theorem bX.drop{α β:Type}{R:α->β->Prop}:∀{xs:List α} {ys:List β} (k:Nat),bX R xs ys->bX R (xs.drop k) (ys.drop k)
 |[],[],_,_=>by simp[bX]
 |_::_,_::_,0,h=>h
 |_::_,_::_,k+1,⟨_,h2⟩=>bX.drop k h2
 |[],_::_,_,hh=>hh.elim
 |_::_,[],_,hh=>hh.elim
theorem bX.set{α β:Type}{R:α->β->Prop}:∀{xs:List α} {ys:List β} (k:Nat) {x:α} {y:β},bX R xs ys->R x y->bX R (xs.set k x) (ys.set k y)
 |[],[],_,_,_,_,_=>by simp[bX]
 |_::_,_::_,0,_,_,⟨_,h2⟩,h=>⟨h,h2⟩
 |_::_,_::_,k+1,_,_,⟨h1,h2⟩,h=>⟨h1,bX.set k h2 h⟩
 |[],_::_,_,_,_,hh,_=>hh.elim
 |_::_,[],_,_,_,hh,_=>hh.elim
theorem cE(t:Ty):∀{xs:List t.den} {ys:List t.Refs},xs.length=ys.length->(cellsOf t xs ys).length=xs.length*t.sz
 |[],[],_=>by simp[cellsOf]
 |x::xs,y::ys,h=>by have:=cE t (xs:=xs) (ys:=ys) (by simpa using h);simp[cellsOf,t.fill_length,this,acG];omega
 |[],_::_,h=>by simp at h
 |_::_,[],h=>by simp at h
theorem dU(t:Ty):∀{xs:List t.den} {ys:List t.Refs} {xs':List t.den} {ys':List t.Refs},xs.length=ys.length ->
  cellsOf t (xs++xs') (ys++ys')=cellsOf t xs ys++cellsOf t xs' ys'
 |[],[],_,_,_=>by simp[cellsOf]
 |x::xs,y::ys,xs',ys',h=>by have:=dU t (xs:=xs) (ys:=ys) (xs':=xs') (ys':=ys') (by simpa using h);simp[cellsOf,this]
 |[],_::_,_,_,h=>by simp at h
 |_::_,[],_,_,h=>by simp at h
theorem rM(t:Ty):∀{xs:List t.den} {ys:List t.Refs} {i:Nat} {x:t.den} {y:t.Refs},xs[i]?=some x->ys[i]?=some y ->
  ((cellsOf t xs ys).drop (i*t.sz)).take t.sz=t.fill x y
 |x'::xs,y'::ys,0,x,y,hx,hy=>by simp at hx hy;subst hx;subst hy;simp[cellsOf,t.fill_length]
 |x'::xs,y'::ys,i+1,x,y,hx,hy=>by simp at hx hy;have:=rM t hx hy;simp only[cellsOf];rw[show(i+1)*t.sz=(t.fill x' y').length+i*t.sz by rw[t.fill_length,acG];omega,abe,aa6 (by omega)];grind
 |[],_,_,_,_,hx,_=>by simp at hx
 |_::_,[],_,_,_,_,hy=>by simp at hy
theorem iu(t:Ty):∀{xs:List t.den} {ys:List t.Refs} (k:Nat),xs.length=ys.length ->
  cellsOf t (xs.take k) (ys.take k)=(cellsOf t xs ys).take (k*t.sz)
 |[],[],_,_=>by simp[cellsOf]
 |x::xs,y::ys,0,_=>by simp[cellsOf]
 |x::xs,y::ys,k+1,h=>by have:=iu t (xs:=xs) (ys:=ys) k (by simpa using h);simp only[ae5,cellsOf,this];rw[show(k+1)*t.sz=(t.fill x y).length+k*t.sz by rw[t.fill_length,acG];omega,acE,aaU (l:=t.fill x y) (by omega)];simp
 |[],_::_,_,h=>by simp at h
 |_::_,[],_,h=>by simp at h
theorem pS(t:Ty):∀{xs:List t.den} {ys:List t.Refs} (k:Nat),xs.length=ys.length ->
  cellsOf t (xs.drop k) (ys.drop k)=(cellsOf t xs ys).drop (k*t.sz)
 |[],[],_,_=>by simp[cellsOf]
 |x::xs,y::ys,0,_=>by simp
 |x::xs,y::ys,k+1,h=>by have:=pS t (xs:=xs) (ys:=ys) k (by simpa using h);simp only[ajK,cellsOf,this];rw[show(k+1)*t.sz=(t.fill x y).length+k*t.sz by rw[t.fill_length,acG];omega,abe,aa6 (as:=t.fill x y) (by omega)];simp
 |[],_::_,_,h=>by simp at h
 |_::_,[],_,h=>by simp at h
def oW(l:List Value):Prop:=∀v∈l,v.oneCell'=true
theorem vQ:(t:Ty)->(x:t.den)->(y:t.Refs)->oW (t.fill x y)
 |.one _ _ h,x,_=>by simp[oW,Ty.fill,h]
 |.arr _ _ _ _ h,x,_=>by simp only[oW,Ty.fill,ZA];grind
 |.unit,_,_=>by simp[oW,Ty.fill]
 |.pair a b,x,y=>by
  simp only[oW,Ty.fill,aad];rintro v (hv|hv)
  ·exact vQ a x.1 y.1 v hv
  ·exact vQ b x.2 y.2 v hv
 |.slice t,xs,v=>by simp only[oW,Ty.fill,ZK];rintro u rfl;rfl
 |.node,x,h=>by simp only[oW,Ty.fill,Nd.fill,aaa,ai3,amw];rintro u (rfl|rfl|rfl|rfl)<;>rfl
 |.mp _ _,_,h=>by simp only[oW,Ty.fill,ZK];rintro u rfl;rfl
theorem iz(t:Ty):∀{xs:List t.den} {ys:List t.Refs},oW (cellsOf t xs ys)
 |[],[]=>by simp[oW,cellsOf]
 |x::xs,y::ys=>by
  simp only[oW,cellsOf,aad];rintro v (hv|hv)
  ·exact vQ t x y v hv
  ·exact iz t v hv
 |[],_::_=>by simp[oW,cellsOf]
 |_::_,[]=>by simp[oW,cellsOf]
def ij(w w':World)(S S':Nat->Prop):Prop:=∀b,b<w.heap.size->S b->S' b/\w'.heap[b]?=w.heap[b]?
theorem Sl.keep{w w':World}{S S':Nat->Prop}(hk:ij w w' S S'){sz:Nat}{v:Hd}{n:Nat}{cells:List Value}(h:Sl w S sz v n cells):Sl w' S' sz v n cells:=by
 obtain⟨hv,hn,hm,hc⟩:=h;refine⟨hv,hn,hm,?_⟩;rcases hc with hc|⟨b,off,arr,ty,fz,ha,hS,hb,hrest⟩
 ·exact .inl hc
 ·have hlt:b<w.heap.size:=(aaA.1 hb).1;obtain⟨hS',hb'⟩:=hk b hlt hS;grind
theorem ut:∀(xs:List Nd) (ys:List Hd),vC xs ys=cellsOf .node xs ys
 |[],[]=>rfl
 |x::xs,y::ys=>by simp only[vC,cellsOf,ut xs ys];rfl
 |[],_::_=>rfl
 |_::_,[]=>rfl
theorem wD{w:World}{S:Nat->Prop}:∀{xs:List Nd} {ys:List Hd},jZ w S xs ys↔bX (qq w S) xs ys
 |[],[]=>by rfl
 |x::xs,y::ys=>by rw[jZ,bX,wD]
 |[],_::_=>by rfl
 |_::_,[]=>by rfl
theorem ng{w:World}{S:Nat->Prop}{x:Nd}{h:Hd}:qq w S x h↔bD w S (.slice .node) x.tup.2.2.2 h:=by
 cases x with
 |mk k t n l=>
  rw[qq];constructor
  ·rintro⟨ys,h1,h2⟩;exact⟨ys,wD.1 h1,by rw[<-ut];exact h2⟩
  ·rintro⟨ys,h1,h2⟩;exact⟨ys,wD.2 h1,by rw[ut];exact h2⟩
mutual
theorem qq.keep{w w':World}{S S':Nat->Prop}(hk:ij w w' S S'):(x:Nd)->(h:Hd)->qq w S x h->qq w' S' x h
 |.mk k t n l,h,hr=>by rw[qq]at hr|-;obtain⟨ys,h1,h2⟩:=hr;exact⟨ys,jZ.keep hk l ys h1,h2.keep hk⟩
theorem jZ.keep{w w':World}{S S':Nat->Prop}(hk:ij w w' S S'):(xs:List Nd)->(ys:List Hd)->jZ w S xs ys->jZ w' S' xs ys
 |[],[],h=>h
 |x::xs,y::ys,h=>by rw[jZ]at h|-;exact⟨qq.keep hk x y h.1,jZ.keep hk xs ys h.2⟩
 |[],_::_,h=>by rw[jZ]at h;exact h.elim;all_goals simp
 |_::_,[],h=>by rw[jZ]at h;exact h.elim;all_goals simp
end
theorem bD.keep{w w':World}{S S':Nat->Prop}(hk:ij w w' S S'):(t:Ty)->(x:t.den)->(y:t.Refs)->bD w S t x y->bD w' S' t x y
 |.one _ _ _,_,_,_=>trivial
 |.arr _ _ _ _ _,_,_,_=>trivial
 |.unit,_,_,_=>trivial
 |.pair a b,x,y,h=>⟨bD.keep hk a x.1 y.1 h.1,bD.keep hk b x.2 y.2 h.2⟩
 |.slice t,_,_,⟨ys,h1,h2⟩=>⟨ys,h1.mono (bD.keep hk t),h2.keep hk⟩
 |.node,x,h,hh=>qq.keep hk x h hh
 |.mp _ _,_,_,_=>trivial
abbrev cV:=Nat->Value
abbrev aS:=Nat->Nat
def yX(ρ:cV)(d:Nat)(v:Value):cV:=λt=>cond (Nat.beq t d) v (ρ t)
def aJ(ρ:cV):Operand->Value
  |.tmp t=>ρ t
  |.const v=>v
  |.global g=>.pointer (some ⟨g,0,none⟩)
  |.func f=>.func (.func f) #[] #[]
class Rd where
  ro:Option Nat
  ds:List Deferred
def sH[Rd]:Fence:={ Fence.wide with round:=Rd.ro}
def ndO:Op->Bool
  |.defer _=>false
  |_=>true
theorem Z4[Rd]{P:Program}{o:Oper}{a:Act}{next:Act->World->Prop}{Q:Exit->Act->World->Prop}{r:Result Next}(h:o.uponIn Fence.wide 0 P a next Q r):o.uponIn sH 0 P a next Q r:=h
theorem oG{P:Program}{b:Frame}{a:Act}{k:List Item}{cs:List Frame}{w:World}{c:Code}:step P (lone (b.atR a (.code (.scope c)::k)) cs w)=.next (lone (b.atR a (.code c::.inScope c::k)) cs w):=
  step_lone_go (by simp[stepG,stepG.exec,Frame.atR])
theorem He{P:Program}{b:Frame}{a:Act}{k:List Item}{cs:List Frame}{w:World}{c:Code}:step P (lone (b.atR a (.inScope c::k)) cs w)=.next (lone (b.atR a k) cs w):=
  step_lone_go (by simp[stepG,stepG.exec,Frame.atR])
theorem qU{F:Fence}{n:Nat}{P:Program}{Q:Exit->Act->World->Prop}{a:Act}{w:World}{c:Code}(h:c.wpIn F n P (Exit.noGoto Q) a w):(Code.scope c).wpIn F n P Q a w:=by
  intro b k cs hro hb hr;have h0:(lone (b.atR a (.code (.scope c)::k)) cs w).fenced P F:=fenced_calm hb hr rfl;obtain⟨e,a₁,w₁,hq,harr⟩:=h b (.inScope c::k) cs hro hb hr;cases e with
  |normal=>exact⟨.normal,a₁,w₁,hq,.head h0 oG (StepsIn.trans harr (.one (fenced_calm hb hr rfl) He))⟩
  |exit id=>exact⟨_,a₁,w₁,hq,.of_steps (e:=.exit id) (.one h0 oG) ⟨λk' hk=>harr.1 k' (by simp[exitTo,hk]),λhr' hk=>harr.2 hr' (by simp[exitTo,hk])⟩⟩
  |goto l=>exact hq.elim
  |ret=>exact⟨_,a₁,w₁,hq,.of_steps (e:=.ret) (.one h0 oG) harr⟩
  |panic ch=>exact⟨_,a₁,w₁,hq,.of_steps (e:=.panic ch) (.one h0 oG) harr⟩
  |outgrown=>exact⟨_,a₁,w₁,hq,.of_steps (e:=.outgrown) (.one h0 oG) harr⟩
structure Rel(n:Nat)(ρ:cV)(a:Act)(ds:List Deferred:=[]):Prop where
  defers:a.defers=ds
  size:a.tmps.size=n
  val:∀t,a.tmps.getD t undef=ρ t
theorem Rel.eval{n:Nat}{ρ:cV}{a:Act}{ds:List Deferred}(h:Rel n ρ a ds):a.eval=aJ ρ:=by funext x;cases x<;>simp[Act.eval,aJ,h.val]
theorem Rel.put{n:Nat}{ρ:cV}{a:Act}{ds:List Deferred}(h:Rel n ρ a ds){d:Nat}(hd:Nat.blt d n=true)(v:Value):Rel n (yX ρ d v) (a.put (some d) v) ds:=by
  have hd':d<n:=Zh hd;refine⟨h.defers,by simp[Act.put,h.size],λt=>?_⟩;have hv:=h.val t;simp only[Act.put,yX,ac1,alf]at hv|-;by_cases ht:t=d
  ·subst ht;simp[h.size,hd']
  · have:Nat.beq t d=false:=by
      cases hb:Nat.beq t d
      ·rfl
      simp_all
    grind
noncomputable def ph(S:Nat->Prop):aS:=open Classical inλb=>if S b then 1 else 0
theorem ajz(S:Nat->Prop)(b:Nat):ph S b=0\/ph S b=1:=by unfold ph;split<;>simp
def gv(w w':World):Prop:=w'.os=w.os/\w'.output=w.output
theorem gv.refl(w:World):gv w w:=⟨rfl,rfl⟩
theorem gv.trans{a b c:World}(h:gv a b)(k:gv b c):gv a c:=⟨k.1.trans h.1,k.2.trans h.2⟩
def uY(w:World)(e:TypeId)(sz:Nat)(v:Value)(n:Nat)(xs:List Value):Prop:=
  xs.length=n*sz/\((v=.slice none 0 0/\n=0) \/
   ∃ (g cap:Nat) (cur:Array Value) (ty:TypeId) (fz:Nat×Nat),v=.slice (some ⟨g,0,none⟩) n cap/\w.heap[g]?=some (.cells cur ty fz)/\((ty=e/\fz=(0,0))\/(1048576<=e/\cur.size<=fz.1)) /\
     n<=cap/\cap<=maxLen/\cur.size=cap*sz/\cur.toList.take (n*sz)=xs)
theorem w9{w:World}{base:Nat}{e:TypeId}{sz:Nat}{v:Value}{n:Nat}{xs:List Value}(h:w.ownsRow base e sz v n xs):uY w e sz v n xs:=
  ⟨h.1,h.2.imp id λ⟨g,cap,cur,hv,_,hg,h1,h2,h3,h4⟩=>⟨g,cap,cur,e,(0,0),hv,hg,.inl ⟨rfl,rfl⟩,h1,h2,h3,h4⟩⟩
theorem uY.plain{w:World}{e:TypeId}{sz:Nat}{v:Value}{n:Nat}{xs:List Value}(h:uY w e sz v n xs)(he:Nat.blt e 1048576=true):w.ownsRow 0 e sz v n xs:=
  ⟨h.1,h.2.imp id λ⟨g,cap,cur,ty,fz,hv,hg,hm,h1,h2,h3,h4⟩=>by have he':e+1<=1048576:=Zh he;grind⟩
theorem uY.lt{w:World}{e:TypeId}{sz:Nat}{v:Value}{n:Nat}{xs:List Value}(h:uY w e sz v n xs):∀g,v.ownBlock=some g->g<w.heap.size:=by
  intro g hg;rcases h.2 with⟨rfl,_⟩|⟨g',cap,cur,ty,fz,rfl,hgg,_⟩
  ·simp[Value.ownBlock]at hg
  grind[Value.ownBlock]
theorem uY.same{w w':World}{e:TypeId}{sz:Nat}{v:Value}{n:Nat}{cells:List Value}(h:uY w e sz v n cells)
    (hb:∀g,v.ownBlock=some g->g<w.heap.size->w'.heap[g]?=w.heap[g]?):uY w' e sz v n cells:=by
  refine⟨h.1,?_⟩;rcases h.2 with h2|⟨g,cap,cur,ty,fz,rfl,hg,hrest⟩
  ·exact .inl h2
  ·exact .inr ⟨g,cap,cur,ty,fz,rfl,(hb g rfl (aaA.1 hg).1).trans hg,hrest⟩
inductive EI
  |leaf
  |pair (a b:EI)
  |row (e:TypeId) (s:EI)
  deriving DecidableEq
def EI.fst:EI->EI
  |.pair a _=>a
  |_=>.leaf
def EI.snd:EI->EI
  |.pair _ b=>b
  |_=>.leaf
def EI.dec:Nat->Nat->EI×Nat
  |0,n=>(.leaf,n)
  | f+1,n=>match n%65536 with
    |0=>(.leaf,n / 65536)
    |1=>(.pair (EI.dec f (n / 65536)).1 (EI.dec f (EI.dec f (n / 65536)).2).1,(EI.dec f (EI.dec f (n / 65536)).2).2)
    |e+2=>(.row e (EI.dec f (n / 65536)).1,(EI.dec f (n / 65536)).2)
def eM(e:TypeId):Bool:=Nat.ble 1099511627776 e
def fR(e:TypeId):EI:=(EI.dec 16 (e / 1099511627776)).1
def FP(w:World)(S:Nat->Prop)(d:Nat->List Nat)(π:List Nat)(e:TypeId)(sz:Nat)(h:Hd)(n:Nat)(cells:List Value):Prop:=
  ∃(g cap:Nat) (cur:Array Value),h=⟨some ⟨g,0,none⟩,n,cap⟩/\w.heap[g]?=some (.cells cur e (0,0))/\n<=cap/\cap<=maxLen/\cur.size=cap*sz/\cur.toList.take (n*sz)=cells/\S g/\d g=π
def bz(w:World)(S:Nat->Prop)(d:Nat->List Nat):(t:Ty)->EI->List Nat->t.den->t.Refs->Prop
  |.one _ _ _,_,_,_,_=>True
  |.arr _ _ _ _ _,_,_,_,_=>True
  |.unit,_,_,_,_=>True
  |.pair a b,ε,π,x,y=>bz w S d a ε.fst (0::π) x.1 y.1/\bz w S d b ε.snd (1::π) x.2 y.2
  |.slice t,ε,π,xs,h=>(h=⟨none,0,0⟩/\xs=[])\/∃e s,ε=.row e s/\∃ys:List t.Refs,ys.length=xs.length/\FP w S d π e t.sz h xs.length (cellsOf t xs ys) /\
      ∀(j:Nat) (x:t.den) (y:t.Refs),xs[j]?=some x->ys[j]?=some y->bz w S d t s (j::π) x y
  |.node,_,_,_,_=>False
  |.mp _ _,_,_,_,_=>False
theorem FP.keep{w w':World}{S S':Nat->Prop}{d:Nat->List Nat}{π:List Nat}{e:TypeId}{sz n:Nat}{h:Hd}{cells:List Value}(hk:ij w w' S S')
    (hr:FP w S d π e sz h n cells):FP w' S' d π e sz h n cells:=by
  obtain⟨g,cap,cur,h1,h2,h3,h4,h5,h6,h7,h8⟩:=hr;obtain⟨k1,k2⟩:=hk g (aaA.1 h2).1 h7;exact⟨g,cap,cur,h1,k2.trans h2,h3,h4,h5,h6,k1,h8⟩
theorem bz.keep{w w':World}{S S':Nat->Prop}{d:Nat->List Nat}(hk:ij w w' S S'):(t:Ty)->(ε:EI)->(π:List Nat)->(x:t.den)->(y:t.Refs) ->
    bz w S d t ε π x y->bz w' S' d t ε π x y
  |.one _ _ _,_,_,_,_,_=>trivial
  |.arr _ _ _ _ _,_,_,_,_,_=>trivial
  |.unit,_,_,_,_,_=>trivial
  |.pair a b,ε,π,x,y,h=>⟨bz.keep hk a _ _ _ _ h.1,bz.keep hk b _ _ _ _ h.2⟩
  | .slice t,ε,π,xs,h,hh=>by
    rcases hh with hh|⟨e,s,he,ys,h1,h2,h3⟩
    ·exact .inl hh
    ·exact .inr ⟨e,s,he,ys,h1,h2.keep hk,λj x y hx hy=>bz.keep hk t s (j::π) x y (h3 j x y hx hy)⟩
theorem jj{α β:Type}{R:α->β->Prop}:∀{xs:List α} {ys:List β},ys.length=xs.length->(∀(j:Nat) (x:α) (y:β),xs[j]?=some x->ys[j]?=some y->R x y)->bX R xs ys
  |[],[],_,_=>trivial
  |x::xs,y::ys,hl,h=>⟨h 0 x y rfl rfl,jj (by simpa using hl) λj a b ha hb=>h (j+1) a b (by simpa using ha) (by simpa using hb)⟩
  |[],_::_,hl,_=>by simp at hl
  |_::_,[],hl,_=>by simp at hl
theorem bz.rep{w:World}{S S':Nat->Prop}{d:Nat->List Nat}(hS:∀b,S b->S' b):(t:Ty)->(ε:EI)->(π:List Nat)->(x:t.den)->(y:t.Refs)->bz w S d t ε π x y->bD w S' t x y
  |.one _ _ _,_,_,_,_,_=>trivial
  |.arr _ _ _ _ _,_,_,_,_,_=>trivial
  |.unit,_,_,_,_,_=>trivial
  |.pair a b,ε,π,x,y,h=>⟨bz.rep hS a _ _ _ _ h.1,bz.rep hS b _ _ _ _ h.2⟩
  | .slice t,ε,π,xs,h,hh=>by
    rcases hh with⟨rfl,rfl⟩|⟨e,s,he,ys,h1,h2,h3⟩
    ·exact⟨[],trivial,rfl,by simp,by simp[maxLen],.inl ⟨trivial,rfl⟩⟩
    · refine⟨ys,jj h1 λj x y hx hy=>bz.rep hS t s (j::π) x y (h3 j x y hx hy),?_⟩
      obtain⟨g,cap,cur,rfl,g2,g3,g4,g5,g6,g7,g8⟩:=h2
      exact⟨rfl,g3,g4,.inr ⟨g,0,cur,e,(0,0),rfl,hS g g7,g2,by grind,by simpa using g6⟩⟩
def eW(t:Ty)(xs:List t.den)(ys:List t.Refs)(k:Nat)(cs:List Value):List Value:=cellsOf t (xs.take k) (ys.take k)++cs++cellsOf t (xs.drop (k+1)) (ys.drop (k+1))
def jf(w:World)(S:Nat->Prop)(t:Ty)(e:TypeId)(xs:List t.den)(v:Hd)(k:Nat)(cs:List Value):Prop:=
  ∃ (d:Nat->List Nat) (e0:TypeId) (s:EI) (ys:List t.Refs),fR e=.row e0 s/\ys.length=xs.length/\k<xs.length/\cs.length=t.sz/\FP w S d [] e0 t.sz v xs.length (eW t xs ys k cs) /\
    ∀(j:Nat) (x:t.den) (y:t.Refs),j≠k->xs[j]?=some x->ys[j]?=some y->bz w S d t s [j] x y
theorem jf.keep{w w':World}{S S':Nat->Prop}{t:Ty}{e:TypeId}{xs:List t.den}{v:Hd}{k:Nat}{cs:List Value}(hk:ij w w' S S')
    (h:jf w S t e xs v k cs):jf w' S' t e xs v k cs:=by
  obtain⟨d,e0,s,ys,h1,h2,h3,h4,h5,h6⟩:=h;exact⟨d,e0,s,ys,h1,h2,h3,h4,h5.keep hk,λj x y hj hx hy=>bz.keep hk t s _ x y (h6 j x y hj hx hy)⟩
def cC(w:World)(S:Nat->Prop)(t:Ty)(ε:EI)(x:t.den)(y:t.Refs):Prop:=∃d:Nat->List Nat,bz w S d t ε [] x y
theorem cC.keep{w w':World}{S S':Nat->Prop}{t:Ty}{ε:EI}{x:t.den}{y:t.Refs}(hk:ij w w' S S')(h:cC w S t ε x y):cC w' S' t ε x y:=h.imp λ_ h=>bz.keep hk t ε [] x y h
def sZ(w:World)(S:Nat->Prop)(b:Nat)(es:List (Value×Value)):Prop:=
  ∃(arr:Array MapEntry) (clock:Nat),w.heap[b]?=some (.map arr clock)/\arr.toList.map (λe=>(e.key,e.val))=es/\(∀e∈arr.toList,e.born<clock)/\(arr.toList.map (·.born)).Nodup/\S b
theorem sZ.keep{w w':World}{S S':Nat->Prop}{b:Nat}{es:List (Value×Value)}(hk:ij w w' S S')(h:sZ w S b es):sZ w' S' b es:=by obtain⟨arr,clock,h1,h2,h3,h4,h5⟩:=h;obtain⟨k1,k2⟩:=hk b (aaA.1 h1).1 h5;exact⟨arr,clock,k2.trans h1,h2,h3,h4,k1⟩
def xb(w:World)(S SK:Nat->Prop)(t:Ty)(e:TypeId)(xs:List t.den)(v:Hd)(m:Int):Prop:=
  (v=⟨none,0,0⟩/\xs=[])\/∃(d:Nat->List Nat) (e0:TypeId) (s:EI) (ys:List t.Refs),fR e=.row e0 s/\ys.length=xs.length/\FP w S d [] e0 t.sz v xs.length (cellsOf t xs ys) /\
    (∀(j:Nat) (x:t.den) (y:t.Refs),(j:Int)<m->xs[j]?=some x->ys[j]?=some y->bz w S d t s [j] x y)/\(∀(j:Nat) (x:t.den) (y:t.Refs),m<=(j:Int)->xs[j]?=some x->ys[j]?=some y->bD w SK t x y)
theorem xb.keep{w w':World}{S S' SK SK':Nat->Prop}{t:Ty}{e:TypeId}{xs:List t.den}{v:Hd}{m:Int}(hk:ij w w' S S')(hk2:ij w w' SK SK')(h:xb w S SK t e xs v m):xb w' S' SK' t e xs v m:=by
  rcases h with h|⟨d,e0,s,ys,h1,h2,h3,h4,h5⟩
  ·exact .inl h
  ·refine .inr ⟨d,e0,s,ys,h1,h2,h3.keep hk,λj x y hj hx hy=>bz.keep hk t s _ x y (h4 j x y hj hx hy),λj x y hj hx hy=>bD.keep hk2 t x y (h5 j x y hj hx hy)⟩
inductive HA:Type 1
  |pt (t:Ty) (e:TypeId) (i:Nat) (K:List Nat) (xs:List t.den) (v:Hd) (m:Int)
  |mp (i b:Nat) (es:List (Value×Value))
  |tr (t:Ty) (e:TypeId) (i:Nat) (K:List Nat) (xs:List t.den) (v:Hd)
  |hol (t:Ty) (e:TypeId) (i:Nat) (xs:List t.den) (v:Hd) (k:Nat) (cs:List Value)
  |rep (t:Ty) (K:List Nat) (xs:List t.den) (v:Hd)
  |own (t:Ty) (e:TypeId) (i:Nat) (K:List Nat) (xs:List t.den) (v:Hd)
  |box (i b:Nat) (cs:List Value)
  |elem (t:Ty) (K:List Nat) (x:t.den) (p:Addr)
  |old (w0:World) (c0:aS)
  |pure (p:Prop)
  |gl (g n:Nat) (cs:List Value)
  |lp (b:Nat) (o:Obj)
def HA.holds(w:World)(c:aS):HA->Prop
  |.pt t e i K xs v m=>xb w (λb=>c b=i) (λb=>c b∈K) t e xs v m
  |.tr t e i _ xs v=>cC w (λb=>c b=i) (.slice t) (fR e) xs v
  |.hol t e i xs v k cs=>jf w (λb=>c b=i) t e xs v k cs
  |.mp i b es=>sZ w (λb=>c b=i) b es
  |.rep t K xs v=>bD w (λb=>c b∈K) (.slice t) xs v
  |.own t e i K xs v=>∃ys,bX (bD w (λb=>c b∈K) t) xs ys/\uY w e t.sz v.val xs.length (cellsOf t xs ys)/\∀g,v.val.ownBlock=some g->c g=i
  |.box i b cs=>(∃ty,w.heap[b]?=some (.cells cs.toArray ty (0,0)))/\c b=i
  |.elem t K x p=>∃y b off arr ty fz,p=⟨b,off,none⟩/\c b∈K/\w.heap[b]?=some (.cells arr ty fz)/\off+t.sz<=arr.size /\
      (arr.toList.drop off).take t.sz=t.fill x y/\bD w (λb=>c b∈K) t x y
  |.old w0 c0=>w0.heap.size<=w.heap.size/\(∀b,b<w0.heap.size->c0 b<=1->w.heap[b]?=w0.heap[b]?/\c b=c0 b)/\(∀b,b<w.heap.size->(b<w0.heap.size->2<=c0 b)->2<=c b)/\gv w0 w
  |.pure p=>p
  |.gl g n cs=>(∃ty fz,w.heap[g]?=some (.cells cs.toArray ty fz))/\c g<=1/\n<=maxLen
  |.lp b o=>w.heap[b]?=some o/\c b=0
def HA.uses:HA->List Nat
  |.pt _ _ i K _ _ _=>i::K
  |.tr _ _ i K _ _=>i::K
  |.hol _ _ i _ _ _ _=>[i]
  |.mp i _ _=>[i]
  |.rep _ K _ _=>K
  |.own _ _ i K _ _=>i::K
  |.box i _ _=>[i]
  |.elem _ K _ _=>K
  |.old _ _=>[0,1]
  |.pure _=>[]
  |.gl _ _ _=>[0,1]
  |.lp _ _=>[0]
structure Stp(κ:List Nat)(w:World)(c:aS)(w':World)(c':aS):Prop where
  size:w.heap.size<=w'.heap.size
  col:∀b,b<w.heap.size->c b∉κ->c' b=c b
  same:∀b,b<w.heap.size->c b∉κ->w'.heap[b]?=w.heap[b]?
  two:∀b,b<w'.heap.size->(b<w.heap.size->c b∈κ/\2<=c b)->2<=c' b
  env:gv w w'
theorem Stp.mk0{κ:List Nat}{w:World}{c:aS}{w':World}{c':aS}(size:w.heap.size<=w'.heap.size)(col:∀b,b<w.heap.size->c' b=c b)(same:∀b,b<w.heap.size->c b∉κ->w'.heap[b]?=w.heap[b]?)
    (two:∀b,w.heap.size<=b->b<w'.heap.size->2<=c' b) (env:gv w w'):Stp κ w c w' c' :=
  ⟨size,λb hb _=>col b hb,same,λb hb h=>if hlt:b<w.heap.size then(col b hlt).symm▸(h hlt).2 else two b (by omega) hb,env⟩
theorem Stp.refl(w:World)(c:aS):Stp [] w c w c:=.mk0 (Z0 _) (λ_ _=>rfl) (λ_ _ _=>rfl) (λb h1 h2=>by omega) (gv.refl w)
def HA.nold:HA->Bool
  |.old _ _=>false
  |_=>true
structure Stq(κ:List Nat)(w:World)(c:aS)(w':World)(c':aS):Prop where
  col:∀b,b<w.heap.size->c b∉κ->c' b=c b
  same:∀b,b<w.heap.size->c b∉κ->w'.heap[b]?=w.heap[b]?
theorem Stp.q{κ:List Nat}{w:World}{c:aS}{w':World}{c':aS}(h:Stp κ w c w' c'):Stq κ w c w' c':=⟨h.col,h.same⟩
theorem Stq.keeps{κ:List Nat}{w:World}{c:aS}{w':World}{c':aS}(h:Stq κ w c w' c'){K:List Nat}(hK:∀k∈K,k∉κ) :
    ij w w' (λb=>c b∈K) (λb=>c' b∈K):=λb hb hc=>⟨by show c' b∈K;rw[h.col b hb (hK _ hc)];exact hc,h.same b hb (hK _ hc)⟩
theorem Stp.keeps{κ:List Nat}{w:World}{c:aS}{w':World}{c':aS}(h:Stp κ w c w' c'){K:List Nat}(hK:∀k∈K,k∉κ) :
    ij w w' (λb=>c b∈K) (λb=>c' b∈K):=h.q.keeps hK
theorem HA.stq{κ:List Nat}{w:World}{c:aS}{w':World}{c':aS}(hs:Stq κ w c w' c'):(A:HA)->A.nold=true->(∀k∈A.uses,k∉κ)->A.holds w c->A.holds w' c'
  | .tr t e i K xs v,_,hK,h=>by
    have hi:i∉κ:=hK i (by simp[HA.uses]);exact cC.keep (λb hb (hc:c b=i)=>⟨by show c' b=i;rw[hs.col b hb (by grind)];exact hc,hs.same b hb (by grind)⟩) h
  | .pt t e i K xs v m,_,hK,h=>by
    have hi:i∉κ:=hK i (by simp[HA.uses]);exact xb.keep (λb hb (hc:c b=i)=>⟨by show c' b=i;rw[hs.col b hb (by grind)];exact hc,hs.same b hb (by grind)⟩) (hs.keeps (λk hk=>hK k (by simp[HA.uses,hk]))) h
  | .hol t e i xs v k cs,_,hK,h=>by
    have hi:i∉κ:=hK i (by simp[HA.uses]);exact jf.keep (λb hb (hc:c b=i)=>⟨by show c' b=i;rw[hs.col b hb (by grind)];exact hc,hs.same b hb (by grind)⟩) h
  | .mp i b es,_,hK,h=>by
    have hi:i∉κ:=hK i (by simp[HA.uses]);exact sZ.keep (λb hb (hc:c b=i)=>⟨by show c' b=i;rw[hs.col b hb (by grind)];exact hc,hs.same b hb (by grind)⟩) h
  |.rep t K xs v,_,hK,h=>bD.keep (hs.keeps hK) (.slice t) xs v h
  | .own t e i K xs v,_,hK,⟨ys,h1,h2,h3⟩=>by
    have hi:i∉κ:=hK i (by simp[HA.uses]);have hlt:∀g,v.val.ownBlock=some g->g<w.heap.size:=λg hg=>h2.lt g hg;exact⟨ys,h1.mono (bD.keep (hs.keeps (λk hk=>hK k (by simp[HA.uses,hk]))) t),h2.same (λg hg hl=>hs.same g hl (by grind)),
      λg hg=>by rw[hs.col g (hlt g hg) (by grind)];exact h3 g hg⟩
  | .box i b cs,_,hK,⟨⟨ty,hb⟩,hc⟩=>by
    have hlt:b<w.heap.size:=(aaA.1 hb).1;exact⟨⟨ty,(hs.same b hlt (by rw[hc];exact hK i (by simp[HA.uses]))).trans hb⟩,by rw[hs.col b hlt (by rw[hc];exact hK i (by simp[HA.uses]))];exact hc⟩
  | .elem t K x p,_,hK,⟨y,b,off,arr,ty,fz,hp,hc,hb,h1,h2,h3⟩=>by
    have hlt:b<w.heap.size:=(aaA.1 hb).1;exact⟨y,b,off,arr,ty,fz,hp,by rw[hs.col b hlt (hK _ hc)];exact hc,(hs.same b hlt (hK _ hc)).trans hb,h1,h2,bD.keep (hs.keeps hK) t x y h3⟩
  |.pure _,_,_,h=>h
  | .gl g n cs,_,hK,⟨⟨ty,fz,hb⟩,hc,hn⟩=>by
    have hlt:g<w.heap.size:=(aaA.1 hb).1;have hk:c g∉κ:=by grind[HA.uses]
    exact⟨⟨ty,fz,(hs.same g hlt hk).trans hb⟩,by rw[hs.col g hlt hk];exact hc,hn⟩
  | .lp b o,_,hK,h=>by
    have hlt:b<w.heap.size:=(aaA.1 h.1).1;have hk:c b∉κ:=by have:=h.2;grind[HA.uses]
    exact⟨(hs.same b hlt hk).trans h.1,by rw[hs.col b hlt hk];exact h.2⟩
theorem HA.stp{κ:List Nat}{w:World}{c:aS}{w':World}{c':aS}(hs:Stp κ w c w' c')(A:HA)(hK:∀k∈A.uses,k∉κ)(h:A.holds w c):A.holds w' c':=by
  cases A with
  | old w0 c0=>
    obtain⟨h1,h2,h5,h6⟩:=h;refine⟨alC h1 hs.size,λb hb h01=>?_,λb hb hb' => ?_,h6.trans hs.env⟩
    · obtain⟨h3,h4⟩:=h2 b hb h01
      have hlt:b<w.heap.size:=ajS hb h1
      have hn:c b∉κ:=by grind[HA.uses]
      exact⟨(hs.same b hlt hn).trans h3,by rw[hs.col b hlt hn];exact h4⟩
    · by_cases hlt:b<w.heap.size
      · have h2':=h5 b hlt hb'
        by_cases hk:c b∈κ
        ·exact hs.two b hb λ_=>⟨hk,h2'⟩
        ·rw[hs.col b hlt hk];exact h2'
      ·exact hs.two b hb λh=>absurd h hlt
  |_=>exact HA.stq hs.q _ rfl hK h
def aj(w:World)(c:aS)(L:List HA):Prop:=∀A∈L,A.holds w c
theorem aj.nil(w:World)(c:aS):aj w c []:=λ_ h=>by simp at h
theorem aj.cons{w:World}{c:aS}{A:HA}{L:List HA}(h:A.holds w c)(hL:aj w c L):aj w c (A::L):=λB hB=>by
  rcases aaa.1 hB with rfl|hB
  ·exact h
  ·exact hL B hB
theorem aj.append{w:World}{c:aS}{L L':List HA}(h:aj w c L)(h':aj w c L'):aj w c (L++L'):=λA hA=>by
  rcases aad.1 hA with hA|hA
  ·exact h A hA
  ·exact h' A hA
theorem aj.at{w:World}{c:aS}{L:List HA}(h:aj w c L){k:Nat}{A:HA}(hk:L[k]?=some A):A.holds w c:=h A (aa2 hk)
theorem aj.sub{w:World}{c:aS}{L:List HA}(h:aj w c L)(is:List Nat){L':List HA}(he:is.filterMap (L[·]?)=L'):aj w c L':=by subst he;intro A hA;obtain⟨i,_,hi⟩:=List.mem_filterMap.1 hA;exact h.at hi
def qH(κ:List Nat)(A:HA):Bool:=A.uses.all λk=>κ.all λj=>!(Nat.beq k j)
def keep(κ:List Nat)(L:List HA):List HA:=L.filter (qH κ)
theorem aj.stp{κ:List Nat}{w:World}{c:aS}{w':World}{c':aS}(hs:Stp κ w c w' c'){L:List HA}(h:aj w c L):aj w' c' (keep κ L):=by intro A hA;simp only[keep,aa0]at hA;refine HA.stp hs A (λk hk hκ=>?_) (h A hA.1);have:=Zy.1 (Zy.1 hA.2 k hk) k hκ;simp at this
theorem aj.stp0{w:World}{c:aS}{w':World}{c':aS}(hs:Stp [] w c w' c'){L:List HA}(h:aj w c L):aj w' c' L:=
  λA hA=>HA.stp hs A (by simp) (h A hA)
def cJ(P:Program)(ρ:cV)(o:Oper)(L:List HA)(κ:List Nat){Y:Type}(val:Y->Value)(Φ:Y->List HA):Prop:=
  ∀ (a:Act) (ev:Operand->Value) (w:World) (c:aS) (next:Act->World->Prop) (Q:Exit->Act->World->Prop),ev=aJ ρ->aj w c L ->
    (∀y w' c',Stp κ w c w' c'->aj w' c' (Φ y)->next (a.put o.dst (val y)) w') ->
    o.uponIn Fence.wide 0 P a next Q ((execOp ev o).run P w)
def aX(P:Program)(ρ:cV)(o:Oper)(L:List HA)(v:Value):Prop:=
  ∀(ev:Operand->Value) (w:World) (c:aS),ev=aJ ρ->aj w c L->(execOp ev o).run P w=.ok (.value v) w
theorem aX.op{P:Program}{ρ:cV}{o:Oper}{L:List HA}{v:Value}(h:aX P ρ o L v):cJ P ρ o L [] (λ_:Unit=>v) (λ_=>[]):=by
  intro a ev w c next Q ha hL hk
  rw[h ev w c ha hL];exact hk () w c (Stp.refl w c) (aj.nil _ _)
def Sim(P:Program)(n:Nat)(cd:Code)(Q:Exit->Act->World->Prop)(ρ:cV)(L:List HA):Prop:=
  ∀a w c,Rel n ρ a->aj w c L->cd.wp P Q a w
section
variable {P:Program} {n:Nat} {Q:Exit->Act->World->Prop} {ρ:cV} {L:List HA} {ops:Array Oper} {rest:List Oper} {o:Oper}
end
def HA.ren(g:Nat->Nat):HA->HA
 |.tr t e i K xs v=>.tr t e (g i) (K.map g) xs v
 |.pt t e i K xs v m=>.pt t e (g i) (K.map g) xs v m
 |.hol t e i xs v k cs=>.hol t e (g i) xs v k cs
 |.mp i b es=>.mp (g i) b es
 |.rep t K xs v=>.rep t (K.map g) xs v
 |.own t e i K xs v=>.own t e (g i) (K.map g) xs v
 |.box i b cs=>.box (g i) b cs
 |.elem t K x p=>.elem t (K.map g) x p
 |.old w0 S=>.old w0 S
 |.pure p=>.pure p
 |.gl g n cs=>.gl g n cs
 |.lp b o=>.lp b o
structure Gd(g:Nat->Nat):Prop where
 z:g 0=0
 o:g 1=1
 two:∀k,2<=k->2<=g k
theorem HA.ren_holds{g:Nat->Nat}(hg:Gd g){w:World}{c:aS}:(A:HA)->A.holds w c->(A.ren g).holds w (λb=>g (c b))
 |.tr t e i K xs v,h=>cC.keep (λb _ (hc:c b=i)=>⟨by grind,rfl⟩) h
 |.hol t e i xs v k cs,h=>jf.keep (λb _ (hc:c b=i)=>⟨by grind,rfl⟩) h
 |.pt t e i K xs v m,h=>xb.keep (S:=λb=>c b=i) (SK:=λb=>c b∈K) (λb _ (hc:c b=i)=>⟨by grind,rfl⟩) (λb _ hb=>⟨ZA.2 ⟨_,hb,rfl⟩,rfl⟩) h
 |.mp i b es,h=>sZ.keep (S':=λb=>g (c b)=g i) (λb _ (hc:c b=i)=>⟨by grind,rfl⟩) h
 |.rep t K xs v,h=>bD.keep (S:=λb=>c b∈K) (λb _ hb=>⟨ZA.2 ⟨_,hb,rfl⟩,rfl⟩) (.slice t) xs v h
 |.own t e i K xs v,⟨ys,h1,h2,h3⟩=>⟨ys,h1.mono (bD.keep (S:=λb=>c b∈K) (λb _ hb=>⟨ZA.2 ⟨_,hb,rfl⟩,rfl⟩) t),h2,λb hb=>by grind⟩
 |.box i b cs,⟨h1,h2⟩=>⟨h1,by grind⟩
 |.elem t K x p,⟨y,b,off,arr,ty,fz,hp,hc,h1,h2,h3,h4⟩=>
  ⟨y,b,off,arr,ty,fz,hp,ZA.2 ⟨_,hc,rfl⟩,h1,h2,h3,bD.keep (S:=λb=>c b∈K) (λb _ hb=>⟨ZA.2 ⟨_,hb,rfl⟩,rfl⟩) t x y h4⟩
 | .old w0 c0,⟨h1,h2,h3,h4⟩=>⟨h1,λb hb h01=>⟨(h2 b hb h01).1,by
   show g (c b)=_;rw[(h2 b hb h01).2];rcases(show c0 b=0\/c0 b=1 by omega)with e|e<;>rw[e]
   ·exact hg.z
   ·exact hg.o⟩,λb hb hb'=>hg.two _ (h3 b hb hb'),h4⟩
 |.pure _,h=>h
 | .gl b n cs,⟨h1,h2,h3⟩=>⟨h1,by
   show g (c b)<=1;rcases(show c b=0\/c b=1 by omega)with e|e<;>rw[e]
   ·rw[hg.z];omega
   ·rw[hg.o];omega,h3⟩
 | .lp b o,⟨h1,h2⟩=>⟨h1,by
   show g (c b)=0;rw[h2,hg.z]⟩
theorem aj.ren{g:Nat->Nat}(hg:Gd g){w:World}{c:aS}{L:List HA}(h:aj w c L):aj w (λb=>g (c b)) (L.map (HA.ren g)):=by intro A hA;obtain⟨B,hB,rfl⟩:=ZA.1 hA;exact B.ren_holds hg (h B hB)
def pJ(l:List (Nat×Nat))(d:Nat)(k:Nat):Nat:=
 match k with
 |0=>0
 |1=>1
 |_=>match l with
  |[]=>d
  |(a,b)::r=>cond (Nat.beq k a) b (pJ r d k)
theorem KO{l:List (Nat×Nat)}{d:Nat}(h:(d::l.map (·.2)).all (λx=>Nat.ble 2 x)=true):Gd (pJ l d):=by
 have hd:2<=d:=Zh (Zy.1 h d (by simp));have hl:∀p∈l,2<=p.2:=λp hp=>Zh (Zy.1 h p.2 (by grind));refine⟨by simp[pJ],by simp[pJ],?_⟩;intro k hk;clear h;induction l with
 |nil=>
  match k,hk with
  |k+2,_=>exact hd
 | cons p r ih=>
  obtain⟨a,b⟩:=p;match k,hk with
  |k+2,hk=>
   simp only[pJ];cases hb:Nat.beq (k+2) a
   ·grind
   simp_all
theorem aqZ{K Ka:List Nat}(h:K.all (λk=>Ka.any λj=>Nat.beq k j)=true){k:Nat}(hk:k∈K):k∈Ka:=by simp_all
theorem BT{w:World}{c:aS}{t:Ty}{e:TypeId}{i:Nat}{K:List Nat}{xs:List t.den}{v:Hd}(h:HA.holds w c (.own t e i K xs v)):HA.holds w c (.rep t (i::K) xs v):=by
 obtain⟨ys,h1,h2,h3⟩:=h;obtain⟨a,n,cap⟩:=v;refine⟨ys,h1.mono (bD.keep (λb _ hb=>⟨Zf _ hb,rfl⟩) t),?_⟩;rcases h2.2 with⟨hv,hn⟩|⟨g,cap',cur,ty,fz,hv,hg,_,hle,hm,hsz,hcells⟩
 ·simp only[Hd.val,Value.slice.injEq]at hv;obtain⟨rfl,rfl,rfl⟩:=hv;exact⟨by simp[hn],by simp[hn],by simp[maxLen],.inl ⟨trivial,rfl⟩⟩
 ·simp only[Hd.val,Value.slice.injEq]at hv;obtain⟨rfl,rfl,rfl⟩:=hv;exact⟨rfl,hle,hm,.inr ⟨g,0,cur,ty,fz,rfl,by show c g∈i::K;rw[h3 g rfl];simp,hg,by simp[hsz],by grind⟩⟩
def Fj(A A':HA):Prop:=∀w c,A.holds w c->A'.holds w c
theorem Ao{t:Ty}{e:TypeId}{i:Nat}{K K':List Nat}{xs:List t.den}{v:Hd}(h:t.pureB=true):Fj (.own t e i K xs v) (.own t e i K' xs v):=
 λ_ _ ⟨ys,h1,h2,h3⟩=>⟨ys,h1.mono (λx y _=>bD.pure t x y h),h2,h3⟩
theorem wi{A:HA}:Fj A A:=λ_ _ h=>h
def EP(A:HA):Prop:=∀w c,A.holds w c
theorem ra{t:Ty}{K:List Nat}:EP (.rep t K [] ⟨none,0,0⟩):=λ_ _=>⟨[],trivial,rfl,by simp,by simp[maxLen],.inl ⟨trivial,rfl⟩⟩
theorem Cv{t:Ty}{e:TypeId}{i:Nat}{K:List Nat}:EP (.own t e i K [] ⟨none,0,0⟩):=λ_ _=>⟨[],trivial,⟨by simp[cellsOf],.inl ⟨rfl,rfl⟩⟩,λg hg=>by simp[Value.ownBlock]at hg⟩
def nR(L:List HA):List HA->Prop
 |[]=>True
 |A'::r=>((∃(k:Nat) (A:HA),L[k]?=some A/\Fj A A')\/EP A')/\nR L r
theorem nR.heap{w:World}{c:aS}{L:List HA}(hL:aj w c L):∀{l:List HA},nR L l->aj w c l
 |[],_=>aj.nil _ _
 |_::_,⟨.inl ⟨_,_,hk,hc⟩,hr⟩=>aj.cons (hc w c (hL.at hk)) (hr.heap hL)
 |_::_,⟨.inr hf,hr⟩=>aj.cons (hf w c) (hr.heap hL)
def mN{S R:Type}(f:S->Option (S⊕R)):Nat->S->Option R
 |0,_=>none
 |k+1,s=>(f s).bind λ| .inl s'=>mN f k s'|.inr r=>some r
section
variable {P:Program} {n:Nat} {Q:Exit->Act->World->Prop} {ρ:cV} {L:List HA}
theorem bind_some{α β:Type}{m:Option α}{k:α->Option β}{r:β}(h:m.bind k=some r):∃s,m=some s/\k s=some r:=aeh.1 h
theorem akK{f:FuncId}{fn:Func}{cd:Code}{R:Ending->World->Prop}(hf:P.funcs[f]?=some fn)(hb:fn.body=some cd)(hn:fn.ntmps=n)(args:List Value){w0:World}{c0:aS}
  (hargs:Nat.ble args.length n=true) (hL:aj w0 c0 L) (h:Sim P n cd (bodyPost P fn R) (λt=>args.getD t undef) (.old w0 c0::L)):Calls P f args.toArray w0 R:=by
 refine calls_of_wp hf hb (h _ w0 c0 ⟨rfl,?_,λt=>?_⟩ (aj.cons ⟨Z0 _,λb _ _=>⟨rfl,rfl⟩,λb h1 h2=>h2 h1,gv.refl _⟩ hL))
 ·simp_all
 ·simp only[ac1,aav,Array.getElem?_append,ajW,aeu,akB];grind
def amS(K:List Nat)(A A':HA):Prop:=∀w c,A.holds w c->A'.holds w (ph λb=>c b∈K)
def Tz(L:List HA)(Ka:List Nat):List HA->Prop
 |[]=>True
 |A'::r=>((∃(k:Nat) (A:HA),L[k]?=some A/\amS Ka A A')\/EP A')/\Tz L Ka r
theorem Tz.heap{Ka:List Nat}{w:World}{c:aS}(hL:aj w c L):∀{l:List HA},Tz L Ka l->aj w (ph λb=>c b∈Ka) l
 |[],_=>aj.nil _ _
 |_::_,⟨.inl ⟨_,_,hk,hc⟩,hr⟩=>aj.cons (hc w c (hL.at hk)) (hr.heap hL)
 |_::_,⟨.inr hf,hr⟩=>aj.cons (hf w _) (hr.heap hL)
def instK(N:Nat)(Ka:List Nat):List Nat->List Nat
 |[]=>[]
 |0::r=>instK N Ka r
 |1::r=>Ka++instK N Ka r
 |(k+2)::r=>(N+k)::instK N Ka r
def HA.inst(N:Nat)(Ka:List Nat):HA->HA
 |.tr t e i K xs v=>.tr t e (N+(i-2)) (instK N Ka K) xs v
 |.pt t e i K xs v m=>.pt t e (N+(i-2)) (instK N Ka K) xs v m
 |.hol t e i xs v k cs=>.hol t e (N+(i-2)) xs v k cs
 |.mp i b es=>.mp (N+(i-2)) b es
 |.rep t K xs v=>.rep t (instK N Ka K) xs v
 |.own t e i K xs v=>.own t e (N+(i-2)) (instK N Ka K) xs v
 |.box i b cs=>.box (N+(i-2)) b cs
 |.elem t K x p=>.elem t (instK N Ka K) x p
 |.old w0 S=>.old w0 S
 |.pure p=>.pure p
 |.gl g n cs=>.gl g n cs
 |.lp b o=>.lp b o
def HA.leaves:HA->Bool
 |.tr _ _ i K _ _=>Nat.ble 2 i&&K.all λk=>Nat.ble 1 k
 |.pt _ _ i K _ _ _=>Nat.ble 2 i&&K.all λk=>Nat.ble 1 k
 |.hol _ _ i _ _ _ _=>Nat.ble 2 i
 |.mp i _ _=>Nat.ble 2 i
 |.rep _ K _ _=>K.all λk=>Nat.ble 1 k
 |.own _ _ i K _ _=>Nat.ble 2 i&&K.all λk=>Nat.ble 1 k
 |.box i _ _=>Nat.ble 2 i
 |.elem _ K _ _=>K.all λk=>Nat.ble 1 k
 |.old _ _=>false
 |.pure _=>true
 |.gl _ _ _=>false
 |.lp _ _=>false
theorem instK_mem{N:Nat}{Ka:List Nat}:∀{K:List Nat} {k:Nat},k+2∈K->N+k∈instK N Ka K
 |0::r,k,h=>by
  rcases aaa.1 h with h|h
  ·omega
  ·exact instK_mem (K:=r) h
 |1::r,k,h=>by
  rcases aaa.1 h with h|h
  ·omega
  ·exact Z7 _ (instK_mem (K:=r) h)
 |(j+2)::r,k,h=>by
  rcases aaa.1 h with h|h
  ·simp only[instK];grind
  ·exact Zf _ (instK_mem (K:=r) h)
theorem instK_one{N:Nat}{Ka:List Nat}:∀{K:List Nat} {k:Nat},1∈K->k∈Ka->k∈instK N Ka K
 |0::r,k,h,hk=>by
  rcases aaa.1 h with h|h
  ·omega
  ·exact instK_one (K:=r) h hk
 |1::r,k,_,hk=>ZW _ hk
 |(j+2)::r,k,h,hk=>by
  rcases aaa.1 h with h|h
  ·omega
  ·exact Zf _ (instK_one (K:=r) h hk)
def dS(t:Ty)(e:TypeId)(i:Nat)(K:List Nat)(xs:List t.den)(v:Hd):HA:=match eM e with
 |true=>.tr t e i K xs v
 |false=>.own t e i K xs v
section
variable {t:Ty} {e:TypeId} {i:Nat} {K:List Nat} {xs:List t.den} {v:Hd}
theorem gZ(h:eM e=true):dS t e i K xs v=.tr t e i K xs v:=by unfold dS;rw[h]
theorem dx(h:eM e=false):dS t e i K xs v=.own t e i K xs v:=by unfold dS;rw[h]
theorem X6:(dS t e i K xs v).uses=i::K:=by unfold dS;cases eM e<;>rfl
theorem YO{g:Nat->Nat}:(dS t e i K xs v).ren g=dS t e (g i) (K.map g) xs v:=by unfold dS;cases eM e<;>rfl
theorem zZ{N:Nat}{Ka:List Nat}:(dS t e i K xs v).inst N Ka=dS t e (N+(i-2)) (instK N Ka K) xs v:=by unfold dS;cases eM e<;>rfl
theorem wR:(dS t e i K xs v).leaves=(Nat.ble 2 i&&K.all λk=>Nat.ble 1 k):=by unfold dS;cases eM e<;>rfl
theorem eU{e:Nat}(h:Nat.blt e 1048576=true):eM e=false:=by
 have h1:e+1<=1048576:=Zh h;cases hb:eM e
 ·rfl
 ·have:1099511627776<=e:=Zh hb;omega
theorem KM{w:World}{c:aS}(h:HA.holds w c (.tr t e i K xs v)):HA.holds w c (.rep t (i::K) xs v):=by obtain⟨d,h⟩:=h;exact bz.rep (S':=λb=>c b∈i::K) (λb (hb:c b=i)=>by grind) (.slice t) _ _ _ _ h
theorem Kj{w:World}{c:aS}(h:HA.holds w c (dS t e i K xs v)):HA.holds w c (.rep t (i::K) xs v):=by grind[dS,KM,BT]
theorem sA:EP (dS t e i K [] ⟨none,0,0⟩):=by
 intro w c;unfold dS;split
 ·exact⟨λ_=>[],.inl ⟨rfl,rfl⟩⟩
 ·exact Cv w c
theorem KG{w:World}{c c':aS}{i':Nat}{K':List Nat}(hi:∀b,b<w.heap.size->c b=i->c' b=i')(hK:∀b,b<w.heap.size->c b∈K->c' b∈K')(h:HA.holds w c (dS t e i K xs v)):HA.holds w c' (dS t e i' K' xs v):=by
 unfold dS at h|-;split at h
 ·exact cC.keep (λb hb hc=>⟨hi b hb hc,rfl⟩) h
 ·obtain⟨ys,h1,h2,h3⟩:=h;exact⟨ys,h1.mono (bD.keep (λb hb hc=>⟨hK b hb hc,rfl⟩) t),h2,λg hg=>hi g (h2.lt g hg) (h3 g hg)⟩
end
end
def TI(P:Program)(t:TypeId)(sz by_:Nat)(z:Value):Prop:=(P.info? t).map (λi=>(i.zero,i.size,i.bytes))=some (some z,sz,by_)
theorem TI.get{P:Program}{t:TypeId}{sz by_:Nat}{z:Value}(h:TI P t sz by_ z):∃i,P.info? t=some i/\i.zero=some z/\i.size=sz/\i.bytes=by_:=by unfold TI at h;simp_all
def jF:TypeDesc->Bool
 |.struct _=>true
 |.array _ _=>true
 |_=>false
def sb:TypeDesc->Bool
 |.interface _=>true
 |_=>false
section
variable {P:Program} {ρ:cV} {L:List HA} {o:Oper} {N:Nat}
theorem amt{x:Operand}{v:Value}(ho:o.op=.move x)(hx:aJ ρ x=v):aX P ρ o L v:=λev w c he _=>by subst he;simp[execOp,ho,hx]
theorem ab9{x:Operand}{v:Value}(ho:o.op=.assign x)(hx:aJ ρ x=v):aX P ρ o L v:=λev w c he _=>by subst he;simp[execOp,ho,hx]
theorem anm{c x y:Operand}{b p q:Bool}(ho:o.op=.pick c x y)(hc:aJ ρ c=.bool b)(hx:b=true->aJ ρ x=.bool p)(hy:b=false->aJ ρ y=.bool q) :
  aX P ρ o L (.bool (bif b then p else q)):=λev w c he _=>by
 subst he;cases b
 ·simp[execOp,ho,hc,asBool,hy rfl]
 ·simp[execOp,ho,hc,asBool,hx rfl]
theorem cD{w:World}{op:BinOp}{t:TypeId}{x y:Operand}{k k':IntKind}{a b:Int}:(eqGuard op t x y (.int k a) (.int k' b)).run P w=.ok () w:=by cases op<;>simp[eqGuard]
theorem aql{t t':TypeId}{x y:Operand}{k:IntKind}{a b:Int}(ho:o.op=.binOp .add t x y t')(hx:aJ ρ x=.int k a)(hy:aJ ρ y=.int k b) :
  aX P ρ o L (.int k (k.wrap (a+b))):=λev w c he _=>by
 subst he;simp[execOp,ho,hx,hy,cD,binOp,Op.intArith,Result.andThen]
theorem aqr{t t':TypeId}{x y:Operand}{k:IntKind}{a b:Int}(ho:o.op=.binOp .sub t x y t')(hx:aJ ρ x=.int k a)(hy:aJ ρ y=.int k b) :
  aX P ρ o L (.int k (k.wrap (a-b))):=λev w c he _=>by
 subst he;simp[execOp,ho,hx,hy,cD,binOp,Op.intArith,Result.andThen]
theorem aqc{t t':TypeId}{x y:Operand}{k:IntKind}{a b:Int}(ho:o.op=.binOp .mul t x y t')(hx:aJ ρ x=.int k a)(hy:aJ ρ y=.int k b) :
  aX P ρ o L (.int k (k.wrap (a*b))):=λev w c he _=>by
 subst he;simp[execOp,ho,hx,hy,cD,binOp,Op.intArith,Result.andThen]
theorem aqz{t t':TypeId}{x y:Operand}{k:IntKind}{a b:Int}(ho:o.op=.binOp .quo t x y t')(hx:aJ ρ x=.int k a)(hy:aJ ρ y=.int k b)(hb:(b==0)=false) :
  aX P ρ o L (.int k (k.wrap (a.tdiv b))):=λev w c he _=>by
 have:¬b=0:=by simpa using hb
 subst he;simp[execOp,ho,hx,hy,cD,binOp,Op.intDiv,Result.andThen,this]
theorem aqq{t t':TypeId}{x y:Operand}{k:IntKind}{a b:Int}(ho:o.op=.binOp .rem t x y t')(hx:aJ ρ x=.int k a)(hy:aJ ρ y=.int k b)(hb:(b==0)=false) :
  aX P ρ o L (.int k (a.tmod b)):=λev w c he _=>by
 have:¬b=0:=by simpa using hb
 subst he;simp[execOp,ho,hx,hy,cD,binOp,Op.intDiv,Result.andThen,this]
theorem aqw{t t':TypeId}{x y:Operand}{k:IntKind}{a b:Int}(ho:o.op=.binOp .lss t x y t')(hx:aJ ρ x=.int k a)(hy:aJ ρ y=.int k b) :
  aX P ρ o L (.bool (decide (a<b))):=λev w c he _=>by
 subst he;simp[execOp,ho,hx,hy,cD,binOp,Op.intCmp,Result.andThen]
theorem aqy{t t':TypeId}{x y:Operand}{k:IntKind}{a b:Int}(ho:o.op=.binOp .leq t x y t')(hx:aJ ρ x=.int k a)(hy:aJ ρ y=.int k b) :
  aX P ρ o L (.bool (decide (a<=b))):=λev w c he _=>by
 subst he;simp[execOp,ho,hx,hy,cD,binOp,Op.intCmp,Result.andThen]
theorem ap7{t t':TypeId}{x y:Operand}{k:IntKind}{a b:Int}(ho:o.op=.binOp .gtr t x y t')(hx:aJ ρ x=.int k a)(hy:aJ ρ y=.int k b) :
  aX P ρ o L (.bool (decide (b<a))):=λev w c he _=>by
 subst he;simp[execOp,ho,hx,hy,cD,binOp,Op.intCmp,Result.andThen]
theorem apT{t t':TypeId}{x y:Operand}{k:IntKind}{a b:Int}(ho:o.op=.binOp .geq t x y t')(hx:aJ ρ x=.int k a)(hy:aJ ρ y=.int k b) :
  aX P ρ o L (.bool (decide (b<=a))):=λev w c he _=>by
 subst he;simp[execOp,ho,hx,hy,cD,binOp,Op.intCmp,Result.andThen]
theorem apH{t t':TypeId}{x y:Operand}{k:IntKind}{a b:Int}(ho:o.op=.binOp .eql t x y t')(hx:aJ ρ x=.int k a)(hy:aJ ρ y=.int k b) :
  aX P ρ o L (.bool (a==b)):=λev w c he _=>by
 subst he;simp[execOp,ho,hx,hy,cD,binOp,Op.intCmp,Result.andThen]
theorem apC{t t':TypeId}{x y:Operand}{k:IntKind}{a b:Int}(ho:o.op=.binOp .neq t x y t')(hx:aJ ρ x=.int k a)(hy:aJ ρ y=.int k b) :
  aX P ρ o L (.bool (a != b)):=λev w c he _=>by
 subst he;simp[execOp,ho,hx,hy,cD,binOp,Op.intCmp,Result.andThen]
theorem apM{t:TypeId}{x:Operand}{b:Bool}(ho:o.op=.unOp .not t x)(hx:aJ ρ x=.bool b):aX P ρ o L (.bool (!b)):=λev w c he _=>by subst he;simp[execOp,ho,hx,Op.unary]
theorem apQ{t:TypeId}{x:Operand}{k:IntKind}{a:Int}(ho:o.op=.unOp .neg t x)(hx:aJ ρ x=.int k a):aX P ρ o L (.int k (k.wrap (0-a))):=λev w c he _=>by subst he;simp[execOp,ho,hx,Op.unary,Op.intArith]
theorem apt{s d:TypeId}{x:Operand}{k k':IntKind}{ds:TypeDesc}{a:Int}(ho:o.op=.convert s d x)(hs:P.underlying s=some ds)(hd:P.underlying d=some (.int k'))(hx:aJ ρ x=.int k a) :
  aX P ρ o L (.int k' (k'.wrap a)):=λev w c he _=>by
 subst he;simp[execOp,ho,hx,convert,run_underlying hs,run_underlying hd,Conv.intToInt,Result.andThen]
theorem Sg{t:TypeId}{e:TypeId}{x:Operand}{h:Hd}(ho:o.op=.call { callee:=.builtin .len,args:=#[x],argTypes:=#[t]})(ht:P.underlying t=some (.slice e))(hx:aJ ρ x=h.val) :
  aX P ρ o L (.int .i64 h.n):=λev w c he _=>by
 subst he;simp[execOp,ho,hx,resolve,invoke,builtin,Builtin.len_,run_underlying ht,goInt,Result.andThen]
theorem ak0{w:World}{c:aS}{t:Ty}{K:List Nat}{xs:List t.den}{h:Hd}(hA:HA.holds w c (.rep t K xs h)):h.n=xs.length:=by obtain⟨ys,_,hs,_⟩:=hA;exact hs
theorem WN{t:TypeId}{e:TypeId}{x:Operand}{h:Hd}{ty:Ty}{K:List Nat}{xs:List ty.den}(k:Nat)(hk:L[k]?=some (.rep ty K xs h))
  (ho:o.op=.call { callee:=.builtin .len,args:=#[x],argTypes:=#[t]}) (ht:P.underlying t=some (.slice e)) (hx:aJ ρ x=h.val) :
  aX P ρ o L (.int .i64 xs.length):=λev w c he hL=>by
 rw[<-ak0 (hL.at hk)];exact Sg ho ht hx ev w c he hL
theorem aqx{ts:Array TypeId}{x y:Operand}{k:IntKind}{a b:Int}(ho:o.op=.call { callee:=.builtin .max,args:=#[x,y],argTypes:=ts})(hx:aJ ρ x=.int k a)(hy:aJ ρ y=.int k b) :
  aX P ρ o L (.int k (if b>a then b else a)):=λev w c he _=>by
 subst he;simp[execOp,ho,hx,hy,resolve,invoke,builtin,run_max_int2,Result.andThen]
theorem aqv{ts:Array TypeId}{x y:Operand}{k:IntKind}{a b:Int}(ho:o.op=.call { callee:=.builtin .min,args:=#[x,y],argTypes:=ts})(hx:aJ ρ x=.int k a)(hy:aJ ρ y=.int k b) :
  aX P ρ o L (.int k (if b<a then b else a)):=λev w c he _=>by
 subst he;simp[execOp,ho,hx,hy,resolve,invoke,builtin,run_min_int2,Result.andThen]
theorem X7{x:Operand}{vs:List Value}{i:Nat}{v:Value}(ho:o.op=.extract x i)(hx:aJ ρ x=.tuple vs.toArray)(hv:vs[i]?=some v):aX P ρ o L v:=λev w c he _=>by subst he;simp[execOp,ho,hx,Instr.extract,hv]
theorem aks{t:TypeId}{x:Operand}{v:Value}{d:TypeDesc}(ho:o.op=.makeInterface t x)(ht:P.underlying t=some d)(hd:sb d=false)(hx:aJ ρ x=v) :
  aX P ρ o L (.iface t v):=λev w c he _=>by
 subst he;have:(Instr.makeInterface t v).run P w=.ok (.iface t v) w:=by unfold Instr.makeInterface;simp only[bind,Sem.run_bind',run_underlying ht,Result.andThen];cases d<;>first|rfl|simp[jF]at hd|simp[sb]at hd
 simp[execOp,ho,hx,this,Result.andThen]
theorem wE{s:TypeId}{x:Operand}{b off fo f:Nat}{fs:Array Field}{fd:Field}{sz by_:Nat}{z:Value}(ho:o.op=.fieldAddr s x f)(hs:P.underlying s=some (.struct fs))(hf:fs[f]?=some fd)
  (hi:TI P fd.type sz by_ z) (hz:Nat.beq sz 0=false) (hfo:fd.offset=fo) (hx:aJ ρ x=.pointer (some ⟨b,off,none⟩)):aX P ρ o L (.pointer (some ⟨b,off+fo,none⟩)):=λev w c he _=>by
 subst he;have htihi:=hi;clear hi;obtain⟨i,hi,_,rfl,_⟩:=htihi.get;have hz':i.size≠0:=acx hz;have hadd:(⟨b,off,none⟩:Addr).add fd.offset=⟨b,off+fo,none⟩:=by unfold Addr.add;grind
 simp[execOp,ho,hx,Instr.fieldAt,run_underlying hs,hf,Instr.sureAddr,fieldPlace,sizeOf,typeInfo,hi,hz',hadd,Result.andThen]
theorem j9{w:World}{t:TypeId}{d:TypeDesc}(ht:P.underlying t=some d)(hd:jF d=false):(isAgg t).run P w=.ok false w:=by unfold isAgg;simp only[bind,Sem.run_bind',run_underlying ht,Result.andThen];cases d<;>first|rfl|simp[jF]at hd|simp[sb]at hd
theorem xI{w:World}{t:TypeId}{d:TypeDesc}(ht:P.underlying t=some d)(hd:jF d=true):(isAgg t).run P w=.ok true w:=by unfold isAgg;simp only[bind,Sem.run_bind',run_underlying ht,Result.andThen];cases d<;>first|rfl|simp[jF]at hd|simp[sb]at hd
theorem eN(b off n:Nat):(⟨b,off,none⟩:Addr).add n=⟨b,off+n,none⟩:=by unfold Addr.add;grind
theorem lj{w:World}{b off:Nat}{arr:Array Value}{ty:TypeId}{fz:Nat×Nat}(hb:w.heap[b]?=some (.cells arr ty fz)):w.cell? ⟨b,off,none⟩=arr[off]?:=by simp[World.cell?,hb]
theorem vw{w:World}{t:TypeId}{d:TypeDesc}{a:Addr}{v:Value}(ht:P.underlying t=some d)(hd:jF d=false)
  (hc:w.cell? a=some v):(Instr.loadAt t (.pointer (some a))).run P w=.ok v w:=by
 simp[Instr.loadAt,Instr.sureAddr,loadVar,j9 ht hd,hc,Result.andThen]
theorem sF{w:World}{t:TypeId}{d:TypeDesc}{b off:Nat}{arr:Array Value}{ty:TypeId}{fz:Nat×Nat}{i:TypeInfo}{cs:List Value}(ht:P.underlying t=some d)
  (hd:jF d=true) (hi:P.info? t=some i) (hb:w.heap[b]?=some (.cells arr ty fz)) (hcs:(arr.toList.drop off).take i.size=cs) (hl:cs.length=i.size) :
  (Instr.loadAt t (.pointer (some ⟨b,off,none⟩))).run P w=.ok (.agg cs.toArray) w:=by
 have hload:=run_loadCells_list (P:=P) (w:=w) ⟨b,off,none⟩ cs (λj v hv=>by rw[eN,lj hb];grind);rw[hl]at hload;simp[Instr.loadAt,Instr.sureAddr,loadVar,xI ht hd,sizeOf,typeInfo,hi,hload,Result.andThen]
theorem Er{t:TypeId}{x:Operand}{b off i:Nat}{cs:List Value}{v:Value}{d:TypeDesc}(k:Nat)(hk:L[k]?=some (.box i b cs))(ho:o.op=.load t x)(ht:P.underlying t=some d)
  (hd:jF d=false) (hx:aJ ρ x=.pointer (some ⟨b,off,none⟩)) (hv:cs[off]?=some v):aX P ρ o L v:=λev w c he hL=>by
 subst he;obtain⟨⟨ty,hb⟩,_⟩:=hL.at hk;simp[execOp,ho,hx,vw ht hd (v:=v) (w:=w) (by rw[lj hb];simpa using hv),Result.andThen]
theorem OV{t:TypeId}{x:Operand}{b off i:Nat}{cs cs':List Value}{d:TypeDesc}{sz by_:Nat}{z:Value}(k:Nat)(hk:L[k]?=some (.box i b cs))(ho:o.op=.load t x)(ht:P.underlying t=some d)
  (hd:jF d=true) (hi:TI P t sz by_ z) (hx:aJ ρ x=.pointer (some ⟨b,off,none⟩))
  (hv:(cs.drop off).take sz=cs') (hl:Nat.beq cs'.length sz=true):aX P ρ o L (.agg cs'.toArray):=λev w c he hL=>by
 subst he;have htihi:=hi;clear hi;obtain⟨inf,hi,_,rfl,_⟩:=htihi.get;obtain⟨⟨ty,hb⟩,_⟩:=hL.at hk;simp[execOp,ho,hx,sF ht hd hi hb (cs:=cs') (off:=off) (by simpa using hv) (f9 hl),Result.andThen]
theorem ul{w:World}{c:aS}(hN:Nat.ble 2 N=true)(ob:Obj):Stp [] w c (w.alloc ob) (λb=>if b<w.heap.size then c b else N):=by have h2:=Zh hN;refine .mk0 (by simp) (λb hb=>by simp[hb]) (λb hb _=>heap_alloc_old w ob hb) (λb hb _=>?_) ⟨rfl,rfl⟩;grind
theorem Xt{a:Act}{ev:Operand->Value}{w:World}{c:aS}{next:Act->World->Prop}{Q:Exit->Act->World->Prop}{cs:List Value}{ty:TypeId}(hN:Nat.ble 2 N=true)
  (hrun:(execOp ev o).run P w=.ok (.value (.pointer (some ⟨w.heap.size,0,none⟩))) (w.alloc (.cells cs.toArray ty)))
  (hk:∀(y:Nat) w' c',Stp [] w c w' c'->aj w' c' [.box N y cs]->next (a.put o.dst (.pointer (some ⟨y,0,none⟩))) w') :
  o.uponIn Fence.wide 0 P a next Q ((execOp ev o).run P w):=by
 rw[hrun];exact hk w.heap.size _ _ (ul hN _) (aj.cons ⟨⟨ty,heap_alloc_new w _⟩,by simp⟩ (aj.nil _ _))
theorem abK{t:TypeId}{sz by_:Nat}{z:Value}{cs:List Value}(ho:o.op=.alloc t)(hi:TI P t sz by_ z)(hcs:z.cells=cs.toArray)(hN:Nat.ble 2 N=true) :
  cJ P ρ o L [] (λb:Nat=>.pointer (some ⟨b,0,none⟩)) (λb=>[.box N b cs]):=λa ev w c next Q _ _ hk=>by
 have htihi:=hi;clear hi;obtain⟨i,hi,hz,_,_⟩:=htihi.get;exact Xt (ty:=t) hN (by simp[execOp,ho,Instr.alloc,zeroValue,typeInfo,hi,hz,newVar,newRow,hcs]) hk
theorem anb{t:TypeId}{x:Operand}{v:Value}{cs:List Value}(ho:o.op=.box t x)(hx:aJ ρ x=v)(hcs:v.cells=cs.toArray)(hN:Nat.ble 2 N=true) :
  cJ P ρ o L [] (λb:Nat=>.pointer (some ⟨b,0,none⟩)) (λb=>[.box N b cs]):=λa ev w c next Q ha _ hk=>
 Xt (ty:=t) hN (by simp[execOp,ho,ha,hx,Instr.box,newVar,newRow,hcs]) hk
theorem Bw{l:List Value}(h:l.all Value.oneCell'=true):∀v∈l,v.oneCell'=true:=Zy.1 h
theorem wq(w:World)(g:Nat)(cs:Array Value):(w.setRow g cs).heap.size=w.heap.size:=by simp_all
theorem qI{w:World}{c:aS}{b i:Nat}{cs:Array Value}(hc:c b=i):Stp [i] w c (w.setRow b cs) c:=by refine .mk0 (by simp_all) (λ_ _=>rfl) (λb' hb' hn=>?_) (λb' h1 h2=>by rw[wq]at h2;omega) ⟨rfl,rfl⟩;grind[World.setRow]
theorem zh{t:TypeId}{x y:Operand}{b off i:Nat}{cs vs cs':List Value}{v z:Value}{sz by_:Nat}(k:Nat)(hk:L[k]?=some (.box i b cs))(ho:o.op=.store t x y)(hi:TI P t sz by_ z)
  (hx:aJ ρ x=.pointer (some ⟨b,off,none⟩)) (hy:aJ ρ y=v) (hv:v.cells=vs.toArray) (hl:Nat.beq vs.length sz=true) (hones:vs.all Value.oneCell'=true)
  (hin:Nat.ble (off+vs.length) cs.length=true) (hcs:cs.take off++vs++cs.drop (off+vs.length)=cs'):cJ P ρ o L [i] (λ_:Unit=>undef) (λ_=>[.box i b cs']):=by
 intro a ev w c next Q ha hL hn
 have htihi:=hi;clear hi;obtain⟨inf,hi,_,rfl,_⟩:=htihi.get;obtain⟨⟨ty,hb⟩,hc⟩:=hL.at hk;have hle:=Zh hin;have hst:=run_storeCells_at P b off ty vs 0 cs.toArray w hb (by grind) (Bw hones);have hrun:(execOp ev o).run P w=.ok .skip (w.setRow b cs'.toArray):=by simp only[abj]at hst;simp[execOp,ho,ha,hx,hy,Instr.storeAt,Instr.sureAddr,storeVar,hv,sizeOf,typeInfo,hi,f9 hl,hst,<-hcs,Result.andThen]
 rw[hrun];have hrow:=setRow_heap w b _ cs'.toArray ty (0,0) hb;exact hn () _ c (qI hc) (aj.cons ⟨⟨ty,hrow⟩,hc⟩ (aj.nil _ _))
end
def ae{α:Type}(xs:List α)(i:Int):Option α:=if 0<=i then xs[i.toNat]? else none
theorem lZ{α:Type}{xs:List α}{i:Int}{x:α}(h:ae xs i=some x):0<=i/\xs[i.toNat]?=some x/\i.toNat<xs.length:=by unfold ae at h;grind
def facts:(t:Ty)->List Nat->t.den->t.Refs->List HA
 |.one _ _ _,_,_,_=>[]
 |.arr _ _ _ _ _,_,_,_=>[]
 |.unit,_,_,_=>[]
 |.pair a b,K,x,y=>facts a K x.1 y.1++facts b K x.2 y.2
 |.slice t,K,xs,h=>[.rep t K xs h]
 |.node,K,x,h=>[.rep .node K x.tup.2.2.2 h]
 |.mp _ _,_,_,_=>[]
theorem pd{w:World}{c:aS}{K:List Nat}:(t:Ty)->(x:t.den)->(y:t.Refs)->bD w (λb=>c b∈K) t x y->aj w c (facts t K x y)
 |.one _ _ _,_,_,_=>aj.nil _ _
 |.arr _ _ _ _ _,_,_,_=>aj.nil _ _
 |.unit,_,_,_=>aj.nil _ _
 |.pair a b,x,y,h=>(pd a x.1 y.1 h.1).append (pd b x.2 y.2 h.2)
 |.slice _,_,_,h=>aj.cons h (aj.nil _ _)
 |.node,_,_,h=>aj.cons (ng.1 h) (aj.nil _ _)
 |.mp _ _,_,_,_=>aj.nil _ _
theorem xS{w:World}{c:aS}{K:List Nat}:(t:Ty)->(x:t.den)->(y:t.Refs)->aj w c (facts t K x y)->bD w (λb=>c b∈K) t x y
 |.one _ _ _,_,_,_=>trivial
 |.arr _ _ _ _ _,_,_,_=>trivial
 |.unit,_,_,_=>trivial
 |.pair a b,x,y,h=>⟨xS a x.1 y.1 λA hA=>h A (ZW _ hA),xS b x.2 y.2 λA hA=>h A (Z7 _ hA)⟩
 |.slice t,xs,hd,h=>h (.rep t K xs hd) (by simp[facts])
 |.node,x,hd,h=>ng.2 (h (.rep .node K x.tup.2.2.2 hd) (by simp[facts]))
 |.mp _ _,_,_,_=>trivial
abbrev Ty.nodeT:Ty:=.pair (.one Int (λx=>.int .i64 x) (λ_=>rfl)) (.pair (.one (List UInt8) (λx=>.string ⟨x.toArray⟩) (λ_=>rfl)) (.pair (.one Int (λx=>.int .i64 x) (λ_=>rfl)) (.slice .node)))
inductive Pth:Ty->Ty->Type 1
 |here {t:Ty}:Pth t t
 |fst {a b t:Ty} (p:Pth a t):Pth (.pair a b) t
 |snd {a b t:Ty} (p:Pth b t):Pth (.pair a b) t
 |nd {t:Ty} (p:Pth Ty.nodeT t):Pth .node t
def Pth.get : {t u:Ty}->Pth t u->t.den->u.den
 |_,_,.here,x=>x
 |_,_,.fst p,x=>p.get x.1
 |_,_,.snd p,x=>p.get x.2
 |_,_,.nd p,x=>p.get x.tup
def Pth.set : {t u:Ty}->Pth t u->t.den->u.den->t.den
 |_,_,.here,_,z=>z
 |_,_,.fst p,x,z=>(p.set x.1 z,x.2)
 |_,_,.snd p,x,z=>(x.1,p.set x.2 z)
 |_,_,.nd p,x,z=>Nd.of (p.set x.tup z)
def Pth.refs : {t u:Ty}->Pth t u->t.Refs->u.Refs
 |_,_,.here,x=>x
 |_,_,.fst p,x=>p.refs x.1
 |_,_,.snd p,x=>p.refs x.2
 |_,_,.nd p,h=>p.refs ((),(),(),h)
def Pth.off : {t u:Ty}->Pth t u->Nat
 |_,_,.here=>0
 |_,_,.fst p=>p.off
 |_,_,@Pth.snd a _ _ p=>a.sz+p.off
 |_,_,.nd p=>p.off
theorem Pth.le : {t u:Ty}->(p:Pth t u)->p.off+u.sz<=t.sz
 |_,_,.here=>by simp[Pth.off]
 |_,_,.fst p=>by have:=p.le;simp[Pth.off,Ty.sz];omega
 |_,_,.snd p=>by have:=p.le;simp[Pth.off,Ty.sz];omega
 |_,_,.nd p=>p.le
theorem Pth.cells : {t u:Ty}->(p:Pth t u)->(x:t.den)->(y:t.Refs)->((t.fill x y).drop p.off).take u.sz=u.fill (p.get x) (p.refs y)
 |_,u,.here,x,y=>by simp[Pth.off,Pth.get,Pth.refs,<-u.fill_length x y]
 |_,u,.fst (a:=a) (b:=b) p,x,y=>by have:=p.cells x.1 y.1;have hl:=p.le;have h1:=a.fill_length x.1 y.1;simp only[Pth.off,Ty.fill,Pth.get,Pth.refs];grind
 |_,u,.snd (a:=a) (b:=b) p,x,y=>by have:=p.cells x.2 y.2;have h1:=a.fill_length x.1 y.1;simp only[Pth.off,Ty.fill,Pth.get,Pth.refs];rw[abe,aa6 (as:=a.fill x.1 y.1) (by omega),show a.sz+p.off-(a.fill x.1 y.1).length=p.off by omega];grind
 |_,_,.nd p,x,h=>p.cells x.tup ((),(),(),h)
theorem Pth.rep{w:World}{S:Nat->Prop} : {t u:Ty}->(p:Pth t u)->(x:t.den)->(y:t.Refs)->bD w S t x y->bD w S u (p.get x) (p.refs y)
 |_,_,.here,_,_,h=>h
 |_,_,.fst p,x,y,h=>p.rep x.1 y.1 h.1
 |_,_,.snd p,x,y,h=>p.rep x.2 y.2 h.2
 |_,_,.nd p,x,y,h=>p.rep x.tup ((),(),(),y) ⟨trivial,trivial,trivial,ng.1 h⟩
def oP(place:Nat->Option (Nat×Nat))(cells:List Value):List (Nat×List Value)->Option (List Value)
 |[]=>some cells
 |(i,vs)::rest=>match place i with
  |none=>none
  |some (off,size)=>bif Nat.beq vs.length size&&Nat.ble (off+vs.length) cells.length then oP place (cells.take off++vs++cells.drop (off+vs.length)) rest else none
theorem MY:∀(vs:List Value) (k off:Nat) (cs:Array Value),off+k+vs.length<=cs.size ->
  (vs.zipIdx k).foldl (λcs (x:Value×Nat)=>cs.setIfInBounds (off+x.2) x.1) cs=(cs.toList.take (off+k)++vs++cs.toList.drop (off+k+vs.length)).toArray
 |[],k,off,cs,_=>by simp_all
 |v::vs,k,off,cs,h=>by
  simp only[aaG]at h;rw[List.zipIdx_cons,alQ,MY vs (k+1) off _ (by simp;omega)];have hl:off+k<cs.toList.length:=by simp;omega
  have ht:(cs.toList.take (off+k)).length=off+k:=by simp;omega
  apply aj9;simp only[Array.toList_setIfInBounds,List.set_eq_take_append_cons_drop,if_pos hl];rw[show off+(k+1)=(cs.toList.take (off+k)).length+1 by omega,List.take_length_add_append,ajp (cs.toList.take (off+k)).length 1 vs.length,List.drop_length_add_append];simp only[ae5,adX,aaf,acI,abx];grind[Nat.add_comm,List.drop_drop]
theorem zF(place:Nat->Option (Nat×Nat))(parts:Array (Nat×Operand))(ρ:cV):∀(vals:List (Nat×List Value)) (zero cells:List Value),
  parts.toList.map (λp=>(p.1,(aJ ρ p.2).cells.toList))=vals->oP place zero vals=some cells ->
  Instr.fill place zero.toArray (parts.map λp=>(p.1,aJ ρ p.2)).toList=some cells.toArray:=by
 intro vals zero cells hp h;have gen:∀(ps:List (Nat×Operand)) (vals:List (Nat×List Value)) (zero:List Value),ps.map (λp=>(p.1,(aJ ρ p.2).cells.toList))=vals->oP place zero vals=some cells ->
   Instr.fill place zero.toArray (ps.map λp=>(p.1,aJ ρ p.2))=some cells.toArray:=by
  intro ps;induction ps with
  |nil=>
   intro vals zero hp h;subst hp;simp only[ad5,oP,no]at h;subst h;rfl
  | cons p ps ih=>
   intro vals zero hp h;subst hp;simp only[aas,oP]at h;cases hpl:place p.1 with
   |none=>grind
   | some os=>
    obtain⟨off,size⟩:=os;simp only[hpl]at h;cases hc:Nat.beq (aJ ρ p.2).cells.toList.length size&&Nat.ble (off+(aJ ρ p.2).cells.toList.length) zero.length
    ·grind
    ·rw[hc]at h;simp only[Y5]at hc;have h1:=f9 hc.1;have h2:=Zh hc.2;have:=ih _ _ rfl h;have h1':(aJ ρ p.2).cells.size=size:=by simpa using h1
     have h2':off+(aJ ρ p.2).cells.size<=zero.length:=by simpa using h2
     simp only[aas,Instr.fill,hpl];rw[if_neg (by grind)];rw[<-Array.foldl_toList,Array.toList_zipIdx];have hf:=MY (aJ ρ p.2).cells.toList 0 off zero.toArray (by grind);grind
 simp_all
section
variable {P:Program} {ρ:cV} {L:List HA} {o:Oper} {N:Nat}
theorem xl{Y:Type}{val:Y->Value}{Φ:Y->List HA}(h:∀(ev:Operand->Value) (w:World) (c:aS),ev=aJ ρ->aj w c L->∃y,(execOp ev o).run P w=.ok (.value (val y)) w/\aj w c (Φ y)):cJ P ρ o L [] val Φ:=by
 intro a ev w c next Q ha hL hk
 obtain⟨y,hr,hF⟩:=h ev w c ha hL;rw[hr];exact hk y w c (Stp.refl w c) hF
theorem Su{t:TypeId}{x:Operand}{d:TypeDesc}{α:Type}{f:α->Value}{hf:∀x,(f x).oneCell'=true}{K:List Nat}{p:Addr}{v:α}(k:Nat)(hk:L[k]?=some (.elem (.one α f hf) K v p))(ho:o.op=.load t x)
  (ht:P.underlying t=some d) (hd:jF d=false) (hx:aJ ρ x=.pointer (some p)):aX P ρ o L (f v):=λev w c he hL=>by
 subst he;obtain⟨y,b,off,arr,ty,fz,rfl,_,hb,hle,hcs,_⟩:=hL.at hk;have hc:w.cell? ⟨b,off,none⟩=some (f v):=by rw[lj hb];have:=aae (·[0]?) hcs;simpa[Ty.fill,aht]using this
 simp[execOp,ho,hx,vw ht hd hc]
def uQ(t:Ty)(K:List Nat):List t.den->List t.Refs->List HA
 |x::xs,y::ys=>facts t K x y++uQ t K xs ys
 |_,_=>[]
theorem GF{w:World}{c:aS}{K:List Nat}(t:Ty):∀{xs:List t.den} {ys:List t.Refs},xs.length=ys.length->aj w c (uQ t K xs ys)->bX (bD w (λb=>c b∈K) t) xs ys
 |[],[],_,_=>trivial
 |x::xs,y::ys,hl,h=>⟨xS t x y λA hA=>h A (ZW _ hA),GF t (by simpa using hl) λA hA=>h A (Z7 _ hA)⟩
 |[],_::_,hl,_=>by simp at hl
 |_::_,[],hl,_=>by simp at hl
theorem wb{w w':World}{c:aS}{v:Value}{i:Nat}(hi:Nat.ble 2 i=true)(hg:w.grownBy w' v.ownBlock)(hc:∀g,v.ownBlock=some g->c g=i):Stp [i] w c w' (λb=>if b<w.heap.size then c b else i):=by
 refine .mk0 hg.size (λb hb=>by simp[hb]) (λb hb hn=>hg.block b hb λe=>hn ?_) (λb h1 _=>?_) ⟨hg.os,hg.output⟩
 ·grind
 ·show 2<=if b<w.heap.size then c b else i
  rw[if_neg (by omega)];simp_all
theorem Br{w:World}{c:aS}{h':Hd}{i:Nat}{v:Value}(hb:∀g,h'.val.ownBlock=some g->v.ownBlock=some g\/w.heap.size<=g)
  (hc:∀g,v.ownBlock=some g->c g=i):∀g,h'.val.ownBlock=some g->(λb=>if b<w.heap.size then c b else i) g=i:=by
 grind
theorem EX{w:World}{t ty e:TypeId}{i:TypeInfo}{z:Value}(ht:P.underlying t=some (.slice e))(hi:P.info? e=some i)(hz:i.zero=some z)(hzs:z.cells.size=i.size)(hsz:0<i.size)
  {h:Hd} {n:Nat} {xs:List Value} (hown:w.ownsRow 0 e i.size h.val n xs) {x:Hd} {m:Nat} {news:List Value} (hl:news.length=m*i.size) (hx:(x.a=none/\m=0/\x.n=0/\x.cap=0)\/∃a,x.a=some a/\x.n=m/\∀j u,news[j]?=some u->w.cell? (a.add j)=some u)
  (h1:∀u∈news,u.oneCell'=true) (h63:n+m<=maxLen) (hbytes:(n+m)*i.bytes<=140737488355328) :
  ∃(h':Hd) (w':World),(Builtin.append_ #[t,t] ty #[h.val,x.val]).run P w=.ok h'.val w'/\w'.ownsRow 0 e i.size h'.val (n+m) (xs++news)/\w.grownBy w' h.val.ownBlock /\
   (∀g,h'.val.ownBlock=some g->h.val.ownBlock=some g\/w.heap.size<=g):=by
 have toHd:∀(v':Value) (w':World),w'.ownsRow 0 e i.size v' (n+m) (xs++news)->∃h':Hd,v'=h'.val:=by
  intro v' w' ho;rcases ho.2 with⟨rfl,_⟩|⟨g,cap,cur,rfl,_⟩
  ·exact⟨⟨none,0,0⟩,rfl⟩
  ·exact⟨⟨some ⟨g,0,none⟩,n+m,cap⟩,rfl⟩
 obtain⟨xa,xn,xc⟩:=x;obtain⟨ha,hn,hcap⟩:=h;rcases hx with⟨hxa,rfl,hxn,hxc⟩|⟨a,hxa,hxn,hnews⟩
 ·simp only at hxa hxn hxc;subst hxa hxn hxc;have hn0:news=[]:=abT (by simpa using hl);subst hn0;refine⟨_,w,run_append_owned_none (P:=P) (w:=w) 0 t ty e i i.size ht hi _ n xs hown,by grind,⟨rfl,rfl,rfl,Z0 _,λ_ _ _=>rfl⟩,λg hg=>.inl hg⟩
 ·simp only at hxa hxn;subst hxa hxn;by_cases hroom:∃g cap cur,(Hd.val ⟨ha,hn,hcap⟩)=.slice (some ⟨g,0,none⟩) n cap/\w.heap[g]?=some (.cells cur e (0,0))/\n+xn<=cap
  ·obtain⟨v',w',hr,h2,h3,_⟩:=run_append_own (P:=P) w 0 t ty e i z i.size i.bytes ht hi hz rfl rfl hzs hsz _ n xs hown a xn xc news hl hnews h1 h63 hbytes (aen _);obtain⟨g,cap,cur,hv,hg,hle⟩:=hroom;have hfit:n*i.size+news.length<=cur.size:=by
    rcases hown.2 with⟨hv',_⟩|⟨g',cap',cur',hv',_,hg',_,_,hcs,_⟩
    ·grind
    ·rw[hv]at hv';simp only[Value.slice.injEq,no,Addr.mk.injEq,alE,true_and]at hv';obtain⟨rfl,rfl⟩:=hv';rw[hg]at hg';simp only[no,Obj.cells.injEq,alE]at hg';subst hg';rw[hl,hcs,<-acG];exact aaR _ hle
   have hr2:=run_append_room (P:=P) w t ty e i ht hi g n cap cur hg a xn xc news hl hnews h1 hle hfit;grind[Value.ownBlock]
  ·by_cases hnil:(Hd.val ⟨ha,hn,hcap⟩)=.slice none 0 0
   ·have hown':w.ownsRow w.heap.size e i.size (Hd.val ⟨ha,hn,hcap⟩) n xs:=by
     refine⟨hown.1,.inl ⟨hnil,?_⟩⟩;rcases hown.2 with⟨_,hn⟩|⟨g',cap',cur',hv',_⟩
     ·exact hn
     grind
    obtain⟨v',w',hr,h2,h3,_⟩:=run_append_own (P:=P) w w.heap.size t ty e i z i.size i.bytes ht hi hz rfl rfl hzs hsz _ n xs hown' a xn xc news hl hnews h1 h63 hbytes (Z0 _);have h2':w'.ownsRow 0 e i.size v' (n+xn) (xs++news):=⟨h2.1,h2.2.imp id λ⟨g,cap,cur,hv,_,hrest⟩=>⟨g,cap,cur,hv,aen _,hrest⟩⟩
    obtain⟨h',rfl⟩:=toHd v' w' h2';exact⟨h',w',hr,h2',h3,λg hg=>.inr (h2.lt g hg).1⟩
   ·rcases hown.2 with⟨hv,_⟩|⟨g,cap,cur,hv,_,hg,hnc,hcm,hcs,htake⟩
    ·grind
    ·have hgrow:cap<n+xn:=by
      grind
     have holds:∀j u,xs[j]?=some u->w.cell? ((⟨g,0,none⟩:Addr).add j)=some u:=hown.cells (g:=g) (by rw[hv];rfl);have hr:=run_append_grow (P:=P) w t ty e i z ht hi hz ⟨g,0,none⟩ n cap xs hown.1 holds a xn xc news hl hnews hgrow (by simp only[maxLen]at h63;omega) (growslice_fits (by omega) hbytes);obtain⟨v',w',hr',h2,h3,_⟩:=run_append_own (P:=P) w 0 t ty e i z i.size i.bytes ht hi hz rfl rfl hzs hsz _ n xs hown a xn xc news hl hnews h1 h63 hbytes (aen _);grind[Value.ownBlock]
theorem DT{t e:TypeId}{sz by_:Nat}{z:Value}{s x:Operand}{ty:Ty}{ci:Nat}{K K2 K':List Nat}{xs ys:List ty.den}{h hx:Hd}(j j':Nat)
  (hj:L[j]?=some (.own ty e ci K xs h)) (A:HA) (hj':L[j']?=some A) (hA:Fj A (.rep ty K2 ys hx))
  (ho:o.op=.call { callee:=.builtin .append,args:=#[s,x],argTypes:=#[t,t]}) (ht:P.underlying t=some (.slice e)) (hi:TI P e sz by_ z) (hs:sz=ty.sz)
  (hzs:Nat.beq z.cells.size sz=true) (hsz:Nat.ble 1 sz=true) (hse:aJ ρ s=h.val) (hxe:aJ ρ x=hx.val)
  (hroom:decide ((xs.length+ys.length)*by_<=140737488355328/\xs.length+ys.length<=maxLen)=true) (hci:Nat.ble 2 ci=true) (hK:ty.pureB=true\/(K++K2).all (λk=>!(Nat.beq k ci))=true) (hK':K++K2=K') (he:Nat.blt e 1048576=true) :
  cJ P ρ o L [ci] Hd.val (λh'=>[.own ty e ci K' (xs++ys) h']):=by
 intro a ev w c next Q ha hL hk
 have htihi:=hi;clear hi;obtain⟨inf,hi,hz,rfl,rfl⟩:=htihi.get;obtain⟨rs,hr1,hown,hcol⟩:=hL.at hj;obtain⟨rs2,hr2,hn2,hle2,hm2,hc2⟩:=hA w c (hL.at hj');obtain⟨hb,h63⟩:=aaq hroom;have hl2:=hr2.length;have hlen:=cE ty hl2;replace hown:=hown.plain he;rw[<-hs]at hown hlen;have hsrc:(hx.a=none/\ys.length=0/\hx.n=0/\hx.cap=0)\/∃a,hx.a=some a/\hx.n=ys.length/\∀j u,(cellsOf ty ys rs2)[j]?=some u->w.cell? (a.add j)=some u:=by
  rcases hc2 with⟨h1,h2⟩|⟨b,off,arr,tt,fz,h1,hS,hbb,hfit,hcells⟩
  ·cases hxa:hx.a with
   |none=>grind
   |some a=>
    grind
  grind[eN,lj]
 obtain⟨h',w',hrun,ho',hg,hblk⟩:=EX (P:=P) (ty:=o.type) ht hi hz (f9 hzs) (Zh hsz) hown hlen hsrc (iz ty) h63 hb;have hex:(execOp ev o).run P w=.ok (.value h'.val) w':=by simp[execOp,ho,ha,hse,hxe,resolve,invoke,builtin,hrun,Result.andThen]
 rw[hex];have hst:=wb hci hg hcol;refine hk h' w' _ hst (aj.cons ⟨rs++rs2,?_,?_,Br hblk hcol⟩ (aj.nil _ _))
 ·rcases hK with hp|hK
  ·exact(hr1.mono λx y _=>bD.pure ty x y hp).append (hr2.mono λx y _=>bD.pure ty x y hp)
  ·have hno:∀k∈K++K2,k∉[ci]:=λk hk hm=>by
    have:=Zy.1 hK k hk;simp_all
   subst hK';exact(hr1.mono (bD.keep (λb hb hcb=>⟨ZW _ ((hst.keeps (K:=K) (λk hk=>hno k (ZW _ hk))) b hb hcb).1,((hst.keeps (K:=K) (λk hk=>hno k (ZW _ hk))) b hb hcb).2⟩) ty)).append
    (hr2.mono (bD.keep (λb hb hcb=>⟨Z7 _ ((hst.keeps (K:=K2) (λk hk=>hno k (Z7 _ hk))) b hb hcb).1,((hst.keeps (K:=K2) (λk hk=>hno k (Z7 _ hk))) b hb hcb).2⟩) ty))
 ·rw[dU ty hr1.length,ZD,<-hs];exact w9 ho'
theorem Xa{t e:TypeId}{sz by_:Nat}{z:Value}{s x:Operand}{ty:Ty}{ci:Nat}{K K2 K':List Nat}{xs ys:List ty.den}{h hx:Hd}(j j':Nat)
  (hj:L[j]?=some (.own ty e ci K xs h)) (A:HA) (hj':L[j']?=some A) (hA:Fj A (.rep ty K2 ys hx))
  (ho:o.op=.call { callee:=.builtin .append,args:=#[s,x],argTypes:=#[t,t]}) (ht:P.underlying t=some (.slice e)) (hi:TI P e sz by_ z) (hs:sz=ty.sz)
  (hzs:Nat.beq z.cells.size sz=true) (hsz:Nat.ble 1 sz=true) (hse:aJ ρ s=h.val) (hxe:aJ ρ x=hx.val)
  (hroom:decide ((xs.length+ys.length)*by_<=140737488355328/\xs.length+ys.length<=maxLen)=true) (hci:Nat.ble 2 ci=true) (hK:(K++K2).all (λk=>!(Nat.beq k ci))=true) (hK':K++K2=K') (he:Nat.blt e 1048576=true) :
  cJ P ρ o L [ci] Hd.val (λh'=>[.own ty e ci K' (xs++ys) h']):=
 DT j j' hj A hj' hA ho ht hi hs hzs hsz hse hxe hroom hci (.inr hK) hK' he
theorem cJ.weaken{κ:List Nat}{Y:Type}{val:Y->Value}{Φ Φ':Y->List HA}(h:cJ P ρ o L κ val Φ)(hw:∀y w c,aj w c (Φ y)->aj w c (Φ' y)):cJ P ρ o L κ val Φ' :=
 λa ev w c next Q ha hL hk=>h a ev w c next Q ha hL λy w' c' hs hF=>hk y w' c' hs (hw y w' c' hF)
theorem B2{t e:TypeId}{sz by_:Nat}{z:Value}{s x:Operand}{ty:Ty}{ci:Nat}{K K2:List Nat}{xs ys:List ty.den}{h hx:Hd}(hpure:ty.pureB=true)(j j':Nat)
  (hj:L[j]?=some (.own ty e ci K xs h)) (A:HA) (hj':L[j']?=some A) (hA:Fj A (.rep ty K2 ys hx))
  (ho:o.op=.call { callee:=.builtin .append,args:=#[s,x],argTypes:=#[t,t]}) (ht:P.underlying t=some (.slice e)) (hi:TI P e sz by_ z) (hs:sz=ty.sz)
  (hzs:Nat.beq z.cells.size sz=true) (hsz:Nat.ble 1 sz=true) (hse:aJ ρ s=h.val) (hxe:aJ ρ x=hx.val)
  (hroom:decide ((xs.length+ys.length)*by_<=140737488355328/\xs.length+ys.length<=maxLen)=true) (hci:Nat.ble 2 ci=true) (he:Nat.blt e 1048576=true) :
  cJ P ρ o L [ci] Hd.val (λh'=>[.own ty e ci K (xs++ys) h']):=
 (DT j j' hj A hj' hA ho ht hi hs hzs hsz hse hxe hroom hci (.inl hpure) rfl he).weaken λ_ w c hF=>aj.cons (Ao hpure w c (hF.at (k:=0) rfl)) (aj.nil _ _)
theorem y7{t e:TypeId}{sz by_:Nat}{z:Value}{n:Nat}{parts:Array (Nat×Operand)}{vals:List (Nat×List Value)}{cells:List Value}{ty:Ty}{K:List Nat}{xs:List ty.den}{ys:List ty.Refs}
  (ho:o.op=.buildSlice t n parts) (ht:P.underlying t=some (.slice e)) (hi:TI P e sz by_ z) (_hs:sz=ty.sz) (hsmall:Nat.ble (n*sz) 16777216=true) (h0:Nat.ble 1 (n*sz)=true)
  (hp:parts.toList.map (λp=>(p.1,(aJ ρ p.2).cells.toList))=vals) (hfill:oP (λi=>some (i*sz,sz)) ((List.range (n*sz)).map (λj=>z.cells.toList.getD (j%z.cells.toList.length) default)) vals=some cells)
  (hx:Nat.beq xs.length n=true) (hy:Nat.beq ys.length n=true) (hcells:cellsOf ty xs ys=cells) (hpaid:nR L (uQ ty K xs ys)) (hN:Nat.ble 2 N=true) :
  cJ P ρ o L [] Hd.val (λh=>[.own ty e N K xs h]):=by
 intro a ev w c next Q ha hL hk
 have htihi:=hi;clear hi;obtain⟨inf,hi,hz,rfl,_⟩:=htihi.get;have hxl:=f9 hx;have hyl:=f9 hy;have hsm:=Zh hsmall;have hpos:=Zh h0;have hlen:=cE ty (xs:=xs) (ys:=ys) (by omega);have hex:(execOp ev o).run P w=.ok (.value (.slice (some ⟨w.heap.size,0,none⟩) n n)) (w.alloc (.cells cells.toArray e)):=by
  have hsm':¬16777216<n*inf.size:=by omega
  have hne:¬n*inf.size=0:=by omega
  have hfill':=zF _ _ _ _ _ _ hp hfill;have hzero:(Array.range (n*inf.size)).map (z.cells[· % z.cells.size]!)=((List.range (n*inf.size)).map (λj=>z.cells.toList.getD (j%z.cells.toList.length) default)).toArray:=by grind
  rw[<-hzero]at hfill';simp only[execOp,ho,ha,Instr.buildSlice,Sem.run_bind,run_underlying ht,sizeOf,typeInfo,zeroValue,run_program,Result.andThen_ok,hi,hz,Sem.run_pure,if_neg hsm',if_neg hne];rw[hfill'];rfl
 rw[hex];have hst:=ul (w:=w) (c:=c) hN (.cells cells.toArray e);refine hk ⟨some ⟨w.heap.size,0,none⟩,n,n⟩ _ _ hst (aj.cons ⟨ys,?_,⟨?_,.inr ⟨w.heap.size,n,cells.toArray,e,(0,0),by rw[hxl],heap_alloc_new w _,.inl ⟨rfl,rfl⟩,by omega,?_,?_,?_⟩⟩,λg hg=>?_⟩ (aj.nil _ _))
 ·exact(GF ty (by omega) (hpaid.heap hL)).mono (bD.keep (hst.keeps (by simp)) ty)
 ·rw[hlen]
 ·simp only[maxLen];have:n<=n*inf.size:=alL n (Nat.pos_of_ne_zero λh=>by grind);omega
 ·grind
 ·grind
 ·simp[Value.ownBlock]at hg;grind
theorem FT{t e:TypeId}{sz by_:Nat}{z:Value}{parts:Array (Nat×Operand)}{ty:Ty}{K:List Nat}(ho:o.op=.buildSlice t 0 parts)(ht:P.underlying t=some (.slice e))(hi:TI P e sz by_ z)(hp:parts = #[])(hN:Nat.ble 2 N=true) :
  cJ P ρ o L [] Hd.val (λh=>[.own ty e N K [] h]):=by
 intro a ev w c next Q ha hL hk
 have htihi:=hi;clear hi;obtain⟨inf,hi,_,_,_⟩:=htihi.get;have hex:(execOp ev o).run P w=.ok (.value (.slice (some ⟨w.heap.size,0,none⟩) 0 0)) (w.alloc (.cells #[] e)):=by simp[execOp,ho,ha,Instr.buildSlice,run_underlying ht,sizeOf,typeInfo,hi,hp,newRow,Instr.fill,Result.andThen];grind
 rw[hex];have hst:=ul (w:=w) (c:=c) hN (.cells #[] e);refine hk ⟨some ⟨w.heap.size,0,none⟩,0,0⟩ _ _ hst (aj.cons ⟨[],trivial,⟨by simp[cellsOf],.inr ⟨w.heap.size,0,#[],e,(0,0),rfl,heap_alloc_new w _,.inl ⟨rfl,rfl⟩,by simp,by simp[maxLen],by simp,by simp[cellsOf]⟩⟩,λg hg=>?_⟩ (aj.nil _ _))
 ·simp[Value.ownBlock]at hg;grind
end
structure OSp:Type 1 where
 ex:Bool
 d:Nat
 pre:List Nat
 Y:Type
 val:Y->Value
 Φ:Y->List HA
 κ:List Nat
 eat:List Nat
 tl:List (Nat×(Y->Value))
def aiZ{Y:Type}(ρ:cV)(tl:List (Nat×(Y->Value)))(y:Y):Prop:=∀p∈tl,ρ p.1=p.2 y
def aos{Y:Type}(ρ:cV)(y:Y):List (Nat×(Y->Value))->cV
 |[]=>ρ
 |p::r=>aos (yX ρ p.1 (p.2 y)) y r
def OSp.ok(s:OSp)(ρ:cV)(w:World)(c:aS):Prop:=(s.ex=true->∃y,ρ s.d=s.val y/\aiZ ρ s.tl y/\aj w c (s.Φ y))/\(s.ex=false->ρ s.d=undef)
def Ob(P:Program)(o:Oper)(s:OSp)(es:List OSp):List Nat->cV->List HA->Prop
 |[],ρ,L=>cJ P ρ o L s.κ s.val (λy=>.pure (aiZ ρ s.tl y)::s.Φ y)
 |j::js,ρ,L=>match es[j]? with
  |none=>False
  |some e=>(e.ex=true->∀y,Ob P o s es js (yX ρ e.d (e.val y)) (e.Φ y++L))/\(e.ex=false->Ob P o s es js (yX ρ e.d undef) L)
def B6(R:cV->List HA->Prop)(es:List OSp):List Nat->cV->List HA->Prop
 |[],ρ,L=>R ρ L
 |j::js,ρ,L=>match es[j]? with
  |none=>False
  |some e=>(e.ex=true->∀y,B6 R es js (aos (yX ρ e.d (e.val y)) y e.tl) (e.Φ y++L))/\(e.ex=false->B6 R es js (yX ρ e.d undef) L)
def rJ(o:Oper):List Nat:=(o.after.toList.filter (Region.binds .any)).map (·.on)
def bQ(j:Nat)(l:List Nat):Bool:=l.any λk=>Nat.beq j k
theorem mem_iff{j:Nat}{l:List Nat}:bQ j l=true↔j∈l:=by simp only[bQ,aeL];simp_all
def Fh(l:List Oper)(cl:List (List Nat)):Bool:=
 (List.range l.length).all λi=>match l[i]?,cl[i]? with
  |some o,some c=>(rJ o).all (λj=>Nat.blt j i)&&c.all λj=>bQ j (rJ o)||(rJ o).any λk=>match cl[k]? with|some ck=>bQ j ck|none=>false
  |_,_=>false
def Ft(o:Oper)(es:List OSp)(pre:List Nat):Bool:=
 o.op.operands.toList.all λx=>match x with
  |.tmp t=>!(es.any λe=>Nat.beq t e.d)||pre.any λj=>match es[j]? with|some e=>Nat.beq t e.d|none=>false
  |_=>true
def abR(s:OSp)(es:List OSp):Bool:=s.tl.all λp=>s.pre.any λj=>match es[j]? with|some e=>Nat.beq p.1 e.d|none=>false
def zY(o:Oper):Bool:=match o.op with|.select .. => false|_=>true
def ae4(n:Nat)(o:Oper)(s:OSp)(es:List OSp)(c:List Nat):Prop:=
 match o.guard with
 |none=>s.ex=true
 |some (j,want)=>bQ j c=true/\∃e b,es[j]?=some e/\Nat.blt e.d n=true/\(∀y,e.val y=.bool b)/\s.ex=(e.ex&&(b==want))
def Te(n:Nat)(o:Oper)(s:OSp):Prop:=(o.dst=some s.d/\Nat.blt s.d n=true)\/(o.dst=none/\Nat.ble n s.d=true/\∀y,s.val y=undef)
def BK(P:Program)(n:Nat)(es:List OSp)(ρ:cV)(B:Nat->List HA):List Oper->List OSp->List (List Nat)->Nat->Prop
 |o::l,s::ss,c::cs,i=>(Te n o s/\zY o=true/\s.pre.all (λj=>bQ j c)=true/\Ft o es s.pre=true/\abR s es=true/\ae4 n o s es c/\(s.ex=true->Ob P o s es s.pre ρ (B i)))/\BK P n es ρ B l ss cs (i+1)
 |_,[],_,_=>True
 |_,_,_,_=>False
theorem BK.at{P:Program}{n:Nat}{es:List OSp}{ρ:cV}{B:Nat->List HA}:∀{l:List Oper} {ss:List OSp} {cs:List (List Nat)} {m i:Nat} {o:Oper} {s:OSp},BK P n es ρ B l ss cs m->l[i]?=some o->ss[i]?=some s ->
  ∃c,cs[i]?=some c/\Te n o s/\zY o=true/\s.pre.all (λj=>bQ j c)=true/\Ft o es s.pre=true/\abR s es=true/\ae4 n o s es c/\(s.ex=true->Ob P o s es s.pre ρ (B (m+i)))
 |o'::l,s'::ss,c'::cs,m,0,o,s,h,ho,hs=>by simp at ho hs;subst ho;subst hs;exact⟨c',rfl,h.1⟩
 |o'::l,s'::ss,c'::cs,m,i+1,o,s,h,ho,hs=>by simp at ho hs;obtain⟨c,hc,hr⟩:=BK.at h.2 ho hs;grind
 |_,[],_,_,i,_,_,_,_,hs=>by simp at hs
 |[],s::ss,cs,_,i,_,_,h,_,_=>by grind
 |o::l,s::ss,[],_,i,_,_,h,_,_=>h.elim
def xy(κ eat:List Nat):Nat->List OSp->Prop
 |_,[]=>True
 |k,e::r=>(bQ k eat=true\/∀y,(e.Φ y).all (qH κ)=true)/\xy κ eat (k+1) r
def W9(cl:List (List Nat))(i:Nat):List Nat:=(List.range cl.length).filter λk=>match cl[k]? with|some c=>bQ i c|none=>false
def JP(es:List OSp)(cl:List (List Nat)):List OSp->Nat->Prop
 |[],_=>True
 |s::r,i=>(s.κ=[]\/xy s.κ (i::(s.eat++W9 cl i)) 0 es)/\JP es cl r (i+1)
theorem xy.at{κ eat:List Nat}:∀{es:List OSp} {k j:Nat} {e:OSp},xy κ eat k es->es[j]?=some e->bQ (k+j) eat=true\/∀y,(e.Φ y).all (qH κ)=true
 |e'::r,k,0,e,h,he=>by simp at he;subst he;exact h.1
 |e'::r,k,j+1,e,h,he=>by simp at he;have:=xy.at h.2 he;grind
 |[],_,_,_,_,he=>by simp at he
theorem JP.at{es:List OSp}{cl:List (List Nat)}:∀{ss:List OSp} {k i:Nat} {s:OSp},JP es cl ss k->ss[i]?=some s->s.κ=[]\/xy s.κ ((k+i)::(s.eat++W9 cl (k+i))) 0 es
 |e'::r,k,0,e,h,he=>by simp at he;subst he;exact h.1
 |e'::r,k,j+1,e,h,he=>by simp at he;have:=JP.at h.2 he;grind
 |[],_,_,_,_,he=>by simp at he
section
variable {P:Program} {n:Nat} {Q:Exit->Act->World->Prop}
def vY(f:Nat->Bool):Nat->Nat
 |0=>0
 |k+1=>vY f k+cond (f k) 1 0
theorem LI{f g:Nat->Bool}:∀{k:Nat},(∀j,j<k->f j=g j)->vY f k=vY g k
 |0,_=>rfl
 |k+1,h=>by simp only[vY,LI (k:=k) λj hj=>h j (by omega),h k (by omega)]
theorem Qk{f g:Nat->Bool}{i:Nat}(hf:f i=true)(hg:g i=false):∀{k:Nat},i<k->(∀j,j<k->j≠i->f j=g j)->vY f k=vY g k+1
 |k+1,hi,h=>by
  simp only[vY];by_cases he:i=k
  ·grind[LI]
  ·rw[Qk hf hg (k:=k) (by omega) λj hj hne=>h j (by omega) hne,h k (by omega) (by omega)];omega
theorem N7{f:Nat->Bool}:∀{k:Nat},vY f k=0->∀i,i<k->f i=false
 |k+1,h,i,hi=>by
  simp only[vY]at h;by_cases he:i=k
  ·grind
  ·exact N7 (k:=k) (by omega) i (by omega)
def Gw(listed:Array Bool)(i:Nat):Bool:=!(listed.getD i false)
theorem ajt{l:List Oper}{cl:List (List Nat)}(hcl:Fh l cl=true){k:Nat}(hk:k<l.length):∃c,cl[k]?=some c:=by have h:=Zy.1 hcl k (adp.2 hk);grind
def LZ(l:List Oper)(listed:Array Bool):Prop:=∀(i:Nat) (o:Oper),l[i]?=some o->listed.getD i false=true->∀j∈rJ o,listed.getD j false=true
theorem wy{l:List Oper}{cl:List (List Nat)}(hcl:Fh l cl=true){listed:Array Bool}(hd:LZ l listed):∀(i:Nat) (o:Oper) (c:List Nat),l[i]?=some o->cl[i]?=some c ->
  (∀j∈rJ o,listed.getD j false=true)->∀j∈c,listed.getD j false=true:=by
 intro i;induction i using Nat.strongRecOn with
 | _ i ih=>
  intro o c ho hc hp j hj;have hlt:i<l.length:=(aaw.1 ho).1;have h:=Zy.1 hcl i (adp.2 hlt);simp only[ho,hc,Y5]at h;have h2:=Zy.1 h.2 j hj;simp only[abl]at h2;rcases h2 with h2|h2
  ·exact hp j (mem_iff.1 h2)
  ·obtain⟨k,hk,hm⟩:=aeL.1 h2;have hki:k<i:=Zh (Zy.1 h.1 k hk);cases hck:cl[k]? with
   |none=>grind
   |some ck=>
    simp only[hck]at hm;have hkl:k<l.length:=by omega
    exact ih k hki l[k] ck (by simp[hkl]) hck (hd k l[k] (by simp[hkl]) (hp k hk)) j (mem_iff.1 hm)
theorem BL{listed:Array Bool}{i j:Nat}(h:i<listed.size):(listed.setIfInBounds i true).getD j false=(Nat.beq j i||listed.getD j false):=by
 by_cases hij:i=j
 ·simp_all
 ·have:Nat.beq j i=false:=by
   cases hb:Nat.beq j i
   ·rfl
   simp_all
  simp_all
theorem yH{l:List Oper}{listed:Array Bool}(hsz:listed.size=l.length){i:Nat}(h:i∈Region.ready .any l.toArray listed) :
  ∃o,l[i]?=some o/\listed.getD i false=false/\∀j∈rJ o,listed.getD j false=true:=by
 rw[mem_ready]at h;obtain⟨h0,o,ho,hall⟩:=h;have ho':l[i]?=some o:=by simpa using ho
 have hlt:i<l.length:=(aaw.1 ho').1;refine⟨o,ho',by grind,λj hj=>?_⟩;obtain⟨e,he,rfl⟩:=ZA.1 hj;grind
theorem Eo{l:List Oper}{cl:List (List Nat)}(hcl:Fh l cl=true){listed:Array Bool}(hsz:listed.size=l.length)(h:Region.ready .any l.toArray listed=[]) :
  ∀i,i<l.length->listed.getD i false=true:=by
 intro i;induction i using Nat.strongRecOn with
 | _ i ih=>
  intro hi;cases hb:listed.getD i false
  ·exfalso;have hmem:i∈Region.ready .any l.toArray listed:=by
    rw[mem_ready];have ho:l[i]?=some l[i]:=by simp[hi]
    refine⟨by grind,l[i],by simp[hi],λe he hbd=>?_⟩;have hc:=Zy.1 hcl i (adp.2 hi);simp only[ho]at hc;cases hci:cl[i]? with
    |none=>grind
    |some c=>
     simp only[hci,Y5]at hc;have hlt:e.on<i:=Zh (Zy.1 hc.1 e.on (ZA.2 ⟨e,aa0.2 ⟨by simpa using he,hbd⟩,rfl⟩));grind
   grind
  ·rfl
theorem Ke{l:List Oper}{listed:Array Bool}(hsz:listed.size=l.length)(hd:LZ l listed){i:Nat}{o:Oper}(ho:l[i]?=some o)(hp:∀j∈rJ o,listed.getD j false=true) :
  LZ l (listed.setIfInBounds i true):=by
 have hlt:i<l.length:=(aaw.1 ho).1;intro k o' ho' hk j hj;rw[BL (by omega)]at hk|-;by_cases hki:k=i
 ·grind
 ·have:Nat.beq k i=false:=by
   cases hb:Nat.beq k i
   ·rfl
   simp_all
  rw[this]at hk;rw[hd k o' ho' (by simpa using hk) j hj];simp
def ajq(l:List Oper)(cl:List (List Nat))(p:Nat):Bool:=(List.range l.length).all λi=>Nat.blt i p||match cl[i]? with|some c=>(List.range i).all λj=>bQ j c|none=>false
theorem aa3{l:List Oper}{k:Nat}(hk:k<l.length):l.drop k=l[k]::l.drop (k+1):=by simp_all
theorem Xc[Rd]{l:List Oper}{cl:List (List Nat)}(hcl:Fh l cl=true){p:Nat}(hseq:ajq l cl p=true)(hpl:p<=l.length)
  (J:Array Bool->Act->World->Prop) (hJend:∀listed a w,J listed a w->(∀i,i<p->listed.getD i false=true)->(∀i,p<=i->listed.getD i false=false)->wpListIn sH 0 P l.toArray Q (l.drop p) a w)
  (hJ:∀listed a w i o,J listed a w->LZ l listed->listed.size=l.length->i<p->l[i]?=some o->listed.getD i false=false->(∀j∈rJ o,listed.getD j false=true) ->
   wpOpIn sH 0 P l.toArray Q i (J (listed.setIfInBounds i true)) a w) :
  ∀(fuel:Nat) (listed:Array Bool) (a:Act) (w:World),listed.size=l.length->LZ l listed->vY (Gw listed) l.length<=fuel ->
   ((J listed a w/\∀i,p<=i->listed.getD i false=false)\/∃k,p<=k/\k<=l.length/\(∀i,listed.getD i false=decide (i<k))/\wpListIn sH 0 P l.toArray Q (l.drop k) a w) ->
   wpAnyIn sH 0 P .any l.toArray Q fuel listed a w:=by
 intro fuel;induction fuel with
 | zero=>
  intro listed a w hsz hd hc hst;have hall:∀i,i<l.length->listed.getD i false=true:=λi hi=>by grind[Gw,N7]
  have hready:Region.ready .any l.toArray listed=[]:=by
   cases hr:Region.ready .any l.toArray listed with
   |nil=>rfl
   |cons x xs=>
    obtain⟨o,ho,hf,_⟩:=yH hsz (i:=x) (by rw[hr];simp);grind
  refine⟨hready,?_⟩;rcases hst with⟨hj,hrest⟩|⟨k,hpk,hkl,hk,hw⟩
  ·have hpe:p=l.length:=by
    rcases abD p l.length with h|h
    ·grind
    ·omega
   have:=hJend listed a w hj (λi hi=>hall i (by omega)) hrest;rw[hpe,aeO]at this;exact this
  ·have hke:k=l.length:=by
    rcases abD k l.length with h|h
    ·grind
    ·omega
   rw[hke,aeO]at hw;exact hw
 | succ fuel ih=>
  intro listed a w hsz hd hc hst;have hst':(J listed a w/\(∀i,p<=i->listed.getD i false=false)/\∃i,i<p/\listed.getD i false=false) \/
    ∃k,p<=k/\k<=l.length/\(∀i,listed.getD i false=decide (i<k))/\wpListIn sH 0 P l.toArray Q (l.drop k) a w:=by
   grind
  have hdec:∀i,i<l.length->listed.getD i false=false->vY (Gw (listed.setIfInBounds i true)) l.length<=fuel:=by intro i hi hf;have:=Qk (f:=Gw listed) (g:=Gw (listed.setIfInBounds i true)) (i:=i) (by simp[Gw,hf]) (by simp only[Gw];rw[BL (by omega)];simp) hi (λj _ hne=>by simp only[Gw];rw[getD_set_ne false (ami hne)]);omega
  rcases hst' with⟨hj,hrest,i0,hi0,hf0⟩|⟨k,hpk,hkl,hk,hw⟩
  ·refine⟨λhr=>absurd (Eo hcl hsz hr i0 (by omega)) (by rw[hf0];simp),λi hi=>?_⟩;obtain⟨o,ho,hf,hp⟩:=yH hsz hi;have hlt:i<l.length:=(aaw.1 ho).1;have hip:i<p:=by
    rcases abD i p with h|h
    ·exact h
    ·exfalso;have hs:=Zy.1 hseq i (adp.2 hlt);have:Nat.blt i p=false:=by
      cases hb:Nat.blt i p
      ·rfl
      ·have:=Zh hb;omega
     rw[this]at hs;cases hci:cl[i]? with
     |none=>grind
     |some c=>
      simp only[hci,ajF]at hs;have hm:=Zy.1 hs i0 (adp.2 (by omega));grind[wy,mem_iff]
   refine wpOpIn_mono (λa' w' hj'=>ih _ a' w' (by grind) (Ke hsz hd ho hp) (hdec i hlt hf) (.inl ⟨hj',λj hpj=>?_⟩)) (hJ listed a w i o hj hd hsz hip ho hf hp);rw[getD_set_ne false (by omega)];grind
  ·refine⟨λhr=>?_,λi hi=>?_⟩
   ·have hke:k=l.length:=by
     rcases abD k l.length with h|h
     ·have:=Eo hcl hsz hr k h;grind
     ·omega
    rw[hke,aeO]at hw;exact hw
   ·obtain⟨o,ho,hf,hp⟩:=yH hsz hi;have hlt:i<l.length:=(aaw.1 ho).1;have hik:i=k:=by
     rw[hk i]at hf;have hge:k<=i:=by simpa using hf
     rcases abD k i with h|h
     ·exfalso;have hs:=Zy.1 hseq i (adp.2 hlt);have:Nat.blt i p=false:=by
       cases hb:Nat.blt i p
       ·rfl
       ·have:=Zh hb;omega
      rw[this]at hs;cases hci:cl[i]? with
      |none=>grind
      |some c=>
       simp only[hci,ajF]at hs;have hm:=Zy.1 hs k (adp.2 h);have:=wy hcl hd i o c ho hci hp k (mem_iff.1 hm);grind
     ·omega
    subst hik;rw[aa3 hlt]at hw;have hoe:l[i]=o:=by grind
    rw[hoe]at hw;have hnext:∀a' w',wpListIn sH 0 P l.toArray Q (l.drop (i+1)) a' w'->wpAnyIn sH 0 P .any l.toArray Q fuel (listed.setIfInBounds i true) a' w':=λa' w' hw' =>
     ih _ a' w' (by grind) (Ke hsz hd ho hp) (hdec i hlt hf) (.inr ⟨i+1,by omega,by omega,λj=>by
      rw[BL (by omega),hk j];by_cases hj:j=i
      ·subst hj;simp
      grind[Nat.beq,absurd,Nat.eq_of_beq_eq_true],hw'⟩)
    grind[wpOpIn,wpListIn,id,Oper.wpIn_mono]
theorem Xm{ρ:cV}{a:Act}{ds:List Deferred}(ha:Rel n ρ a ds){l:List Oper}{j d:Nat}{o:Oper}(ho:l[j]?=some o)(hd:o.dst=some d)(hlt:Nat.blt d n=true) :
  yielded l.toArray a.tmps j=match ρ d with|.bool b=>some b|_=>none:=by
 have hlt':d<a.tmps.size:=by rw[ha.size];simp_all
 have hv:=ha.val d;simp only[yielded,akB,ho,f8,hd];simp only[ac1,Array.getElem?_eq_getElem hlt',aeQ]at hv|-;grind
theorem aew{w:World}{c:aS}:Stp [] w c { w with drawn:=w.drawn+1} c:=.mk0 (Z0 _) (λ_ _=>rfl) (λ_ _ _=>rfl) (λ_ h1 h2=>absurd (Nat.lt_of_le_of_lt h1 h2) (Nat.lt_irrefl _)) ⟨rfl,rfl⟩
theorem Aj(k i:Nat):(Array.replicate k false).getD i false=false:=by rw[ac1,ajW];split<;>rfl
theorem Xj(f:Nat->Bool):∀k,vY f k<=k
 |0=>by simp[vY]
 |k+1=>by have:=Xj f k;simp only[vY];grind
end
section
variable {P:Program} {n:Nat} {Q:Exit->Act->World->Prop} {ρ:cV} {L:List HA} {o:Oper}
theorem all_cons{es:List OSp}{l:List Oper}{s:OSp}{ss:List OSp}{c:List Nat}{cs:List (List Nat)}{B:Nat->List HA}{i:Nat}(Li:List HA)(hB:B i=Li)(h1:Te n o s)(h3:zY o=true)(h4:s.pre.all (λj=>bQ j c)=true)(h5:Ft o es s.pre=true)(h5':abR s es=true)
  (h6:ae4 n o s es c) (h7:s.ex=true->Ob P o s es s.pre ρ Li) (h:BK P n es ρ B l ss cs (i+1)):BK P n es ρ B (o::l) (s::ss) (c::cs) i:=⟨⟨h1,h3,h4,h5,h5',h6,hB▸h7⟩,h⟩
end
abbrev tA(n:Nat)(k:IntKind):Ty:=.arr n Int 0 (Value.int k) (λ_=>rfl)
def kV(n:Nat)(x y:List Int):Bool:=(List.range n).all λi=>x.getD i 0==y.getD i 0
section
variable {P:Program} {n:Nat} {ρ:cV} {L:List HA} {o:Oper}
def Uo(P:Program):List Field->List (Nat×Nat)->Prop
 |[],[]=>True
 |f::fs,p::ps=>f.offset=p.1/\(∃by_ z,TI P f.type p.2 by_ z)/\Uo P fs ps
 |_,_=>False
theorem FX{t:TypeId}{parts:Array (Nat×Operand)}{vals:List (Nat×List Value)}{sz by_:Nat}{z:Value}{fs:Array Field}{places:List (Nat×Nat)}{cells:List Value}
  (ho:o.op=.build t parts) (ht:P.underlying t=some (.struct fs)) (hi:TI P t sz by_ z) (hpl:Uo P fs.toList places)
  (hp:parts.toList.map (λp=>(p.1,(aJ ρ p.2).cells.toList))=vals) (hfill:oP (λj=>places[j]?) z.cells.toList vals=some cells):aX P ρ o L (.agg cells.toArray):=λev w c he _=>by
 subst he;have htihi:=hi;clear hi;obtain⟨inf,hi,hz,_,_⟩:=htihi.get;have hm:∀(l:List Field) (ps:List (Nat×Nat)),Uo P l ps->(l.mapM (λf=>do pure (f.offset,<-sizeOf f.type):Field->Sem (Nat×Nat))).run P w=.ok ps w:=by
  intro l;induction l with
  |nil=>intro ps h;cases ps<;>first|rfl|exact h.elim
  | cons f l ih=>
   intro ps h;cases ps with
   |nil=>exact h.elim
   |cons p ps=>
    obtain⟨h1,⟨_,_,h2⟩,h3⟩:=h;obtain⟨i,hi,_,hs',_⟩:=h2.get;have hs:(sizeOf f.type).run P w=.ok p.2 w:=by simp[sizeOf,typeInfo,hi,hs']
    simp only[amo,Sem.run_bind,hs,Result.andThen_ok,Sem.run_pure,ih ps h3,h1]
 have hpl':(fs.mapM (λf=>do pure (f.offset,<-sizeOf f.type):Field->Sem (Nat×Nat))).run P w=.ok places.toArray w:=by rw[alx,Sem.run_map,hm _ _ hpl];rfl
 have hfill':=zF (λj=>places.toArray[j]?) parts ρ vals z.cells.toList cells hp (by grind);simp only[Array.toArray_toList]at hfill';simp only[execOp,ho,Instr.build,Sem.run_bind,zeroValue,typeInfo,run_program,Result.andThen_ok,hi,hz,Sem.run_pure,run_underlying ht,hpl'];simp_all
theorem Hg{t e:TypeId}{k:Nat}{parts:Array (Nat×Operand)}{vals:List (Nat×List Value)}{sz by_ esz eby:Nat}{z ez:Value}{cells:List Value}
  (ho:o.op=.build t parts) (ht:P.underlying t=some (.array k e)) (hi:TI P t sz by_ z) (he:TI P e esz eby ez)
  (hp:parts.toList.map (λp=>(p.1,(aJ ρ p.2).cells.toList))=vals) (hfill:oP (λj=>some (j*esz,esz)) z.cells.toList vals=some cells):aX P ρ o L (.agg cells.toArray):=λev w c hev _=>by
 subst hev;have htihi:=hi;clear hi;obtain⟨inf,hi,hz,_,_⟩:=htihi.get;have htihe:=he;clear he;obtain⟨einf,he,_,rfl,_⟩:=htihe.get;have hfill':=zF (λj=>some (j*einf.size,einf.size)) parts ρ vals z.cells.toList cells hp hfill;simp only[Array.toArray_toList]at hfill';simp only[execOp,ho,Instr.build,Sem.run_bind,zeroValue,typeInfo,run_program,Result.andThen_ok,hi,hz,Sem.run_pure,run_underlying ht,sizeOf,he];simp_all
def CJ(tmps:Array Value):ResultVar->Sem Value
 |.tmp t=>pure (tmps.getD t undef)
 |.cell x t=>do loadVar t (<-asAddr (tmps.getD x undef))
def IT(P:Program)(ρ:cV)(L:List HA)(r:ResultVar)(v:Value):Prop:=∀(a:Act) (w:World) (c:aS),(∀t,a.tmps.getD t undef=ρ t)->aj w c L->(CJ a.tmps r).run P w=.ok v w
theorem amT{t:Tmp}{v:Value}(h:ρ t=v):IT P ρ L (.tmp t) v:=λa w _ ha _=>by simp only[CJ,ha,h];rfl
theorem adl{x:Tmp}{t:TypeId}{d:TypeDesc}{i b:Nat}{cs:List Value}{v:Value}(k:Nat)(hk:L[k]?=some (.box i b cs))(ht:P.underlying t=some d)
  (hd:jF d=false) (hx:ρ x=.pointer (some ⟨b,0,none⟩)) (hv:cs[0]?=some v):IT P ρ L (.cell x t) v:=λa w c ha hL=>by
 obtain⟨⟨ty,hb⟩,_⟩:=hL.at hk;simp only[CJ,ha,hx];simp[asAddr,loadVar,j9 ht hd,lj hb,hv,Result.andThen]
theorem ZM{x:Tmp}{t:TypeId}{d:TypeDesc}{i b:Nat}{cs:List Value}{sz by_:Nat}{z:Value}(k:Nat)(hk:L[k]?=some (.box i b cs))(ht:P.underlying t=some d)
  (hd:jF d=true) (hi:TI P t sz by_ z) (hx:ρ x=.pointer (some ⟨b,0,none⟩)) (hl:Nat.beq cs.length sz=true):IT P ρ L (.cell x t) (.agg cs.toArray):=λa w c ha hL=>by
 have htihi:=hi;clear hi;obtain⟨inf,hi,_,rfl,_⟩:=htihi.get;obtain⟨⟨ty,hb⟩,_⟩:=hL.at hk;have hl':=f9 hl;have hload:=run_loadCells_list (P:=P) (w:=w) ⟨b,0,none⟩ cs (λj v hv=>by rw[eN,lj hb];simpa using hv);rw[hl']at hload;simp only[CJ,ha,hx];simp[asAddr,loadVar,xI ht hd,sizeOf,typeInfo,hi,hload,Result.andThen]
def Vr(P:Program)(ρ:cV)(L:List HA):List ResultVar->List Value->Prop
 |[],[]=>True
 |r::rs,v::vs=>IT P ρ L r v/\Vr P ρ L rs vs
 |_,_=>False
theorem KQ{a:Act}{w:World}{c:aS}(ha:∀t,a.tmps.getD t undef=ρ t)(hL:aj w c L):∀{rs:List ResultVar} {vs:List Value},Vr P ρ L rs vs->(rs.mapM (CJ a.tmps)).run P w=.ok vs w
 |[],[],_=>rfl
 |r::rs,v::vs,⟨h1,h2⟩=>by simp only[amo,Sem.run_bind,h1 a w c ha hL,Result.andThen_ok,KQ ha hL h2,Sem.run_pure]
 |[],_::_,h=>h.elim
 |_::_,[],h=>h.elim
theorem Cb{fn:Func}{rs:List ResultVar}{vs:List Value}(h:fn.results=rs.toArray){a:Act}{w:World}{c:aS}(ha:∀t,a.tmps.getD t undef=ρ t)(hL:aj w c L)(hr:Vr P ρ L rs vs) :
  (results fn a.tmps).run P w=.ok (if h:vs.toArray.size=1 then vs.toArray[0]else .tuple vs.toArray) w:=by
 have he:results fn a.tmps=(do let vs<-fn.results.mapM (CJ a.tmps);pure (if h:vs.size=1 then vs[0]else .tuple vs)):=by rfl
 rw[he,h];simp only[Sem.run_bind];rw[show(Array.mapM (CJ a.tmps) rs.toArray).run P w=.ok vs.toArray w by rw[alx,Sem.run_map];simp only[KQ ha hL hr];rfl];rfl
theorem Kc{x:Operand}{xt t:TypeId}{v:Value}{d:TypeDesc}(ho:o.op=.typeAssert x xt t true)(ht:P.underlying t=some d)(hd:sb d=false)(hx:aJ ρ x=.iface t v) :
  aX P ρ o L (.tuple #[v,.bool true]):=λev w c he _=>by
 subst he;have:(Instr.typeAssert (.iface t v) xt t true).run P w=.ok (.tuple #[v,.bool true]) w:=by unfold Instr.typeAssert;simp only[bind,Sem.run_bind',run_underlying ht,Result.andThen];cases d<;>first|(exfalso;simp[sb]at hd;done)|simp_all
 simp[execOp,ho,hx,this,Result.andThen]
theorem Pb{x:Operand}{xt t u:TypeId}{v z:Value}{d:TypeDesc}{sz by_:Nat}(ho:o.op=.typeAssert x xt t true)(ht:P.underlying t=some d)(hd:sb d=false)
  (hi:TI P t sz by_ z) (hne:Nat.beq u t=false) (hx:aJ ρ x=.iface u v):aX P ρ o L (.tuple #[z,.bool false]):=λev w c he _=>by
 subst he;have htihi:=hi;clear hi;obtain⟨inf,hi,hz,_,_⟩:=htihi.get;have hne':¬u=t:=acx hne;have:(Instr.typeAssert (.iface u v) xt t true).run P w=.ok (.tuple #[z,.bool false]) w:=by
  unfold Instr.typeAssert;simp only[bind,Sem.run_bind',run_underlying ht,Result.andThen];have hzv:(zeroValue t).run P w=.ok z w:=by simp[zeroValue,typeInfo,hi,hz]
  cases d<;>first|(exfalso;simp[sb]at hd;done)|(refine Eq.trans (aae (λs:Sem Value=>s.run P w) (if_neg hne':(if u=t then _ else _)=_)) ?_;simp only[aaL,Sem.run_bind',hzv,Result.andThen];rfl)
 simp[execOp,ho,hx,this,Result.andThen]
theorem DS{w:World}(d:Nat){t e:TypeId}{m:Nat}{k:IntKind}{i:TypeInfo}(x y:List Int)(ht:P.underlying t=some (.array m e))(he:P.underlying e=some (.int k))(hi:P.info? e=some i)(hs:i.size=1) :
  (Op.equalIn (d+2) t (.agg ((tA m k).fill x ()).toArray) (.agg ((tA m k).fill y ()).toArray)).run P w=.ok (kV m x y) w:=by
 rw[run_equalIn_array (P:=P) w (d+1) _ _ ht hi];have hc:P.cellsOf e=1:=by simp[Program.cellsOf,hi,hs]
 have gen:∀is:List Nat,(∀j∈is,j<m)->(Op.eqItems (d+1) e (P.cellsOf e) ((tA m k).fill x ()).toArray ((tA m k).fill y ()).toArray is).run P w=.ok (is.all λi=>x.getD i 0==y.getD i 0) w:=by
  intro is;induction is with
  |nil=>intro _;rfl
  |cons j is ih=>
   intro hj;have hjm:j<m:=hj j (by simp);have hx:(part e ((tA m k).fill x ()).toArray (j*P.cellsOf e)).run P w=.ok (.int k (x.getD j 0)) w:=by simp[part,j9 he rfl,hc,Ty.fill,hjm,Result.andThen]
   have hy:(part e ((tA m k).fill y ()).toArray (j*P.cellsOf e)).run P w=.ok (.int k (y.getD j 0)) w:=by simp[part,j9 he rfl,hc,Ty.fill,hjm,Result.andThen]
   simp only[Op.eqItems,Sem.run_bind,hx,hy,Result.andThen_ok,run_equalIn_int w d e k k _ _ he,acw];have ih':=ih λj' hj'=>hj j' (by simp[hj']);cases hb:(x.getD j 0==y.getD j 0)
   ·simp
   ·simp[ih']
 exact gen _ λj hj=>by simpa using hj
theorem Wo{t t' e:TypeId}{a b:Operand}{m:Nat}{k:IntKind}{by_:Nat}{z:Value}{x y:List Int}(ho:o.op=.binOp .eql t a b t')(ht:P.underlying t=some (.array m e))(he:P.underlying e=some (.int k))(hi:TI P e 1 by_ z)
  (hg:P.eqGuardType P.depth t=false) (hx:aJ ρ a=.agg ((tA m k).fill x ()).toArray) (hy:aJ ρ b=.agg ((tA m k).fill y ()).toArray):aX P ρ o L (.bool (kV m x y)):=λev w c hev _=>by
 subst hev;have htihi:=hi;clear hi;obtain⟨i,hi,_,hs,_⟩:=htihi.get;have h1:(eqGuard .eql t a b (.agg ((tA m k).fill x ()).toArray) (.agg ((tA m k).fill y ()).toArray)).run P w=.ok () w:=run_eqGuard_agg w .eql t a b _ _ hg;have h2:(binOp .eql t (.agg ((tA m k).fill x ()).toArray) (.agg ((tA m k).fill y ()).toArray)).run P w=.ok (.bool (kV m x y)) w:=by rw[run_eql_struct,DS 9998 x y ht he hi hs];rfl
 grind[execOp,Sem.run_bind,Result.andThen_ok,Sem.run_pure]
theorem ad8{t:TypeId}{x:Operand}{f:Nat}{fs:Array Field}{fd:Field}{d:TypeDesc}{cs:List Value}{v:Value}(ho:o.op=.field t x f)(ht:P.underlying t=some (.struct fs))(hf:fs[f]?=some fd)
  (hu:P.underlying fd.type=some d) (hd:jF d=false) (hx:aJ ρ x=.agg cs.toArray) (hv:cs[fd.offset]?=some v):aX P ρ o L v:=λev w c he _=>by
 subst he;simp[execOp,ho,hx,Instr.field,run_underlying ht,hf,asAgg,part,j9 hu hd,hv,Result.andThen]
theorem ab0{t:TypeId}{x:Operand}{f:Nat}{fs:Array Field}{fd:Field}{d:TypeDesc}{cs cs':List Value}{sz by_:Nat}{z:Value}(ho:o.op=.field t x f)(ht:P.underlying t=some (.struct fs))(hf:fs[f]?=some fd)
  (hu:P.underlying fd.type=some d) (hd:jF d=true) (hi:TI P fd.type sz by_ z) (hx:aJ ρ x=.agg cs.toArray) (hv:(cs.drop fd.offset).take sz=cs') :
  aX P ρ o L (.agg cs'.toArray):=λev w c he _=>by
 subst he;have htihi:=hi;clear hi;obtain⟨inf,hi,_,rfl,_⟩:=htihi.get;simp[execOp,ho,hx,Instr.field,run_underlying ht,hf,asAgg,part,xI hu hd,sizeOf,typeInfo,hi,hv,Result.andThen]
abbrev ac(n:Int):Int:=IntKind.i64.wrap n
def aP(m k b:Nat):Bool:=decide ((m+k)*b<=140737488355328/\m+k<=maxLen)
def ah{α:Type}(b:Bool)(m:Option α):Option α:=bif b then m else none
theorem Df{α:Type}{b:Bool}{m:Option α}{r:α}(h:ah b m=some r):b=true/\m=some r:=by
 cases b
 ·cases h
 ·exact⟨rfl,h⟩
end
end Go.Sm
