/- Laws for the row. No condition. -/
import Derived.WalkKit
import Derived.Orders
import Derived.LoopN
import Derived.Laws.AppendOwnNone
import Derived.Laws.MakeOwn
import Derived.TacticsIn
import Derived.OrdersIn
import Derived.LoopNIn
import Derived.Scope
import Derived.ChangeKeysEq
namespace Go.Sm
variable {w w':World} {t t' ty:TypeId} {z:Value} {by_ i n m ci:Nat} {y:Operand} {a b:Int} {K κ K' Ka K2:List Nat} {d:TypeDesc} {cs xs vs cs':List Value} {l:List Oper} {S S':Nat->Prop} {P:Program} {parts:Array (Nat×Operand)} {listed:Array Bool} {α:Type} {fs:Array Field} {vals:List (Nat×List Value)} {cl:List (List Nat)} {Q:Exit->Act->World->Prop} {c:Code} {ds:List Deferred} {g:Nat->Nat} {fd:Field}
abbrev akd:=@Array.ext'
abbrev agZ:=@Array.getD_eq_getD_getElem?
abbrev aeJ:=@Array.getElem?_eq_some_iff
abbrev aka:=@Array.getElem?_replicate
abbrev ane:=@Array.getElem?_setIfInBounds
abbrev amd:=@Array.length_toList
abbrev aqc:=@Array.mapM_eq_mapM_toList
abbrev ap3:=@BitVec.toNat_ofInt
abbrev akF:=@Bool.and_eq_false_iff
abbrev abF:=@Bool.and_eq_true
abbrev ahg:=@Bool.and_self
abbrev aii:=@Bool.and_true
abbrev ap9:=@Bool.eq_false_iff
abbrev agX:=@Bool.false_eq_true
abbrev ajU:=@Bool.false_or
abbrev afm:=@Bool.not_eq_true'
abbrev aeN:=@Bool.not_false
abbrev afg:=@Bool.not_true
abbrev afJ:=@Bool.or_eq_false_iff
abbrev afz:=@Bool.or_eq_true
abbrev ame:=@Function.comp_apply
abbrev aqC:=@Int.eq_ofNat_of_zero_le
abbrev af3:=@Int.le_refl
abbrev ajF:=@Int.le_trans
abbrev ag0:=@Int.lt_or_le
abbrev aqt:=@Int.sub_zero
abbrev aip:=@Int.tdiv_eq_ediv_of_nonneg
abbrev agJ:=@Int.tmod_eq_emod_of_nonneg
abbrev ac6:=@Int.toNat_natCast
abbrev anc:=@Int.toNat_of_nonneg
abbrev ai1:=@Int.zero_add
abbrev aoX:=@List.Perm.refl
abbrev afR:=@List.all_cons
abbrev acr:=@List.all_eq_true
abbrev aq3:=@List.any_cons
abbrev akv:=@List.any_eq_false
abbrev aiF:=@List.any_eq_true
abbrev aeh:=@List.append_assoc
abbrev ad0:=@List.append_nil
abbrev akS:=@List.concat_eq_append
abbrev ah6:=@List.cons.injEq
abbrev afO:=@List.cons_append
abbrev alk:=@List.dropLast_concat
abbrev afr:=@List.drop_append
abbrev agG:=@List.drop_drop
abbrev aqd:=@List.drop_eq_getElem_cons
abbrev afc:=@List.drop_eq_nil_of_le
abbrev aiI:=@List.drop_length
abbrev aj0:=@List.drop_succ_cons
abbrev agI:=@List.drop_take
abbrev agY:=@List.drop_zero
abbrev afG:=@List.eq_nil_of_length_eq_zero
abbrev akR:=@List.eq_nil_or_concat
abbrev aiV:=@List.eq_of_mem_replicate
abbrev afQ:=@List.ext_getElem?
abbrev ajA:=@List.flatMap_cons
abbrev aqm:=@List.flatMap_nil
abbrev ajD:=@List.foldl_append
abbrev aqF:=@List.foldl_cons
abbrev aee:=@List.getD_eq_getElem?_getD
abbrev akU:=@List.getElem?_append
abbrev aho:=@List.getElem?_append_left
abbrev afT:=@List.getElem?_append_right
abbrev ajg:=@List.getElem?_cons_succ
abbrev agE:=@List.getElem?_cons_zero
abbrev afS:=@List.getElem?_drop
abbrev acz:=@List.getElem?_eq_getElem
abbrev aeI:=@List.getElem?_eq_some_iff
abbrev afX:=@List.getElem?_map
abbrev ahF:=@List.getElem?_range
abbrev agN:=@List.getElem?_set_ne
abbrev afF:=@List.getElem?_set_self
abbrev ajr:=@List.getElem?_take
abbrev akD:=@List.getElem?_toArray
abbrev agl:=@List.getElem_mem
abbrev ahI:=@List.getElem_of_mem
abbrev ak6:=@List.headD_cons
abbrev acA:=@List.length_append
abbrev aeH:=@List.length_cons
abbrev agk:=@List.length_drop
abbrev ajt:=@List.length_eq_one_iff
abbrev afN:=@List.length_map
abbrev afW:=@List.length_nil
abbrev aks:=@List.length_range
abbrev agu:=@List.length_replicate
abbrev afa:=@List.length_set
abbrev adC:=@List.length_singleton
abbrev afi:=@List.length_take
abbrev aqT:=@List.mapM_cons
abbrev afo:=@List.map_append
abbrev afA:=@List.map_congr_left
abbrev aev:=@List.map_cons
abbrev aq2:=@List.map_drop
abbrev akB:=@List.map_id
abbrev ag1:=@List.map_map
abbrev ahd:=@List.map_nil
abbrev ajZ:=@List.map_take
abbrev aef:=@List.mem_append
abbrev ad2:=@List.mem_append_left
abbrev adF:=@List.mem_append_right
abbrev aen:=@List.mem_cons
abbrev abJ:=@List.mem_cons_of_mem
abbrev adT:=@List.mem_cons_self
abbrev ae2:=@List.mem_filter
abbrev akJ:=@List.mem_iff_getElem?
abbrev acG:=@List.mem_map
abbrev aeK:=@List.mem_of_getElem?
abbrev ag4:=@List.mem_of_mem_drop
abbrev agT:=@List.mem_of_mem_take
abbrev afx:=@List.mem_or_eq_of_mem_set
abbrev af1:=@List.mem_range
abbrev ade:=@List.mem_singleton
abbrev ae4:=@List.nil_append
abbrev aqO:=@List.nodup_cons
abbrev ajK:=@List.not_mem_nil
abbrev afZ:=@List.pairwise_cons
abbrev aj7:=@List.range_succ
abbrev ag5:=@List.replicate_succ
abbrev ajN:=@List.replicate_succ'
abbrev aqk:=@List.set_set
abbrev aiu:=@List.size_toArray
abbrev aq7:=@List.take_add
abbrev aqb:=@List.take_add_one
abbrev af4:=@List.take_append
abbrev ags:=@List.take_append_drop
abbrev ajy:=@List.take_append_of_le_length
abbrev ajR:=@List.take_length
abbrev aeQ:=@List.take_of_length_le
abbrev ai3:=@List.take_succ_cons
abbrev ahK:=@List.take_take
abbrev ahj:=@List.take_zero
abbrev ajn:=@Nat.add_assoc
abbrev ago:=@Nat.add_mul
abbrev ai4:=@Nat.add_sub_cancel_left
abbrev afu:=@Nat.add_zero
abbrev aeo:=@Nat.ble_eq_true_of_le
abbrev ah5:=@Nat.div_div_eq_div_mul
abbrev f9:=@Nat.eq_of_beq_eq_true
abbrev aqy:=@Nat.le_mul_of_pos_right
abbrev abM:=@Nat.le_of_ble_eq_true
abbrev ad3:=@Nat.le_refl
abbrev aqf:=@Nat.le_trans
abbrev ajq:=@Nat.lt_of_lt_of_le
abbrev afB:=@Nat.lt_or_ge
abbrev afn:=@Nat.min_eq_left
abbrev ajQ:=@Nat.mod_lt
abbrev aeL:=@Nat.mul_le_mul_right
abbrev ahv:=@Nat.mul_one
abbrev afY:=@Nat.ne_of_beq_eq_false
abbrev akz:=@Nat.one_mul
abbrev alL:=@Nat.pow_le_pow_right
abbrev alu:=@Nat.pow_succ
abbrev ap8:=@Nat.pow_succ'
abbrev ak8:=@Nat.sub_self
abbrev akV:=@Nat.sub_zero
abbrev ahw:=@Nat.zero_add
abbrev ahT:=@Nat.zero_le
abbrev aqR:=@Ne.symm
abbrev ahA:=@Option.bind_eq_some_iff
abbrev f8:=@Option.bind_some
abbrev aiJ:=@Option.getD_some
abbrev ahy:=@Option.isSome_iff_exists
abbrev afe:=@Option.map_eq_some_iff
abbrev aqL:=@Option.map_none
abbrev aqJ:=@Option.map_some
abbrev aj3:=@Option.some.inj
abbrev no:=@Option.some.injEq
abbrev acW:=@Prod.mk.injEq
abbrev apy:=@UInt8.toNat_ofNat'
abbrev aqi:=@and_true
abbrev ag6:=@beq_eq_false_iff_ne
abbrev aix:=@beq_iff_eq
abbrev aer:=@beq_self_eq_true
abbrev aeA:=@bne_self_eq_false
abbrev ab7:=@cond_false
abbrev abv:=@cond_true
abbrev aei:=@congrArg
abbrev akr:=@decide_eq_false_iff_not
abbrev ahk:=@decide_eq_true
abbrev agD:=@decide_eq_true_eq
abbrev aiM:=@decide_false
abbrev ahW:=@decide_true
abbrev aqX:=@dif_neg
abbrev aeU:=@if_false
abbrev aeP:=@if_true
abbrev aku:=@not_false_eq_true
abbrev aex:=@of_decide_eq_true
abbrev aq0:=@or_false
abbrev aq1:=@true_and
structure Hd where
 a:Option Addr
 n:Nat
 cap:Nat
abbrev Hd.val(h:Hd):Value:=.slice h.a h.n h.cap
def Hd.blk(h:Hd):Nat:=match h.a with
 |some ⟨b,_,_⟩=>b
 |none=>0
inductive Nd
 |mk (kind:Int) (text:List UInt8) (n:Int) (kids:List Nd)
def Nd.tup:Nd->Int×List UInt8×Int×List Nd
 |.mk k t n l=>(k,t,n,l)
def Nd.of(v:Int×List UInt8×Int×List Nd):Nd:=.mk v.1 v.2.1 v.2.2.1 v.2.2.2
def Nd.fill(x:Nd)(h:Hd):List Value:=[.int .i64 x.tup.1,.string ⟨x.tup.2.1.toArray⟩,.int .i64 x.tup.2.2.1,h.val]
def xO:List Nd->List Hd->List Value
 |x::xs,y::ys=>x.fill y++xO xs ys
 |_,_=>[]
inductive Ty:Type 1
 |one (α:Type) (f:α->Value) (h:∀x,(f x).oneCell'=true)
 |arr (n:Nat) (α:Type) (d:α) (f:α->Value) (h:∀x,(f x).oneCell'=true)
 |unit
 |pair (a b:Ty)
 |slice (t:Ty)
 |node
 |mp (k v:Ty)
abbrev Ty.den:Ty->Type
 |.one α _ _=>α
 |.arr _ α _ _ _=>List α
 |.unit=>Unit
 |.pair a b=>a.den×b.den
 |.slice t=>List t.den
 |.node=>Nd
 |.mp k v=>List (k.den×v.den)
abbrev Ty.sz:Ty->Nat
 |.one _ _ _=>1
 |.arr n _ _ _ _=>n
 |.unit=>0
 |.pair a b=>a.sz+b.sz
 |.slice _=>1
 |.node=>4
 |.mp _ _=>1
abbrev Ty.Refs:Ty->Type
 |.one _ _ _=>Unit
 |.arr _ _ _ _ _=>Unit
 |.unit=>Unit
 |.pair a b=>a.Refs×b.Refs
 |.slice _=>Hd
 |.node=>Hd
 |.mp _ _=>Hd
def Ty.fill:(t:Ty)->t.den->t.Refs->List Value
 |.one _ f _,x,_=>[f x]
 |.arr n _ d f _,x,_=>(List.range n).map λi=>f (x.getD i d)
 |.unit,_,_=>[]
 |.pair a b,x,y=>a.fill x.1 y.1++b.fill x.2 y.2
 |.slice _,_,h=>[h.val]
 |.node,x,h=>x.fill h
 |.mp _ _,_,h=>[.map (some (Hd.blk h))]
theorem Ty.fill_length:(t:Ty)->(x:t.den)->(y:t.Refs)->(t.fill x y).length=t.sz
 |.one _ _ _,_,_=>rfl
 |.arr _ _ _ _ _,_,_=>by simp[Ty.fill,Ty.sz]
 |.unit,_,_=>rfl
 |.pair a b,x,y=>by simp[Ty.fill,Ty.sz,a.fill_length,b.fill_length]
 |.slice _,_,_=>rfl
 |.node,_,_=>rfl
 |.mp _ _,_,_=>rfl
def cf{α β:Type}(R:α->β->Prop):List α->List β->Prop
 |[],[]=>True
 |x::xs,y::ys=>R x y/\cf R xs ys
 |_,_=>False
def cellsOf(t:Ty):List t.den->List t.Refs->List Value
 |x::xs,y::ys=>t.fill x y++cellsOf t xs ys
 |_,_=>[]
def Sl(w:World)(S:Nat->Prop)(sz:Nat)(h:Hd)(n:Nat)(cells:List Value):Prop:=
 h.n=n/\n<=h.cap/\h.cap<=maxLen/\((True/\h.cap=0)\/∃b off arr ty f,h.a=some ⟨b,off,none⟩/\S b /\
  w.heap[b]?=some (.cells arr ty f)/\off+h.cap*sz<=arr.size/\(arr.toList.drop off).take (n*sz)=cells)
mutual
def sM(w:World)(S:Nat->Prop):Nd->Hd->Prop
 |.mk _ _ _ kids,h=>∃ys:List Hd,lA w S kids ys/\Sl w S 4 h kids.length (xO kids ys)
def lA(w:World)(S:Nat->Prop):List Nd->List Hd->Prop
 |[],[]=>True
 |x::xs,y::ys=>sM w S x y/\lA w S xs ys
 |_,_=>False
end
def bH(w:World)(S:Nat->Prop):(t:Ty)->t.den->t.Refs->Prop
 |.one _ _ _,_,_=>True
 |.arr _ _ _ _ _,_,_=>True
 |.unit,_,_=>True
 |.pair a b,x,y=>bH w S a x.1 y.1/\bH w S b x.2 y.2
 |.slice t,xs,v=>∃ys:List t.Refs,cf (bH w S t) xs ys/\Sl w S t.sz v xs.length (cellsOf t xs ys)
 |.node,x,h=>sM w S x h
 |.mp _ _,_,_=>True
def Ty.pureB:Ty->Bool
 |.one _ _ _=>true
 |.arr _ _ _ _ _=>true
 |.unit=>true
 |.pair a b=>a.pureB&&b.pureB
 |.slice _=>false
 |.node=>false
 |.mp _ _=>false
theorem bH.pure{w:World}{S:Nat->Prop}:(t:Ty)->(x:t.den)->(y:t.Refs)->t.pureB=true->bH w S t x y
 |.one _ _ _,_,_,_=>trivial
 |.arr _ _ _ _ _,_,_,_=>trivial
 |.unit,_,_,_=>trivial
 |.pair a b,x,y,h=>by simp only[Ty.pureB,abF]at h;exact⟨bH.pure a x.1 y.1 h.1,bH.pure b x.2 y.2 h.2⟩
 |.slice _,_,_,h=>by cases h
 |.node,_,_,h=>by cases h
 |.mp _ _,_,_,h=>by cases h
theorem cf.mono{α β:Type}{R j:α->β->Prop}(h:∀x y,R x y->j x y):∀{xs:List α} {ys:List β},cf R xs ys->cf j xs ys
 |[],[],_=>trivial
 |_::_,_::_,⟨k,p⟩=>⟨h _ _ k,cf.mono h p⟩
 |[],_::_,f=>f
 |_::_,[],f=>f
theorem cf.length{α β:Type}{R:α->β->Prop}:∀{xs:List α} {ys:List β},cf R xs ys->xs.length=ys.length
 |[],[],_=>rfl
 |_::_,_::_,⟨_,h⟩=>by simp[cf.length h]
 |[],_::_,f=>f.elim
 |_::_,[],f=>f.elim
theorem cf.append{α β:Type}{R:α->β->Prop}:∀{xs:List α} {ys:List β} {f:List α} {j:List β},cf R xs ys->cf R f j->cf R (xs++f) (ys++j)
 |[],[],_,_,_,h=>h
 |_::_,_::_,_,_,⟨p,q⟩,h=>⟨p,cf.append q h⟩
 |[],_::_,_,_,k,_=>k.elim
 |_::_,[],_,_,k,_=>k.elim
theorem cf.get{α β:Type}{R:α->β->Prop}:∀{xs:List α} {ys:List β} {i:Nat} {x:α},cf R xs ys->xs[i]?=some x->∃y,ys[i]?=some y/\R x y
 |s::_,k::_,0,x,⟨p,_⟩,h=>⟨k,rfl,by grind⟩
 |_::_,_::_,i+1,x,⟨_,j⟩,h=>by simp at h;obtain⟨y,r,q⟩:=cf.get j h;grind
 |[],[],_,_,_,h=>by simp at h
 |[],_::_,_,_,f,_=>f.elim
 |_::_,[],_,_,f,_=>f.elim
theorem cf.take{α β:Type}{R:α->β->Prop}:∀{xs:List α} {ys:List β} (k:Nat),cf R xs ys->cf R (xs.take k) (ys.take k)
 |[],[],_,_=>by simp[cf]
 |_::_,_::_,0,_=>by simp[cf]
 |_::_,_::_,k+1,⟨h,j⟩=>⟨h,cf.take k j⟩
 |[],_::_,_,f=>f.elim
 |_::_,[],_,f=>f.elim
theorem cf.drop{α β:Type}{R:α->β->Prop}:∀{xs:List α} {ys:List β} (k:Nat),cf R xs ys->cf R (xs.drop k) (ys.drop k)
 |[],[],_,_=>by simp[cf]
 |_::_,_::_,0,h=>h
 |_::_,_::_,k+1,⟨_,j⟩=>cf.drop k j
 |[],_::_,_,f=>f.elim
 |_::_,[],_,f=>f.elim
theorem cf.set{α β:Type}{R:α->β->Prop}:∀{xs:List α} {ys:List β} (k:Nat) {x:α} {y:β},cf R xs ys->R x y->cf R (xs.set k x) (ys.set k y)
 |[],[],_,_,_,_,_=>by simp[cf]
 |_::_,_::_,0,_,_,⟨_,f⟩,h=>⟨h,f⟩
 |_::_,_::_,k+1,_,_,⟨p,f⟩,h=>⟨p,cf.set k f h⟩
 |[],_::_,_,_,_,j,_=>j.elim
 |_::_,[],_,_,_,j,_=>j.elim
theorem cO(t:Ty):∀{xs:List t.den} {ys:List t.Refs},xs.length=ys.length->(cellsOf t xs ys).length=xs.length*t.sz
 |[],[],_=>by simp[cellsOf]
 |x::xs,y::ys,h=>by have:=cO t (xs:=xs) (ys:=ys) (by simpa using h);simp[cellsOf,t.fill_length,this,ago];omega
 |[],_::_,h=>by simp at h
 |_::_,[],h=>by simp at h
theorem eF(t:Ty):∀{xs:List t.den} {ys:List t.Refs} {xs':List t.den} {ys':List t.Refs},xs.length=ys.length ->
  cellsOf t (xs++xs') (ys++ys')=cellsOf t xs ys++cellsOf t xs' ys'
 |[],[],_,_,_=>by simp[cellsOf]
 |x::xs,y::ys,xs',ys',h=>by have:=eF t (xs:=xs) (ys:=ys) (xs':=xs') (ys':=ys') (by simpa using h);simp[cellsOf,this]
 |[],_::_,_,_,h=>by simp at h
 |_::_,[],_,_,h=>by simp at h
theorem qD(t:Ty):∀{xs:List t.den} {ys:List t.Refs} {i:Nat} {x:t.den} {y:t.Refs},xs[i]?=some x->ys[i]?=some y ->
  ((cellsOf t xs ys).drop (i*t.sz)).take t.sz=t.fill x y
 |j::xs,k::ys,0,x,y,f,h=>by simp at f h;subst f;subst h;simp[cellsOf,t.fill_length]
 |j::xs,k::ys,i+1,x,y,f,h=>by simp at f h;have:=qD t f h;simp only[cellsOf];rw[show(i+1)*t.sz=(t.fill j k).length+i*t.sz by rw[t.fill_length,ago];omega,afr,afc (by omega)];grind
 |[],_,_,_,_,f,_=>by simp at f
 |_::_,[],_,_,_,_,h=>by simp at h
theorem jl(t:Ty):∀{xs:List t.den} {ys:List t.Refs} (k:Nat),xs.length=ys.length ->
  cellsOf t (xs.take k) (ys.take k)=(cellsOf t xs ys).take (k*t.sz)
 |[],[],_,_=>by simp[cellsOf]
 |x::xs,y::ys,0,_=>by simp[cellsOf]
 |x::xs,y::ys,k+1,h=>by have:=jl t (xs:=xs) (ys:=ys) k (by simpa using h);simp only[ai3,cellsOf,this];rw[show(k+1)*t.sz=(t.fill x y).length+k*t.sz by rw[t.fill_length,ago];omega,af4,aeQ (l:=t.fill x y) (by omega)];simp
 |[],_::_,_,h=>by simp at h
 |_::_,[],_,h=>by simp at h
theorem rQ(t:Ty):∀{xs:List t.den} {ys:List t.Refs} (k:Nat),xs.length=ys.length ->
  cellsOf t (xs.drop k) (ys.drop k)=(cellsOf t xs ys).drop (k*t.sz)
 |[],[],_,_=>by simp[cellsOf]
 |x::xs,y::ys,0,_=>by simp
 |x::xs,y::ys,k+1,h=>by have:=rQ t (xs:=xs) (ys:=ys) k (by simpa using h);simp only[aj0,cellsOf,this];rw[show(k+1)*t.sz=(t.fill x y).length+k*t.sz by rw[t.fill_length,ago];omega,afr,afc (as:=t.fill x y) (by omega)];simp
 |[],_::_,_,h=>by simp at h
 |_::_,[],_,h=>by simp at h
def qV(l:List Value):Prop:=∀v∈l,v.oneCell'=true
theorem yh:(t:Ty)->(x:t.den)->(y:t.Refs)->qV (t.fill x y)
 |.one _ _ h,x,_=>by simp[qV,Ty.fill,h]
 |.arr _ _ _ _ h,x,_=>by simp only[qV,Ty.fill,acG];grind
 |.unit,_,_=>by simp[qV,Ty.fill]
 |.pair a b,x,y=>by
  simp only[qV,Ty.fill,aef];rintro v (f|f)
  ·exact yh a x.1 y.1 v f
  ·exact yh b x.2 y.2 v f
 |.slice t,xs,v=>by simp only[qV,Ty.fill,ade];rintro u rfl;rfl
 |.node,x,h=>by simp only[qV,Ty.fill,Nd.fill,aen,ajK,aq0];rintro u (rfl|rfl|rfl|rfl)<;>rfl
 |.mp _ _,_,h=>by simp only[qV,Ty.fill,ade];rintro u rfl;rfl
theorem jv(t:Ty):∀{xs:List t.den} {ys:List t.Refs},qV (cellsOf t xs ys)
 |[],[]=>by simp[qV,cellsOf]
 |x::xs,y::ys=>by
  simp only[qV,cellsOf,aef];rintro v (f|f)
  ·exact yh t x y v f
  ·exact jv t v f
 |[],_::_=>by simp[qV,cellsOf]
 |_::_,[]=>by simp[qV,cellsOf]
def jb(w w':World)(S S':Nat->Prop):Prop:=∀b,b<w.heap.size->S b->S' b/\w'.heap[b]?=w.heap[b]?
theorem Sl.keep(u:jb w w' S S'){sz:Nat}{v:Hd}{cells:List Value}(h:Sl w S sz v n cells):Sl w' S' sz v n cells:=by
 obtain⟨B,A,x,f⟩:=h;refine⟨B,A,x,?_⟩;rcases f with f|⟨b,off,arr,ty,C,ha,p,r,k⟩
 ·exact .inl f
 ·have j:b<w.heap.size:=(aeJ.1 r).1;obtain⟨q,s⟩:=u b j p;grind
theorem wI:∀(xs:List Nd) (ys:List Hd),xO xs ys=cellsOf .node xs ys
 |[],[]=>rfl
 |x::xs,y::ys=>by simp only[xO,cellsOf,wI xs ys];rfl
 |[],_::_=>rfl
 |_::_,[]=>rfl
theorem yO{w:World}{S:Nat->Prop}:∀{xs:List Nd} {ys:List Hd},lA w S xs ys↔cf (sM w S) xs ys
 |[],[]=>by rfl
 |x::xs,y::ys=>by rw[lA,cf,yO]
 |[],_::_=>by rfl
 |_::_,[]=>by rfl
theorem pL{x:Nd}{h:Hd}:sM w S x h↔bH w S (.slice .node) x.tup.2.2.2 h:=by
 cases x with
 |mk k t n l=>
  rw[sM];constructor
  ·rintro⟨ys,f,j⟩;exact⟨ys,yO.1 f,by rw[<-wI];exact j⟩
  ·rintro⟨ys,f,j⟩;exact⟨ys,yO.2 f,by rw[wI];exact j⟩
mutual
theorem sM.keep{w w':World}{S S':Nat->Prop}(f:jb w w' S S'):(x:Nd)->(h:Hd)->sM w S x h->sM w' S' x h
 |.mk k t n l,h,j=>by rw[sM]at j|-;obtain⟨ys,p,q⟩:=j;exact⟨ys,lA.keep f l ys p,q.keep f⟩
theorem lA.keep{w w':World}{S S':Nat->Prop}(f:jb w w' S S'):(xs:List Nd)->(ys:List Hd)->lA w S xs ys->lA w' S' xs ys
 |[],[],h=>h
 |x::xs,y::ys,h=>by rw[lA]at h|-;exact⟨sM.keep f x y h.1,lA.keep f xs ys h.2⟩
 |[],_::_,h=>by rw[lA]at h;exact h.elim;all_goals simp
 |_::_,[],h=>by rw[lA]at h;exact h.elim;all_goals simp
end
theorem bH.keep{w w':World}{S S':Nat->Prop}(f:jb w w' S S'):(t:Ty)->(x:t.den)->(y:t.Refs)->bH w S t x y->bH w' S' t x y
 |.one _ _ _,_,_,_=>trivial
 |.arr _ _ _ _ _,_,_,_=>trivial
 |.unit,_,_,_=>trivial
 |.pair a b,x,y,h=>⟨bH.keep f a x.1 y.1 h.1,bH.keep f b x.2 y.2 h.2⟩
 |.slice t,_,_,⟨ys,j,k⟩=>⟨ys,j.mono (bH.keep f t),k.keep f⟩
 |.node,x,h,p=>sM.keep f x h p
 |.mp _ _,_,_,_=>trivial
abbrev dm:=Nat->Value
abbrev aS:=Nat->Nat
def Bh(ρ:dm)(d:Nat)(v:Value):dm:=λt=>cond (Nat.beq t d) v (ρ t)
def aL(ρ:dm):Operand->Value
  |.tmp t=>ρ t
  |.const v=>v
  |.global g=>.pointer (some ⟨g,0,none⟩)
  |.func f=>.func (.func f) #[] #[]
class Rd where
  ro:Option Nat
  ds:List Deferred
def tj[Rd]:Fence:={ Fence.wide with round:=Rd.ro}
def ndO:Op->Bool
  |.defer _=>false
  |_=>true
theorem agR[Rd]{o:Oper}{a:Act}{next:Act->World->Prop}{r:Result Next}(h:o.uponIn Fence.wide 0 P a next Q r):o.uponIn tj 0 P a next Q r:=h
theorem qH{b:Frame}{a:Act}{k:List Item}{cs:List Frame}  :step P (lone (b.atR a (.code (.scope c)::k)) cs w)=.next (lone (b.atR a (.code c::.inScope c::k)) cs w):=
  step_lone_go (by simp[stepG,stepG.exec,Frame.atR])
theorem JO{b:Frame}{a:Act}{k:List Item}{cs:List Frame}  :step P (lone (b.atR a (.inScope c::k)) cs w)=.next (lone (b.atR a k) cs w):=
  step_lone_go (by simp[stepG,stepG.exec,Frame.atR])
theorem tD{F:Fence}{a:Act}(h:c.wpIn F n P (Exit.noGoto Q) a w):(Code.scope c).wpIn F n P Q a w:=by
  intro b k cs A r u;have q:(lone (b.atR a (.code (.scope c)::k)) cs w).fenced P F:=fenced_calm r u rfl;obtain⟨e,j,p,hq,f⟩:=h b (.inScope c::k) cs A r u;cases e with
  |normal=>exact⟨.normal,j,p,hq,.head q qH (StepsIn.trans f (.one (fenced_calm r u rfl) JO))⟩
  |exit id=>exact⟨_,j,p,hq,.of_steps (e:=.exit id) (.one q qH) ⟨λC s=>f.1 C (by simp[exitTo,s]),λx s=>f.2 x (by simp[exitTo,s])⟩⟩
  |goto l=>exact hq.elim
  |ret=>exact⟨_,j,p,hq,.of_steps (e:=.ret) (.one q qH) f⟩
  |panic B=>exact⟨_,j,p,hq,.of_steps (e:=.panic B) (.one q qH) f⟩
  |outgrown=>exact⟨_,j,p,hq,.of_steps (e:=.outgrown) (.one q qH) f⟩
structure Rel(n:Nat)(ρ:dm)(a:Act)(ds:List Deferred:=[]):Prop where
  defers:a.defers=ds
  size:a.tmps.size=n
  val:∀t,a.tmps.getD t undef=ρ t
theorem Rel.eval{ρ:dm}{a:Act}(h:Rel n ρ a ds):a.eval=aL ρ:=by funext x;cases x<;>simp[Act.eval,aL,h.val]
theorem Rel.put{ρ:dm}{a:Act}(h:Rel n ρ a ds){d:Nat}(hd:Nat.blt d n=true)(v:Value):Rel n (Bh ρ d v) (a.put (some d) v) ds:=by
  have f:d<n:=abM hd;refine⟨h.defers,by simp[Act.put,h.size],λt=>?_⟩;have k:=h.val t;simp only[Act.put,Bh,agZ,ane]at k|-;by_cases j:t=d
  ·subst j;simp[h.size,f]
  · have:Nat.beq t d=false:=by
      cases p:Nat.beq t d
      ·rfl
      simp_all
    grind
noncomputable def qS(S:Nat->Prop):aS:=open Classical inλb=>if S b then 1 else 0
theorem ar0(S:Nat->Prop)(b:Nat):qS S b=0\/qS S b=1:=by unfold qS;split<;>simp
def gU(w w':World):Prop:=w'.os=w.os/\w'.output=w.output
theorem gU.refl(w:World):gU w w:=⟨rfl,rfl⟩
theorem gU.trans{a b c:World}(h:gU a b)(k:gU b c):gU a c:=⟨k.1.trans h.1,k.2.trans h.2⟩
def xh(w:World)(e:TypeId)(sz:Nat)(v:Value)(n:Nat)(xs:List Value):Prop:=
  xs.length=n*sz/\((v=.slice none 0 0/\n=0) \/
   ∃ (g cap:Nat) (f:Array Value) (ty:TypeId) (h:Nat×Nat),v=.slice (some ⟨g,0,none⟩) n cap/\w.heap[g]?=some (.cells f ty h)/\((ty=e/\h=(0,0))\/(1048576<=e/\f.size<=h.1)) /\
     n<=cap/\cap<=maxLen/\f.size=cap*sz/\f.toList.take (n*sz)=xs)
theorem zU{base:Nat}{e:TypeId}{sz:Nat}{v:Value}(h:w.ownsRow base e sz v n xs):xh w e sz v n xs:=
  ⟨h.1,h.2.imp id λ⟨g,cap,f,s,_,r,j,k,p,q⟩=>⟨g,cap,f,e,(0,0),s,r,.inl ⟨rfl,rfl⟩,j,k,p,q⟩⟩
theorem xh.plain{e:TypeId}{sz:Nat}{v:Value}(h:xh w e sz v n xs)(j:Nat.blt e 1048576=true):w.ownsRow 0 e sz v n xs:=
  ⟨h.1,h.2.imp id λ⟨g,cap,f,ty,p,B,x,A,q,r,s,u⟩=>by have k:e+1<=1048576:=abM j;grind⟩
theorem xh.lt{e:TypeId}{sz:Nat}{v:Value}(h:xh w e sz v n xs):∀g,v.ownBlock=some g->g<w.heap.size:=by
  intro g j;rcases h.2 with⟨rfl,_⟩|⟨q,cap,f,ty,p,rfl,k,_⟩
  ·simp[Value.ownBlock]at j
  grind[Value.ownBlock]
theorem xh.same{e:TypeId}{sz:Nat}{v:Value}{cells:List Value}(h:xh w e sz v n cells)
    (r:∀g,v.ownBlock=some g->g<w.heap.size->w'.heap[g]?=w.heap[g]?):xh w' e sz v n cells:=by
  refine⟨h.1,?_⟩;rcases h.2 with q|⟨g,cap,j,ty,p,rfl,k,f⟩
  ·exact .inl q
  ·exact .inr ⟨g,cap,j,ty,p,rfl,(r g rfl (aeJ.1 k).1).trans k,f⟩
inductive EI
  |leaf
  |pair (a b:EI)
  |row (e:TypeId) (s:EI)
  deriving DecidableEq
def EI.fst:EI->EI
  |.pair a _=>a
  |_=>.leaf
def EI.snd:EI->EI
  |.pair _ b=>b
  |_=>.leaf
def EI.dec:Nat->Nat->EI×Nat
  |0,n=>(.leaf,n)
  | f+1,n=>match n%65536 with
    |0=>(.leaf,n / 65536)
    |1=>(.pair (EI.dec f (n / 65536)).1 (EI.dec f (EI.dec f (n / 65536)).2).1,(EI.dec f (EI.dec f (n / 65536)).2).2)
    |e+2=>(.row e (EI.dec f (n / 65536)).1,(EI.dec f (n / 65536)).2)
def fk(e:TypeId):Bool:=Nat.ble 1099511627776 e
def gq(e:TypeId):EI:=(EI.dec 16 (e / 1099511627776)).1
def Iw(w:World)(S:Nat->Prop)(d:Nat->List Nat)(j:List Nat)(e:TypeId)(sz:Nat)(h:Hd)(n:Nat)(cells:List Value):Prop:=
  ∃(g cap:Nat) (f:Array Value),h=⟨some ⟨g,0,none⟩,n,cap⟩/\w.heap[g]?=some (.cells f e (0,0))/\n<=cap/\cap<=maxLen/\f.size=cap*sz/\f.toList.take (n*sz)=cells/\S g/\d g=j
def bD(w:World)(S:Nat->Prop)(d:Nat->List Nat):(t:Ty)->EI->List Nat->t.den->t.Refs->Prop
  |.one _ _ _,_,_,_,_=>True
  |.arr _ _ _ _ _,_,_,_,_=>True
  |.unit,_,_,_,_=>True
  |.pair a b,k,f,x,y=>bD w S d a k.fst (0::f) x.1 y.1/\bD w S d b k.snd (1::f) x.2 y.2
  |.slice t,k,f,xs,h=>(h=⟨none,0,0⟩/\xs=[])\/∃e s,k=.row e s/\∃ys:List t.Refs,ys.length=xs.length/\Iw w S d f e t.sz h xs.length (cellsOf t xs ys) /\
      ∀(j:Nat) (x:t.den) (y:t.Refs),xs[j]?=some x->ys[j]?=some y->bD w S d t s (j::f) x y
  |.node,_,_,_,_=>False
  |.mp _ _,_,_,_,_=>False
theorem Iw.keep{d:Nat->List Nat}{k:List Nat}{e:TypeId}{sz:Nat}{h:Hd}{cells:List Value}(B:jb w w' S S')
    (C:Iw w S d k e sz h n cells):Iw w' S' d k e sz h n cells:=by
  obtain⟨g,cap,f,p,j,q,r,s,u,x,A⟩:=C;obtain⟨D,E⟩:=B g (aeJ.1 j).1 x;exact⟨g,cap,f,p,E.trans j,q,r,s,u,D,A⟩
theorem bD.keep{w w':World}{S S':Nat->Prop}{d:Nat->List Nat}(k:jb w w' S S'):(t:Ty)->(p:EI)->(f:List Nat)->(x:t.den)->(y:t.Refs) ->
    bD w S d t p f x y->bD w' S' d t p f x y
  |.one _ _ _,_,_,_,_,_=>trivial
  |.arr _ _ _ _ _,_,_,_,_,_=>trivial
  |.unit,_,_,_,_,_=>trivial
  |.pair a b,p,f,x,y,h=>⟨bD.keep k a _ _ _ _ h.1,bD.keep k b _ _ _ _ h.2⟩
  | .slice t,p,f,xs,h,q=>by
    rcases q with q|⟨e,s,B,ys,r,u,A⟩
    ·exact .inl q
    ·exact .inr ⟨e,s,B,ys,r,u.keep k,λj x y C D=>bD.keep k t s (j::f) x y (A j x y C D)⟩
theorem kv{α β:Type}{R:α->β->Prop}:∀{xs:List α} {ys:List β},ys.length=xs.length->(∀(j:Nat) (x:α) (y:β),xs[j]?=some x->ys[j]?=some y->R x y)->cf R xs ys
  |[],[],_,_=>trivial
  |x::xs,y::ys,hl,h=>⟨h 0 x y rfl rfl,kv (by simpa using hl) λj a b ha f=>h (j+1) a b (by simpa using ha) (by simpa using f)⟩
  |[],_::_,hl,_=>by simp at hl
  |_::_,[],hl,_=>by simp at hl
theorem bD.rep{w:World}{S S':Nat->Prop}{d:Nat->List Nat}(f:∀b,S b->S' b):(t:Ty)->(q:EI)->(k:List Nat)->(x:t.den)->(y:t.Refs)->bD w S d t q k x y->bH w S' t x y
  |.one _ _ _,_,_,_,_,_=>trivial
  |.arr _ _ _ _ _,_,_,_,_,_=>trivial
  |.unit,_,_,_,_,_=>trivial
  |.pair a b,q,k,x,y,h=>⟨bD.rep f a _ _ _ _ h.1,bD.rep f b _ _ _ _ h.2⟩
  | .slice t,q,k,xs,h,G=>by
    rcases G with⟨rfl,rfl⟩|⟨e,s,O,ys,D,E,F⟩
    ·exact⟨[],trivial,rfl,by simp,by simp[maxLen],.inl ⟨trivial,rfl⟩⟩
    · refine⟨ys,kv D λj x y H I=>bD.rep f t s (j::k) x y (F j x y H I),?_⟩
      obtain⟨g,cap,p,rfl,r,u,A,J,B,C,M⟩:=E
      exact⟨rfl,u,A,.inr ⟨g,0,p,e,(0,0),rfl,f g C,r,by grind,by simpa using B⟩⟩
def fI(t:Ty)(xs:List t.den)(ys:List t.Refs)(k:Nat)(cs:List Value):List Value:=cellsOf t (xs.take k) (ys.take k)++cs++cellsOf t (xs.drop (k+1)) (ys.drop (k+1))
def ka(w:World)(S:Nat->Prop)(t:Ty)(e:TypeId)(xs:List t.den)(v:Hd)(k:Nat)(cs:List Value):Prop:=
  ∃ (d:Nat->List Nat) (f:TypeId) (s:EI) (ys:List t.Refs),gq e=.row f s/\ys.length=xs.length/\k<xs.length/\cs.length=t.sz/\Iw w S d [] f t.sz v xs.length (fI t xs ys k cs) /\
    ∀(j:Nat) (x:t.den) (y:t.Refs),j≠k->xs[j]?=some x->ys[j]?=some y->bD w S d t s [j] x y
theorem ka.keep{t:Ty}{e:TypeId}{xs:List t.den}{v:Hd}{k:Nat}(f:jb w w' S S')
    (h:ka w S t e xs v k cs):ka w' S' t e xs v k cs:=by
  obtain⟨d,p,s,ys,q,r,u,A,B,C⟩:=h;exact⟨d,p,s,ys,q,r,u,A,B.keep f,λj x y D E F=>bD.keep f t s _ x y (C j x y D E F)⟩
def cJ(w:World)(S:Nat->Prop)(t:Ty)(f:EI)(x:t.den)(y:t.Refs):Prop:=∃d:Nat->List Nat,bD w S d t f [] x y
theorem cJ.keep{t:Ty}{f:EI}{x:t.den}{y:t.Refs}(j:jb w w' S S')(h:cJ w S t f x y):cJ w' S' t f x y:=h.imp λ_ h=>bD.keep j t f [] x y h
def vG(w:World)(S:Nat->Prop)(b:Nat)(es:List (Value×Value)):Prop:=
  ∃(arr:Array MapEntry) (clock:Nat),w.heap[b]?=some (.map arr clock)/\arr.toList.map (λe=>(e.key,e.val))=es/\(∀e∈arr.toList,e.born<clock)/\(arr.toList.map (·.born)).Nodup/\S b
theorem vG.keep{b:Nat}{es:List (Value×Value)}(r:jb w w' S S')(h:vG w S b es):vG w' S' b es:=by obtain⟨arr,clock,f,j,k,p,q⟩:=h;obtain⟨s,u⟩:=r b (aeJ.1 f).1 q;exact⟨arr,clock,u.trans f,j,k,p,s⟩
def zN(w:World)(S SK:Nat->Prop)(t:Ty)(e:TypeId)(xs:List t.den)(v:Hd)(m:Int):Prop:=
  (v=⟨none,0,0⟩/\xs=[])\/∃(d:Nat->List Nat) (f:TypeId) (s:EI) (ys:List t.Refs),gq e=.row f s/\ys.length=xs.length/\Iw w S d [] f t.sz v xs.length (cellsOf t xs ys) /\
    (∀(j:Nat) (x:t.den) (y:t.Refs),(j:Int)<m->xs[j]?=some x->ys[j]?=some y->bD w S d t s [j] x y)/\(∀(j:Nat) (x:t.den) (y:t.Refs),m<=(j:Int)->xs[j]?=some x->ys[j]?=some y->bH w SK t x y)
theorem zN.keep{SK f:Nat->Prop}{t:Ty}{e:TypeId}{xs:List t.den}{v:Hd}{m:Int}(u:jb w w' S S')(p:jb w w' SK f)(h:zN w S SK t e xs v m):zN w' S' f t e xs v m:=by
  rcases h with h|⟨d,A,s,ys,B,C,D,E,F⟩
  ·exact .inl h
  ·refine .inr ⟨d,A,s,ys,B,C,D.keep u,λj x y k q r=>bD.keep u t s _ x y (E j x y k q r),λj x y k q r=>bH.keep p t x y (F j x y k q r)⟩
inductive HA:Type 1
  |pt (t:Ty) (e:TypeId) (i:Nat) (K:List Nat) (xs:List t.den) (v:Hd) (m:Int)
  |mp (i b:Nat) (es:List (Value×Value))
  |tr (t:Ty) (e:TypeId) (i:Nat) (K:List Nat) (xs:List t.den) (v:Hd)
  |hol (t:Ty) (e:TypeId) (i:Nat) (xs:List t.den) (v:Hd) (k:Nat) (cs:List Value)
  |rep (t:Ty) (K:List Nat) (xs:List t.den) (v:Hd)
  |own (t:Ty) (e:TypeId) (i:Nat) (K:List Nat) (xs:List t.den) (v:Hd)
  |box (i b:Nat) (cs:List Value)
  |elem (t:Ty) (K:List Nat) (x:t.den) (p:Addr)
  |old (w0:World) (c0:aS)
  |pure (p:Prop)
  |gl (g n:Nat) (cs:List Value)
  |lp (b:Nat) (o:Obj)
def HA.holds(w:World)(c:aS):HA->Prop
  |.pt t e i K xs v m=>zN w (λb=>c b=i) (λb=>c b∈K) t e xs v m
  |.tr t e i _ xs v=>cJ w (λb=>c b=i) (.slice t) (gq e) xs v
  |.hol t e i xs v k cs=>ka w (λb=>c b=i) t e xs v k cs
  |.mp i b es=>vG w (λb=>c b=i) b es
  |.rep t K xs v=>bH w (λb=>c b∈K) (.slice t) xs v
  |.own t e i K xs v=>∃ys,cf (bH w (λb=>c b∈K) t) xs ys/\xh w e t.sz v.val xs.length (cellsOf t xs ys)/\∀g,v.val.ownBlock=some g->c g=i
  |.box i b cs=>(∃ty,w.heap[b]?=some (.cells cs.toArray ty (0,0)))/\c b=i
  |.elem t K x p=>∃y b off arr ty f,p=⟨b,off,none⟩/\c b∈K/\w.heap[b]?=some (.cells arr ty f)/\off+t.sz<=arr.size /\
      (arr.toList.drop off).take t.sz=t.fill x y/\bH w (λb=>c b∈K) t x y
  |.old w0 c0=>w0.heap.size<=w.heap.size/\(∀b,b<w0.heap.size->c0 b<=1->w.heap[b]?=w0.heap[b]?/\c b=c0 b)/\(∀b,b<w.heap.size->(b<w0.heap.size->2<=c0 b)->2<=c b)/\gU w0 w
  |.pure p=>p
  |.gl g n cs=>(∃ty f,w.heap[g]?=some (.cells cs.toArray ty f))/\c g<=1/\n<=maxLen
  |.lp b o=>w.heap[b]?=some o/\c b=0
def HA.uses:HA->List Nat
  |.pt _ _ i K _ _ _=>i::K
  |.tr _ _ i K _ _=>i::K
  |.hol _ _ i _ _ _ _=>[i]
  |.mp i _ _=>[i]
  |.rep _ K _ _=>K
  |.own _ _ i K _ _=>i::K
  |.box i _ _=>[i]
  |.elem _ K _ _=>K
  |.old _ _=>[0,1]
  |.pure _=>[]
  |.gl _ _ _=>[0,1]
  |.lp _ _=>[0]
structure Stp(κ:List Nat)(w:World)(c:aS)(w':World)(c':aS):Prop where
  size:w.heap.size<=w'.heap.size
  col:∀b,b<w.heap.size->c b∉κ->c' b=c b
  same:∀b,b<w.heap.size->c b∉κ->w'.heap[b]?=w.heap[b]?
  two:∀b,b<w'.heap.size->(b<w.heap.size->c b∈κ/\2<=c b)->2<=c' b
  env:gU w w'
theorem Stp.mk0{c:aS}{c':aS}(size:w.heap.size<=w'.heap.size)(col:∀b,b<w.heap.size->c' b=c b)(same:∀b,b<w.heap.size->c b∉κ->w'.heap[b]?=w.heap[b]?)
    (two:∀b,w.heap.size<=b->b<w'.heap.size->2<=c' b) (env:gU w w'):Stp κ w c w' c' :=
  ⟨size,λb j _=>col b j,same,λb j h=>if f:b<w.heap.size then(col b f).symm▸(h f).2 else two b (by omega) j,env⟩
theorem Stp.refl(w:World)(c:aS):Stp [] w c w c:=.mk0 (ad3 _) (λ_ _=>rfl) (λ_ _ _=>rfl) (λb f h=>by omega) (gU.refl w)
def HA.nold:HA->Bool
  |.old _ _=>false
  |_=>true
structure Stq(κ:List Nat)(w:World)(c:aS)(w':World)(c':aS):Prop where
  col:∀b,b<w.heap.size->c b∉κ->c' b=c b
  same:∀b,b<w.heap.size->c b∉κ->w'.heap[b]?=w.heap[b]?
theorem Stp.q{c:aS}{c':aS}(h:Stp κ w c w' c'):Stq κ w c w' c':=⟨h.col,h.same⟩
theorem Stq.keeps{c:aS}{c':aS}(h:Stq κ w c w' c')(j:∀k∈K,k∉κ) :
    jb w w' (λb=>c b∈K) (λb=>c' b∈K):=λb p f=>⟨by show c' b∈K;rw[h.col b p (j _ f)];exact f,h.same b p (j _ f)⟩
theorem Stp.keeps{c:aS}{c':aS}(h:Stp κ w c w' c')(f:∀k∈K,k∉κ) :
    jb w w' (λb=>c b∈K) (λb=>c' b∈K):=h.q.keeps f
theorem HA.stq{c:aS}{c':aS}(hs:Stq κ w c w' c'):(A:HA)->A.nold=true->(∀k∈A.uses,k∉κ)->A.holds w c->A.holds w' c'
  | .tr t e i K xs v,_,j,h=>by
    have hi:i∉κ:=j i (by simp[HA.uses]);exact cJ.keep (λb q (r:c b=i)=>⟨by show c' b=i;rw[hs.col b q (by grind)];exact r,hs.same b q (by grind)⟩) h
  | .pt t e i K xs v m,_,j,h=>by
    have hi:i∉κ:=j i (by simp[HA.uses]);exact zN.keep (λb q (r:c b=i)=>⟨by show c' b=i;rw[hs.col b q (by grind)];exact r,hs.same b q (by grind)⟩) (hs.keeps (λk s=>j k (by simp[HA.uses,s]))) h
  | .hol t e i xs v k cs,_,j,h=>by
    have hi:i∉κ:=j i (by simp[HA.uses]);exact ka.keep (λb q (r:c b=i)=>⟨by show c' b=i;rw[hs.col b q (by grind)];exact r,hs.same b q (by grind)⟩) h
  | .mp i b es,_,j,h=>by
    have hi:i∉κ:=j i (by simp[HA.uses]);exact vG.keep (λb q (r:c b=i)=>⟨by show c' b=i;rw[hs.col b q (by grind)];exact r,hs.same b q (by grind)⟩) h
  |.rep t K xs v,_,j,h=>bH.keep (hs.keeps j) (.slice t) xs v h
  | .own t e i K xs v,_,j,⟨ys,D,B,E⟩=>by
    have hi:i∉κ:=j i (by simp[HA.uses]);have f:∀g,v.val.ownBlock=some g->g<w.heap.size:=λg u=>B.lt g u;exact⟨ys,D.mono (bH.keep (hs.keeps (λk s=>j k (by simp[HA.uses,s]))) t),B.same (λg u hl=>hs.same g hl (by grind)),
      λg u=>by rw[hs.col g (f g u) (by grind)];exact E g u⟩
  | .box i b cs,_,j,⟨⟨ty,q⟩,r⟩=>by
    have f:b<w.heap.size:=(aeJ.1 q).1;exact⟨⟨ty,(hs.same b f (by rw[r];exact j i (by simp[HA.uses]))).trans q⟩,by rw[hs.col b f (by rw[r];exact j i (by simp[HA.uses]))];exact r⟩
  | .elem t K x p,_,j,⟨y,b,off,arr,ty,C,G,r,q,D,B,E⟩=>by
    have f:b<w.heap.size:=(aeJ.1 q).1;exact⟨y,b,off,arr,ty,C,G,by rw[hs.col b f (j _ r)];exact r,(hs.same b f (j _ r)).trans q,D,B,bH.keep (hs.keeps j) t x y E⟩
  |.pure _,_,_,h=>h
  | .gl g n cs,_,j,⟨⟨ty,C,q⟩,r,F⟩=>by
    have f:g<w.heap.size:=(aeJ.1 q).1;have s:c g∉κ:=by grind[HA.uses]
    exact⟨⟨ty,C,(hs.same g f s).trans q⟩,by rw[hs.col g f s];exact r,F⟩
  | .lp b o,_,j,h=>by
    have f:b<w.heap.size:=(aeJ.1 h.1).1;have s:c b∉κ:=by have:=h.2;grind[HA.uses]
    exact⟨(hs.same b f s).trans h.1,by rw[hs.col b f s];exact h.2⟩
theorem HA.stp{c:aS}{c':aS}(hs:Stp κ w c w' c')(A:HA)(G:∀k∈A.uses,k∉κ)(h:A.holds w c):A.holds w' c':=by
  cases A with
  | old w0 c0=>
    obtain⟨s,B,E,F⟩:=h;refine⟨aqf s hs.size,λb p q=>?_,λb p r => ?_,F.trans hs.env⟩
    · obtain⟨C,D⟩:=B b p q
      have f:b<w.heap.size:=ajq p s
      have x:c b∉κ:=by grind[HA.uses]
      exact⟨(hs.same b f x).trans C,by rw[hs.col b f x];exact D⟩
    · by_cases f:b<w.heap.size
      · have j:=E b f r
        by_cases u:c b∈κ
        ·exact hs.two b p λ_=>⟨u,j⟩
        ·rw[hs.col b f u];exact j
      ·exact hs.two b p λh=>absurd h f
  |_=>exact HA.stq hs.q _ rfl G h
def ao(w:World)(c:aS)(L:List HA):Prop:=∀A∈L,A.holds w c
theorem ao.nil(w:World)(c:aS):ao w c []:=λ_ h=>by simp at h
theorem ao.cons{c:aS}{A:HA}{L:List HA}(h:A.holds w c)(j:ao w c L):ao w c (A::L):=λB f=>by
  rcases aen.1 f with rfl|f
  ·exact h
  ·exact j B f
theorem ao.append{c:aS}{L L':List HA}(h:ao w c L)(h':ao w c L'):ao w c (L++L'):=λA f=>by
  rcases aef.1 f with f|f
  ·exact h A f
  ·exact h' A f
theorem ao.at{c:aS}{L:List HA}(h:ao w c L){k:Nat}{A:HA}(f:L[k]?=some A):A.holds w c:=h A (aeK f)
theorem ao.sub{c:aS}{L:List HA}(h:ao w c L)(k:List Nat){L':List HA}(j:k.filterMap (L[·]?)=L'):ao w c L':=by subst j;intro A f;obtain⟨i,_,hi⟩:=List.mem_filterMap.1 f;exact h.at hi
def sK(κ:List Nat)(A:HA):Bool:=A.uses.all λk=>κ.all λj=>!(Nat.beq k j)
def keep(κ:List Nat)(L:List HA):List HA:=L.filter (sK κ)
theorem ao.stp{c:aS}{c':aS}(hs:Stp κ w c w' c'){L:List HA}(h:ao w c L):ao w' c' (keep κ L):=by intro A f;simp only[keep,ae2]at f;refine HA.stp hs A (λk p j=>?_) (h A f.1);have:=acr.1 (acr.1 f.2 k p) k j;simp at this
theorem ao.stp0{c:aS}{c':aS}(hs:Stp [] w c w' c'){L:List HA}(h:ao w c L):ao w' c' L:=
  λA f=>HA.stp hs A (by simp) (h A f)
def cN(P:Program)(ρ:dm)(o:Oper)(L:List HA)(κ:List Nat){Y:Type}(val:Y->Value)(Φ:Y->List HA):Prop:=
  ∀ (a:Act) (ev:Operand->Value) (w:World) (c:aS) (next:Act->World->Prop) (Q:Exit->Act->World->Prop),ev=aL ρ->ao w c L ->
    (∀y w' c',Stp κ w c w' c'->ao w' c' (Φ y)->next (a.put o.dst (val y)) w') ->
    o.uponIn Fence.wide 0 P a next Q ((execOp ev o).run P w)
def aZ(P:Program)(ρ:dm)(o:Oper)(L:List HA)(v:Value):Prop:=
  ∀(ev:Operand->Value) (w:World) (c:aS),ev=aL ρ->ao w c L->(execOp ev o).run P w=.ok (.value v) w
theorem aZ.op{ρ:dm}{o:Oper}{L:List HA}{v:Value}(h:aZ P ρ o L v):cN P ρ o L [] (λ_:Unit=>v) (λ_=>[]):=by
  intro a ev w c next Q ha f j
  rw[h ev w c ha f];exact j () w c (Stp.refl w c) (ao.nil _ _)
def Sim(P:Program)(n:Nat)(f:Code)(Q:Exit->Act->World->Prop)(ρ:dm)(L:List HA):Prop:=
  ∀a w c,Rel n ρ a->ao w c L->f.wp P Q a w
section
variable {P:Program} {n:Nat} {Q:Exit->Act->World->Prop} {ρ:dm} {L:List HA} {ops:Array Oper} {rest:List Oper} {o:Oper}
end
def HA.ren(g:Nat->Nat):HA->HA
 |.tr t e i K xs v=>.tr t e (g i) (K.map g) xs v
 |.pt t e i K xs v m=>.pt t e (g i) (K.map g) xs v m
 |.hol t e i xs v k cs=>.hol t e (g i) xs v k cs
 |.mp i b es=>.mp (g i) b es
 |.rep t K xs v=>.rep t (K.map g) xs v
 |.own t e i K xs v=>.own t e (g i) (K.map g) xs v
 |.box i b cs=>.box (g i) b cs
 |.elem t K x p=>.elem t (K.map g) x p
 |.old w0 S=>.old w0 S
 |.pure p=>.pure p
 |.gl g n cs=>.gl g n cs
 |.lp b o=>.lp b o
structure Gd(g:Nat->Nat):Prop where
 z:g 0=0
 o:g 1=1
 two:∀k,2<=k->2<=g k
theorem HA.ren_holds(s:Gd g){c:aS}:(A:HA)->A.holds w c->(A.ren g).holds w (λb=>g (c b))
 |.tr t e i K xs v,h=>cJ.keep (λb _ (B:c b=i)=>⟨by grind,rfl⟩) h
 |.hol t e i xs v k cs,h=>ka.keep (λb _ (B:c b=i)=>⟨by grind,rfl⟩) h
 |.pt t e i K xs v m,h=>zN.keep (S:=λb=>c b=i) (SK:=λb=>c b∈K) (λb _ (B:c b=i)=>⟨by grind,rfl⟩) (λb _ f=>⟨acG.2 ⟨_,f,rfl⟩,rfl⟩) h
 |.mp i b es,h=>vG.keep (S':=λb=>g (c b)=g i) (λb _ (B:c b=i)=>⟨by grind,rfl⟩) h
 |.rep t K xs v,h=>bH.keep (S:=λb=>c b∈K) (λb _ f=>⟨acG.2 ⟨_,f,rfl⟩,rfl⟩) (.slice t) xs v h
 |.own t e i K xs v,⟨ys,j,q,r⟩=>⟨ys,j.mono (bH.keep (S:=λb=>c b∈K) (λb _ f=>⟨acG.2 ⟨_,f,rfl⟩,rfl⟩) t),q,λb f=>by grind⟩
 |.box i b cs,⟨j,q⟩=>⟨j,by grind⟩
 |.elem t K x p,⟨y,b,off,arr,ty,E,F,B,j,q,r,C⟩=>
  ⟨y,b,off,arr,ty,E,F,acG.2 ⟨_,B,rfl⟩,j,q,r,bH.keep (S:=λb=>c b∈K) (λb _ f=>⟨acG.2 ⟨_,f,rfl⟩,rfl⟩) t x y C⟩
 | .old w0 c0,⟨j,q,r,C⟩=>⟨j,λb f u=>⟨(q b f u).1,by
   show g (c b)=_;rw[(q b f u).2];rcases(show c0 b=0\/c0 b=1 by omega)with e|e<;>rw[e]
   ·exact s.z
   ·exact s.o⟩,λb f D=>s.two _ (r b f D),C⟩
 |.pure _,h=>h
 | .gl b n cs,⟨j,q,r⟩=>⟨j,by
   show g (c b)<=1;rcases(show c b=0\/c b=1 by omega)with e|e<;>rw[e]
   ·rw[s.z];omega
   ·rw[s.o];omega,r⟩
 | .lp b o,⟨j,q⟩=>⟨j,by
   show g (c b)=0;rw[q,s.z]⟩
theorem ao.ren(k:Gd g){c:aS}{L:List HA}(h:ao w c L):ao w (λb=>g (c b)) (L.map (HA.ren g)):=by intro A f;obtain⟨B,j,rfl⟩:=acG.1 f;exact B.ren_holds k (h B j)
def ry(l:List (Nat×Nat))(d:Nat)(k:Nat):Nat:=
 match k with
 |0=>0
 |1=>1
 |_=>match l with
  |[]=>d
  |(a,b)::r=>cond (Nat.beq k a) b (ry r d k)
theorem Pl{l:List (Nat×Nat)}{d:Nat}(h:(d::l.map (·.2)).all (λx=>Nat.ble 2 x)=true):Gd (ry l d):=by
 have hd:2<=d:=abM (acr.1 h d (by simp));have hl:∀p∈l,2<=p.2:=λp q=>abM (acr.1 h p.2 (by grind));refine⟨by simp[ry],by simp[ry],?_⟩;intro k f;clear h;induction l with
 |nil=>
  match k,f with
  |k+2,_=>exact hd
 | cons p r s=>
  obtain⟨a,b⟩:=p;match k,f with
  |k+2,f=>
   simp only[ry];cases j:Nat.beq (k+2) a
   ·grind
   simp_all
theorem ayn(h:K.all (λk=>Ka.any λj=>Nat.beq k j)=true){k:Nat}(f:k∈K):k∈Ka:=by simp_all
theorem Dt{c:aS}{t:Ty}{e:TypeId}{xs:List t.den}{v:Hd}(h:HA.holds w c (.own t e i K xs v)):HA.holds w c (.rep t (i::K) xs v):=by
 obtain⟨ys,x,A,B⟩:=h;obtain⟨a,n,cap⟩:=v;refine⟨ys,x.mono (bH.keep (λb _ C=>⟨abJ _ C,rfl⟩) t),?_⟩;rcases A.2 with⟨f,s⟩|⟨g,r,k,ty,u,f,D,_,p,E,q,j⟩
 ·simp only[Hd.val,Value.slice.injEq]at f;obtain⟨rfl,rfl,rfl⟩:=f;exact⟨by simp[s],by simp[s],by simp[maxLen],.inl ⟨trivial,rfl⟩⟩
 ·simp only[Hd.val,Value.slice.injEq]at f;obtain⟨rfl,rfl,rfl⟩:=f;exact⟨rfl,p,E,.inr ⟨g,0,k,ty,u,rfl,by show c g∈i::K;rw[B g rfl];simp,D,by simp[q],by grind⟩⟩
def HL(A f:HA):Prop:=∀w c,A.holds w c->f.holds w c
theorem CB{t:Ty}{e:TypeId}{xs:List t.den}{v:Hd}(h:t.pureB=true):HL (.own t e i K xs v) (.own t e i K' xs v):=
 λ_ _ ⟨ys,f,j,k⟩=>⟨ys,f.mono (λx y _=>bH.pure t x y h),j,k⟩
theorem yC{A:HA}:HL A A:=λ_ _ h=>h
def Id(A:HA):Prop:=∀w c,A.holds w c
theorem tL{t:Ty} :Id (.rep t K [] ⟨none,0,0⟩):=λ_ _=>⟨[],trivial,rfl,by simp,by simp[maxLen],.inl ⟨trivial,rfl⟩⟩
theorem E3{t:Ty}{e:TypeId} :Id (.own t e i K [] ⟨none,0,0⟩):=λ_ _=>⟨[],trivial,⟨by simp[cellsOf],.inl ⟨rfl,rfl⟩⟩,λg f=>by simp[Value.ownBlock]at f⟩
def pU(L:List HA):List HA->Prop
 |[]=>True
 |f::r=>((∃(k:Nat) (A:HA),L[k]?=some A/\HL A f)\/Id f)/\pU L r
theorem pU.heap{c:aS}{L:List HA}(f:ao w c L):∀{l:List HA},pU L l->ao w c l
 |[],_=>ao.nil _ _
 |_::_,⟨.inl ⟨_,_,k,j⟩,h⟩=>ao.cons (j w c (f.at k)) (h.heap f)
 |_::_,⟨.inr hf,h⟩=>ao.cons (hf w c) (h.heap f)
def ov{S R:Type}(f:S->Option (S⊕R)):Nat->S->Option R
 |0,_=>none
 |k+1,s=>(f s).bind λ| .inl h=>ov f k h|.inr r=>some r
section
variable {P:Program} {n:Nat} {Q:Exit->Act->World->Prop} {ρ:dm} {L:List HA}
theorem bind_some{β:Type}{m:Option α}{k:α->Option β}{r:β}(h:m.bind k=some r):∃s,m=some s/\k s=some r:=ahA.1 h
theorem asV{f:FuncId}{fn:Func}{k:Code}{R:Ending->World->Prop}(hf:P.funcs[f]?=some fn)(s:fn.body=some k)(u:fn.ntmps=n)(args:List Value){w0:World}{c0:aS}
  (j:Nat.ble args.length n=true) (r:ao w0 c0 L) (h:Sim P n k (bodyPost P fn R) (λt=>args.getD t undef) (.old w0 c0::L)):Calls P f args.toArray w0 R:=by
 refine calls_of_wp hf s (h _ w0 c0 ⟨rfl,?_,λt=>?_⟩ (ao.cons ⟨ad3 _,λb _ _=>⟨rfl,rfl⟩,λb p q=>q p,gU.refl _⟩ r))
 ·simp_all
 ·simp only[agZ,aee,Array.getElem?_append,aka,aiu,akD];grind
def atB(K:List Nat)(A f:HA):Prop:=∀w c,A.holds w c->f.holds w (qS λb=>c b∈K)
def W0(L:List HA)(Ka:List Nat):List HA->Prop
 |[]=>True
 |f::r=>((∃(k:Nat) (A:HA),L[k]?=some A/\atB Ka A f)\/Id f)/\W0 L Ka r
theorem W0.heap{c:aS}(f:ao w c L):∀{l:List HA},W0 L Ka l->ao w (qS λb=>c b∈Ka) l
 |[],_=>ao.nil _ _
 |_::_,⟨.inl ⟨_,_,k,j⟩,h⟩=>ao.cons (j w c (f.at k)) (h.heap f)
 |_::_,⟨.inr hf,h⟩=>ao.cons (hf w _) (h.heap f)
def instK(N:Nat)(Ka:List Nat):List Nat->List Nat
 |[]=>[]
 |0::r=>instK N Ka r
 |1::r=>Ka++instK N Ka r
 |(k+2)::r=>(N+k)::instK N Ka r
def HA.inst(N:Nat)(Ka:List Nat):HA->HA
 |.tr t e i K xs v=>.tr t e (N+(i-2)) (instK N Ka K) xs v
 |.pt t e i K xs v m=>.pt t e (N+(i-2)) (instK N Ka K) xs v m
 |.hol t e i xs v k cs=>.hol t e (N+(i-2)) xs v k cs
 |.mp i b es=>.mp (N+(i-2)) b es
 |.rep t K xs v=>.rep t (instK N Ka K) xs v
 |.own t e i K xs v=>.own t e (N+(i-2)) (instK N Ka K) xs v
 |.box i b cs=>.box (N+(i-2)) b cs
 |.elem t K x p=>.elem t (instK N Ka K) x p
 |.old w0 S=>.old w0 S
 |.pure p=>.pure p
 |.gl g n cs=>.gl g n cs
 |.lp b o=>.lp b o
def HA.leaves:HA->Bool
 |.tr _ _ i K _ _=>Nat.ble 2 i&&K.all λk=>Nat.ble 1 k
 |.pt _ _ i K _ _ _=>Nat.ble 2 i&&K.all λk=>Nat.ble 1 k
 |.hol _ _ i _ _ _ _=>Nat.ble 2 i
 |.mp i _ _=>Nat.ble 2 i
 |.rep _ K _ _=>K.all λk=>Nat.ble 1 k
 |.own _ _ i K _ _=>Nat.ble 2 i&&K.all λk=>Nat.ble 1 k
 |.box i _ _=>Nat.ble 2 i
 |.elem _ K _ _=>K.all λk=>Nat.ble 1 k
 |.old _ _=>false
 |.pure _=>true
 |.gl _ _ _=>false
 |.lp _ _=>false
theorem instK_mem{N:Nat}{Ka:List Nat}:∀{K:List Nat} {k:Nat},k+2∈K->N+k∈instK N Ka K
 |0::r,k,h=>by
  rcases aen.1 h with h|h
  ·omega
  ·exact instK_mem (K:=r) h
 |1::r,k,h=>by
  rcases aen.1 h with h|h
  ·omega
  ·exact adF _ (instK_mem (K:=r) h)
 |(j+2)::r,k,h=>by
  rcases aen.1 h with h|h
  ·simp only[instK];grind
  ·exact abJ _ (instK_mem (K:=r) h)
theorem instK_one{N:Nat}{Ka:List Nat}:∀{K:List Nat} {k:Nat},1∈K->k∈Ka->k∈instK N Ka K
 |0::r,k,h,f=>by
  rcases aen.1 h with h|h
  ·omega
  ·exact instK_one (K:=r) h f
 |1::r,k,_,f=>ad2 _ f
 |(j+2)::r,k,h,f=>by
  rcases aen.1 h with h|h
  ·omega
  ·exact abJ _ (instK_one (K:=r) h f)
def ep(t:Ty)(e:TypeId)(i:Nat)(K:List Nat)(xs:List t.den)(v:Hd):HA:=match fk e with
 |true=>.tr t e i K xs v
 |false=>.own t e i K xs v
section
variable {t:Ty} {e:TypeId} {i:Nat} {K:List Nat} {xs:List t.den} {v:Hd}
theorem iT(h:fk e=true):ep t e i K xs v=.tr t e i K xs v:=by unfold ep;rw[h]
theorem dK(h:fk e=false):ep t e i K xs v=.own t e i K xs v:=by unfold ep;rw[h]
theorem abw:(ep t e i K xs v).uses=i::K:=by unfold ep;cases fk e<;>rfl
theorem akH :(ep t e i K xs v).ren g=ep t e (g i) (K.map g) xs v:=by unfold ep;cases fk e<;>rfl
theorem CA{N:Nat} :(ep t e i K xs v).inst N Ka=ep t e (N+(i-2)) (instK N Ka K) xs v:=by unfold ep;cases fk e<;>rfl
theorem zd:(ep t e i K xs v).leaves=(Nat.ble 2 i&&K.all λk=>Nat.ble 1 k):=by unfold ep;cases fk e<;>rfl
theorem fF{e:Nat}(h:Nat.blt e 1048576=true):fk e=false:=by
 have j:e+1<=1048576:=abM h;cases f:fk e
 ·rfl
 ·have:1099511627776<=e:=abM f;omega
theorem M9{c:aS}(h:HA.holds w c (.tr t e i K xs v)):HA.holds w c (.rep t (i::K) xs v):=by obtain⟨d,h⟩:=h;exact bD.rep (S':=λb=>c b∈i::K) (λb (f:c b=i)=>by grind) (.slice t) _ _ _ _ h
theorem PW{c:aS}(h:HA.holds w c (ep t e i K xs v)):HA.holds w c (.rep t (i::K) xs v):=by grind[ep,M9,Dt]
theorem vg:Id (ep t e i K [] ⟨none,0,0⟩):=by
 intro w c;unfold ep;split
 ·exact⟨λ_=>[],.inl ⟨rfl,rfl⟩⟩
 ·exact E3 w c
theorem PV{c c':aS}{q:Nat}(hi:∀b,b<w.heap.size->c b=i->c' b=q)(u:∀b,b<w.heap.size->c b∈K->c' b∈K')(h:HA.holds w c (ep t e i K xs v)):HA.holds w c' (ep t e q K' xs v):=by
 unfold ep at h|-;split at h
 ·exact cJ.keep (λb f j=>⟨hi b f j,rfl⟩) h
 ·obtain⟨ys,r,k,s⟩:=h;exact⟨ys,r.mono (bH.keep (λb f j=>⟨u b f j,rfl⟩) t),k,λg p=>hi g (k.lt g p) (s g p)⟩
end
end
def TI(P:Program)(t:TypeId)(sz by_:Nat)(z:Value):Prop:=(P.info? t).map (λi=>(i.zero,i.size,i.bytes))=some (some z,sz,by_)
theorem TI.get{sz:Nat}(h:TI P t sz by_ z):∃i,P.info? t=some i/\i.zero=some z/\i.size=sz/\i.bytes=by_:=by unfold TI at h;simp_all
def kR:TypeDesc->Bool
 |.struct _=>true
 |.array _ _=>true
 |_=>false
def u9:TypeDesc->Bool
 |.interface _=>true
 |_=>false
section
variable {P:Program} {ρ:dm} {L:List HA} {o:Oper} {N:Nat}
theorem awy{x:Operand}{v:Value}(h:o.op=.move x)(j:aL ρ x=v):aZ P ρ o L v:=λev w c f _=>by subst f;simp[execOp,h,j]
theorem akN{x:Operand}{v:Value}(h:o.op=.assign x)(j:aL ρ x=v):aZ P ρ o L v:=λev w c f _=>by subst f;simp[execOp,h,j]
theorem aur{c x:Operand}{b p q:Bool}(h:o.op=.pick c x y)(f:aL ρ c=.bool b)(k:b=true->aL ρ x=.bool p)(r:b=false->aL ρ y=.bool q) :
  aZ P ρ o L (.bool (bif b then p else q)):=λev w c j _=>by
 subst j;cases b
 ·simp[execOp,h,f,asBool,r rfl]
 ·simp[execOp,h,f,asBool,k rfl]
theorem cL{op:BinOp}{x:Operand}{k f:IntKind} :(eqGuard op t x y (.int k a) (.int f b)).run P w=.ok () w:=by cases op<;>simp[eqGuard]
theorem axf{x:Operand}{k:IntKind}(h:o.op=.binOp .add t x y t')(j:aL ρ x=.int k a)(p:aL ρ y=.int k b) :
  aZ P ρ o L (.int k (k.wrap (a+b))):=λev w c f _=>by
 subst f;simp[execOp,h,j,p,cL,binOp,Op.intArith,Result.andThen]
theorem axy{x:Operand}{k:IntKind}(h:o.op=.binOp .sub t x y t')(j:aL ρ x=.int k a)(p:aL ρ y=.int k b) :
  aZ P ρ o L (.int k (k.wrap (a-b))):=λev w c f _=>by
 subst f;simp[execOp,h,j,p,cL,binOp,Op.intArith,Result.andThen]
theorem axo{x:Operand}{k:IntKind}(h:o.op=.binOp .mul t x y t')(j:aL ρ x=.int k a)(p:aL ρ y=.int k b) :
  aZ P ρ o L (.int k (k.wrap (a*b))):=λev w c f _=>by
 subst f;simp[execOp,h,j,p,cL,binOp,Op.intArith,Result.andThen]
theorem axE{x:Operand}{k:IntKind}(j:o.op=.binOp .quo t x y t')(p:aL ρ x=.int k a)(q:aL ρ y=.int k b)(f:(b==0)=false) :
  aZ P ρ o L (.int k (k.wrap (a.tdiv b))):=λev w c h _=>by
 have:¬b=0:=by simpa using f
 subst h;simp[execOp,j,p,q,cL,binOp,Op.intDiv,Result.andThen,this]
theorem axb{x:Operand}{k:IntKind}(j:o.op=.binOp .rem t x y t')(p:aL ρ x=.int k a)(q:aL ρ y=.int k b)(f:(b==0)=false) :
  aZ P ρ o L (.int k (a.tmod b)):=λev w c h _=>by
 have:¬b=0:=by simpa using f
 subst h;simp[execOp,j,p,q,cL,binOp,Op.intDiv,Result.andThen,this]
theorem axr{x:Operand}{k:IntKind}(h:o.op=.binOp .lss t x y t')(j:aL ρ x=.int k a)(p:aL ρ y=.int k b) :
  aZ P ρ o L (.bool (decide (a<b))):=λev w c f _=>by
 subst f;simp[execOp,h,j,p,cL,binOp,Op.intCmp,Result.andThen]
theorem axq{x:Operand}{k:IntKind}(h:o.op=.binOp .leq t x y t')(j:aL ρ x=.int k a)(p:aL ρ y=.int k b) :
  aZ P ρ o L (.bool (decide (a<=b))):=λev w c f _=>by
 subst f;simp[execOp,h,j,p,cL,binOp,Op.intCmp,Result.andThen]
theorem axi{x:Operand}{k:IntKind}(h:o.op=.binOp .gtr t x y t')(j:aL ρ x=.int k a)(p:aL ρ y=.int k b) :
  aZ P ρ o L (.bool (decide (b<a))):=λev w c f _=>by
 subst f;simp[execOp,h,j,p,cL,binOp,Op.intCmp,Result.andThen]
theorem axH{x:Operand}{k:IntKind}(h:o.op=.binOp .geq t x y t')(j:aL ρ x=.int k a)(p:aL ρ y=.int k b) :
  aZ P ρ o L (.bool (decide (b<=a))):=λev w c f _=>by
 subst f;simp[execOp,h,j,p,cL,binOp,Op.intCmp,Result.andThen]
theorem axj{x:Operand}{k:IntKind}(h:o.op=.binOp .eql t x y t')(j:aL ρ x=.int k a)(p:aL ρ y=.int k b) :
  aZ P ρ o L (.bool (a==b)):=λev w c f _=>by
 subst f;simp[execOp,h,j,p,cL,binOp,Op.intCmp,Result.andThen]
theorem axn{x:Operand}{k:IntKind}(h:o.op=.binOp .neq t x y t')(j:aL ρ x=.int k a)(p:aL ρ y=.int k b) :
  aZ P ρ o L (.bool (a != b)):=λev w c f _=>by
 subst f;simp[execOp,h,j,p,cL,binOp,Op.intCmp,Result.andThen]
theorem axt{x:Operand}{b:Bool}(h:o.op=.unOp .not t x)(j:aL ρ x=.bool b):aZ P ρ o L (.bool (!b)):=λev w c f _=>by subst f;simp[execOp,h,j,Op.unary]
theorem axX{x:Operand}{k:IntKind}(h:o.op=.unOp .neg t x)(j:aL ρ x=.int k a):aZ P ρ o L (.int k (k.wrap (0-a))):=λev w c f _=>by subst f;simp[execOp,h,j,Op.unary,Op.intArith]
theorem avf{s d:TypeId}{x:Operand}{k f:IntKind}{ds:TypeDesc}(j:o.op=.convert s d x)(hs:P.underlying s=some ds)(hd:P.underlying d=some (.int f))(p:aL ρ x=.int k a) :
  aZ P ρ o L (.int f (f.wrap a)):=λev w c h _=>by
 subst h;simp[execOp,j,p,convert,run_underlying hs,run_underlying hd,Conv.intToInt,Result.andThen]
theorem MX{e:TypeId}{x:Operand}{h:Hd}(j:o.op=.call { callee:=.builtin .len,args:=#[x],argTypes:=#[t]})(k:P.underlying t=some (.slice e))(p:aL ρ x=h.val) :
  aZ P ρ o L (.int .i64 h.n):=λev w c f _=>by
 subst f;simp[execOp,j,p,resolve,invoke,builtin,Builtin.len_,run_underlying k,goInt,Result.andThen]
theorem arx{c:aS}{t:Ty}{xs:List t.den}{h:Hd}(f:HA.holds w c (.rep t K xs h)):h.n=xs.length:=by obtain⟨ys,_,hs,_⟩:=f;exact hs
theorem adl{e:TypeId}{x:Operand}{h:Hd}{ty:Ty}{xs:List ty.den}(k:Nat)(p:L[k]?=some (.rep ty K xs h))
  (q:o.op=.call { callee:=.builtin .len,args:=#[x],argTypes:=#[t]}) (r:P.underlying t=some (.slice e)) (s:aL ρ x=h.val) :
  aZ P ρ o L (.int .i64 xs.length):=λev w c j f=>by
 rw[<-arx (f.at p)];exact MX q r s ev w c j f
theorem awZ{ts:Array TypeId}{x:Operand}{k:IntKind}(h:o.op=.call { callee:=.builtin .max,args:=#[x,y],argTypes:=ts})(j:aL ρ x=.int k a)(p:aL ρ y=.int k b) :
  aZ P ρ o L (.int k (if b>a then b else a)):=λev w c f _=>by
 subst f;simp[execOp,h,j,p,resolve,invoke,builtin,run_max_int2,Result.andThen]
theorem axl{ts:Array TypeId}{x:Operand}{k:IntKind}(h:o.op=.call { callee:=.builtin .min,args:=#[x,y],argTypes:=ts})(j:aL ρ x=.int k a)(p:aL ρ y=.int k b) :
  aZ P ρ o L (.int k (if b<a then b else a)):=λev w c f _=>by
 subst f;simp[execOp,h,j,p,resolve,invoke,builtin,run_min_int2,Result.andThen]
theorem abY{x:Operand}{v:Value}(h:o.op=.extract x i)(k:aL ρ x=.tuple vs.toArray)(j:vs[i]?=some v):aZ P ρ o L v:=λev w c f _=>by subst f;simp[execOp,h,k,Instr.extract,j]
theorem asa{x:Operand}{v:Value}(h:o.op=.makeInterface t x)(j:P.underlying t=some d)(hd:u9 d=false)(k:aL ρ x=v) :
  aZ P ρ o L (.iface t v):=λev w c f _=>by
 subst f;have:(Instr.makeInterface t v).run P w=.ok (.iface t v) w:=by unfold Instr.makeInterface;simp only[bind,Sem.run_bind',run_underlying j,Result.andThen];cases d<;>first|rfl|simp[kR]at hd|simp[u9]at hd
 simp[execOp,h,k,this,Result.andThen]
theorem y8{s:TypeId}{x:Operand}{b off fo f:Nat}{sz:Nat}(r:o.op=.fieldAddr s x f)(hs:P.underlying s=some (.struct fs))(hf:fs[f]?=some fd)
  (hi:TI P fd.type sz by_ z) (A:Nat.beq sz 0=false) (q:fd.offset=fo) (u:aL ρ x=.pointer (some ⟨b,off,none⟩)):aZ P ρ o L (.pointer (some ⟨b,off+fo,none⟩)):=λev w c p _=>by
 subst p;have h:=hi;clear hi;obtain⟨i,hi,_,rfl,_⟩:=h.get;have k:i.size≠0:=afY A;have j:(⟨b,off,none⟩:Addr).add fd.offset=⟨b,off+fo,none⟩:=by unfold Addr.add;grind
 simp[execOp,r,u,Instr.fieldAt,run_underlying hs,hf,Instr.sureAddr,fieldPlace,sizeOf,typeInfo,hi,k,j,Result.andThen]
theorem l7(f:P.underlying t=some d)(hd:kR d=false):(isAgg t).run P w=.ok false w:=by unfold isAgg;simp only[bind,Sem.run_bind',run_underlying f,Result.andThen];cases d<;>first|rfl|simp[kR]at hd|simp[u9]at hd
theorem AX(f:P.underlying t=some d)(hd:kR d=true):(isAgg t).run P w=.ok true w:=by unfold isAgg;simp only[bind,Sem.run_bind',run_underlying f,Result.andThen];cases d<;>first|rfl|simp[kR]at hd|simp[u9]at hd
theorem eT(b off n:Nat):(⟨b,off,none⟩:Addr).add n=⟨b,off+n,none⟩:=by unfold Addr.add;grind
theorem mT{b off:Nat}{arr:Array Value}{f:Nat×Nat}(h:w.heap[b]?=some (.cells arr ty f)):w.cell? ⟨b,off,none⟩=arr[off]?:=by simp[World.cell?,h]
theorem yB{a:Addr}{v:Value}(h:P.underlying t=some d)(hd:kR d=false)
  (f:w.cell? a=some v):(Instr.loadAt t (.pointer (some a))).run P w=.ok v w:=by
 simp[Instr.loadAt,Instr.sureAddr,loadVar,l7 h hd,f,Result.andThen]
theorem uQ{b off:Nat}{arr:Array Value}{h:Nat×Nat}{i:TypeInfo}(q:P.underlying t=some d)
  (hd:kR d=true) (hi:P.info? t=some i) (k:w.heap[b]?=some (.cells arr ty h)) (p:(arr.toList.drop off).take i.size=cs) (hl:cs.length=i.size) :
  (Instr.loadAt t (.pointer (some ⟨b,off,none⟩))).run P w=.ok (.agg cs.toArray) w:=by
 have f:=run_loadCells_list (P:=P) (w:=w) ⟨b,off,none⟩ cs (λj v r=>by rw[eT,mT k];grind);rw[hl]at f;simp[Instr.loadAt,Instr.sureAddr,loadVar,AX q hd,sizeOf,typeInfo,hi,f,Result.andThen]
theorem Gw{x:Operand}{b off:Nat}{v:Value}(k:Nat)(p:L[k]?=some (.box i b cs))(q:o.op=.load t x)(r:P.underlying t=some d)
  (hd:kR d=false) (u:aL ρ x=.pointer (some ⟨b,off,none⟩)) (s:cs[off]?=some v):aZ P ρ o L v:=λev w c j f=>by
 subst j;obtain⟨⟨ty,h⟩,_⟩:=f.at p;simp[execOp,q,u,yB r hd (v:=v) (w:=w) (by rw[mT h];simpa using s),Result.andThen]
theorem S8{x:Operand}{b off:Nat}{sz:Nat}(k:Nat)(q:L[k]?=some (.box i b cs))(r:o.op=.load t x)(s:P.underlying t=some d)
  (hd:kR d=true) (hi:TI P t sz by_ z) (A:aL ρ x=.pointer (some ⟨b,off,none⟩))
  (u:(cs.drop off).take sz=cs') (hl:Nat.beq cs'.length sz=true):aZ P ρ o L (.agg cs'.toArray):=λev w c p h=>by
 subst p;have f:=hi;clear hi;obtain⟨B,hi,_,rfl,_⟩:=f.get;obtain⟨⟨ty,j⟩,_⟩:=h.at q;simp[execOp,r,A,uQ s hd hi j (cs:=cs') (off:=off) (by simpa using u) (f9 hl),Result.andThen]
theorem tR{c:aS}(h:Nat.ble 2 N=true)(ob:Obj):Stp [] w c (w.alloc ob) (λb=>if b<w.heap.size then c b else N):=by have j:=abM h;refine .mk0 (by simp) (λb f=>by simp[f]) (λb f _=>heap_alloc_old w ob f) (λb f _=>?_) ⟨rfl,rfl⟩;grind
theorem abz{a:Act}{ev:Operand->Value}{c:aS}{next:Act->World->Prop}(h:Nat.ble 2 N=true)
  (f:(execOp ev o).run P w=.ok (.value (.pointer (some ⟨w.heap.size,0,none⟩))) (w.alloc (.cells cs.toArray ty)))
  (j:∀(y:Nat) w' c',Stp [] w c w' c'->ao w' c' [.box N y cs]->next (a.put o.dst (.pointer (some ⟨y,0,none⟩))) w') :
  o.uponIn Fence.wide 0 P a next Q ((execOp ev o).run P w):=by
 rw[f];exact j w.heap.size _ _ (tR h _) (ao.cons ⟨⟨ty,heap_alloc_new w _⟩,by simp⟩ (ao.nil _ _))
theorem aha{sz:Nat}(p:o.op=.alloc t)(hi:TI P t sz by_ z)(h:z.cells=cs.toArray)(j:Nat.ble 2 N=true) :
  cN P ρ o L [] (λb:Nat=>.pointer (some ⟨b,0,none⟩)) (λb=>[.box N b cs]):=λa ev w c next Q _ _ k=>by
 have f:=hi;clear hi;obtain⟨i,hi,q,_,_⟩:=f.get;exact abz (ty:=t) j (by simp[execOp,p,Instr.alloc,zeroValue,typeInfo,hi,q,newVar,newRow,h]) k
theorem awC{x:Operand}{v:Value}(k:o.op=.box t x)(p:aL ρ x=v)(f:v.cells=cs.toArray)(h:Nat.ble 2 N=true) :
  cN P ρ o L [] (λb:Nat=>.pointer (some ⟨b,0,none⟩)) (λb=>[.box N b cs]):=λa ev w c next Q ha _ j=>
 abz (ty:=t) h (by simp[execOp,k,ha,p,Instr.box,newVar,newRow,f]) j
theorem DH{l:List Value}(h:l.all Value.oneCell'=true):∀v∈l,v.oneCell'=true:=acr.1 h
theorem y0(w:World)(g:Nat)(cs:Array Value):(w.setRow g cs).heap.size=w.heap.size:=by simp_all
theorem sB{c:aS}{b:Nat}{cs:Array Value}(p:c b=i):Stp [i] w c (w.setRow b cs) c:=by refine .mk0 (by simp_all) (λ_ _=>rfl) (λf j q=>?_) (λf k h=>by rw[y0]at h;omega) ⟨rfl,rfl⟩;grind[World.setRow]
theorem Dd{x:Operand}{b off:Nat}{v:Value}{sz:Nat}(k:Nat)(C:L[k]?=some (.box i b cs))(F:o.op=.store t x y)(hi:TI P t sz by_ z)
  (H:aL ρ x=.pointer (some ⟨b,off,none⟩)) (I:aL ρ y=v) (G:v.cells=vs.toArray) (hl:Nat.beq vs.length sz=true) (f:vs.all Value.oneCell'=true)
  (s:Nat.ble (off+vs.length) cs.length=true) (r:cs.take off++vs++cs.drop (off+vs.length)=cs'):cN P ρ o L [i] (λ_:Unit=>undef) (λ_=>[.box i b cs']):=by
 intro a ev w c next Q ha B E
 have h:=hi;clear hi;obtain⟨J,hi,_,rfl,_⟩:=h.get;obtain⟨⟨ty,u⟩,A⟩:=B.at C;have D:=abM s;have q:=run_storeCells_at P b off ty vs 0 cs.toArray w u (by grind) (DH f);have p:(execOp ev o).run P w=.ok .skip (w.setRow b cs'.toArray):=by simp only[afu]at q;simp[execOp,F,ha,H,I,Instr.storeAt,Instr.sureAddr,storeVar,G,sizeOf,typeInfo,hi,f9 hl,q,<-r,Result.andThen]
 rw[p];have j:=setRow_heap w b _ cs'.toArray ty (0,0) u;exact E () _ c (sB A) (ao.cons ⟨⟨ty,j⟩,A⟩ (ao.nil _ _))
end
def ae{α:Type}(xs:List α)(i:Int):Option α:=if 0<=i then xs[i.toNat]? else none
theorem kK{xs:List α}{i:Int}{x:α}(h:ae xs i=some x):0<=i/\xs[i.toNat]?=some x/\i.toNat<xs.length:=by unfold ae at h;grind
def facts:(t:Ty)->List Nat->t.den->t.Refs->List HA
 |.one _ _ _,_,_,_=>[]
 |.arr _ _ _ _ _,_,_,_=>[]
 |.unit,_,_,_=>[]
 |.pair a b,K,x,y=>facts a K x.1 y.1++facts b K x.2 y.2
 |.slice t,K,xs,h=>[.rep t K xs h]
 |.node,K,x,h=>[.rep .node K x.tup.2.2.2 h]
 |.mp _ _,_,_,_=>[]
theorem qY{w:World}{c:aS}{K:List Nat}:(t:Ty)->(x:t.den)->(y:t.Refs)->bH w (λb=>c b∈K) t x y->ao w c (facts t K x y)
 |.one _ _ _,_,_,_=>ao.nil _ _
 |.arr _ _ _ _ _,_,_,_=>ao.nil _ _
 |.unit,_,_,_=>ao.nil _ _
 |.pair a b,x,y,h=>(qY a x.1 y.1 h.1).append (qY b x.2 y.2 h.2)
 |.slice _,_,_,h=>ao.cons h (ao.nil _ _)
 |.node,_,_,h=>ao.cons (pL.1 h) (ao.nil _ _)
 |.mp _ _,_,_,_=>ao.nil _ _
theorem z9{w:World}{c:aS}{K:List Nat}:(t:Ty)->(x:t.den)->(y:t.Refs)->ao w c (facts t K x y)->bH w (λb=>c b∈K) t x y
 |.one _ _ _,_,_,_=>trivial
 |.arr _ _ _ _ _,_,_,_=>trivial
 |.unit,_,_,_=>trivial
 |.pair a b,x,y,h=>⟨z9 a x.1 y.1 λA f=>h A (ad2 _ f),z9 b x.2 y.2 λA f=>h A (adF _ f)⟩
 |.slice t,xs,hd,h=>h (.rep t K xs hd) (by simp[facts])
 |.node,x,hd,h=>pL.2 (h (.rep .node K x.tup.2.2.2 hd) (by simp[facts]))
 |.mp _ _,_,_,_=>trivial
abbrev Ty.nodeT:Ty:=.pair (.one Int (λx=>.int .i64 x) (λ_=>rfl)) (.pair (.one (List UInt8) (λx=>.string ⟨x.toArray⟩) (λ_=>rfl)) (.pair (.one Int (λx=>.int .i64 x) (λ_=>rfl)) (.slice .node)))
inductive Pth:Ty->Ty->Type 1
 |here {t:Ty}:Pth t t
 |fst {a b t:Ty} (p:Pth a t):Pth (.pair a b) t
 |snd {a b t:Ty} (p:Pth b t):Pth (.pair a b) t
 |nd {t:Ty} (p:Pth Ty.nodeT t):Pth .node t
def Pth.get : {t u:Ty}->Pth t u->t.den->u.den
 |_,_,.here,x=>x
 |_,_,.fst p,x=>p.get x.1
 |_,_,.snd p,x=>p.get x.2
 |_,_,.nd p,x=>p.get x.tup
def Pth.set : {t u:Ty}->Pth t u->t.den->u.den->t.den
 |_,_,.here,_,z=>z
 |_,_,.fst p,x,z=>(p.set x.1 z,x.2)
 |_,_,.snd p,x,z=>(x.1,p.set x.2 z)
 |_,_,.nd p,x,z=>Nd.of (p.set x.tup z)
def Pth.refs : {t u:Ty}->Pth t u->t.Refs->u.Refs
 |_,_,.here,x=>x
 |_,_,.fst p,x=>p.refs x.1
 |_,_,.snd p,x=>p.refs x.2
 |_,_,.nd p,h=>p.refs ((),(),(),h)
def Pth.off : {t u:Ty}->Pth t u->Nat
 |_,_,.here=>0
 |_,_,.fst p=>p.off
 |_,_,@Pth.snd a _ _ p=>a.sz+p.off
 |_,_,.nd p=>p.off
theorem Pth.le : {t u:Ty}->(p:Pth t u)->p.off+u.sz<=t.sz
 |_,_,.here=>by simp[Pth.off]
 |_,_,.fst p=>by have:=p.le;simp[Pth.off,Ty.sz];omega
 |_,_,.snd p=>by have:=p.le;simp[Pth.off,Ty.sz];omega
 |_,_,.nd p=>p.le
theorem Pth.cells : {t u:Ty}->(p:Pth t u)->(x:t.den)->(y:t.Refs)->((t.fill x y).drop p.off).take u.sz=u.fill (p.get x) (p.refs y)
 |_,u,.here,x,y=>by simp[Pth.off,Pth.get,Pth.refs,<-u.fill_length x y]
 |_,u,.fst (a:=a) (b:=b) p,x,y=>by have:=p.cells x.1 y.1;have hl:=p.le;have f:=a.fill_length x.1 y.1;simp only[Pth.off,Ty.fill,Pth.get,Pth.refs];grind
 |_,u,.snd (a:=a) (b:=b) p,x,y=>by have:=p.cells x.2 y.2;have f:=a.fill_length x.1 y.1;simp only[Pth.off,Ty.fill,Pth.get,Pth.refs];rw[afr,afc (as:=a.fill x.1 y.1) (by omega),show a.sz+p.off-(a.fill x.1 y.1).length=p.off by omega];grind
 |_,_,.nd p,x,h=>p.cells x.tup ((),(),(),h)
theorem Pth.rep : {t u:Ty}->(p:Pth t u)->(x:t.den)->(y:t.Refs)->bH w S t x y->bH w S u (p.get x) (p.refs y)
 |_,_,.here,_,_,h=>h
 |_,_,.fst p,x,y,h=>p.rep x.1 y.1 h.1
 |_,_,.snd p,x,y,h=>p.rep x.2 y.2 h.2
 |_,_,.nd p,x,y,h=>p.rep x.tup ((),(),(),y) ⟨trivial,trivial,trivial,pL.1 h⟩
def pS(place:Nat->Option (Nat×Nat))(cells:List Value):List (Nat×List Value)->Option (List Value)
 |[]=>some cells
 |(i,vs)::rest=>match place i with
  |none=>none
  |some (off,size)=>bif Nat.beq vs.length size&&Nat.ble (off+vs.length) cells.length then pS place (cells.take off++vs++cells.drop (off+vs.length)) rest else none
theorem Ri:∀(vs:List Value) (k off:Nat) (cs:Array Value),off+k+vs.length<=cs.size ->
  (vs.zipIdx k).foldl (λcs (x:Value×Nat)=>cs.setIfInBounds (off+x.2) x.1) cs=(cs.toList.take (off+k)++vs++cs.toList.drop (off+k+vs.length)).toArray
 |[],k,off,cs,_=>by simp_all
 |v::vs,k,off,cs,h=>by
  simp only[aeH]at h;rw[List.zipIdx_cons,aqF,Ri vs (k+1) off _ (by simp;omega)];have hl:off+k<cs.toList.length:=by simp;omega
  have f:(cs.toList.take (off+k)).length=off+k:=by simp;omega
  apply akd;simp only[Array.toList_setIfInBounds,List.set_eq_take_append_cons_drop,if_pos hl];rw[show off+(k+1)=(cs.toList.take (off+k)).length+1 by omega,List.take_length_add_append,ajn (cs.toList.take (off+k)).length 1 vs.length,List.drop_length_add_append];simp only[ai3,ahj,aeh,afO,ae4];grind[Nat.add_comm,List.drop_drop]
theorem By(place:Nat->Option (Nat×Nat))(parts:Array (Nat×Operand))(ρ:dm):∀(vals:List (Nat×List Value)) (zero cells:List Value),
  parts.toList.map (λp=>(p.1,(aL ρ p.2).cells.toList))=vals->pS place zero vals=some cells ->
  Instr.fill place zero.toArray (parts.map λp=>(p.1,aL ρ p.2)).toList=some cells.toArray:=by
 intro vals zero cells k h;have gen:∀(ps:List (Nat×Operand)) (vals:List (Nat×List Value)) (zero:List Value),ps.map (λp=>(p.1,(aL ρ p.2).cells.toList))=vals->pS place zero vals=some cells ->
   Instr.fill place zero.toArray (ps.map λp=>(p.1,aL ρ p.2))=some cells.toArray:=by
  intro ps;induction ps with
  |nil=>
   intro vals zero k h;subst k;simp only[ahd,pS,no]at h;subst h;rfl
  | cons p ps x=>
   intro vals zero k h;subst k;simp only[aev,pS]at h;cases f:place p.1 with
   |none=>grind
   | some os=>
    obtain⟨off,size⟩:=os;simp only[f]at h;cases j:Nat.beq (aL ρ p.2).cells.toList.length size&&Nat.ble (off+(aL ρ p.2).cells.toList.length) zero.length
    ·grind
    ·rw[j]at h;simp only[abF]at j;have q:=f9 j.1;have s:=abM j.2;have:=x _ _ rfl h;have r:(aL ρ p.2).cells.size=size:=by simpa using q
     have u:off+(aL ρ p.2).cells.size<=zero.length:=by simpa using s
     simp only[aev,Instr.fill,f];rw[if_neg (by grind)];rw[<-Array.foldl_toList,Array.toList_zipIdx];have hf:=Ri (aL ρ p.2).cells.toList 0 off zero.toArray (by grind);grind
 simp_all
section
variable {P:Program} {ρ:dm} {L:List HA} {o:Oper} {N:Nat}
theorem xz{Y:Type}{val:Y->Value}{Φ:Y->List HA}(h:∀(ev:Operand->Value) (w:World) (c:aS),ev=aL ρ->ao w c L->∃y,(execOp ev o).run P w=.ok (.value (val y)) w/\ao w c (Φ y)):cN P ρ o L [] val Φ:=by
 intro a ev w c next Q ha j k
 obtain⟨y,p,f⟩:=h ev w c ha j;rw[p];exact k y w c (Stp.refl w c) f
theorem Zs{x:Operand}{f:α->Value}{hf:∀x,(f x).oneCell'=true}{p:Addr}{v:α}(k:Nat)(u:L[k]?=some (.elem (.one α f hf) K v p))(B:o.op=.load t x)
  (C:P.underlying t=some d) (hd:kR d=false) (D:aL ρ x=.pointer (some p)):aZ P ρ o L (f v):=λev w c s j=>by
 subst s;obtain⟨y,b,off,arr,ty,E,rfl,_,q,A,h,_⟩:=j.at u;have r:w.cell? ⟨b,off,none⟩=some (f v):=by rw[mT q];have:=aei (·[0]?) h;simpa[Ty.fill,ajr]using this
 simp[execOp,B,D,yB C hd r]
def xy(t:Ty)(K:List Nat):List t.den->List t.Refs->List HA
 |x::xs,y::ys=>facts t K x y++xy t K xs ys
 |_,_=>[]
theorem JM{w:World}{c:aS}{K:List Nat}(t:Ty):∀{xs:List t.den} {ys:List t.Refs},xs.length=ys.length->ao w c (xy t K xs ys)->cf (bH w (λb=>c b∈K) t) xs ys
 |[],[],_,_=>trivial
 |x::xs,y::ys,hl,h=>⟨z9 t x y λA f=>h A (ad2 _ f),JM t (by simpa using hl) λA f=>h A (adF _ f)⟩
 |[],_::_,hl,_=>by simp at hl
 |_::_,[],hl,_=>by simp at hl
theorem yA{c:aS}{v:Value}(hi:Nat.ble 2 i=true)(f:w.grownBy w' v.ownBlock)(p:∀g,v.ownBlock=some g->c g=i):Stp [i] w c w' (λb=>if b<w.heap.size then c b else i):=by
 refine .mk0 f.size (λb h=>by simp[h]) (λb h j=>f.block b h λe=>j ?_) (λb k _=>?_) ⟨f.os,f.output⟩
 ·grind
 ·show 2<=if b<w.heap.size then c b else i
  rw[if_neg (by omega)];simp_all
theorem DG{c:aS}{h':Hd}{v:Value}(f:∀g,h'.val.ownBlock=some g->v.ownBlock=some g\/w.heap.size<=g)
  (h:∀g,v.ownBlock=some g->c g=i):∀g,h'.val.ownBlock=some g->(λb=>if b<w.heap.size then c b else i) g=i:=by
 grind
theorem Ha{e:TypeId}{i:TypeInfo}(T:P.underlying t=some (.slice e))(hi:P.info? e=some i)(hz:i.zero=some z)(R:z.cells.size=i.size)(O:0<i.size)
  {h:Hd}   (k:w.ownsRow 0 e i.size h.val n xs) {x:Hd}  {f:List Value} (hl:f.length=m*i.size) (hx:(x.a=none/\m=0/\x.n=0/\x.cap=0)\/∃a,x.a=some a/\x.n=m/\∀j u,f[j]?=some u->w.cell? (a.add j)=some u)
  (h1:∀u∈f,u.oneCell'=true) (D:n+m<=maxLen) (p:(n+m)*i.bytes<=140737488355328) :
  ∃(h':Hd) (w':World),(Builtin.append_ #[t,t] ty #[h.val,x.val]).run P w=.ok h'.val w'/\w'.ownsRow 0 e i.size h'.val (n+m) (xs++f)/\w.grownBy w' h.val.ownBlock /\
   (∀g,h'.val.ownBlock=some g->h.val.ownBlock=some g\/w.heap.size<=g):=by
 have toHd:∀(E:Value) (w':World),w'.ownsRow 0 e i.size E (n+m) (xs++f)->∃h':Hd,E=h'.val:=by
  intro E w' ho;rcases ho.2 with⟨rfl,_⟩|⟨g,cap,r,rfl,_⟩
  ·exact⟨⟨none,0,0⟩,rfl⟩
  ·exact⟨⟨some ⟨g,0,none⟩,n+m,cap⟩,rfl⟩
 obtain⟨xa,xn,xc⟩:=x;obtain⟨ha,hn,s⟩:=h;rcases hx with⟨B,rfl,C,hxc⟩|⟨a,B,C,q⟩
 ·simp only at B C hxc;subst B C hxc;have hn0:f=[]:=afG (by simpa using hl);subst hn0;refine⟨_,w,run_append_owned_none (P:=P) (w:=w) 0 t ty e i i.size T hi _ n xs k,by grind,⟨rfl,rfl,rfl,ad3 _,λ_ _ _=>rfl⟩,λg F=>.inl F⟩
 ·simp only at B C;subst B C;by_cases M:∃g cap r,(Hd.val ⟨ha,hn,s⟩)=.slice (some ⟨g,0,none⟩) n cap/\w.heap[g]?=some (.cells r e (0,0))/\n+xn<=cap
  ·obtain⟨E,w',hr,X,h3,_⟩:=run_append_own (P:=P) w 0 t ty e i z i.size i.bytes T hi hz rfl rfl R O _ n xs k a xn xc f hl q h1 D p (ahT _);obtain⟨g,cap,r,U,F,hle⟩:=M;have hfit:n*i.size+f.length<=r.size:=by
    rcases k.2 with⟨A,_⟩|⟨g',V,W,A,_,G,_,_,Z,_⟩
    ·grind
    ·rw[U]at A;simp only[Value.slice.injEq,no,Addr.mk.injEq,aqi,aq1]at A;obtain⟨rfl,rfl⟩:=A;rw[F]at G;simp only[no,Obj.cells.injEq,aqi]at G;subst G;rw[hl,Z,<-ago];exact aeL _ hle
   have hr2:=run_append_room (P:=P) w t ty e i T hi g n cap r F a xn xc f hl q h1 hle hfit;grind[Value.ownBlock]
  ·by_cases hnil:(Hd.val ⟨ha,hn,s⟩)=.slice none 0 0
   ·have I:w.ownsRow w.heap.size e i.size (Hd.val ⟨ha,hn,s⟩) n xs:=by
     refine⟨k.1,.inl ⟨hnil,?_⟩⟩;rcases k.2 with⟨_,hn⟩|⟨g',V,W,A,_⟩
     ·exact hn
     grind
    obtain⟨E,w',hr,X,h3,_⟩:=run_append_own (P:=P) w w.heap.size t ty e i z i.size i.bytes T hi hz rfl rfl R O _ n xs I a xn xc f hl q h1 D p (ad3 _);have Y:w'.ownsRow 0 e i.size E (n+xn) (xs++f):=⟨X.1,X.2.imp id λ⟨g,cap,r,U,_,J⟩=>⟨g,cap,r,U,ahT _,J⟩⟩
    obtain⟨h',rfl⟩:=toHd E w' Y;exact⟨h',w',hr,Y,h3,λg F=>.inr (X.lt g F).1⟩
   ·rcases k.2 with⟨U,_⟩|⟨g,cap,r,U,_,F,hnc,hcm,Z,htake⟩
    ·grind
    ·have H:cap<n+xn:=by
      grind
     have holds:∀j u,xs[j]?=some u->w.cell? ((⟨g,0,none⟩:Addr).add j)=some u:=k.cells (g:=g) (by rw[U];rfl);have hr:=run_append_grow (P:=P) w t ty e i z T hi hz ⟨g,0,none⟩ n cap xs k.1 holds a xn xc f hl q H (by simp only[maxLen]at D;omega) (growslice_fits (by omega) p);obtain⟨E,w',hr',X,h3,_⟩:=run_append_own (P:=P) w 0 t ty e i z i.size i.bytes T hi hz rfl rfl R O _ n xs k a xn xc f hl q h1 D p (ahT _);grind[Value.ownBlock]
theorem GR{e:TypeId}{sz:Nat}{s x:Operand}{ty:Ty}{xs ys:List ty.den}{h E:Hd}(j j':Nat)
  (hj:L[j]?=some (.own ty e ci K xs h)) (A:HA) (hj':L[j']?=some A) (hA:HL A (.rep ty K2 ys E))
  (ho:o.op=.call { callee:=.builtin .append,args:=#[s,x],argTypes:=#[t,t]}) (ht:P.underlying t=some (.slice e)) (hi:TI P e sz by_ z) (hs:sz=ty.sz)
  (hzs:Nat.beq z.cells.size sz=true) (hsz:Nat.ble 1 sz=true) (hse:aL ρ s=h.val) (hxe:aL ρ x=E.val)
  (I:decide ((xs.length+ys.length)*by_<=140737488355328/\xs.length+ys.length<=maxLen)=true) (Z:Nat.ble 2 ci=true) (W:ty.pureB=true\/(K++K2).all (λk=>!(Nat.beq k ci))=true) (X:K++K2=K') (he:Nat.blt e 1048576=true) :
  cN P ρ o L [ci] Hd.val (λh'=>[.own ty e ci K' (xs++ys) h']):=by
 intro a ev w c next Q ha hL q
 have J:=hi;clear hi;obtain⟨inf,hi,hz,rfl,rfl⟩:=J.get;obtain⟨rs,G,f,C⟩:=hL.at hj;obtain⟨T,H,hn2,hle2,hm2,Y⟩:=hA w c (hL.at hj');obtain⟨F,V⟩:=aex I;have hl2:=H.length;have D:=cO ty hl2;replace f:=f.plain he;rw[<-hs]at f D;have R:(E.a=none/\ys.length=0/\E.n=0/\E.cap=0)\/∃a,E.a=some a/\E.n=ys.length/\∀j u,(cellsOf ty ys T)[j]?=some u->w.cell? (a.add j)=some u:=by
  rcases Y with⟨h1,h2⟩|⟨b,off,arr,tt,fz,h1,hS,hbb,hfit,U⟩
  ·cases hxa:E.a with
   |none=>grind
   |some a=>
    grind
  grind[eT,mT]
 obtain⟨h',w',O,ho',hg,M⟩:=Ha (P:=P) (ty:=o.type) ht hi hz (f9 hzs) (abM hsz) f D R (jv ty) V F;have hex:(execOp ev o).run P w=.ok (.value h'.val) w':=by simp[execOp,ho,ha,hse,hxe,resolve,invoke,builtin,O,Result.andThen]
 rw[hex];have r:=yA Z hg C;refine q h' w' _ r (ao.cons ⟨rs++T,?_,?_,DG M C⟩ (ao.nil _ _))
 ·rcases W with hp|W
  ·exact(G.mono λx y _=>bH.pure ty x y hp).append (H.mono λx y _=>bH.pure ty x y hp)
  ·have B:∀k∈K++K2,k∉[ci]:=λk q hm=>by
    have:=acr.1 W k q;simp_all
   subst X;exact(G.mono (bH.keep (λb F p=>⟨ad2 _ ((r.keeps (K:=K) (λk q=>B k (ad2 _ q))) b F p).1,((r.keeps (K:=K) (λk q=>B k (ad2 _ q))) b F p).2⟩) ty)).append
    (H.mono (bH.keep (λb F p=>⟨adF _ ((r.keeps (K:=K2) (λk q=>B k (adF _ q))) b F p).1,((r.keeps (K:=K2) (λk q=>B k (adF _ q))) b F p).2⟩) ty))
 ·rw[eF ty G.length,acA,<-hs];exact zU ho'
theorem adp{e:TypeId}{sz:Nat}{s x:Operand}{ty:Ty}{xs ys:List ty.den}{h E:Hd}(j F:Nat)
  (J:L[j]?=some (.own ty e ci K xs h)) (A:HA) (r:L[F]?=some A) (G:HL A (.rep ty K2 ys E))
  (M:o.op=.call { callee:=.builtin .append,args:=#[s,x],argTypes:=#[t,t]}) (O:P.underlying t=some (.slice e)) (hi:TI P e sz by_ z) (hs:sz=ty.sz)
  (D:Nat.beq z.cells.size sz=true) (B:Nat.ble 1 sz=true) (u:aL ρ s=h.val) (C:aL ρ x=E.val)
  (f:decide ((xs.length+ys.length)*by_<=140737488355328/\xs.length+ys.length<=maxLen)=true) (q:Nat.ble 2 ci=true) (H:(K++K2).all (λk=>!(Nat.beq k ci))=true) (p:K++K2=K') (I:Nat.blt e 1048576=true) :
  cN P ρ o L [ci] Hd.val (λh'=>[.own ty e ci K' (xs++ys) h']):=
 GR j F J A r G M O hi hs D B u C f q (.inr H) p I
theorem cN.weaken{Y:Type}{val:Y->Value}{Φ Φ':Y->List HA}(h:cN P ρ o L κ val Φ)(p:∀y w c,ao w c (Φ y)->ao w c (Φ' y)):cN P ρ o L κ val Φ' :=
 λa ev w c next Q ha j k=>h a ev w c next Q ha j λy w' c' hs f=>k y w' c' hs (p y w' c' f)
theorem D8{e:TypeId}{sz:Nat}{s x:Operand}{ty:Ty}{xs ys:List ty.den}{h E:Hd}(f:ty.pureB=true)(j F:Nat)
  (J:L[j]?=some (.own ty e ci K xs h)) (A:HA) (r:L[F]?=some A) (G:HL A (.rep ty K2 ys E))
  (M:o.op=.call { callee:=.builtin .append,args:=#[s,x],argTypes:=#[t,t]}) (O:P.underlying t=some (.slice e)) (hi:TI P e sz by_ z) (hs:sz=ty.sz)
  (D:Nat.beq z.cells.size sz=true) (B:Nat.ble 1 sz=true) (u:aL ρ s=h.val) (C:aL ρ x=E.val)
  (p:decide ((xs.length+ys.length)*by_<=140737488355328/\xs.length+ys.length<=maxLen)=true) (q:Nat.ble 2 ci=true) (I:Nat.blt e 1048576=true) :
  cN P ρ o L [ci] Hd.val (λh'=>[.own ty e ci K (xs++ys) h']):=
 (GR j F J A r G M O hi hs D B u C p q (.inl f) rfl I).weaken λ_ w c H=>ao.cons (CB f w c (H.at (k:=0) rfl)) (ao.nil _ _)
theorem Gf{e:TypeId}{sz:Nat}{cells:List Value}{ev:Operand->Value} 
  (C:o.op=.buildSlice t n parts) (F:P.underlying t=some (.slice e)) (hi:TI P e sz by_ z) (h:Nat.ble (n*sz) 16777216=true) (B:Nat.ble 1 (n*sz)=true)
  (D:parts.toList.map (λp=>(p.1,(aL ρ p.2).cells.toList))=vals) (q:pS (λi=>some (i*sz,sz)) ((List.range (n*sz)).map (λj=>z.cells.toList.getD (j%z.cells.toList.length) default)) vals=some cells)
  (ha:ev=aL ρ):(execOp ev o).run P w=.ok (.value (.slice (some ⟨w.heap.size,0,none⟩) n n)) (w.alloc (.cells cells.toArray e)):=by
 have r:=hi;clear hi;obtain⟨k,hi,G,rfl,_⟩:=r.get;have E:=abM h;have A:=abM B;have u:¬16777216<n*k.size:=by omega
 have x:¬n*k.size=0:=by omega
 have f:=By _ _ _ _ _ _ D q;have s:(Array.range (n*k.size)).map (z.cells[· % z.cells.size]!)=((List.range (n*k.size)).map (λj=>z.cells.toList.getD (j%z.cells.toList.length) default)).toArray:=by grind
 rw[<-s]at f;simp only[execOp,C,ha,Instr.buildSlice,Sem.run_bind,run_underlying F,sizeOf,typeInfo,zeroValue,run_program,Result.andThen_ok,hi,G,Sem.run_pure,if_neg u,if_neg x];rw[f];rfl
theorem Bn{e:TypeId}{sz:Nat}{cells:List Value}{ty:Ty}{xs:List ty.den}{ys:List ty.Refs}
  (I:o.op=.buildSlice t n parts) (O:P.underlying t=some (.slice e)) (hi:TI P e sz by_ z) (D:sz=ty.sz) (f:Nat.ble (n*sz) 16777216=true) (B:Nat.ble 1 (n*sz)=true)
  (J:parts.toList.map (λp=>(p.1,(aL ρ p.2).cells.toList))=vals) (k:pS (λi=>some (i*sz,sz)) ((List.range (n*sz)).map (λj=>z.cells.toList.getD (j%z.cells.toList.length) default)) vals=some cells)
  (R:Nat.beq xs.length n=true) (T:Nat.beq ys.length n=true) (u:cellsOf ty xs ys=cells) (q:pU L (xy ty K xs ys)) (F:Nat.ble 2 N=true) :
  cN P ρ o L [] Hd.val (λh=>[.own ty e N K xs h]):=by
 intro a ev w c next Q ha E H
 have x:=f9 R;have U:=f9 T;have M:=abM f;have C:=abM B;have r:=cO ty (xs:=xs) (ys:=ys) (by omega);rw[Gf I O hi f B J k ha];obtain⟨A,_,_,rfl,_⟩:=hi.get;have s:=tR (w:=w) (c:=c) F (.cells cells.toArray e);refine H ⟨some ⟨w.heap.size,0,none⟩,n,n⟩ _ _ s (ao.cons ⟨ys,?_,⟨?_,.inr ⟨w.heap.size,n,cells.toArray,e,(0,0),by rw[x],heap_alloc_new w _,.inl ⟨rfl,rfl⟩,by omega,?_,?_,?_⟩⟩,λg G=>?_⟩ (ao.nil _ _))
 ·exact(JM ty (by omega) (q.heap E)).mono (bH.keep (s.keeps (by simp)) ty)
 ·rw[r]
 ·simp only[maxLen];have:n<=n*A.size:=aqy n (Nat.pos_of_ne_zero λh=>by grind);omega
 ·grind
 ·grind
 ·simp[Value.ownBlock]at G;grind
theorem H2{e:TypeId}{sz:Nat}{ty:Ty}(s:o.op=.buildSlice t 0 parts)(x:P.underlying t=some (.slice e))(hi:TI P e sz by_ z)(u:parts = #[])(p:Nat.ble 2 N=true) :
  cN P ρ o L [] Hd.val (λh=>[.own ty e N K [] h]):=by
 intro a ev w c next Q ha B r
 have f:=hi;clear hi;obtain⟨A,hi,_,_,_⟩:=f.get;have j:(execOp ev o).run P w=.ok (.value (.slice (some ⟨w.heap.size,0,none⟩) 0 0)) (w.alloc (.cells #[] e)):=by simp[execOp,s,ha,Instr.buildSlice,run_underlying x,sizeOf,typeInfo,hi,u,newRow,Instr.fill,Result.andThen];grind
 rw[j];have k:=tR (w:=w) (c:=c) p (.cells #[] e);refine r ⟨some ⟨w.heap.size,0,none⟩,0,0⟩ _ _ k (ao.cons ⟨[],trivial,⟨by simp[cellsOf],.inr ⟨w.heap.size,0,#[],e,(0,0),rfl,heap_alloc_new w _,.inl ⟨rfl,rfl⟩,by simp,by simp[maxLen],by simp,by simp[cellsOf]⟩⟩,λg q=>?_⟩ (ao.nil _ _))
 ·simp[Value.ownBlock]at q;grind
end
structure OSp:Type 1 where
 ex:Bool
 d:Nat
 pre:List Nat
 Y:Type
 val:Y->Value
 Φ:Y->List HA
 κ:List Nat
 eat:List Nat
 tl:List (Nat×(Y->Value))
def alz{Y:Type}(ρ:dm)(tl:List (Nat×(Y->Value)))(y:Y):Prop:=∀p∈tl,ρ p.1=p.2 y
def auJ{Y:Type}(ρ:dm)(y:Y):List (Nat×(Y->Value))->dm
 |[]=>ρ
 |p::r=>auJ (Bh ρ p.1 (p.2 y)) y r
def OSp.ok(s:OSp)(ρ:dm)(w:World)(c:aS):Prop:=(s.ex=true->∃y,ρ s.d=s.val y/\alz ρ s.tl y/\ao w c (s.Φ y))/\(s.ex=false->ρ s.d=undef)
def Ob(P:Program)(o:Oper)(s:OSp)(es:List OSp):List Nat->dm->List HA->Prop
 |[],ρ,L=>cN P ρ o L s.κ s.val (λy=>.pure (alz ρ s.tl y)::s.Φ y)
 |j::js,ρ,L=>match es[j]? with
  |none=>False
  |some e=>(e.ex=true->∀y,Ob P o s es js (Bh ρ e.d (e.val y)) (e.Φ y++L))/\(e.ex=false->Ob P o s es js (Bh ρ e.d undef) L)
def Fin(R:dm->List HA->Prop)(es:List OSp):List Nat->dm->List HA->Prop
 |[],ρ,L=>R ρ L
 |j::js,ρ,L=>match es[j]? with
  |none=>False
  |some e=>(e.ex=true->∀y,Fin R es js (auJ (Bh ρ e.d (e.val y)) y e.tl) (e.Φ y++L))/\(e.ex=false->Fin R es js (Bh ρ e.d undef) L)
def un(o:Oper):List Nat:=(o.after.toList.filter (Region.binds .any)).map (·.on)
def bU(j:Nat)(l:List Nat):Bool:=l.any λk=>Nat.beq j k
theorem mem_iff{j:Nat}{l:List Nat}:bU j l=true↔j∈l:=by simp only[bU,aiF];simp_all
def HN(l:List Oper)(cl:List (List Nat)):Bool:=
 (List.range l.length).all λi=>match l[i]?,cl[i]? with
  |some o,some c=>(un o).all (λj=>Nat.blt j i)&&c.all λj=>bU j (un o)||(un o).any λk=>match cl[k]? with|some ck=>bU j ck|none=>false
  |_,_=>false
def Ir(o:Oper)(es:List OSp)(pre:List Nat):Bool:=
 o.op.operands.toList.all λx=>match x with
  |.tmp t=>!(es.any λe=>Nat.beq t e.d)||pre.any λj=>match es[j]? with|some e=>Nat.beq t e.d|none=>false
  |_=>true
def adY(s:OSp)(es:List OSp):Bool:=s.tl.all λp=>s.pre.any λj=>match es[j]? with|some e=>Nat.beq p.1 e.d|none=>false
def BF(o:Oper):Bool:=match o.op with|.select .. => false|_=>true
def ahZ(n:Nat)(o:Oper)(s:OSp)(es:List OSp)(c:List Nat):Prop:=
 match o.guard with
 |none=>s.ex=true
 |some (j,f)=>bU j c=true/\∃e b,es[j]?=some e/\Nat.blt e.d n=true/\(∀y,e.val y=.bool b)/\s.ex=(e.ex&&(b==f))
def aac(n:Nat)(o:Oper)(s:OSp):Prop:=(o.dst=some s.d/\Nat.blt s.d n=true)\/(o.dst=none/\Nat.ble n s.d=true/\∀y,s.val y=undef)
def D2(P:Program)(n:Nat)(es:List OSp)(ρ:dm)(B:Nat->List HA):List Oper->List OSp->List (List Nat)->Nat->Prop
 |o::l,s::f,c::cs,i=>(aac n o s/\BF o=true/\s.pre.all (λj=>bU j c)=true/\Ir o es s.pre=true/\adY s es=true/\ahZ n o s es c/\(s.ex=true->Ob P o s es s.pre ρ (B i)))/\D2 P n es ρ B l f cs (i+1)
 |_,[],_,_=>True
 |_,_,_,_=>False
theorem D2.at{P:Program}{n:Nat}{es:List OSp}{ρ:dm}{B:Nat->List HA}:∀{l:List Oper} {f:List OSp} {cs:List (List Nat)} {m i:Nat} {o:Oper} {s:OSp},D2 P n es ρ B l f cs m->l[i]?=some o->f[i]?=some s ->
  ∃c,cs[i]?=some c/\aac n o s/\BF o=true/\s.pre.all (λj=>bU j c)=true/\Ir o es s.pre=true/\adY s es=true/\ahZ n o s es c/\(s.ex=true->Ob P o s es s.pre ρ (B (m+i)))
 |p::l,q::f,c'::cs,m,0,o,s,h,k,hs=>by simp at k hs;subst k;subst hs;exact⟨c',rfl,h.1⟩
 |p::l,q::f,c'::cs,m,i+1,o,s,h,k,hs=>by simp at k hs;obtain⟨c,r,u⟩:=D2.at h.2 k hs;grind
 |_,[],_,_,i,_,_,_,_,hs=>by simp at hs
 |[],s::f,cs,_,i,_,_,h,_,_=>by grind
 |o::l,s::f,[],_,i,_,_,h,_,_=>h.elim
def zR(κ eat:List Nat):Nat->List OSp->Prop
 |_,[]=>True
 |k,e::r=>(bU k eat=true\/∀y,(e.Φ y).all (sK κ)=true)/\zR κ eat (k+1) r
def ace(cl:List (List Nat))(i:Nat):List Nat:=(List.range cl.length).filter λk=>match cl[k]? with|some c=>bU i c|none=>false
def MU(es:List OSp)(cl:List (List Nat)):List OSp->Nat->Prop
 |[],_=>True
 |s::r,i=>(s.κ=[]\/zR s.κ (i::(s.eat++ace cl i)) 0 es)/\MU es cl r (i+1)
theorem zR.at{κ eat:List Nat}:∀{es:List OSp} {k j:Nat} {e:OSp},zR κ eat k es->es[j]?=some e->bU (k+j) eat=true\/∀y,(e.Φ y).all (sK κ)=true
 |p::r,k,0,e,h,f=>by simp at f;subst f;exact h.1
 |p::r,k,j+1,e,h,f=>by simp at f;have:=zR.at h.2 f;grind
 |[],_,_,_,_,f=>by simp at f
theorem MU.at{es:List OSp}{cl:List (List Nat)}:∀{p:List OSp} {k i:Nat} {s:OSp},MU es cl p k->p[i]?=some s->s.κ=[]\/zR s.κ ((k+i)::(s.eat++ace cl (k+i))) 0 es
 |q::r,k,0,e,h,f=>by simp at f;subst f;exact h.1
 |q::r,k,j+1,e,h,f=>by simp at f;have:=MU.at h.2 f;grind
 |[],_,_,_,_,f=>by simp at f
section
variable {P:Program} {n:Nat} {Q:Exit->Act->World->Prop}
def yg(f:Nat->Bool):Nat->Nat
 |0=>0
 |k+1=>yg f k+cond (f k) 1 0
theorem P0{f g:Nat->Bool}:∀{k:Nat},(∀j,j<k->f j=g j)->yg f k=yg g k
 |0,_=>rfl
 |k+1,h=>by simp only[yg,P0 (k:=k) λj p=>h j (by omega),h k (by omega)]
theorem Us{f g:Nat->Bool}{i:Nat}(hf:f i=true)(q:g i=false):∀{k:Nat},i<k->(∀j,j<k->j≠i->f j=g j)->yg f k=yg g k+1
 |k+1,hi,h=>by
  simp only[yg];by_cases r:i=k
  ·grind[P0]
  ·rw[Us hf q (k:=k) (by omega) λj s p=>h j (by omega) p,h k (by omega) (by omega)];omega
theorem SD{f:Nat->Bool}:∀{k:Nat},yg f k=0->∀i,i<k->f i=false
 |k+1,h,i,hi=>by
  simp only[yg]at h;by_cases j:i=k
  ·grind
  ·exact SD (k:=k) (by omega) i (by omega)
def Je(listed:Array Bool)(i:Nat):Bool:=!(listed.getD i false)
theorem asD(f:HN l cl=true){k:Nat}(j:k<l.length):∃c,cl[k]?=some c:=by have h:=acr.1 f k (af1.2 j);grind
def P5(l:List Oper)(listed:Array Bool):Prop:=∀(i:Nat) (o:Oper),l[i]?=some o->listed.getD i false=true->∀j∈un o,listed.getD j false=true
theorem yY(r:HN l cl=true)(hd:P5 l listed):∀(i:Nat) (o:Oper) (c:List Nat),l[i]?=some o->cl[i]?=some c ->
  (∀j∈un o,listed.getD j false=true)->∀j∈c,listed.getD j false=true:=by
 intro i;induction i using Nat.strongRecOn with
 | _ i F=>
  intro o c B D C j E;have u:i<l.length:=(aeI.1 B).1;have h:=acr.1 r i (af1.2 u);simp only[B,D,abF]at h;have f:=acr.1 h.2 j E;simp only[afz]at f;rcases f with f|f
  ·exact C j (mem_iff.1 f)
  ·obtain⟨k,x,A⟩:=aiF.1 f;have s:k<i:=abM (acr.1 h.1 k x);cases p:cl[k]? with
   |none=>grind
   |some ck=>
    simp only[p]at A;have q:k<l.length:=by omega
    exact F k s l[k] ck (by simp[q]) p (hd k l[k] (by simp[q]) (C k x)) j (mem_iff.1 A)
theorem DD{j:Nat}(h:i<listed.size):(listed.setIfInBounds i true).getD j false=(Nat.beq j i||listed.getD j false):=by
 by_cases f:i=j
 ·simp_all
 ·have:Nat.beq j i=false:=by
   cases k:Nat.beq j i
   ·rfl
   simp_all
  simp_all
theorem Aw(s:listed.size=l.length)(h:i∈Region.ready .any l.toArray listed) :
  ∃o,l[i]?=some o/\listed.getD i false=false/\∀j∈un o,listed.getD j false=true:=by
 rw[mem_ready]at h;obtain⟨u,o,r,k⟩:=h;have f:l[i]?=some o:=by simpa using r
 have q:i<l.length:=(aeI.1 f).1;refine⟨o,f,by grind,λj p=>?_⟩;obtain⟨e,x,rfl⟩:=acG.1 p;grind
theorem FV(p:HN l cl=true)(x:listed.size=l.length)(h:Region.ready .any l.toArray listed=[]) :
  ∀i,i<l.length->listed.getD i false=true:=by
 intro i;induction i using Nat.strongRecOn with
 | _ i B=>
  intro hi;cases A:listed.getD i false
  ·exfalso;have q:i∈Region.ready .any l.toArray listed:=by
    rw[mem_ready];have u:l[i]?=some l[i]:=by simp[hi]
    refine⟨by grind,l[i],by simp[hi],λe r f=>?_⟩;have j:=acr.1 p i (af1.2 hi);simp only[u]at j;cases k:cl[i]? with
    |none=>grind
    |some c=>
     simp only[k,abF]at j;have s:e.on<i:=abM (acr.1 j.1 e.on (acG.2 ⟨e,ae2.2 ⟨by simpa using r,f⟩,rfl⟩));grind
   grind
  ·rfl
theorem PH(u:listed.size=l.length)(hd:P5 l listed){o:Oper}(s:l[i]?=some o)(B:∀j∈un o,listed.getD j false=true) :
  P5 l (listed.setIfInBounds i true):=by
 have r:i<l.length:=(aeI.1 s).1;intro k x h f j p;rw[DD (by omega)]at f|-;by_cases q:k=i
 ·grind
 ·have:Nat.beq k i=false:=by
   cases A:Nat.beq k i
   ·rfl
   simp_all
  rw[this]at f;rw[hd k x h (by simpa using f) j p];simp
def ar2(l:List Oper)(cl:List (List Nat))(p:Nat):Bool:=(List.range l.length).all λi=>Nat.blt i p||match cl[i]? with|some c=>(List.range i).all λj=>bU j c|none=>false
theorem ain{k:Nat}(f:k<l.length):l.drop k=l[k]::l.drop (k+1):=by simp_all
theorem abB[Rd](G:HN l cl=true){p:Nat}(E:ar2 l cl p=true)(hpl:p<=l.length)
  (J:Array Bool->Act->World->Prop) (F:∀listed a w,J listed a w->(∀i,i<p->listed.getD i false=true)->(∀i,p<=i->listed.getD i false=false)->wpListIn tj 0 P l.toArray Q (l.drop p) a w)
  (hJ:∀listed a w i o,J listed a w->P5 l listed->listed.size=l.length->i<p->l[i]?=some o->listed.getD i false=false->(∀j∈un o,listed.getD j false=true) ->
   wpOpIn tj 0 P l.toArray Q i (J (listed.setIfInBounds i true)) a w) :
  ∀(q:Nat) (listed:Array Bool) (a:Act) (w:World),listed.size=l.length->P5 l listed->yg (Je listed) l.length<=q ->
   ((J listed a w/\∀i,p<=i->listed.getD i false=false)\/∃k,p<=k/\k<=l.length/\(∀i,listed.getD i false=decide (i<k))/\wpListIn tj 0 P l.toArray Q (l.drop k) a w) ->
   wpAnyIn tj 0 P .any l.toArray Q q listed a w:=by
 intro q;induction q with
 | zero=>
  intro listed a w r hd hc V;have O:∀i,i<l.length->listed.getD i false=true:=λi hi=>by grind[Je,SD]
  have B:Region.ready .any l.toArray listed=[]:=by
   cases U:Region.ready .any l.toArray listed with
   |nil=>rfl
   |cons x xs=>
    obtain⟨o,D,hf,_⟩:=Aw r (i:=x) (by rw[U];simp);grind
  refine⟨B,?_⟩;rcases V with⟨R,u⟩|⟨k,hpk,hkl,hk,I⟩
  ·have hpe:p=l.length:=by
    rcases afB p l.length with h|h
    ·grind
    ·omega
   have:=F listed a w R (λi hi=>O i (by omega)) u;rw[hpe,aiI]at this;exact this
  ·have H:k=l.length:=by
    rcases afB k l.length with h|h
    ·grind
    ·omega
   rw[H,aiI]at I;exact I
 | succ q ih=>
  intro listed a w r hd hc V;have W:(J listed a w/\(∀i,p<=i->listed.getD i false=false)/\∃i,i<p/\listed.getD i false=false) \/
    ∃k,p<=k/\k<=l.length/\(∀i,listed.getD i false=decide (i<k))/\wpListIn tj 0 P l.toArray Q (l.drop k) a w:=by
   grind
  have C:∀i,i<l.length->listed.getD i false=false->yg (Je (listed.setIfInBounds i true)) l.length<=q:=by intro i hi hf;have:=Us (f:=Je listed) (g:=Je (listed.setIfInBounds i true)) (i:=i) (by simp[Je,hf]) (by simp only[Je];rw[DD (by omega)];simp) hi (λj _ hne=>by simp only[Je];rw[getD_set_ne false (aqR hne)]);omega
  rcases W with⟨R,u,i0,hi0,Y⟩|⟨k,hpk,hkl,hk,I⟩
  ·refine⟨λU=>absurd (FV G r U i0 (by omega)) (by rw[Y];simp),λi hi=>?_⟩;obtain⟨o,D,hf,T⟩:=Aw r hi;have s:i<l.length:=(aeI.1 D).1;have hip:i<p:=by
    rcases afB i p with h|h
    ·exact h
    ·exfalso;have hs:=acr.1 E i (af1.2 s);have:Nat.blt i p=false:=by
      cases X:Nat.blt i p
      ·rfl
      ·have:=abM X;omega
     rw[this]at hs;cases A:cl[i]? with
     |none=>grind
     |some c=>
      simp only[A,ajU]at hs;have hm:=acr.1 hs i0 (af1.2 (by omega));grind[yY,mem_iff]
   refine wpOpIn_mono (λM w' hj'=>ih _ M w' (by grind) (PH r hd D T) (C i s hf) (.inl ⟨hj',λj hpj=>?_⟩)) (hJ listed a w i o R hd r hip D hf T);rw[getD_set_ne false (by omega)];grind
  ·refine⟨λU=>?_,λi hi=>?_⟩
   ·have H:k=l.length:=by
     rcases afB k l.length with h|h
     ·have:=FV G r U k h;grind
     ·omega
    rw[H,aiI]at I;exact I
   ·obtain⟨o,D,hf,T⟩:=Aw r hi;have s:i<l.length:=(aeI.1 D).1;have Z:i=k:=by
     rw[hk i]at hf;have hge:k<=i:=by simpa using hf
     rcases afB k i with h|h
     ·exfalso;have hs:=acr.1 E i (af1.2 s);have:Nat.blt i p=false:=by
       cases X:Nat.blt i p
       ·rfl
       ·have:=abM X;omega
      rw[this]at hs;cases A:cl[i]? with
      |none=>grind
      |some c=>
       simp only[A,ajU]at hs;have hm:=acr.1 hs k (af1.2 h);have:=yY G hd i o c D A T k (mem_iff.1 hm);grind
     ·omega
    subst Z;rw[ain s]at I;have hoe:l[i]=o:=by grind
    rw[hoe]at I;have hnext:∀M w',wpListIn tj 0 P l.toArray Q (l.drop (i+1)) M w'->wpAnyIn tj 0 P .any l.toArray Q q (listed.setIfInBounds i true) M w':=λM w' hw' =>
     ih _ M w' (by grind) (PH r hd D T) (C i s hf) (.inr ⟨i+1,by omega,by omega,λj=>by
      rw[DD (by omega),hk j];by_cases R:j=i
      ·subst R;simp
      grind[Nat.beq,absurd,Nat.eq_of_beq_eq_true],hw'⟩)
    grind[wpOpIn,wpListIn,id,Oper.wpIn_mono]
theorem abX{ρ:dm}{a:Act}(ha:Rel n ρ a ds){j d:Nat}{o:Oper}(k:l[j]?=some o)(hd:o.dst=some d)(h:Nat.blt d n=true) :
  yielded l.toArray a.tmps j=match ρ d with|.bool b=>some b|_=>none:=by
 have f:d<a.tmps.size:=by rw[ha.size];simp_all
 have p:=ha.val d;simp only[yielded,akD,k,f8,hd];simp only[agZ,Array.getElem?_eq_getElem f,aiJ]at p|-;grind
theorem akW{c:aS}:Stp [] w c { w with drawn:=w.drawn+1} c:=.mk0 (ad3 _) (λ_ _=>rfl) (λ_ _ _=>rfl) (λ_ h j=>absurd (Nat.lt_of_le_of_lt h j) (Nat.lt_irrefl _)) ⟨rfl,rfl⟩
theorem Bt(k i:Nat):(Array.replicate k false).getD i false=false:=by rw[agZ,aka];split<;>rfl
theorem adL(f:Nat->Bool):∀k,yg f k<=k
 |0=>by simp[yg]
 |k+1=>by have:=adL f k;simp only[yg];grind
end
section
variable {P:Program} {n:Nat} {Q:Exit->Act->World->Prop} {ρ:dm} {L:List HA} {o:Oper}
theorem all_cons{es:List OSp}{s:OSp}{p:List OSp}{c:List Nat}{cs:List (List Nat)}{B:Nat->List HA}(k:List HA)(D:B i=k)(q:aac n o s)(r:BF o=true)(u:s.pre.all (λj=>bU j c)=true)(x:Ir o es s.pre=true)(f:adY s es=true)
  (A:ahZ n o s es c) (C:s.ex=true->Ob P o s es s.pre ρ k) (h:D2 P n es ρ B l p cs (i+1)):D2 P n es ρ B (o::l) (s::p) (c::cs) i:=⟨⟨q,r,u,x,f,A,D▸C⟩,h⟩
end
abbrev tA(n:Nat)(k:IntKind):Ty:=.arr n Int 0 (Value.int k) (λ_=>rfl)
def dM(n:Nat)(x y:List Int):Bool:=(List.range n).all λi=>x.getD i 0==y.getD i 0
section
variable {P:Program} {n:Nat} {ρ:dm} {L:List HA} {o:Oper}
def Xb(P:Program):List Field->List (Nat×Nat)->Prop
 |[],[]=>True
 |f::fs,p::ps=>f.offset=p.1/\(∃by_ z,TI P f.type p.2 by_ z)/\Xb P fs ps
 |_,_=>False
theorem Iy{sz:Nat}{k:List (Nat×Nat)}{cells:List Value}
  (G:o.op=.build t parts) (I:P.underlying t=some (.struct fs)) (hi:TI P t sz by_ z) (x:Xb P fs.toList k)
  (H:parts.toList.map (λp=>(p.1,(aL ρ p.2).cells.toList))=vals) (u:pS (λj=>k[j]?) z.cells.toList vals=some cells):aZ P ρ o L (.agg cells.toArray):=λev w c E _=>by
 subst E;have r:=hi;clear hi;obtain⟨O,hi,J,_,_⟩:=r.get;have F:∀(l:List Field) (ps:List (Nat×Nat)),Xb P l ps->(l.mapM (λf=>do pure (f.offset,<-sizeOf f.type):Field->Sem (Nat×Nat))).run P w=.ok ps w:=by
  intro l;induction l with
  |nil=>intro ps h;cases ps<;>first|rfl|exact h.elim
  | cons f l M=>
   intro ps h;cases ps with
   |nil=>exact h.elim
   |cons p ps=>
    obtain⟨B,⟨_,_,C⟩,D⟩:=h;obtain⟨i,hi,_,A,_⟩:=C.get;have hs:(sizeOf f.type).run P w=.ok p.2 w:=by simp[sizeOf,typeInfo,hi,A]
    simp only[aqT,Sem.run_bind,hs,Result.andThen_ok,Sem.run_pure,M ps D,B]
 have s:(fs.mapM (λf=>do pure (f.offset,<-sizeOf f.type):Field->Sem (Nat×Nat))).run P w=.ok k.toArray w:=by rw[aqc,Sem.run_map,F _ _ x];rfl
 have q:=By (λj=>k.toArray[j]?) parts ρ vals z.cells.toList cells H (by grind);simp only[Array.toArray_toList]at q;simp only[execOp,G,Instr.build,Sem.run_bind,zeroValue,typeInfo,run_program,Result.andThen_ok,hi,J,Sem.run_pure,run_underlying I,s];simp_all
theorem JN{e:TypeId}{k:Nat}{sz q A:Nat}{C:Value}{cells:List Value}
  (D:o.op=.build t parts) (F:P.underlying t=some (.array k e)) (hi:TI P t sz by_ z) (x:TI P e q A C)
  (E:parts.toList.map (λp=>(p.1,(aL ρ p.2).cells.toList))=vals) (r:pS (λj=>some (j*q,q)) z.cells.toList vals=some cells):aZ P ρ o L (.agg cells.toArray):=λev w c B _=>by
 subst B;have u:=hi;clear hi;obtain⟨H,hi,G,_,_⟩:=u.get;have s:=x;clear x;obtain⟨h,x,_,rfl,_⟩:=s.get;have f:=By (λj=>some (j*h.size,h.size)) parts ρ vals z.cells.toList cells E r;simp only[Array.toArray_toList]at f;simp only[execOp,D,Instr.build,Sem.run_bind,zeroValue,typeInfo,run_program,Result.andThen_ok,hi,G,Sem.run_pure,run_underlying F,sizeOf,x];simp_all
def ES(tmps:Array Value):ResultVar->Sem Value
 |.tmp t=>pure (tmps.getD t undef)
 |.cell x t=>do loadVar t (<-asAddr (tmps.getD x undef))
def Kc(P:Program)(ρ:dm)(L:List HA)(r:ResultVar)(v:Value):Prop:=∀(a:Act) (w:World) (c:aS),(∀t,a.tmps.getD t undef=ρ t)->ao w c L->(ES a.tmps r).run P w=.ok v w
theorem auF{t:Tmp}{v:Value}(h:ρ t=v):Kc P ρ L (.tmp t) v:=λa w _ ha _=>by simp only[ES,ha,h];rfl
theorem aht{x:Tmp}{b:Nat}{v:Value}(k:Nat)(j:L[k]?=some (.box i b cs))(p:P.underlying t=some d)
  (hd:kR d=false) (r:ρ x=.pointer (some ⟨b,0,none⟩)) (q:cs[0]?=some v):Kc P ρ L (.cell x t) v:=λa w c ha f=>by
 obtain⟨⟨ty,h⟩,_⟩:=f.at j;simp only[ES,ha,r];simp[asAddr,loadVar,l7 p hd,mT h,q,Result.andThen]
theorem ahf{x:Tmp}{b:Nat}{sz:Nat}(k:Nat)(s:L[k]?=some (.box i b cs))(u:P.underlying t=some d)
  (hd:kR d=true) (hi:TI P t sz by_ z) (B:ρ x=.pointer (some ⟨b,0,none⟩)) (hl:Nat.beq cs.length sz=true):Kc P ρ L (.cell x t) (.agg cs.toArray):=λa w c ha q=>by
 have h:=hi;clear hi;obtain⟨C,hi,_,rfl,_⟩:=h.get;obtain⟨⟨ty,r⟩,_⟩:=q.at s;have p:=f9 hl;have f:=run_loadCells_list (P:=P) (w:=w) ⟨b,0,none⟩ cs (λj v A=>by rw[eT,mT r];simpa using A);rw[p]at f;simp only[ES,ha,B];simp[asAddr,loadVar,AX u hd,sizeOf,typeInfo,hi,f,Result.andThen]
def Zm(P:Program)(ρ:dm)(L:List HA):List ResultVar->List Value->Prop
 |[],[]=>True
 |r::rs,v::vs=>Kc P ρ L r v/\Zm P ρ L rs vs
 |_,_=>False
theorem Nz{a:Act}{w:World}{c:aS}(ha:∀t,a.tmps.getD t undef=ρ t)(f:ao w c L):∀{rs:List ResultVar} {vs:List Value},Zm P ρ L rs vs->(rs.mapM (ES a.tmps)).run P w=.ok vs w
 |[],[],_=>rfl
 |r::rs,v::vs,⟨j,k⟩=>by simp only[aqT,Sem.run_bind,j a w c ha f,Result.andThen_ok,Nz ha f k,Sem.run_pure]
 |[],_::_,h=>h.elim
 |_::_,[],h=>h.elim
theorem Ec{fn:Func}{rs:List ResultVar}(h:fn.results=rs.toArray){a:Act}{c:aS}(ha:∀t,a.tmps.getD t undef=ρ t)(f:ao w c L)(k:Zm P ρ L rs vs) :
  (results fn a.tmps).run P w=.ok (if h:vs.toArray.size=1 then vs.toArray[0]else .tuple vs.toArray) w:=by
 have j:results fn a.tmps=(do let vs<-fn.results.mapM (ES a.tmps);pure (if h:vs.size=1 then vs[0]else .tuple vs)):=by rfl
 rw[j,h];simp only[Sem.run_bind];rw[show(Array.mapM (ES a.tmps) rs.toArray).run P w=.ok vs.toArray w by rw[aqc,Sem.run_map];simp only[Nz ha f k];rfl];rfl
theorem Qt{x:Operand}{xt:TypeId}{v:Value}(h:o.op=.typeAssert x xt t true)(j:P.underlying t=some d)(hd:u9 d=false)(k:aL ρ x=.iface t v) :
  aZ P ρ o L (.tuple #[v,.bool true]):=λev w c f _=>by
 subst f;have:(Instr.typeAssert (.iface t v) xt t true).run P w=.ok (.tuple #[v,.bool true]) w:=by unfold Instr.typeAssert;simp only[bind,Sem.run_bind',run_underlying j,Result.andThen];cases d<;>first|(exfalso;simp[u9]at hd;done)|simp_all
 simp[execOp,h,k,this,Result.andThen]
theorem Tj{x:Operand}{xt u:TypeId}{v:Value}{sz:Nat}(q:o.op=.typeAssert x xt t true)(r:P.underlying t=some d)(hd:u9 d=false)
  (hi:TI P t sz by_ z) (j:Nat.beq u t=false) (A:aL ρ x=.iface u v):aZ P ρ o L (.tuple #[z,.bool false]):=λev w c p _=>by
 subst p;have f:=hi;clear hi;obtain⟨C,hi,B,_,_⟩:=f.get;have h:¬u=t:=afY j;have:(Instr.typeAssert (.iface u v) xt t true).run P w=.ok (.tuple #[z,.bool false]) w:=by
  unfold Instr.typeAssert;simp only[bind,Sem.run_bind',run_underlying r,Result.andThen];have k:(zeroValue t).run P w=.ok z w:=by simp[zeroValue,typeInfo,hi,B]
  cases d<;>first|(exfalso;simp[u9]at hd;done)|(refine Eq.trans (aei (λs:Sem Value=>s.run P w) (if_neg h:(if u=t then _ else _)=_)) ?_;simp only[aeP,Sem.run_bind',k,Result.andThen];rfl)
 simp[execOp,q,A,this,Result.andThen]
theorem Fu(d:Nat){e:TypeId}{k:IntKind}{i:TypeInfo}(x y:List Int)(A:P.underlying t=some (.array m e))(q:P.underlying e=some (.int k))(hi:P.info? e=some i)(hs:i.size=1) :
  (Op.equalIn (d+2) t (.agg ((tA m k).fill x ()).toArray) (.agg ((tA m k).fill y ()).toArray)).run P w=.ok (dM m x y) w:=by
 rw[run_equalIn_array (P:=P) w (d+1) _ _ A hi];have u:P.cellsOf e=1:=by simp[Program.cellsOf,hi,hs]
 have gen:∀f:List Nat,(∀j∈f,j<m)->(Op.eqItems (d+1) e (P.cellsOf e) ((tA m k).fill x ()).toArray ((tA m k).fill y ()).toArray f).run P w=.ok (f.all λi=>x.getD i 0==y.getD i 0) w:=by
  intro f;induction f with
  |nil=>intro _;rfl
  |cons j f D=>
   intro p;have h:j<m:=p j (by simp);have B:(part e ((tA m k).fill x ()).toArray (j*P.cellsOf e)).run P w=.ok (.int k (x.getD j 0)) w:=by simp[part,l7 q rfl,u,Ty.fill,h,Result.andThen]
   have C:(part e ((tA m k).fill y ()).toArray (j*P.cellsOf e)).run P w=.ok (.int k (y.getD j 0)) w:=by simp[part,l7 q rfl,u,Ty.fill,h,Result.andThen]
   simp only[Op.eqItems,Sem.run_bind,B,C,Result.andThen_ok,run_equalIn_int w d e k k _ _ q,afR];have s:=D λE r=>p E (by simp[r]);cases F:(x.getD j 0==y.getD j 0)
   ·simp
   ·simp[s]
 exact gen _ λj p=>by simpa using p
theorem abQ{e:TypeId}{a b:Operand}{k:IntKind}{x y:List Int}(u:o.op=.binOp .eql t a b t')(q:P.underlying t=some (.array m e))(j:P.underlying e=some (.int k))(hi:TI P e 1 by_ z)
  (p:P.eqGuardType P.depth t=false) (A:aL ρ a=.agg ((tA m k).fill x ()).toArray) (B:aL ρ b=.agg ((tA m k).fill y ()).toArray):aZ P ρ o L (.bool (dM m x y)):=λev w c h _=>by
 subst h;have f:=hi;clear hi;obtain⟨i,hi,_,hs,_⟩:=f.get;have r:(eqGuard .eql t a b (.agg ((tA m k).fill x ()).toArray) (.agg ((tA m k).fill y ()).toArray)).run P w=.ok () w:=run_eqGuard_agg w .eql t a b _ _ p;have s:(binOp .eql t (.agg ((tA m k).fill x ()).toArray) (.agg ((tA m k).fill y ()).toArray)).run P w=.ok (.bool (dM m x y)) w:=by rw[run_eql_struct,Fu 9998 x y q j hi hs];rfl
 grind[execOp,Sem.run_bind,Result.andThen_ok,Sem.run_pure]
theorem agt{x:Operand}{f:Nat}{v:Value}(j:o.op=.field t x f)(k:P.underlying t=some (.struct fs))(hf:fs[f]?=some fd)
  (p:P.underlying fd.type=some d) (hd:kR d=false) (r:aL ρ x=.agg cs.toArray) (q:cs[fd.offset]?=some v):aZ P ρ o L v:=λev w c h _=>by
 subst h;simp[execOp,j,r,Instr.field,run_underlying k,hf,asAgg,part,l7 p hd,q,Result.andThen]
theorem afw{x:Operand}{f:Nat}{sz:Nat}(k:o.op=.field t x f)(p:P.underlying t=some (.struct fs))(hf:fs[f]?=some fd)
  (q:P.underlying fd.type=some d) (hd:kR d=true) (hi:TI P fd.type sz by_ z) (s:aL ρ x=.agg cs.toArray) (r:(cs.drop fd.offset).take sz=cs') :
  aZ P ρ o L (.agg cs'.toArray):=λev w c j _=>by
 subst j;have h:=hi;clear hi;obtain⟨u,hi,_,rfl,_⟩:=h.get;simp[execOp,k,s,Instr.field,run_underlying p,hf,asAgg,part,AX q hd,sizeOf,typeInfo,hi,r,Result.andThen]
abbrev ac(n:Int):Int:=IntKind.i64.wrap n
def aN(m k b:Nat):Bool:=decide ((m+k)*b<=140737488355328/\m+k<=maxLen)
def af{α:Type}(b:Bool)(m:Option α):Option α:=bif b then m else none
theorem Fa{b:Bool}{m:Option α}{r:α}(h:af b m=some r):b=true/\m=some r:=by
 cases b
 ·cases h
 ·exact⟨rfl,h⟩
end
end Go.Sm
