/- Laws for the row. No condition. -/
import Derived.WalkKit
import Derived.Orders
import Derived.LoopN
import Derived.Laws.AppendOwnNone
import Derived.Laws.MakeOwn
import Derived.ChangeKeysEq
namespace Go.Sm
variable {w w':World} {t t' ty:TypeId} {i by_ n m ci:Nat} {z:Value} {y:Operand} {a b:Int} {K κ K' Ka K2:List Nat} {cs xs vs cs':List Value} {d:TypeDesc} {l:List Oper} {S S':Nat->Prop} {listed:Array Bool} {α:Type} {fs:Array Field} {parts:Array (Nat×Operand)} {cl:List (List Nat)} {g:Nat->Nat} {fd:Field} {vals:List (Nat×List Value)}
abbrev alh:=@Array.ext'
abbrev afG:=@Array.getD_eq_getD_getElem?
abbrev ack:=@Array.getElem?_eq_some_iff
abbrev als:=@Array.getElem?_replicate
abbrev aln:=@Array.mapM_eq_mapM_toList
abbrev akV:=@BitVec.toNat_ofInt
abbrev agn:=@Bool.and_eq_false_iff
abbrev aas:=@Bool.and_eq_true
abbrev aft:=@Bool.and_self
abbrev akW:=@Bool.and_true
abbrev ady:=@Bool.false_eq_true
abbrev akq:=@Bool.false_or
abbrev acA:=@Bool.not_eq_true'
abbrev abR:=@Bool.not_false
abbrev acd:=@Bool.not_true
abbrev acV:=@Bool.or_eq_false_iff
abbrev acO:=@Bool.or_eq_true
abbrev alQ:=@Int.eq_ofNat_of_zero_le
abbrev afY:=@Int.le_refl
abbrev akI:=@Int.le_trans
abbrev al8:=@Int.lt_irrefl
abbrev alJ:=@Int.lt_or_le
abbrev ak3:=@Int.tdiv_eq_ediv_of_nonneg
abbrev ad2:=@Int.tmod_eq_emod_of_nonneg
abbrev aaR:=@Int.toNat_natCast
abbrev adH:=@Int.zero_add
abbrev aiy:=@List.Perm.refl
abbrev adD:=@List.all_cons
abbrev aaB:=@List.all_eq_true
abbrev ake:=@List.any_eq_false
abbrev ame:=@List.any_eq_true
abbrev aaW:=@List.append_assoc
abbrev abd:=@List.append_nil
abbrev akz:=@List.concat_eq_append
abbrev agj:=@List.cons.injEq
abbrev acK:=@List.cons_append
abbrev akK:=@List.dropLast_concat
abbrev acB:=@List.drop_append
abbrev aec:=@List.drop_drop
abbrev alq:=@List.drop_eq_getElem_cons
abbrev acj:=@List.drop_eq_nil_of_le
abbrev afw:=@List.drop_length
abbrev aeN:=@List.drop_succ_cons
abbrev ae2:=@List.drop_take
abbrev adi:=@List.drop_zero
abbrev adf:=@List.eq_nil_of_length_eq_zero
abbrev akw:=@List.eq_nil_or_concat
abbrev aij:=@List.eq_of_mem_replicate
abbrev ac7:=@List.ext_getElem?
abbrev ako:=@List.flatMap_cons
abbrev alf:=@List.foldl_append
abbrev abq:=@List.getD_eq_getElem?_getD
abbrev akD:=@List.getElem?_append
abbrev afL:=@List.getElem?_append_left
abbrev adW:=@List.getElem?_append_right
abbrev adP:=@List.getElem?_cons_zero
abbrev acP:=@List.getElem?_drop
abbrev abB:=@List.getElem?_eq_getElem
abbrev abC:=@List.getElem?_eq_some_iff
abbrev aeI:=@List.getElem?_map
abbrev age:=@List.getElem?_range
abbrev ae9:=@List.getElem?_set_ne
abbrev adu:=@List.getElem?_set_self
abbrev ae1:=@List.getElem?_take
abbrev ahT:=@List.getElem_of_mem
abbrev akE:=@List.headD_cons
abbrev aaL:=@List.length_append
abbrev acn:=@List.length_cons
abbrev af3:=@List.length_drop
abbrev aee:=@List.length_map
abbrev al9:=@List.length_nil
abbrev ajF:=@List.length_range
abbrev adk:=@List.length_replicate
abbrev acQ:=@List.length_set
abbrev acg:=@List.length_singleton
abbrev adx:=@List.length_take
abbrev alU:=@List.mapM_cons
abbrev acw:=@List.map_append
abbrev adg:=@List.map_congr_left
abbrev aa4:=@List.map_cons
abbrev al4:=@List.map_drop
abbrev agk:=@List.map_id
abbrev aeU:=@List.map_map
abbrev adU:=@List.map_nil
abbrev ahH:=@List.map_take
abbrev aa1:=@List.mem_append
abbrev abm:=@List.mem_append_left
abbrev abr:=@List.mem_append_right
abbrev aaK:=@List.mem_cons
abbrev aaw:=@List.mem_cons_of_mem
abbrev aaQ:=@List.mem_cons_self
abbrev ac0:=@List.mem_filter
abbrev adT:=@List.mem_iff_getElem
abbrev aku:=@List.mem_iff_getElem?
abbrev aaG:=@List.mem_map
abbrev abY:=@List.mem_of_getElem?
abbrev agF:=@List.mem_of_mem_drop
abbrev aeC:=@List.mem_of_mem_take
abbrev aci:=@List.mem_or_eq_of_mem_set
abbrev aev:=@List.mem_range
abbrev aaH:=@List.mem_singleton
abbrev acG:=@List.nil_append
abbrev alT:=@List.nodup_cons
abbrev afu:=@List.not_mem_nil
abbrev acl:=@List.pairwise_cons
abbrev alO:=@List.pairwise_singleton
abbrev akL:=@List.range_succ
abbrev aeP:=@List.replicate_succ
abbrev afK:=@List.replicate_succ'
abbrev al5:=@List.take_add
abbrev alc:=@List.take_add_one
abbrev ads:=@List.take_append
abbrev adE:=@List.take_append_drop
abbrev agl:=@List.take_append_of_le_length
abbrev ab4:=@List.take_of_length_le
abbrev agd:=@List.take_succ_cons
abbrev aey:=@List.take_take
abbrev aek:=@List.take_zero
abbrev agO:=@Nat.add_assoc
abbrev adJ:=@Nat.add_mul
abbrev acU:=@Nat.add_zero
abbrev abu:=@Nat.ble_eq_true_of_le
abbrev afF:=@Nat.div_div_eq_div_mul
abbrev amb:=@Nat.eq_of_beq_eq_true
abbrev alL:=@Nat.le_mul_of_pos_right
abbrev aaA:=@Nat.le_of_ble_eq_true
abbrev aaT:=@Nat.le_refl
abbrev akB:=@Nat.le_trans
abbrev akR:=@Nat.lt_of_lt_of_le
abbrev akS:=@Nat.lt_or_eq_of_le
abbrev abL:=@Nat.lt_or_ge
abbrev ala:=@Nat.lt_trichotomy
abbrev ac4:=@Nat.min_eq_left
abbrev akH:=@Nat.mod_lt
abbrev ab2:=@Nat.mul_le_mul_right
abbrev afD:=@Nat.mul_one
abbrev afB:=@Nat.ne_of_beq_eq_false
abbrev akp:=@Nat.one_mul
abbrev ak7:=@Nat.pow_succ'
abbrev alG:=@Nat.zero_add
abbrev afX:=@Nat.zero_le
abbrev acu:=@Option.bind_eq_some_iff
abbrev f7:=@Option.bind_some
abbrev afy:=@Option.getD_some
abbrev afd:=@Option.isSome_iff_exists
abbrev acr:=@Option.map_eq_some_iff
abbrev alR:=@Option.map_some
abbrev aig:=@Option.some.inj
abbrev no:=@Option.some.injEq
abbrev aaE:=@Prod.mk.injEq
abbrev alw:=@and_true
abbrev aeQ:=@beq_eq_false_iff_ne
abbrev air:=@beq_iff_eq
abbrev acM:=@beq_self_eq_true
abbrev aed:=@bne_eq_false_iff_eq
abbrev adj:=@bne_self_eq_false
abbrev aax:=@cond_false
abbrev f9:=@cond_true
abbrev aba:=@congrArg
abbrev agh:=@decide_eq_false_iff_not
abbrev afz:=@decide_eq_true
abbrev aeM:=@decide_eq_true_eq
abbrev afj:=@decide_false
abbrev af1:=@decide_true
abbrev aca:=@if_false
abbrev ace:=@if_true
abbrev ajS:=@not_false_eq_true
abbrev abh:=@of_decide_eq_true
abbrev akQ:=@or_false
structure Hd where
 a:Option Addr
 n:Nat
 cap:Nat
abbrev Hd.val(h:Hd):Value:=.slice h.a h.n h.cap
def Hd.blk(h:Hd):Nat:=match h.a with
 |some ⟨b,_,_⟩=>b
 |none=>0
inductive Nd
 |mk (kind:Int) (text:List UInt8) (n:Int) (kids:List Nd)
def Nd.tup:Nd->Int×List UInt8×Int×List Nd
 |.mk k t n l=>(k,t,n,l)
def Nd.of(v:Int×List UInt8×Int×List Nd):Nd:=.mk v.1 v.2.1 v.2.2.1 v.2.2.2
def Nd.fill(x:Nd)(h:Hd):List Value:=[.int .i64 x.tup.1,.string ⟨x.tup.2.1.toArray⟩,.int .i64 x.tup.2.2.1,h.val]
def wz:List Nd->List Hd->List Value
 |x::xs,y::ys=>x.fill y++wz xs ys
 |_,_=>[]
inductive Ty:Type 1
 |one (α:Type) (f:α->Value) (h:∀x,(f x).oneCell'=true)
 |arr (n:Nat) (α:Type) (d:α) (f:α->Value) (h:∀x,(f x).oneCell'=true)
 |unit
 |pair (a b:Ty)
 |slice (t:Ty)
 |node
 |mp (k v:Ty)
abbrev Ty.den:Ty->Type
 |.one α _ _=>α
 |.arr _ α _ _ _=>List α
 |.unit=>Unit
 |.pair a b=>a.den×b.den
 |.slice t=>List t.den
 |.node=>Nd
 |.mp k v=>List (k.den×v.den)
abbrev Ty.sz:Ty->Nat
 |.one _ _ _=>1
 |.arr n _ _ _ _=>n
 |.unit=>0
 |.pair a b=>a.sz+b.sz
 |.slice _=>1
 |.node=>4
 |.mp _ _=>1
abbrev Ty.Refs:Ty->Type
 |.one _ _ _=>Unit
 |.arr _ _ _ _ _=>Unit
 |.unit=>Unit
 |.pair a b=>a.Refs×b.Refs
 |.slice _=>Hd
 |.node=>Hd
 |.mp _ _=>Hd
def Ty.fill:(t:Ty)->t.den->t.Refs->List Value
 |.one _ f _,x,_=>[f x]
 |.arr n _ d f _,x,_=>(List.range n).map λi=>f (x.getD i d)
 |.unit,_,_=>[]
 |.pair a b,x,y=>a.fill x.1 y.1++b.fill x.2 y.2
 |.slice _,_,h=>[h.val]
 |.node,x,h=>x.fill h
 |.mp _ _,_,h=>[.map (some (Hd.blk h))]
theorem Ty.fill_length:(t:Ty)->(x:t.den)->(y:t.Refs)->(t.fill x y).length=t.sz
 |.one _ _ _,_,_=>rfl
 |.arr _ _ _ _ _,_,_=>by simp[Ty.fill,Ty.sz]
 |.unit,_,_=>rfl
 |.pair a b,x,y=>by simp[Ty.fill,Ty.sz,a.fill_length,b.fill_length]
 |.slice _,_,_=>rfl
 |.node,_,_=>rfl
 |.mp _ _,_,_=>rfl
def cy{α β:Type}(R:α->β->Prop):List α->List β->Prop
 |[],[]=>True
 |x::xs,y::ys=>R x y/\cy R xs ys
 |_,_=>False
def cellsOf(t:Ty):List t.den->List t.Refs->List Value
 |x::xs,y::ys=>t.fill x y++cellsOf t xs ys
 |_,_=>[]
def Sl(w:World)(S:Nat->Prop)(sz:Nat)(h:Hd)(n:Nat)(cells:List Value):Prop:=
 h.n=n/\n<=h.cap/\h.cap<=maxLen/\((True/\h.cap=0)\/∃b off arr ty fz,h.a=some ⟨b,off,none⟩/\S b /\
  w.heap[b]?=some (.cells arr ty fz)/\off+h.cap*sz<=arr.size/\(arr.toList.drop off).take (n*sz)=cells)
mutual
def rF(w:World)(S:Nat->Prop):Nd->Hd->Prop
 |.mk _ _ _ kids,h=>∃ys:List Hd,lU w S kids ys/\Sl w S 4 h kids.length (wz kids ys)
def lU(w:World)(S:Nat->Prop):List Nd->List Hd->Prop
 |[],[]=>True
 |x::xs,y::ys=>rF w S x y/\lU w S xs ys
 |_,_=>False
end
def bU(w:World)(S:Nat->Prop):(t:Ty)->t.den->t.Refs->Prop
 |.one _ _ _,_,_=>True
 |.arr _ _ _ _ _,_,_=>True
 |.unit,_,_=>True
 |.pair a b,x,y=>bU w S a x.1 y.1/\bU w S b x.2 y.2
 |.slice t,xs,v=>∃ys:List t.Refs,cy (bU w S t) xs ys/\Sl w S t.sz v xs.length (cellsOf t xs ys)
 |.node,x,h=>rF w S x h
 |.mp _ _,_,_=>True
def Ty.pureB:Ty->Bool
 |.one _ _ _=>true
 |.arr _ _ _ _ _=>true
 |.unit=>true
 |.pair a b=>a.pureB&&b.pureB
 |.slice _=>false
 |.node=>false
 |.mp _ _=>false
theorem bU.pure{w:World}{S:Nat->Prop}:(t:Ty)->(x:t.den)->(y:t.Refs)->t.pureB=true->bU w S t x y
 |.one _ _ _,_,_,_=>trivial
 |.arr _ _ _ _ _,_,_,_=>trivial
 |.unit,_,_,_=>trivial
 |.pair a b,x,y,h=>by simp only[Ty.pureB,aas]at h;exact⟨bU.pure a x.1 y.1 h.1,bU.pure b x.2 y.2 h.2⟩
 |.slice _,_,_,h=>by cases h
 |.node,_,_,h=>by cases h
 |.mp _ _,_,_,h=>by cases h
theorem cy.mono{α β:Type}{R R':α->β->Prop}(h:∀x y,R x y->R' x y):∀{xs:List α} {ys:List β},cy R xs ys->cy R' xs ys
 |[],[],_=>trivial
 |_::_,_::_,⟨h1,h2⟩=>⟨h _ _ h1,cy.mono h h2⟩
 |[],_::_,hh=>hh
 |_::_,[],hh=>hh
theorem cy.length{α β:Type}{R:α->β->Prop}:∀{xs:List α} {ys:List β},cy R xs ys->xs.length=ys.length
 |[],[],_=>rfl
 |_::_,_::_,⟨_,h2⟩=>by simp[cy.length h2]
 |[],_::_,hh=>hh.elim
 |_::_,[],hh=>hh.elim
theorem cy.append{α β:Type}{R:α->β->Prop}:∀{xs:List α} {ys:List β} {xs':List α} {ys':List β},cy R xs ys->cy R xs' ys'->cy R (xs++xs') (ys++ys')
 |[],[],_,_,_,h=>h
 |_::_,_::_,_,_,⟨h1,h2⟩,h=>⟨h1,cy.append h2 h⟩
 |[],_::_,_,_,hh,_=>hh.elim
 |_::_,[],_,_,hh,_=>hh.elim
theorem cy.get{α β:Type}{R:α->β->Prop}:∀{xs:List α} {ys:List β} {i:Nat} {x:α},cy R xs ys->xs[i]?=some x->∃y,ys[i]?=some y/\R x y
 |x'::_,y'::_,0,x,⟨h1,_⟩,h=>⟨y',rfl,by grind⟩
 |_::_,_::_,i+1,x,⟨_,h2⟩,h=>by simp at h;obtain⟨y,hy,hr⟩:=cy.get h2 h;grind
 |[],[],_,_,_,h=>by simp at h
 |[],_::_,_,_,hh,_=>hh.elim
 |_::_,[],_,_,hh,_=>hh.elim
theorem cy.take{α β:Type}{R:α->β->Prop}:∀{xs:List α} {ys:List β} (k:Nat),cy R xs ys->cy R (xs.take k) (ys.take k)
 |[],[],_,_=>by simp[cy]
 |_::_,_::_,0,_=>by simp[cy]
 |_::_,_::_,k+1,⟨h1,h2⟩=>⟨h1,cy.take k h2⟩
 |[],_::_,_,hh=>hh.elim
 |_::_,[],_,hh=>hh.elim
theorem cy.drop{α β:Type}{R:α->β->Prop}:∀{xs:List α} {ys:List β} (k:Nat),cy R xs ys->cy R (xs.drop k) (ys.drop k)
 |[],[],_,_=>by simp[cy]
 |_::_,_::_,0,h=>h
 |_::_,_::_,k+1,⟨_,h2⟩=>cy.drop k h2
 |[],_::_,_,hh=>hh.elim
 |_::_,[],_,hh=>hh.elim
theorem cy.set{α β:Type}{R:α->β->Prop}:∀{xs:List α} {ys:List β} (k:Nat) {x:α} {y:β},cy R xs ys->R x y->cy R (xs.set k x) (ys.set k y)
 |[],[],_,_,_,_,_=>by simp[cy]
 |_::_,_::_,0,_,_,⟨_,h2⟩,h=>⟨h,h2⟩
 |_::_,_::_,k+1,_,_,⟨h1,h2⟩,h=>⟨h1,cy.set k h2 h⟩
 |[],_::_,_,_,_,hh,_=>hh.elim
 |_::_,[],_,_,_,hh,_=>hh.elim
theorem cZ(t:Ty):∀{xs:List t.den} {ys:List t.Refs},xs.length=ys.length->(cellsOf t xs ys).length=xs.length*t.sz
 |[],[],_=>by simp[cellsOf]
 |x::xs,y::ys,h=>by have:=cZ t (xs:=xs) (ys:=ys) (by simpa using h);simp[cellsOf,t.fill_length,this,adJ];omega
 |[],_::_,h=>by simp at h
 |_::_,[],h=>by simp at h
theorem eV(t:Ty):∀{xs:List t.den} {ys:List t.Refs} {xs':List t.den} {ys':List t.Refs},xs.length=ys.length ->
  cellsOf t (xs++xs') (ys++ys')=cellsOf t xs ys++cellsOf t xs' ys'
 |[],[],_,_,_=>by simp[cellsOf]
 |x::xs,y::ys,xs',ys',h=>by have:=eV t (xs:=xs) (ys:=ys) (xs':=xs') (ys':=ys') (by simpa using h);simp[cellsOf,this]
 |[],_::_,_,_,h=>by simp at h
 |_::_,[],_,_,h=>by simp at h
theorem tp(t:Ty):∀{xs:List t.den} {ys:List t.Refs} {i:Nat} {x:t.den} {y:t.Refs},xs[i]?=some x->ys[i]?=some y ->
  ((cellsOf t xs ys).drop (i*t.sz)).take t.sz=t.fill x y
 |x'::xs,y'::ys,0,x,y,hx,hy=>by simp at hx hy;subst hx;subst hy;simp[cellsOf,t.fill_length]
 |x'::xs,y'::ys,i+1,x,y,hx,hy=>by simp at hx hy;have:=tp t hx hy;simp only[cellsOf];rw[show(i+1)*t.sz=(t.fill x' y').length+i*t.sz by rw[t.fill_length,adJ];omega,acB,acj (by omega)];grind
 |[],_,_,_,_,hx,_=>by simp at hx
 |_::_,[],_,_,_,_,hy=>by simp at hy
theorem jG(t:Ty):∀{xs:List t.den} {ys:List t.Refs} (k:Nat),xs.length=ys.length ->
  cellsOf t (xs.take k) (ys.take k)=(cellsOf t xs ys).take (k*t.sz)
 |[],[],_,_=>by simp[cellsOf]
 |x::xs,y::ys,0,_=>by simp[cellsOf]
 |x::xs,y::ys,k+1,h=>by have:=jG t (xs:=xs) (ys:=ys) k (by simpa using h);simp only[agd,cellsOf,this];rw[show(k+1)*t.sz=(t.fill x y).length+k*t.sz by rw[t.fill_length,adJ];omega,ads,ab4 (l:=t.fill x y) (by omega)];simp
 |[],_::_,_,h=>by simp at h
 |_::_,[],_,h=>by simp at h
theorem rG(t:Ty):∀{xs:List t.den} {ys:List t.Refs} (k:Nat),xs.length=ys.length ->
  cellsOf t (xs.drop k) (ys.drop k)=(cellsOf t xs ys).drop (k*t.sz)
 |[],[],_,_=>by simp[cellsOf]
 |x::xs,y::ys,0,_=>by simp
 |x::xs,y::ys,k+1,h=>by have:=rG t (xs:=xs) (ys:=ys) k (by simpa using h);simp only[aeN,cellsOf,this];rw[show(k+1)*t.sz=(t.fill x y).length+k*t.sz by rw[t.fill_length,adJ];omega,acB,acj (as:=t.fill x y) (by omega)];simp
 |[],_::_,_,h=>by simp at h
 |_::_,[],_,h=>by simp at h
def qV(l:List Value):Prop:=∀v∈l,v.oneCell'=true
theorem wN:(t:Ty)->(x:t.den)->(y:t.Refs)->qV (t.fill x y)
 |.one _ _ h,x,_=>by simp[qV,Ty.fill,h]
 |.arr _ _ _ _ h,x,_=>by simp only[qV,Ty.fill,aaG];grind
 |.unit,_,_=>by simp[qV,Ty.fill]
 |.pair a b,x,y=>by
  simp only[qV,Ty.fill,aa1];rintro v (hv|hv)
  ·exact wN a x.1 y.1 v hv
  ·exact wN b x.2 y.2 v hv
 |.slice t,xs,v=>by simp only[qV,Ty.fill,aaH];rintro u rfl;rfl
 |.node,x,h=>by simp only[qV,Ty.fill,Nd.fill,aaK,afu,akQ];rintro u (rfl|rfl|rfl|rfl)<;>rfl
 |.mp _ _,_,h=>by simp only[qV,Ty.fill,aaH];rintro u rfl;rfl
theorem li(t:Ty):∀{xs:List t.den} {ys:List t.Refs},qV (cellsOf t xs ys)
 |[],[]=>by simp[qV,cellsOf]
 |x::xs,y::ys=>by
  simp only[qV,cellsOf,aa1];rintro v (hv|hv)
  ·exact wN t x y v hv
  ·exact li t v hv
 |[],_::_=>by simp[qV,cellsOf]
 |_::_,[]=>by simp[qV,cellsOf]
def jL(w w':World)(S S':Nat->Prop):Prop:=∀b,b<w.heap.size->S b->S' b/\w'.heap[b]?=w.heap[b]?
theorem Sl.keep(hk:jL w w' S S'){sz:Nat}{v:Hd}{cells:List Value}(h:Sl w S sz v n cells):Sl w' S' sz v n cells:=by
 obtain⟨hv,hn,hm,hc⟩:=h;refine⟨hv,hn,hm,?_⟩;rcases hc with hc|⟨b,off,arr,ty,fz,ha,hS,hb,hrest⟩
 ·exact .inl hc
 ·have hlt:b<w.heap.size:=(ack.1 hb).1;obtain⟨hS',hb'⟩:=hk b hlt hS;grind
theorem vZ:∀(xs:List Nd) (ys:List Hd),wz xs ys=cellsOf .node xs ys
 |[],[]=>rfl
 |x::xs,y::ys=>by simp only[wz,cellsOf,vZ xs ys];rfl
 |[],_::_=>rfl
 |_::_,[]=>rfl
theorem xM{w:World}{S:Nat->Prop}:∀{xs:List Nd} {ys:List Hd},lU w S xs ys↔cy (rF w S) xs ys
 |[],[]=>by rfl
 |x::xs,y::ys=>by rw[lU,cy,xM]
 |[],_::_=>by rfl
 |_::_,[]=>by rfl
theorem pC{x:Nd}{h:Hd}:rF w S x h↔bU w S (.slice .node) x.tup.2.2.2 h:=by
 cases x with
 |mk k t n l=>
  rw[rF];constructor
  ·rintro⟨ys,h1,h2⟩;exact⟨ys,xM.1 h1,by rw[<-vZ];exact h2⟩
  ·rintro⟨ys,h1,h2⟩;exact⟨ys,xM.2 h1,by rw[vZ];exact h2⟩
mutual
theorem rF.keep{w w':World}{S S':Nat->Prop}(hk:jL w w' S S'):(x:Nd)->(h:Hd)->rF w S x h->rF w' S' x h
 |.mk k t n l,h,hr=>by rw[rF]at hr|-;obtain⟨ys,h1,h2⟩:=hr;exact⟨ys,lU.keep hk l ys h1,h2.keep hk⟩
theorem lU.keep{w w':World}{S S':Nat->Prop}(hk:jL w w' S S'):(xs:List Nd)->(ys:List Hd)->lU w S xs ys->lU w' S' xs ys
 |[],[],h=>h
 |x::xs,y::ys,h=>by rw[lU]at h|-;exact⟨rF.keep hk x y h.1,lU.keep hk xs ys h.2⟩
 |[],_::_,h=>by rw[lU]at h;exact h.elim;all_goals simp
 |_::_,[],h=>by rw[lU]at h;exact h.elim;all_goals simp
end
theorem bU.keep{w w':World}{S S':Nat->Prop}(hk:jL w w' S S'):(t:Ty)->(x:t.den)->(y:t.Refs)->bU w S t x y->bU w' S' t x y
 |.one _ _ _,_,_,_=>trivial
 |.arr _ _ _ _ _,_,_,_=>trivial
 |.unit,_,_,_=>trivial
 |.pair a b,x,y,h=>⟨bU.keep hk a x.1 y.1 h.1,bU.keep hk b x.2 y.2 h.2⟩
 |.slice t,_,_,⟨ys,h1,h2⟩=>⟨ys,h1.mono (bU.keep hk t),h2.keep hk⟩
 |.node,x,h,hh=>rF.keep hk x h hh
 |.mp _ _,_,_,_=>trivial
abbrev dr:=Nat->Value
abbrev bu:=Nat->Nat
def zH(ρ:dr)(d:Nat)(v:Value):dr:=λt=>cond (Nat.beq t d) v (ρ t)
def aS(ρ:dr):Operand->Value
  |.tmp t=>ρ t
  |.const v=>v
  |.global g=>.pointer (some ⟨g,0,none⟩)
  |.func f=>.func (.func f) #[] #[]
structure Rel(n:Nat)(ρ:dr)(a:Act):Prop where
  defers:a.defers=[]
  size:a.tmps.size=n
  val:∀t,a.tmps.getD t undef=ρ t
theorem Rel.eval{ρ:dr}{a:Act}(h:Rel n ρ a):a.eval=aS ρ:=by funext x;cases x<;>simp[Act.eval,aS,h.val]
theorem Rel.put{ρ:dr}{a:Act}(h:Rel n ρ a){d:Nat}(hd:Nat.blt d n=true)(v:Value):Rel n (zH ρ d v) (a.put (some d) v):=by
  have hd':d<n:=aaA hd;refine⟨h.defers,by simp[Act.put,h.size],λt=>?_⟩;have hv:=h.val t;simp only[Act.put,zH,afG,Array.getElem?_setIfInBounds]at hv|-;by_cases ht:t=d
  ·subst ht;simp[h.size,hd']
  · have:Nat.beq t d=false:=by
      cases hb:Nat.beq t d
      ·rfl
      simp_all
    grind
noncomputable def qG(S:Nat->Prop):bu:=open Classical inλb=>if S b then 1 else 0
theorem akt(S:Nat->Prop)(b:Nat):qG S b=0\/qG S b=1:=by unfold qG;split<;>simp
def nI(w w':World):Prop:=w'.os=w.os/\w'.output=w.output
theorem nI.refl(w:World):nI w w:=⟨rfl,rfl⟩
theorem nI.trans{a b c:World}(h:nI a b)(k:nI b c):nI a c:=⟨k.1.trans h.1,k.2.trans h.2⟩
def vw(w:World)(e:TypeId)(sz:Nat)(v:Value)(n:Nat)(xs:List Value):Prop:=
  xs.length=n*sz/\((v=.slice none 0 0/\n=0) \/
   ∃ (g cap:Nat) (cur:Array Value) (ty:TypeId) (fz:Nat×Nat),v=.slice (some ⟨g,0,none⟩) n cap/\w.heap[g]?=some (.cells cur ty fz)/\((ty=e/\fz=(0,0))\/(1048576<=e/\cur.size<=fz.1)) /\
     n<=cap/\cap<=maxLen/\cur.size=cap*sz/\cur.toList.take (n*sz)=xs)
theorem BQ{base:Nat}{e:TypeId}{sz:Nat}{v:Value}(h:w.ownsRow base e sz v n xs):vw w e sz v n xs:=
  ⟨h.1,h.2.imp id λ⟨g,cap,cur,hv,_,hg,h1,h2,h3,h4⟩=>⟨g,cap,cur,e,(0,0),hv,hg,.inl ⟨rfl,rfl⟩,h1,h2,h3,h4⟩⟩
theorem vw.plain{e:TypeId}{sz:Nat}{v:Value}(h:vw w e sz v n xs)(he:Nat.blt e 1048576=true):w.ownsRow 0 e sz v n xs:=
  ⟨h.1,h.2.imp id λ⟨g,cap,cur,ty,fz,hv,hg,hm,h1,h2,h3,h4⟩=>by have he':e+1<=1048576:=aaA he;grind⟩
theorem vw.lt{e:TypeId}{sz:Nat}{v:Value}(h:vw w e sz v n xs):∀g,v.ownBlock=some g->g<w.heap.size:=by
  intro g hg;rcases h.2 with⟨rfl,_⟩|⟨g',cap,cur,ty,fz,rfl,hgg,_⟩
  ·simp[Value.ownBlock]at hg
  grind[Value.ownBlock]
theorem vw.same{e:TypeId}{sz:Nat}{v:Value}{cells:List Value}(h:vw w e sz v n cells)
    (hb:∀g,v.ownBlock=some g->g<w.heap.size->w'.heap[g]?=w.heap[g]?):vw w' e sz v n cells:=by
  refine⟨h.1,?_⟩;rcases h.2 with h2|⟨g,cap,cur,ty,fz,rfl,hg,hrest⟩
  ·exact .inl h2
  ·exact .inr ⟨g,cap,cur,ty,fz,rfl,(hb g rfl (ack.1 hg).1).trans hg,hrest⟩
inductive EI
  |leaf
  |pair (a b:EI)
  |row (e:TypeId) (s:EI)
  deriving DecidableEq
def EI.fst:EI->EI
  |.pair a _=>a
  |_=>.leaf
def EI.snd:EI->EI
  |.pair _ b=>b
  |_=>.leaf
def EI.dec:Nat->Nat->EI×Nat
  |0,n=>(.leaf,n)
  | f+1,n=>match n%65536 with
    |0=>(.leaf,n / 65536)
    |1=>(.pair (EI.dec f (n / 65536)).1 (EI.dec f (EI.dec f (n / 65536)).2).1,(EI.dec f (EI.dec f (n / 65536)).2).2)
    |e+2=>(.row e (EI.dec f (n / 65536)).1,(EI.dec f (n / 65536)).2)
def fQ(e:TypeId):Bool:=Nat.ble 1099511627776 e
def gw(e:TypeId):EI:=(EI.dec 16 (e / 1099511627776)).1
def F6(w:World)(S:Nat->Prop)(d:Nat->List Nat)(π:List Nat)(e:TypeId)(sz:Nat)(h:Hd)(n:Nat)(cells:List Value):Prop:=
  ∃(g cap:Nat) (cur:Array Value),h=⟨some ⟨g,0,none⟩,n,cap⟩/\w.heap[g]?=some (.cells cur e (0,0))/\n<=cap/\cap<=maxLen/\cur.size=cap*sz/\cur.toList.take (n*sz)=cells/\S g/\d g=π
def bI(w:World)(S:Nat->Prop)(d:Nat->List Nat):(t:Ty)->EI->List Nat->t.den->t.Refs->Prop
  |.one _ _ _,_,_,_,_=>True
  |.arr _ _ _ _ _,_,_,_,_=>True
  |.unit,_,_,_,_=>True
  |.pair a b,ε,π,x,y=>bI w S d a ε.fst (0::π) x.1 y.1/\bI w S d b ε.snd (1::π) x.2 y.2
  |.slice t,ε,π,xs,h=>(h=⟨none,0,0⟩/\xs=[])\/∃e s,ε=.row e s/\∃ys:List t.Refs,ys.length=xs.length/\F6 w S d π e t.sz h xs.length (cellsOf t xs ys) /\
      ∀(j:Nat) (x:t.den) (y:t.Refs),xs[j]?=some x->ys[j]?=some y->bI w S d t s (j::π) x y
  |.node,_,_,_,_=>False
  |.mp _ _,_,_,_,_=>False
theorem F6.keep{d:Nat->List Nat}{π:List Nat}{e:TypeId}{sz:Nat}{h:Hd}{cells:List Value}(hk:jL w w' S S')
    (hr:F6 w S d π e sz h n cells):F6 w' S' d π e sz h n cells:=by
  obtain⟨g,cap,cur,h1,h2,h3,h4,h5,h6,h7,h8⟩:=hr;obtain⟨k1,k2⟩:=hk g (ack.1 h2).1 h7;exact⟨g,cap,cur,h1,k2.trans h2,h3,h4,h5,h6,k1,h8⟩
theorem bI.keep{w w':World}{S S':Nat->Prop}{d:Nat->List Nat}(hk:jL w w' S S'):(t:Ty)->(ε:EI)->(π:List Nat)->(x:t.den)->(y:t.Refs) ->
    bI w S d t ε π x y->bI w' S' d t ε π x y
  |.one _ _ _,_,_,_,_,_=>trivial
  |.arr _ _ _ _ _,_,_,_,_,_=>trivial
  |.unit,_,_,_,_,_=>trivial
  |.pair a b,ε,π,x,y,h=>⟨bI.keep hk a _ _ _ _ h.1,bI.keep hk b _ _ _ _ h.2⟩
  | .slice t,ε,π,xs,h,hh=>by
    rcases hh with hh|⟨e,s,he,ys,h1,h2,h3⟩
    ·exact .inl hh
    ·exact .inr ⟨e,s,he,ys,h1,h2.keep hk,λj x y hx hy=>bI.keep hk t s (j::π) x y (h3 j x y hx hy)⟩
theorem kX{α β:Type}{R:α->β->Prop}:∀{xs:List α} {ys:List β},ys.length=xs.length->(∀(j:Nat) (x:α) (y:β),xs[j]?=some x->ys[j]?=some y->R x y)->cy R xs ys
  |[],[],_,_=>trivial
  |x::xs,y::ys,hl,h=>⟨h 0 x y rfl rfl,kX (by simpa using hl) λj a b ha hb=>h (j+1) a b (by simpa using ha) (by simpa using hb)⟩
  |[],_::_,hl,_=>by simp at hl
  |_::_,[],hl,_=>by simp at hl
theorem bI.rep{w:World}{S S':Nat->Prop}{d:Nat->List Nat}(hS:∀b,S b->S' b):(t:Ty)->(ε:EI)->(π:List Nat)->(x:t.den)->(y:t.Refs)->bI w S d t ε π x y->bU w S' t x y
  |.one _ _ _,_,_,_,_,_=>trivial
  |.arr _ _ _ _ _,_,_,_,_,_=>trivial
  |.unit,_,_,_,_,_=>trivial
  |.pair a b,ε,π,x,y,h=>⟨bI.rep hS a _ _ _ _ h.1,bI.rep hS b _ _ _ _ h.2⟩
  | .slice t,ε,π,xs,h,hh=>by
    rcases hh with⟨rfl,rfl⟩|⟨e,s,he,ys,h1,h2,h3⟩
    ·exact⟨[],trivial,rfl,by simp,by simp[maxLen],.inl ⟨trivial,rfl⟩⟩
    · refine⟨ys,kX h1 λj x y hx hy=>bI.rep hS t s (j::π) x y (h3 j x y hx hy),?_⟩
      obtain⟨g,cap,cur,rfl,g2,g3,g4,g5,g6,g7,g8⟩:=h2
      exact⟨rfl,g3,g4,.inr ⟨g,0,cur,e,(0,0),rfl,hS g g7,g2,by grind,by simpa using g6⟩⟩
def fw(t:Ty)(xs:List t.den)(ys:List t.Refs)(k:Nat)(cs:List Value):List Value:=cellsOf t (xs.take k) (ys.take k)++cs++cellsOf t (xs.drop (k+1)) (ys.drop (k+1))
def kU(w:World)(S:Nat->Prop)(t:Ty)(e:TypeId)(xs:List t.den)(v:Hd)(k:Nat)(cs:List Value):Prop:=
  ∃ (d:Nat->List Nat) (e0:TypeId) (s:EI) (ys:List t.Refs),gw e=.row e0 s/\ys.length=xs.length/\k<xs.length/\cs.length=t.sz/\F6 w S d [] e0 t.sz v xs.length (fw t xs ys k cs) /\
    ∀(j:Nat) (x:t.den) (y:t.Refs),j≠k->xs[j]?=some x->ys[j]?=some y->bI w S d t s [j] x y
theorem kU.keep{t:Ty}{e:TypeId}{xs:List t.den}{v:Hd}{k:Nat}(hk:jL w w' S S')
    (h:kU w S t e xs v k cs):kU w' S' t e xs v k cs:=by
  obtain⟨d,e0,s,ys,h1,h2,h3,h4,h5,h6⟩:=h;exact⟨d,e0,s,ys,h1,h2,h3,h4,h5.keep hk,λj x y hj hx hy=>bI.keep hk t s _ x y (h6 j x y hj hx hy)⟩
def cV(w:World)(S:Nat->Prop)(t:Ty)(ε:EI)(x:t.den)(y:t.Refs):Prop:=∃d:Nat->List Nat,bI w S d t ε [] x y
theorem cV.keep{t:Ty}{ε:EI}{x:t.den}{y:t.Refs}(hk:jL w w' S S')(h:cV w S t ε x y):cV w' S' t ε x y:=h.imp λ_ h=>bI.keep hk t ε [] x y h
def um(w:World)(S:Nat->Prop)(b:Nat)(es:List (Value×Value)):Prop:=
  ∃(arr:Array MapEntry) (clock:Nat),w.heap[b]?=some (.map arr clock)/\arr.toList.map (λe=>(e.key,e.val))=es/\(∀e∈arr.toList,e.born<clock)/\(arr.toList.map (·.born)).Nodup/\S b
theorem um.keep{b:Nat}{es:List (Value×Value)}(hk:jL w w' S S')(h:um w S b es):um w' S' b es:=by obtain⟨arr,clock,h1,h2,h3,h4,h5⟩:=h;obtain⟨k1,k2⟩:=hk b (ack.1 h1).1 h5;exact⟨arr,clock,k2.trans h1,h2,h3,h4,k1⟩
def xY(w:World)(S SK:Nat->Prop)(t:Ty)(e:TypeId)(xs:List t.den)(v:Hd)(m:Int):Prop:=
  (v=⟨none,0,0⟩/\xs=[])\/∃(d:Nat->List Nat) (e0:TypeId) (s:EI) (ys:List t.Refs),gw e=.row e0 s/\ys.length=xs.length/\F6 w S d [] e0 t.sz v xs.length (cellsOf t xs ys) /\
    (∀(j:Nat) (x:t.den) (y:t.Refs),(j:Int)<m->xs[j]?=some x->ys[j]?=some y->bI w S d t s [j] x y)/\(∀(j:Nat) (x:t.den) (y:t.Refs),m<=(j:Int)->xs[j]?=some x->ys[j]?=some y->bU w SK t x y)
theorem xY.keep{SK SK':Nat->Prop}{t:Ty}{e:TypeId}{xs:List t.den}{v:Hd}{m:Int}(hk:jL w w' S S')(hk2:jL w w' SK SK')(h:xY w S SK t e xs v m):xY w' S' SK' t e xs v m:=by
  rcases h with h|⟨d,e0,s,ys,h1,h2,h3,h4,h5⟩
  ·exact .inl h
  ·refine .inr ⟨d,e0,s,ys,h1,h2,h3.keep hk,λj x y hj hx hy=>bI.keep hk t s _ x y (h4 j x y hj hx hy),λj x y hj hx hy=>bU.keep hk2 t x y (h5 j x y hj hx hy)⟩
inductive HA:Type 1
  |pt (t:Ty) (e:TypeId) (i:Nat) (K:List Nat) (xs:List t.den) (v:Hd) (m:Int)
  |mp (i b:Nat) (es:List (Value×Value))
  |tr (t:Ty) (e:TypeId) (i:Nat) (K:List Nat) (xs:List t.den) (v:Hd)
  |hol (t:Ty) (e:TypeId) (i:Nat) (xs:List t.den) (v:Hd) (k:Nat) (cs:List Value)
  |rep (t:Ty) (K:List Nat) (xs:List t.den) (v:Hd)
  |own (t:Ty) (e:TypeId) (i:Nat) (K:List Nat) (xs:List t.den) (v:Hd)
  |box (i b:Nat) (cs:List Value)
  |elem (t:Ty) (K:List Nat) (x:t.den) (p:Addr)
  |old (w0:World) (c0:bu)
  |pure (p:Prop)
  |gl (g n:Nat) (cs:List Value)
def HA.holds(w:World)(c:bu):HA->Prop
  |.pt t e i K xs v m=>xY w (λb=>c b=i) (λb=>c b∈K) t e xs v m
  |.tr t e i _ xs v=>cV w (λb=>c b=i) (.slice t) (gw e) xs v
  |.hol t e i xs v k cs=>kU w (λb=>c b=i) t e xs v k cs
  |.mp i b es=>um w (λb=>c b=i) b es
  |.rep t K xs v=>bU w (λb=>c b∈K) (.slice t) xs v
  |.own t e i K xs v=>∃ys,cy (bU w (λb=>c b∈K) t) xs ys/\vw w e t.sz v.val xs.length (cellsOf t xs ys)/\∀g,v.val.ownBlock=some g->c g=i
  |.box i b cs=>(∃ty,w.heap[b]?=some (.cells cs.toArray ty (0,0)))/\c b=i
  |.elem t K x p=>∃y b off arr ty fz,p=⟨b,off,none⟩/\c b∈K/\w.heap[b]?=some (.cells arr ty fz)/\off+t.sz<=arr.size /\
      (arr.toList.drop off).take t.sz=t.fill x y/\bU w (λb=>c b∈K) t x y
  |.old w0 c0=>w0.heap.size<=w.heap.size/\(∀b,b<w0.heap.size->c0 b<=1->w.heap[b]?=w0.heap[b]?/\c b=c0 b)/\(∀b,b<w.heap.size->(b<w0.heap.size->2<=c0 b)->2<=c b)/\nI w0 w
  |.pure p=>p
  |.gl g n cs=>(∃ty fz,w.heap[g]?=some (.cells cs.toArray ty fz))/\c g<=1/\n<=maxLen
def HA.uses:HA->List Nat
  |.pt _ _ i K _ _ _=>i::K
  |.tr _ _ i K _ _=>i::K
  |.hol _ _ i _ _ _ _=>[i]
  |.mp i _ _=>[i]
  |.rep _ K _ _=>K
  |.own _ _ i K _ _=>i::K
  |.box i _ _=>[i]
  |.elem _ K _ _=>K
  |.old _ _=>[0,1]
  |.pure _=>[]
  |.gl _ _ _=>[0,1]
structure Stp(κ:List Nat)(w:World)(c:bu)(w':World)(c':bu):Prop where
  size:w.heap.size<=w'.heap.size
  col:∀b,b<w.heap.size->c b∉κ->c' b=c b
  same:∀b,b<w.heap.size->c b∉κ->w'.heap[b]?=w.heap[b]?
  two:∀b,b<w'.heap.size->(b<w.heap.size->c b∈κ/\2<=c b)->2<=c' b
  env:nI w w'
theorem Stp.mk0{c:bu}{c':bu}(size:w.heap.size<=w'.heap.size)(col:∀b,b<w.heap.size->c' b=c b)(same:∀b,b<w.heap.size->c b∉κ->w'.heap[b]?=w.heap[b]?)
    (two:∀b,w.heap.size<=b->b<w'.heap.size->2<=c' b) (env:nI w w'):Stp κ w c w' c' :=
  ⟨size,λb hb _=>col b hb,same,λb hb h=>if hlt:b<w.heap.size then(col b hlt).symm▸(h hlt).2 else two b (by omega) hb,env⟩
theorem Stp.refl(w:World)(c:bu):Stp [] w c w c:=.mk0 (aaT _) (λ_ _=>rfl) (λ_ _ _=>rfl) (λb h1 h2=>by omega) (nI.refl w)
theorem Stp.keeps{c:bu}{c':bu}(h:Stp κ w c w' c')(hK:∀k∈K,k∉κ) :
    jL w w' (λb=>c b∈K) (λb=>c' b∈K):=λb hb hc=>⟨by show c' b∈K;rw[h.col b hb (hK _ hc)];exact hc,h.same b hb (hK _ hc)⟩
theorem HA.stp{c:bu}{c':bu}(hs:Stp κ w c w' c'):(A:HA)->(∀k∈A.uses,k∉κ)->A.holds w c->A.holds w' c'
  | .tr t e i K xs v,hK,h=>by
    have hi:i∉κ:=hK i (by simp[HA.uses]);exact cV.keep (λb hb (hc:c b=i)=>⟨by show c' b=i;rw[hs.col b hb (by grind)];exact hc,hs.same b hb (by grind)⟩) h
  | .pt t e i K xs v m,hK,h=>by
    have hi:i∉κ:=hK i (by simp[HA.uses]);exact xY.keep (λb hb (hc:c b=i)=>⟨by show c' b=i;rw[hs.col b hb (by grind)];exact hc,hs.same b hb (by grind)⟩) (hs.keeps (λk hk=>hK k (by simp[HA.uses,hk]))) h
  | .hol t e i xs v k cs,hK,h=>by
    have hi:i∉κ:=hK i (by simp[HA.uses]);exact kU.keep (λb hb (hc:c b=i)=>⟨by show c' b=i;rw[hs.col b hb (by grind)];exact hc,hs.same b hb (by grind)⟩) h
  | .mp i b es,hK,h=>by
    have hi:i∉κ:=hK i (by simp[HA.uses]);exact um.keep (λb hb (hc:c b=i)=>⟨by show c' b=i;rw[hs.col b hb (by grind)];exact hc,hs.same b hb (by grind)⟩) h
  |.rep t K xs v,hK,h=>bU.keep (hs.keeps hK) (.slice t) xs v h
  | .own t e i K xs v,hK,⟨ys,h1,h2,h3⟩=>by
    have hi:i∉κ:=hK i (by simp[HA.uses]);have hlt:∀g,v.val.ownBlock=some g->g<w.heap.size:=λg hg=>h2.lt g hg;exact⟨ys,h1.mono (bU.keep (hs.keeps (λk hk=>hK k (by simp[HA.uses,hk]))) t),h2.same (λg hg hl=>hs.same g hl (by grind)),
      λg hg=>by rw[hs.col g (hlt g hg) (by grind)];exact h3 g hg⟩
  | .box i b cs,hK,⟨⟨ty,hb⟩,hc⟩=>by
    have hlt:b<w.heap.size:=(ack.1 hb).1;exact⟨⟨ty,(hs.same b hlt (by rw[hc];exact hK i (by simp[HA.uses]))).trans hb⟩,by rw[hs.col b hlt (by rw[hc];exact hK i (by simp[HA.uses]))];exact hc⟩
  | .elem t K x p,hK,⟨y,b,off,arr,ty,fz,hp,hc,hb,h1,h2,h3⟩=>by
    have hlt:b<w.heap.size:=(ack.1 hb).1;exact⟨y,b,off,arr,ty,fz,hp,by rw[hs.col b hlt (hK _ hc)];exact hc,(hs.same b hlt (hK _ hc)).trans hb,h1,h2,bU.keep (hs.keeps hK) t x y h3⟩
  | .old w0 c0,hK,⟨h1,h2,h5,h6⟩=>by
    refine⟨akB h1 hs.size,λb hb h01=>?_,λb hb hb' => ?_,h6.trans hs.env⟩
    · obtain⟨h3,h4⟩:=h2 b hb h01
      have hlt:b<w.heap.size:=akR hb h1
      have hn:c b∉κ:=by grind[HA.uses]
      exact⟨(hs.same b hlt hn).trans h3,by rw[hs.col b hlt hn];exact h4⟩
    · by_cases hlt:b<w.heap.size
      · have h2':=h5 b hlt hb'
        by_cases hk:c b∈κ
        ·exact hs.two b hb λ_=>⟨hk,h2'⟩
        ·rw[hs.col b hlt hk];exact h2'
      ·exact hs.two b hb λh=>absurd h hlt
  |.pure _,_,h=>h
  | .gl g n cs,hK,⟨⟨ty,fz,hb⟩,hc,hn⟩=>by
    have hlt:g<w.heap.size:=(ack.1 hb).1;have hk:c g∉κ:=by grind[HA.uses]
    exact⟨⟨ty,fz,(hs.same g hlt hk).trans hb⟩,by rw[hs.col g hlt hk];exact hc,hn⟩
def aq(w:World)(c:bu)(L:List HA):Prop:=∀A∈L,A.holds w c
theorem aq.nil(w:World)(c:bu):aq w c []:=λ_ h=>by simp at h
theorem aq.cons{c:bu}{A:HA}{L:List HA}(h:A.holds w c)(hL:aq w c L):aq w c (A::L):=λB hB=>by
  rcases aaK.1 hB with rfl|hB
  ·exact h
  ·exact hL B hB
theorem aq.append{c:bu}{L L':List HA}(h:aq w c L)(h':aq w c L'):aq w c (L++L'):=λA hA=>by
  rcases aa1.1 hA with hA|hA
  ·exact h A hA
  ·exact h' A hA
theorem aq.at{c:bu}{L:List HA}(h:aq w c L){k:Nat}{A:HA}(hk:L[k]?=some A):A.holds w c:=h A (abY hk)
theorem aq.sub{c:bu}{L:List HA}(h:aq w c L)(is:List Nat){L':List HA}(he:is.filterMap (L[·]?)=L'):aq w c L':=by subst he;intro A hA;obtain⟨i,_,hi⟩:=List.mem_filterMap.1 hA;exact h.at hi
def rx(κ:List Nat)(A:HA):Bool:=A.uses.all λk=>κ.all λj=>!(Nat.beq k j)
def keep(κ:List Nat)(L:List HA):List HA:=L.filter (rx κ)
theorem aq.stp{c:bu}{c':bu}(hs:Stp κ w c w' c'){L:List HA}(h:aq w c L):aq w' c' (keep κ L):=by intro A hA;simp only[keep,ac0]at hA;refine HA.stp hs A (λk hk hκ=>?_) (h A hA.1);have:=aaB.1 (aaB.1 hA.2 k hk) k hκ;simp at this
theorem aq.stp0{c:bu}{c':bu}(hs:Stp [] w c w' c'){L:List HA}(h:aq w c L):aq w' c' L:=
  λA hA=>HA.stp hs A (by simp) (h A hA)
def di(P:Program)(ρ:dr)(o:Oper)(L:List HA)(κ:List Nat){Y:Type}(val:Y->Value)(Φ:Y->List HA):Prop:=
  ∀ (a:Act) (ev:Operand->Value) (w:World) (c:bu) (next:Act->World->Prop) (Q:Exit->Act->World->Prop),ev=aS ρ->aq w c L ->
    (∀y w' c',Stp κ w c w' c'->aq w' c' (Φ y)->next (a.put o.dst (val y)) w') ->
    o.upon P a next Q ((execOp ev o).run P w)
def bh(P:Program)(ρ:dr)(o:Oper)(L:List HA)(v:Value):Prop:=
  ∀(ev:Operand->Value) (w:World) (c:bu),ev=aS ρ->aq w c L->(execOp ev o).run P w=.ok (.value v) w
theorem bh.op{P:Program}{ρ:dr}{o:Oper}{L:List HA}{v:Value}(h:bh P ρ o L v):di P ρ o L [] (λ_:Unit=>v) (λ_=>[]):=by
  intro a ev w c next Q ha hL hk
  rw[h ev w c ha hL];exact hk () w c (Stp.refl w c) (aq.nil _ _)
def Sim(P:Program)(n:Nat)(cd:Code)(Q:Exit->Act->World->Prop)(ρ:dr)(L:List HA):Prop:=
  ∀a w c,Rel n ρ a->aq w c L->cd.wp P Q a w
section
variable {P:Program} {n:Nat} {Q:Exit->Act->World->Prop} {ρ:dr} {L:List HA} {ops:Array Oper} {rest:List Oper} {o:Oper}
end
def HA.ren(g:Nat->Nat):HA->HA
 |.tr t e i K xs v=>.tr t e (g i) (K.map g) xs v
 |.pt t e i K xs v m=>.pt t e (g i) (K.map g) xs v m
 |.hol t e i xs v k cs=>.hol t e (g i) xs v k cs
 |.mp i b es=>.mp (g i) b es
 |.rep t K xs v=>.rep t (K.map g) xs v
 |.own t e i K xs v=>.own t e (g i) (K.map g) xs v
 |.box i b cs=>.box (g i) b cs
 |.elem t K x p=>.elem t (K.map g) x p
 |.old w0 S=>.old w0 S
 |.pure p=>.pure p
 |.gl g n cs=>.gl g n cs
structure Gd(g:Nat->Nat):Prop where
 z:g 0=0
 o:g 1=1
 two:∀k,2<=k->2<=g k
theorem HA.ren_holds(hg:Gd g){c:bu}:(A:HA)->A.holds w c->(A.ren g).holds w (λb=>g (c b))
 |.tr t e i K xs v,h=>cV.keep (λb _ (hc:c b=i)=>⟨by grind,rfl⟩) h
 |.hol t e i xs v k cs,h=>kU.keep (λb _ (hc:c b=i)=>⟨by grind,rfl⟩) h
 |.pt t e i K xs v m,h=>xY.keep (S:=λb=>c b=i) (SK:=λb=>c b∈K) (λb _ (hc:c b=i)=>⟨by grind,rfl⟩) (λb _ hb=>⟨aaG.2 ⟨_,hb,rfl⟩,rfl⟩) h
 |.mp i b es,h=>um.keep (S':=λb=>g (c b)=g i) (λb _ (hc:c b=i)=>⟨by grind,rfl⟩) h
 |.rep t K xs v,h=>bU.keep (S:=λb=>c b∈K) (λb _ hb=>⟨aaG.2 ⟨_,hb,rfl⟩,rfl⟩) (.slice t) xs v h
 |.own t e i K xs v,⟨ys,h1,h2,h3⟩=>⟨ys,h1.mono (bU.keep (S:=λb=>c b∈K) (λb _ hb=>⟨aaG.2 ⟨_,hb,rfl⟩,rfl⟩) t),h2,λb hb=>by grind⟩
 |.box i b cs,⟨h1,h2⟩=>⟨h1,by grind⟩
 |.elem t K x p,⟨y,b,off,arr,ty,fz,hp,hc,h1,h2,h3,h4⟩=>
  ⟨y,b,off,arr,ty,fz,hp,aaG.2 ⟨_,hc,rfl⟩,h1,h2,h3,bU.keep (S:=λb=>c b∈K) (λb _ hb=>⟨aaG.2 ⟨_,hb,rfl⟩,rfl⟩) t x y h4⟩
 | .old w0 c0,⟨h1,h2,h3,h4⟩=>⟨h1,λb hb h01=>⟨(h2 b hb h01).1,by
   show g (c b)=_;rw[(h2 b hb h01).2];rcases(show c0 b=0\/c0 b=1 by omega)with e|e<;>rw[e]
   ·exact hg.z
   ·exact hg.o⟩,λb hb hb'=>hg.two _ (h3 b hb hb'),h4⟩
 |.pure _,h=>h
 | .gl b n cs,⟨h1,h2,h3⟩=>⟨h1,by
   show g (c b)<=1;rcases(show c b=0\/c b=1 by omega)with e|e<;>rw[e]
   ·rw[hg.z];omega
   ·rw[hg.o];omega,h3⟩
theorem aq.ren(hg:Gd g){c:bu}{L:List HA}(h:aq w c L):aq w (λb=>g (c b)) (L.map (HA.ren g)):=by intro A hA;obtain⟨B,hB,rfl⟩:=aaG.1 hA;exact B.ren_holds hg (h B hB)
def rj(l:List (Nat×Nat))(d:Nat)(k:Nat):Nat:=
 match k with
 |0=>0
 |1=>1
 |_=>match l with
  |[]=>d
  |(a,b)::r=>cond (Nat.beq k a) b (rj r d k)
theorem OE{l:List (Nat×Nat)}{d:Nat}(h:(d::l.map (·.2)).all (λx=>Nat.ble 2 x)=true):Gd (rj l d):=by
 have hd:2<=d:=aaA (aaB.1 h d (by simp));have hl:∀p∈l,2<=p.2:=λp hp=>aaA (aaB.1 h p.2 (by grind));refine⟨by simp[rj],by simp[rj],?_⟩;intro k hk;clear h;induction l with
 |nil=>
  match k,hk with
  |k+2,_=>exact hd
 | cons p r ih=>
  obtain⟨a,b⟩:=p;match k,hk with
  |k+2,hk=>
   simp only[rj];cases hb:Nat.beq (k+2) a
   ·grind
   simp_all
theorem asn(h:K.all (λk=>Ka.any λj=>Nat.beq k j)=true){k:Nat}(hk:k∈K):k∈Ka:=by simp_all
theorem BF{c:bu}{t:Ty}{e:TypeId}{xs:List t.den}{v:Hd}(h:HA.holds w c (.own t e i K xs v)):HA.holds w c (.rep t (i::K) xs v):=by
 obtain⟨ys,h1,h2,h3⟩:=h;obtain⟨a,n,cap⟩:=v;refine⟨ys,h1.mono (bU.keep (λb _ hb=>⟨aaw _ hb,rfl⟩) t),?_⟩;rcases h2.2 with⟨hv,hn⟩|⟨g,cap',cur,ty,fz,hv,hg,_,hle,hm,hsz,hcells⟩
 ·simp only[Hd.val,Value.slice.injEq]at hv;obtain⟨rfl,rfl,rfl⟩:=hv;exact⟨by simp[hn],by simp[hn],by simp[maxLen],.inl ⟨trivial,rfl⟩⟩
 ·simp only[Hd.val,Value.slice.injEq]at hv;obtain⟨rfl,rfl,rfl⟩:=hv;exact⟨rfl,hle,hm,.inr ⟨g,0,cur,ty,fz,rfl,by show c g∈i::K;rw[h3 g rfl];simp,hg,by simp[hsz],by grind⟩⟩
def GT(A A':HA):Prop:=∀w c,A.holds w c->A'.holds w c
theorem A2{t:Ty}{e:TypeId}{xs:List t.den}{v:Hd}(h:t.pureB=true):GT (.own t e i K xs v) (.own t e i K' xs v):=
 λ_ _ ⟨ys,h1,h2,h3⟩=>⟨ys,h1.mono (λx y _=>bU.pure t x y h),h2,h3⟩
theorem wI{A:HA}:GT A A:=λ_ _ h=>h
def FL(A:HA):Prop:=∀w c,A.holds w c
theorem sO{t:Ty} :FL (.rep t K [] ⟨none,0,0⟩):=λ_ _=>⟨[],trivial,rfl,by simp,by simp[maxLen],.inl ⟨trivial,rfl⟩⟩
theorem DR{t:Ty}{e:TypeId} :FL (.own t e i K [] ⟨none,0,0⟩):=λ_ _=>⟨[],trivial,⟨by simp[cellsOf],.inl ⟨rfl,rfl⟩⟩,λg hg=>by simp[Value.ownBlock]at hg⟩
def pI(L:List HA):List HA->Prop
 |[]=>True
 |A'::r=>((∃(k:Nat) (A:HA),L[k]?=some A/\GT A A')\/FL A')/\pI L r
theorem pI.heap{c:bu}{L:List HA}(hL:aq w c L):∀{l:List HA},pI L l->aq w c l
 |[],_=>aq.nil _ _
 |_::_,⟨.inl ⟨_,_,hk,hc⟩,hr⟩=>aq.cons (hc w c (hL.at hk)) (hr.heap hL)
 |_::_,⟨.inr hf,hr⟩=>aq.cons (hf w c) (hr.heap hL)
def qR{S R:Type}(f:S->Option (S⊕R)):Nat->S->Option R
 |0,_=>none
 |k+1,s=>(f s).bind λ| .inl s'=>qR f k s'|.inr r=>some r
section
variable {P:Program} {n:Nat} {Q:Exit->Act->World->Prop} {ρ:dr} {L:List HA}
theorem bind_some{β:Type}{m:Option α}{k:α->Option β}{r:β}(h:m.bind k=some r):∃s,m=some s/\k s=some r:=acu.1 h
theorem QQ{f:FuncId}{fn:Func}{cd:Code}{R:Ending->World->Prop}(hf:P.funcs[f]?=some fn)(hb:fn.body=some cd)(hn:fn.ntmps=n)(args:List Value){w0:World}{c0:bu}
  (hargs:Nat.ble args.length n=true) (hL:aq w0 c0 L) (h:Sim P n cd (bodyPost P fn R) (λt=>args.getD t undef) (.old w0 c0::L)):Calls P f args.toArray w0 R:=by
 refine calls_of_wp hf hb (h _ w0 c0 ⟨rfl,?_,λt=>?_⟩ (aq.cons ⟨aaT _,λb _ _=>⟨rfl,rfl⟩,λb h1 h2=>h2 h1,nI.refl _⟩ hL))
 ·simp_all
 ·simp only[afG,abq,Array.getElem?_append,als,List.size_toArray,List.getElem?_toArray];grind
def aos(K:List Nat)(A A':HA):Prop:=∀w c,A.holds w c->A'.holds w (qG λb=>c b∈K)
def TE(L:List HA)(Ka:List Nat):List HA->Prop
 |[]=>True
 |A'::r=>((∃(k:Nat) (A:HA),L[k]?=some A/\aos Ka A A')\/FL A')/\TE L Ka r
theorem TE.heap{c:bu}(hL:aq w c L):∀{l:List HA},TE L Ka l->aq w (qG λb=>c b∈Ka) l
 |[],_=>aq.nil _ _
 |_::_,⟨.inl ⟨_,_,hk,hc⟩,hr⟩=>aq.cons (hc w c (hL.at hk)) (hr.heap hL)
 |_::_,⟨.inr hf,hr⟩=>aq.cons (hf w _) (hr.heap hL)
def instK(N:Nat)(Ka:List Nat):List Nat->List Nat
 |[]=>[]
 |0::r=>instK N Ka r
 |1::r=>Ka++instK N Ka r
 |(k+2)::r=>(N+k)::instK N Ka r
def HA.inst(N:Nat)(Ka:List Nat):HA->HA
 |.tr t e i K xs v=>.tr t e (N+(i-2)) (instK N Ka K) xs v
 |.pt t e i K xs v m=>.pt t e (N+(i-2)) (instK N Ka K) xs v m
 |.hol t e i xs v k cs=>.hol t e (N+(i-2)) xs v k cs
 |.mp i b es=>.mp (N+(i-2)) b es
 |.rep t K xs v=>.rep t (instK N Ka K) xs v
 |.own t e i K xs v=>.own t e (N+(i-2)) (instK N Ka K) xs v
 |.box i b cs=>.box (N+(i-2)) b cs
 |.elem t K x p=>.elem t (instK N Ka K) x p
 |.old w0 S=>.old w0 S
 |.pure p=>.pure p
 |.gl g n cs=>.gl g n cs
def HA.leaves:HA->Bool
 |.tr _ _ i K _ _=>Nat.ble 2 i&&K.all λk=>Nat.ble 1 k
 |.pt _ _ i K _ _ _=>Nat.ble 2 i&&K.all λk=>Nat.ble 1 k
 |.hol _ _ i _ _ _ _=>Nat.ble 2 i
 |.mp i _ _=>Nat.ble 2 i
 |.rep _ K _ _=>K.all λk=>Nat.ble 1 k
 |.own _ _ i K _ _=>Nat.ble 2 i&&K.all λk=>Nat.ble 1 k
 |.box i _ _=>Nat.ble 2 i
 |.elem _ K _ _=>K.all λk=>Nat.ble 1 k
 |.old _ _=>false
 |.pure _=>true
 |.gl _ _ _=>false
theorem instK_mem{N:Nat}{Ka:List Nat}:∀{K:List Nat} {k:Nat},k+2∈K->N+k∈instK N Ka K
 |0::r,k,h=>by
  rcases aaK.1 h with h|h
  ·omega
  ·exact instK_mem (K:=r) h
 |1::r,k,h=>by
  rcases aaK.1 h with h|h
  ·omega
  ·exact abr _ (instK_mem (K:=r) h)
 |(j+2)::r,k,h=>by
  rcases aaK.1 h with h|h
  ·simp only[instK];grind
  ·exact aaw _ (instK_mem (K:=r) h)
theorem instK_one{N:Nat}{Ka:List Nat}:∀{K:List Nat} {k:Nat},1∈K->k∈Ka->k∈instK N Ka K
 |0::r,k,h,hk=>by
  rcases aaK.1 h with h|h
  ·omega
  ·exact instK_one (K:=r) h hk
 |1::r,k,_,hk=>abm _ hk
 |(j+2)::r,k,h,hk=>by
  rcases aaK.1 h with h|h
  ·omega
  ·exact aaw _ (instK_one (K:=r) h hk)
def ee(t:Ty)(e:TypeId)(i:Nat)(K:List Nat)(xs:List t.den)(v:Hd):HA:=match fQ e with
 |true=>.tr t e i K xs v
 |false=>.own t e i K xs v
section
variable {t:Ty} {e:TypeId} {i:Nat} {K:List Nat} {xs:List t.den} {v:Hd}
theorem jB(h:fQ e=true):ee t e i K xs v=.tr t e i K xs v:=by unfold ee;rw[h]
theorem eH(h:fQ e=false):ee t e i K xs v=.own t e i K xs v:=by unfold ee;rw[h]
theorem ZD:(ee t e i K xs v).uses=i::K:=by unfold ee;cases fQ e<;>rfl
theorem adh :(ee t e i K xs v).ren g=ee t e (g i) (K.map g) xs v:=by unfold ee;cases fQ e<;>rfl
theorem A6{N:Nat} :(ee t e i K xs v).inst N Ka=ee t e (N+(i-2)) (instK N Ka K) xs v:=by unfold ee;cases fQ e<;>rfl
theorem xl:(ee t e i K xs v).leaves=(Nat.ble 2 i&&K.all λk=>Nat.ble 1 k):=by unfold ee;cases fQ e<;>rfl
theorem gn{e:Nat}(h:Nat.blt e 1048576=true):fQ e=false:=by
 have h1:e+1<=1048576:=aaA h;cases hb:fQ e
 ·rfl
 ·have:1099511627776<=e:=aaA hb;omega
theorem Pr{c:bu}(h:HA.holds w c (.tr t e i K xs v)):HA.holds w c (.rep t (i::K) xs v):=by obtain⟨d,h⟩:=h;exact bI.rep (S':=λb=>c b∈i::K) (λb (hb:c b=i)=>by grind) (.slice t) _ _ _ _ h
theorem NT{c:bu}(h:HA.holds w c (ee t e i K xs v)):HA.holds w c (.rep t (i::K) xs v):=by grind[ee,Pr,BF]
theorem ui:FL (ee t e i K [] ⟨none,0,0⟩):=by
 intro w c;unfold ee;split
 ·exact⟨λ_=>[],.inl ⟨rfl,rfl⟩⟩
 ·exact DR w c
theorem N4{c c':bu}{i':Nat}(hi:∀b,b<w.heap.size->c b=i->c' b=i')(hK:∀b,b<w.heap.size->c b∈K->c' b∈K')(h:HA.holds w c (ee t e i K xs v)):HA.holds w c' (ee t e i' K' xs v):=by
 unfold ee at h|-;split at h
 ·exact cV.keep (λb hb hc=>⟨hi b hb hc,rfl⟩) h
 ·obtain⟨ys,h1,h2,h3⟩:=h;exact⟨ys,h1.mono (bU.keep (λb hb hc=>⟨hK b hb hc,rfl⟩) t),h2,λg hg=>hi g (h2.lt g hg) (h3 g hg)⟩
end
end
def TI(P:Program)(t:TypeId)(sz by_:Nat)(z:Value):Prop:=(P.info? t).map (λi=>(i.zero,i.size,i.bytes))=some (some z,sz,by_)
theorem TI.get{P:Program}{sz:Nat}(h:TI P t sz by_ z):∃i,P.info? t=some i/\i.zero=some z/\i.size=sz/\i.bytes=by_:=by unfold TI at h;simp_all
def lR:TypeDesc->Bool
 |.struct _=>true
 |.array _ _=>true
 |_=>false
def YQ:TypeDesc->Bool
 |.interface _=>true
 |_=>false
section
variable {P:Program} {ρ:dr} {L:List HA} {o:Oper} {N:Nat}
theorem anv{x:Operand}{v:Value}(ho:o.op=.move x)(hx:aS ρ x=v):bh P ρ o L v:=λev w c he _=>by subst he;simp[execOp,ho,hx]
theorem aav{x:Operand}{v:Value}(ho:o.op=.assign x)(hx:aS ρ x=v):bh P ρ o L v:=λev w c he _=>by subst he;simp[execOp,ho,hx]
theorem aoC{c x:Operand}{b p q:Bool}(ho:o.op=.pick c x y)(hc:aS ρ c=.bool b)(hx:b=true->aS ρ x=.bool p)(hy:b=false->aS ρ y=.bool q) :
  bh P ρ o L (.bool (bif b then p else q)):=λev w c he _=>by
 subst he;cases b
 ·simp[execOp,ho,hc,asBool,hy rfl]
 ·simp[execOp,ho,hc,asBool,hx rfl]
theorem cW{op:BinOp}{x:Operand}{k k':IntKind} :(eqGuard op t x y (.int k a) (.int k' b)).run P w=.ok () w:=by cases op<;>simp[eqGuard]
theorem aro{x:Operand}{k:IntKind}(ho:o.op=.binOp .add t x y t')(hx:aS ρ x=.int k a)(hy:aS ρ y=.int k b) :
  bh P ρ o L (.int k (k.wrap (a+b))):=λev w c he _=>by
 subst he;simp[execOp,ho,hx,hy,cW,binOp,Op.intArith,Result.andThen]
theorem art{x:Operand}{k:IntKind}(ho:o.op=.binOp .sub t x y t')(hx:aS ρ x=.int k a)(hy:aS ρ y=.int k b) :
  bh P ρ o L (.int k (k.wrap (a-b))):=λev w c he _=>by
 subst he;simp[execOp,ho,hx,hy,cW,binOp,Op.intArith,Result.andThen]
theorem aqZ{x:Operand}{k:IntKind}(ho:o.op=.binOp .mul t x y t')(hx:aS ρ x=.int k a)(hy:aS ρ y=.int k b) :
  bh P ρ o L (.int k (k.wrap (a*b))):=λev w c he _=>by
 subst he;simp[execOp,ho,hx,hy,cW,binOp,Op.intArith,Result.andThen]
theorem arG{x:Operand}{k:IntKind}(ho:o.op=.binOp .quo t x y t')(hx:aS ρ x=.int k a)(hy:aS ρ y=.int k b)(hb:(b==0)=false) :
  bh P ρ o L (.int k (k.wrap (a.tdiv b))):=λev w c he _=>by
 have:¬b=0:=by simpa using hb
 subst he;simp[execOp,ho,hx,hy,cW,binOp,Op.intDiv,Result.andThen,this]
theorem aqY{x:Operand}{k:IntKind}(ho:o.op=.binOp .rem t x y t')(hx:aS ρ x=.int k a)(hy:aS ρ y=.int k b)(hb:(b==0)=false) :
  bh P ρ o L (.int k (a.tmod b)):=λev w c he _=>by
 have:¬b=0:=by simpa using hb
 subst he;simp[execOp,ho,hx,hy,cW,binOp,Op.intDiv,Result.andThen,this]
theorem arl{x:Operand}{k:IntKind}(ho:o.op=.binOp .lss t x y t')(hx:aS ρ x=.int k a)(hy:aS ρ y=.int k b) :
  bh P ρ o L (.bool (decide (a<b))):=λev w c he _=>by
 subst he;simp[execOp,ho,hx,hy,cW,binOp,Op.intCmp,Result.andThen]
theorem aqU{x:Operand}{k:IntKind}(ho:o.op=.binOp .leq t x y t')(hx:aS ρ x=.int k a)(hy:aS ρ y=.int k b) :
  bh P ρ o L (.bool (decide (a<=b))):=λev w c he _=>by
 subst he;simp[execOp,ho,hx,hy,cW,binOp,Op.intCmp,Result.andThen]
theorem aq5{x:Operand}{k:IntKind}(ho:o.op=.binOp .gtr t x y t')(hx:aS ρ x=.int k a)(hy:aS ρ y=.int k b) :
  bh P ρ o L (.bool (decide (b<a))):=λev w c he _=>by
 subst he;simp[execOp,ho,hx,hy,cW,binOp,Op.intCmp,Result.andThen]
theorem arz{x:Operand}{k:IntKind}(ho:o.op=.binOp .geq t x y t')(hx:aS ρ x=.int k a)(hy:aS ρ y=.int k b) :
  bh P ρ o L (.bool (decide (b<=a))):=λev w c he _=>by
 subst he;simp[execOp,ho,hx,hy,cW,binOp,Op.intCmp,Result.andThen]
theorem arH{x:Operand}{k:IntKind}(ho:o.op=.binOp .eql t x y t')(hx:aS ρ x=.int k a)(hy:aS ρ y=.int k b) :
  bh P ρ o L (.bool (a==b)):=λev w c he _=>by
 subst he;simp[execOp,ho,hx,hy,cW,binOp,Op.intCmp,Result.andThen]
theorem aqT{x:Operand}{k:IntKind}(ho:o.op=.binOp .neq t x y t')(hx:aS ρ x=.int k a)(hy:aS ρ y=.int k b) :
  bh P ρ o L (.bool (a != b)):=λev w c he _=>by
 subst he;simp[execOp,ho,hx,hy,cW,binOp,Op.intCmp,Result.andThen]
theorem aq4{x:Operand}{b:Bool}(ho:o.op=.unOp .not t x)(hx:aS ρ x=.bool b):bh P ρ o L (.bool (!b)):=λev w c he _=>by subst he;simp[execOp,ho,hx,Op.unary]
theorem arh{x:Operand}{k:IntKind}(ho:o.op=.unOp .neg t x)(hx:aS ρ x=.int k a):bh P ρ o L (.int k (k.wrap (0-a))):=λev w c he _=>by subst he;simp[execOp,ho,hx,Op.unary,Op.intArith]
theorem anU{s d:TypeId}{x:Operand}{k k':IntKind}{ds:TypeDesc}(ho:o.op=.convert s d x)(hs:P.underlying s=some ds)(hd:P.underlying d=some (.int k'))(hx:aS ρ x=.int k a) :
  bh P ρ o L (.int k' (k'.wrap a)):=λev w c he _=>by
 subst he;simp[execOp,ho,hx,convert,run_underlying hs,run_underlying hd,Conv.intToInt,Result.andThen]
theorem TN{e:TypeId}{x:Operand}{h:Hd}(ho:o.op=.call { callee:=.builtin .len,args:=#[x],argTypes:=#[t]})(ht:P.underlying t=some (.slice e))(hx:aS ρ x=h.val) :
  bh P ρ o L (.int .i64 h.n):=λev w c he _=>by
 subst he;simp[execOp,ho,hx,resolve,invoke,builtin,Builtin.len_,run_underlying ht,goInt,Result.andThen]
theorem am2{c:bu}{t:Ty}{xs:List t.den}{h:Hd}(hA:HA.holds w c (.rep t K xs h)):h.n=xs.length:=by obtain⟨ys,_,hs,_⟩:=hA;exact hs
theorem Zp{e:TypeId}{x:Operand}{h:Hd}{ty:Ty}{xs:List ty.den}(k:Nat)(hk:L[k]?=some (.rep ty K xs h))
  (ho:o.op=.call { callee:=.builtin .len,args:=#[x],argTypes:=#[t]}) (ht:P.underlying t=some (.slice e)) (hx:aS ρ x=h.val) :
  bh P ρ o L (.int .i64 xs.length):=λev w c he hL=>by
 rw[<-am2 (hL.at hk)];exact TN ho ht hx ev w c he hL
theorem arD{ts:Array TypeId}{x:Operand}{k:IntKind}(ho:o.op=.call { callee:=.builtin .max,args:=#[x,y],argTypes:=ts})(hx:aS ρ x=.int k a)(hy:aS ρ y=.int k b) :
  bh P ρ o L (.int k (if b>a then b else a)):=λev w c he _=>by
 subst he;simp[execOp,ho,hx,hy,resolve,invoke,builtin,run_max_int2,Result.andThen]
theorem aq3{ts:Array TypeId}{x:Operand}{k:IntKind}(ho:o.op=.call { callee:=.builtin .min,args:=#[x,y],argTypes:=ts})(hx:aS ρ x=.int k a)(hy:aS ρ y=.int k b) :
  bh P ρ o L (.int k (if b<a then b else a)):=λev w c he _=>by
 subst he;simp[execOp,ho,hx,hy,resolve,invoke,builtin,run_min_int2,Result.andThen]
theorem Zh{x:Operand}{v:Value}(ho:o.op=.extract x i)(hx:aS ρ x=.tuple vs.toArray)(hv:vs[i]?=some v):bh P ρ o L v:=λev w c he _=>by subst he;simp[execOp,ho,hx,Instr.extract,hv]
theorem xe{s:TypeId}{x:Operand}{b off fo f:Nat}{sz:Nat}(ho:o.op=.fieldAddr s x f)(hs:P.underlying s=some (.struct fs))(hf:fs[f]?=some fd)
  (hi:TI P fd.type sz by_ z) (hz:Nat.beq sz 0=false) (hfo:fd.offset=fo) (hx:aS ρ x=.pointer (some ⟨b,off,none⟩)):bh P ρ o L (.pointer (some ⟨b,off+fo,none⟩)):=λev w c he _=>by
 subst he;have htihi:=hi;clear hi;obtain⟨i,hi,_,rfl,_⟩:=htihi.get;have hz':i.size≠0:=afB hz;have hadd:(⟨b,off,none⟩:Addr).add fd.offset=⟨b,off+fo,none⟩:=by unfold Addr.add;grind
 simp[execOp,ho,hx,Instr.fieldAt,run_underlying hs,hf,Instr.sureAddr,fieldPlace,sizeOf,typeInfo,hi,hz',hadd,Result.andThen]
theorem mj(ht:P.underlying t=some d)(hd:lR d=false):(isAgg t).run P w=.ok false w:=by unfold isAgg;simp only[bind,Sem.run_bind',run_underlying ht,Result.andThen];cases d<;>first|rfl|simp[lR]at hd|simp[YQ]at hd
theorem y9(ht:P.underlying t=some d)(hd:lR d=true):(isAgg t).run P w=.ok true w:=by unfold isAgg;simp only[bind,Sem.run_bind',run_underlying ht,Result.andThen];cases d<;>first|rfl|simp[lR]at hd|simp[YQ]at hd
theorem fg(b off n:Nat):(⟨b,off,none⟩:Addr).add n=⟨b,off+n,none⟩:=by unfold Addr.add;grind
theorem na{b off:Nat}{arr:Array Value}{fz:Nat×Nat}(hb:w.heap[b]?=some (.cells arr ty fz)):w.cell? ⟨b,off,none⟩=arr[off]?:=by simp[World.cell?,hb]
theorem wH{a:Addr}{v:Value}(ht:P.underlying t=some d)(hd:lR d=false)
  (hc:w.cell? a=some v):(Instr.loadAt t (.pointer (some a))).run P w=.ok v w:=by
 simp[Instr.loadAt,Instr.sureAddr,loadVar,mj ht hd,hc,Result.andThen]
theorem tX{b off:Nat}{arr:Array Value}{fz:Nat×Nat}{i:TypeInfo}(ht:P.underlying t=some d)
  (hd:lR d=true) (hi:P.info? t=some i) (hb:w.heap[b]?=some (.cells arr ty fz)) (hcs:(arr.toList.drop off).take i.size=cs) (hl:cs.length=i.size) :
  (Instr.loadAt t (.pointer (some ⟨b,off,none⟩))).run P w=.ok (.agg cs.toArray) w:=by
 have hload:=run_loadCells_list (P:=P) (w:=w) ⟨b,off,none⟩ cs (λj v hv=>by rw[fg,na hb];grind);rw[hl]at hload;simp[Instr.loadAt,Instr.sureAddr,loadVar,y9 ht hd,sizeOf,typeInfo,hi,hload,Result.andThen]
theorem DY{x:Operand}{b off:Nat}{v:Value}(k:Nat)(hk:L[k]?=some (.box i b cs))(ho:o.op=.load t x)(ht:P.underlying t=some d)
  (hd:lR d=false) (hx:aS ρ x=.pointer (some ⟨b,off,none⟩)) (hv:cs[off]?=some v):bh P ρ o L v:=λev w c he hL=>by
 subst he;obtain⟨⟨ty,hb⟩,_⟩:=hL.at hk;simp[execOp,ho,hx,wH ht hd (v:=v) (w:=w) (by rw[na hb];simpa using hv),Result.andThen]
theorem P2{x:Operand}{b off:Nat}{sz:Nat}(k:Nat)(hk:L[k]?=some (.box i b cs))(ho:o.op=.load t x)(ht:P.underlying t=some d)
  (hd:lR d=true) (hi:TI P t sz by_ z) (hx:aS ρ x=.pointer (some ⟨b,off,none⟩))
  (hv:(cs.drop off).take sz=cs') (hl:Nat.beq cs'.length sz=true):bh P ρ o L (.agg cs'.toArray):=λev w c he hL=>by
 subst he;have htihi:=hi;clear hi;obtain⟨inf,hi,_,rfl,_⟩:=htihi.get;obtain⟨⟨ty,hb⟩,_⟩:=hL.at hk;simp[execOp,ho,hx,tX ht hd hi hb (cs:=cs') (off:=off) (by simpa using hv) (amb hl),Result.andThen]
theorem vc{c:bu}(hN:Nat.ble 2 N=true)(ob:Obj):Stp [] w c (w.alloc ob) (λb=>if b<w.heap.size then c b else N):=by have h2:=aaA hN;refine .mk0 (by simp) (λb hb=>by simp[hb]) (λb hb _=>heap_alloc_old w ob hb) (λb hb _=>?_) ⟨rfl,rfl⟩;grind
theorem aac{a:Act}{ev:Operand->Value}{c:bu}{next:Act->World->Prop}{Q:Exit->Act->World->Prop}(hN:Nat.ble 2 N=true)
  (hrun:(execOp ev o).run P w=.ok (.value (.pointer (some ⟨w.heap.size,0,none⟩))) (w.alloc (.cells cs.toArray ty)))
  (hk:∀(y:Nat) w' c',Stp [] w c w' c'->aq w' c' [.box N y cs]->next (a.put o.dst (.pointer (some ⟨y,0,none⟩))) w') :
  o.upon P a next Q ((execOp ev o).run P w):=by
 rw[hrun];exact hk w.heap.size _ _ (vc hN _) (aq.cons ⟨⟨ty,heap_alloc_new w _⟩,by simp⟩ (aq.nil _ _))
theorem aff{sz:Nat}(ho:o.op=.alloc t)(hi:TI P t sz by_ z)(hcs:z.cells=cs.toArray)(hN:Nat.ble 2 N=true) :
  di P ρ o L [] (λb:Nat=>.pointer (some ⟨b,0,none⟩)) (λb=>[.box N b cs]):=λa ev w c next Q _ _ hk=>by
 have htihi:=hi;clear hi;obtain⟨i,hi,hz,_,_⟩:=htihi.get;exact aac (ty:=t) hN (by simp[execOp,ho,Instr.alloc,zeroValue,typeInfo,hi,hz,newVar,newRow,hcs]) hk
theorem apr{x:Operand}{v:Value}(ho:o.op=.box t x)(hx:aS ρ x=v)(hcs:v.cells=cs.toArray)(hN:Nat.ble 2 N=true) :
  di P ρ o L [] (λb:Nat=>.pointer (some ⟨b,0,none⟩)) (λb=>[.box N b cs]):=λa ev w c next Q ha _ hk=>
 aac (ty:=t) hN (by simp[execOp,ho,ha,hx,Instr.box,newVar,newRow,hcs]) hk
theorem BE{l:List Value}(h:l.all Value.oneCell'=true):∀v∈l,v.oneCell'=true:=aaB.1 h
theorem xv(w:World)(g:Nat)(cs:Array Value):(w.setRow g cs).heap.size=w.heap.size:=by simp_all
theorem ry{c:bu}{b:Nat}{cs:Array Value}(hc:c b=i):Stp [i] w c (w.setRow b cs) c:=by refine .mk0 (by simp_all) (λ_ _=>rfl) (λb' hb' hn=>?_) (λb' h1 h2=>by rw[xv]at h2;omega) ⟨rfl,rfl⟩;grind[World.setRow]
theorem AD{x:Operand}{b off:Nat}{v:Value}{sz:Nat}(k:Nat)(hk:L[k]?=some (.box i b cs))(ho:o.op=.store t x y)(hi:TI P t sz by_ z)
  (hx:aS ρ x=.pointer (some ⟨b,off,none⟩)) (hy:aS ρ y=v) (hv:v.cells=vs.toArray) (hl:Nat.beq vs.length sz=true) (hones:vs.all Value.oneCell'=true)
  (hin:Nat.ble (off+vs.length) cs.length=true) (hcs:cs.take off++vs++cs.drop (off+vs.length)=cs'):di P ρ o L [i] (λ_:Unit=>undef) (λ_=>[.box i b cs']):=by
 intro a ev w c next Q ha hL hn
 have htihi:=hi;clear hi;obtain⟨inf,hi,_,rfl,_⟩:=htihi.get;obtain⟨⟨ty,hb⟩,hc⟩:=hL.at hk;have hle:=aaA hin;have hst:=run_storeCells_at P b off ty vs 0 cs.toArray w hb (by grind) (BE hones);have hrun:(execOp ev o).run P w=.ok .skip (w.setRow b cs'.toArray):=by simp only[acU]at hst;simp[execOp,ho,ha,hx,hy,Instr.storeAt,Instr.sureAddr,storeVar,hv,sizeOf,typeInfo,hi,amb hl,hst,<-hcs,Result.andThen]
 rw[hrun];have hrow:=setRow_heap w b _ cs'.toArray ty (0,0) hb;exact hn () _ c (ry hc) (aq.cons ⟨⟨ty,hrow⟩,hc⟩ (aq.nil _ _))
end
def ac{α:Type}(xs:List α)(i:Int):Option α:=if 0<=i then xs[i.toNat]? else none
theorem nD{xs:List α}{i:Int}{x:α}(h:ac xs i=some x):0<=i/\xs[i.toNat]?=some x/\i.toNat<xs.length:=by unfold ac at h;grind
def facts:(t:Ty)->List Nat->t.den->t.Refs->List HA
 |.one _ _ _,_,_,_=>[]
 |.arr _ _ _ _ _,_,_,_=>[]
 |.unit,_,_,_=>[]
 |.pair a b,K,x,y=>facts a K x.1 y.1++facts b K x.2 y.2
 |.slice t,K,xs,h=>[.rep t K xs h]
 |.node,K,x,h=>[.rep .node K x.tup.2.2.2 h]
 |.mp _ _,_,_,_=>[]
theorem qN{w:World}{c:bu}{K:List Nat}:(t:Ty)->(x:t.den)->(y:t.Refs)->bU w (λb=>c b∈K) t x y->aq w c (facts t K x y)
 |.one _ _ _,_,_,_=>aq.nil _ _
 |.arr _ _ _ _ _,_,_,_=>aq.nil _ _
 |.unit,_,_,_=>aq.nil _ _
 |.pair a b,x,y,h=>(qN a x.1 y.1 h.1).append (qN b x.2 y.2 h.2)
 |.slice _,_,_,h=>aq.cons h (aq.nil _ _)
 |.node,_,_,h=>aq.cons (pC.1 h) (aq.nil _ _)
 |.mp _ _,_,_,_=>aq.nil _ _
theorem y5{w:World}{c:bu}{K:List Nat}:(t:Ty)->(x:t.den)->(y:t.Refs)->aq w c (facts t K x y)->bU w (λb=>c b∈K) t x y
 |.one _ _ _,_,_,_=>trivial
 |.arr _ _ _ _ _,_,_,_=>trivial
 |.unit,_,_,_=>trivial
 |.pair a b,x,y,h=>⟨y5 a x.1 y.1 λA hA=>h A (abm _ hA),y5 b x.2 y.2 λA hA=>h A (abr _ hA)⟩
 |.slice t,xs,hd,h=>h (.rep t K xs hd) (by simp[facts])
 |.node,x,hd,h=>pC.2 (h (.rep .node K x.tup.2.2.2 hd) (by simp[facts]))
 |.mp _ _,_,_,_=>trivial
abbrev Ty.nodeT:Ty:=.pair (.one Int (λx=>.int .i64 x) (λ_=>rfl)) (.pair (.one (List UInt8) (λx=>.string ⟨x.toArray⟩) (λ_=>rfl)) (.pair (.one Int (λx=>.int .i64 x) (λ_=>rfl)) (.slice .node)))
inductive Pth:Ty->Ty->Type 1
 |here {t:Ty}:Pth t t
 |fst {a b t:Ty} (p:Pth a t):Pth (.pair a b) t
 |snd {a b t:Ty} (p:Pth b t):Pth (.pair a b) t
 |nd {t:Ty} (p:Pth Ty.nodeT t):Pth .node t
def Pth.get : {t u:Ty}->Pth t u->t.den->u.den
 |_,_,.here,x=>x
 |_,_,.fst p,x=>p.get x.1
 |_,_,.snd p,x=>p.get x.2
 |_,_,.nd p,x=>p.get x.tup
def Pth.set : {t u:Ty}->Pth t u->t.den->u.den->t.den
 |_,_,.here,_,z=>z
 |_,_,.fst p,x,z=>(p.set x.1 z,x.2)
 |_,_,.snd p,x,z=>(x.1,p.set x.2 z)
 |_,_,.nd p,x,z=>Nd.of (p.set x.tup z)
def Pth.refs : {t u:Ty}->Pth t u->t.Refs->u.Refs
 |_,_,.here,x=>x
 |_,_,.fst p,x=>p.refs x.1
 |_,_,.snd p,x=>p.refs x.2
 |_,_,.nd p,h=>p.refs ((),(),(),h)
def Pth.off : {t u:Ty}->Pth t u->Nat
 |_,_,.here=>0
 |_,_,.fst p=>p.off
 |_,_,@Pth.snd a _ _ p=>a.sz+p.off
 |_,_,.nd p=>p.off
theorem Pth.le : {t u:Ty}->(p:Pth t u)->p.off+u.sz<=t.sz
 |_,_,.here=>by simp[Pth.off]
 |_,_,.fst p=>by have:=p.le;simp[Pth.off,Ty.sz];omega
 |_,_,.snd p=>by have:=p.le;simp[Pth.off,Ty.sz];omega
 |_,_,.nd p=>p.le
theorem Pth.cells : {t u:Ty}->(p:Pth t u)->(x:t.den)->(y:t.Refs)->((t.fill x y).drop p.off).take u.sz=u.fill (p.get x) (p.refs y)
 |_,u,.here,x,y=>by simp[Pth.off,Pth.get,Pth.refs,<-u.fill_length x y]
 |_,u,.fst (a:=a) (b:=b) p,x,y=>by have:=p.cells x.1 y.1;have hl:=p.le;have h1:=a.fill_length x.1 y.1;simp only[Pth.off,Ty.fill,Pth.get,Pth.refs];grind
 |_,u,.snd (a:=a) (b:=b) p,x,y=>by have:=p.cells x.2 y.2;have h1:=a.fill_length x.1 y.1;simp only[Pth.off,Ty.fill,Pth.get,Pth.refs];rw[acB,acj (as:=a.fill x.1 y.1) (by omega),show a.sz+p.off-(a.fill x.1 y.1).length=p.off by omega];grind
 |_,_,.nd p,x,h=>p.cells x.tup ((),(),(),h)
theorem Pth.rep : {t u:Ty}->(p:Pth t u)->(x:t.den)->(y:t.Refs)->bU w S t x y->bU w S u (p.get x) (p.refs y)
 |_,_,.here,_,_,h=>h
 |_,_,.fst p,x,y,h=>p.rep x.1 y.1 h.1
 |_,_,.snd p,x,y,h=>p.rep x.2 y.2 h.2
 |_,_,.nd p,x,y,h=>p.rep x.tup ((),(),(),y) ⟨trivial,trivial,trivial,pC.1 h⟩
def qz(place:Nat->Option (Nat×Nat))(cells:List Value):List (Nat×List Value)->Option (List Value)
 |[]=>some cells
 |(i,vs)::rest=>match place i with
  |none=>none
  |some (off,size)=>bif Nat.beq vs.length size&&Nat.ble (off+vs.length) cells.length then qz place (cells.take off++vs++cells.drop (off+vs.length)) rest else none
theorem KJ:∀(vs:List Value) (k off:Nat) (cs:Array Value),off+k+vs.length<=cs.size ->
  (vs.zipIdx k).foldl (λcs (x:Value×Nat)=>cs.setIfInBounds (off+x.2) x.1) cs=(cs.toList.take (off+k)++vs++cs.toList.drop (off+k+vs.length)).toArray
 |[],k,off,cs,_=>by simp_all
 |v::vs,k,off,cs,h=>by
  simp only[acn]at h;rw[List.zipIdx_cons,List.foldl_cons,KJ vs (k+1) off _ (by simp;omega)];have hl:off+k<cs.toList.length:=by simp;omega
  have ht:(cs.toList.take (off+k)).length=off+k:=by simp;omega
  apply alh;simp only[Array.toList_setIfInBounds,List.set_eq_take_append_cons_drop,if_pos hl];rw[show off+(k+1)=(cs.toList.take (off+k)).length+1 by omega,List.take_length_add_append,agO (cs.toList.take (off+k)).length 1 vs.length,List.drop_length_add_append];simp only[agd,aek,aaW,acK,acG];grind[Nat.add_comm,List.drop_drop]
theorem Ao(place:Nat->Option (Nat×Nat))(parts:Array (Nat×Operand))(ρ:dr):∀(vals:List (Nat×List Value)) (zero cells:List Value),
  parts.toList.map (λp=>(p.1,(aS ρ p.2).cells.toList))=vals->qz place zero vals=some cells ->
  Instr.fill place zero.toArray (parts.map λp=>(p.1,aS ρ p.2)).toList=some cells.toArray:=by
 intro vals zero cells hp h;have gen:∀(ps:List (Nat×Operand)) (vals:List (Nat×List Value)) (zero:List Value),ps.map (λp=>(p.1,(aS ρ p.2).cells.toList))=vals->qz place zero vals=some cells ->
   Instr.fill place zero.toArray (ps.map λp=>(p.1,aS ρ p.2))=some cells.toArray:=by
  intro ps;induction ps with
  |nil=>
   intro vals zero hp h;subst hp;simp only[adU,qz,no]at h;subst h;rfl
  | cons p ps ih=>
   intro vals zero hp h;subst hp;simp only[aa4,qz]at h;cases hpl:place p.1 with
   |none=>grind
   | some os=>
    obtain⟨off,size⟩:=os;simp only[hpl]at h;cases hc:Nat.beq (aS ρ p.2).cells.toList.length size&&Nat.ble (off+(aS ρ p.2).cells.toList.length) zero.length
    ·grind
    ·rw[hc]at h;simp only[aas]at hc;have h1:=amb hc.1;have h2:=aaA hc.2;have:=ih _ _ rfl h;have h1':(aS ρ p.2).cells.size=size:=by simpa using h1
     have h2':off+(aS ρ p.2).cells.size<=zero.length:=by simpa using h2
     simp only[aa4,Instr.fill,hpl];rw[if_neg (by grind)];rw[<-Array.foldl_toList,Array.toList_zipIdx];have hf:=KJ (aS ρ p.2).cells.toList 0 off zero.toArray (by grind);grind
 simp_all
section
variable {P:Program} {ρ:dr} {L:List HA} {o:Oper} {N:Nat}
theorem yf{Y:Type}{val:Y->Value}{Φ:Y->List HA}(h:∀(ev:Operand->Value) (w:World) (c:bu),ev=aS ρ->aq w c L->∃y,(execOp ev o).run P w=.ok (.value (val y)) w/\aq w c (Φ y)):di P ρ o L [] val Φ:=by
 intro a ev w c next Q ha hL hk
 obtain⟨y,hr,hF⟩:=h ev w c ha hL;rw[hr];exact hk y w c (Stp.refl w c) hF
theorem UI{x:Operand}{f:α->Value}{hf:∀x,(f x).oneCell'=true}{p:Addr}{v:α}(k:Nat)(hk:L[k]?=some (.elem (.one α f hf) K v p))(ho:o.op=.load t x)
  (ht:P.underlying t=some d) (hd:lR d=false) (hx:aS ρ x=.pointer (some p)):bh P ρ o L (f v):=λev w c he hL=>by
 subst he;obtain⟨y,b,off,arr,ty,fz,rfl,_,hb,hle,hcs,_⟩:=hL.at hk;have hc:w.cell? ⟨b,off,none⟩=some (f v):=by rw[na hb];have:=aba (·[0]?) hcs;simpa[Ty.fill,ae1]using this
 simp[execOp,ho,hx,wH ht hd hc]
def vS(t:Ty)(K:List Nat):List t.den->List t.Refs->List HA
 |x::xs,y::ys=>facts t K x y++vS t K xs ys
 |_,_=>[]
theorem Hr{w:World}{c:bu}{K:List Nat}(t:Ty):∀{xs:List t.den} {ys:List t.Refs},xs.length=ys.length->aq w c (vS t K xs ys)->cy (bU w (λb=>c b∈K) t) xs ys
 |[],[],_,_=>trivial
 |x::xs,y::ys,hl,h=>⟨y5 t x y λA hA=>h A (abm _ hA),Hr t (by simpa using hl) λA hA=>h A (abr _ hA)⟩
 |[],_::_,hl,_=>by simp at hl
 |_::_,[],hl,_=>by simp at hl
theorem AT{c:bu}{v:Value}(hi:Nat.ble 2 i=true)(hg:w.grownBy w' v.ownBlock)(hc:∀g,v.ownBlock=some g->c g=i):Stp [i] w c w' (λb=>if b<w.heap.size then c b else i):=by
 refine .mk0 hg.size (λb hb=>by simp[hb]) (λb hb hn=>hg.block b hb λe=>hn ?_) (λb h1 _=>?_) ⟨hg.os,hg.output⟩
 ·grind
 ·show 2<=if b<w.heap.size then c b else i
  rw[if_neg (by omega)];simp_all
theorem Gv{c:bu}{h':Hd}{v:Value}(hb:∀g,h'.val.ownBlock=some g->v.ownBlock=some g\/w.heap.size<=g)
  (hc:∀g,v.ownBlock=some g->c g=i):∀g,h'.val.ownBlock=some g->(λb=>if b<w.heap.size then c b else i) g=i:=by
 grind
theorem GU{e:TypeId}{i:TypeInfo}(ht:P.underlying t=some (.slice e))(hi:P.info? e=some i)(hz:i.zero=some z)(hzs:z.cells.size=i.size)(hsz:0<i.size)
  {h:Hd}   (hown:w.ownsRow 0 e i.size h.val n xs) {x:Hd}  {news:List Value} (hl:news.length=m*i.size) (hx:(x.a=none/\m=0/\x.n=0/\x.cap=0)\/∃a,x.a=some a/\x.n=m/\∀j u,news[j]?=some u->w.cell? (a.add j)=some u)
  (h1:∀u∈news,u.oneCell'=true) (h63:n+m<=maxLen) (hbytes:(n+m)*i.bytes<=140737488355328) :
  ∃(h':Hd) (w':World),(Builtin.append_ #[t,t] ty #[h.val,x.val]).run P w=.ok h'.val w'/\w'.ownsRow 0 e i.size h'.val (n+m) (xs++news)/\w.grownBy w' h.val.ownBlock /\
   (∀g,h'.val.ownBlock=some g->h.val.ownBlock=some g\/w.heap.size<=g):=by
 have toHd:∀(v':Value) (w':World),w'.ownsRow 0 e i.size v' (n+m) (xs++news)->∃h':Hd,v'=h'.val:=by
  intro v' w' ho;rcases ho.2 with⟨rfl,_⟩|⟨g,cap,cur,rfl,_⟩
  ·exact⟨⟨none,0,0⟩,rfl⟩
  ·exact⟨⟨some ⟨g,0,none⟩,n+m,cap⟩,rfl⟩
 obtain⟨xa,xn,xc⟩:=x;obtain⟨ha,hn,hcap⟩:=h;rcases hx with⟨hxa,rfl,hxn,hxc⟩|⟨a,hxa,hxn,hnews⟩
 ·simp only at hxa hxn hxc;subst hxa hxn hxc;have hn0:news=[]:=adf (by simpa using hl);subst hn0;refine⟨_,w,run_append_owned_none (P:=P) (w:=w) 0 t ty e i i.size ht hi _ n xs hown,by grind,⟨rfl,rfl,rfl,aaT _,λ_ _ _=>rfl⟩,λg hg=>.inl hg⟩
 ·simp only at hxa hxn;subst hxa hxn;by_cases hroom:∃g cap cur,(Hd.val ⟨ha,hn,hcap⟩)=.slice (some ⟨g,0,none⟩) n cap/\w.heap[g]?=some (.cells cur e (0,0))/\n+xn<=cap
  ·obtain⟨v',w',hr,h2,h3,_⟩:=run_append_own (P:=P) w 0 t ty e i z i.size i.bytes ht hi hz rfl rfl hzs hsz _ n xs hown a xn xc news hl hnews h1 h63 hbytes (afX _);obtain⟨g,cap,cur,hv,hg,hle⟩:=hroom;have hfit:n*i.size+news.length<=cur.size:=by
    rcases hown.2 with⟨hv',_⟩|⟨g',cap',cur',hv',_,hg',_,_,hcs,_⟩
    ·grind
    ·rw[hv]at hv';simp only[Value.slice.injEq,no,Addr.mk.injEq,alw,true_and]at hv';obtain⟨rfl,rfl⟩:=hv';rw[hg]at hg';simp only[no,Obj.cells.injEq,alw]at hg';subst hg';rw[hl,hcs,<-adJ];exact ab2 _ hle
   have hr2:=run_append_room (P:=P) w t ty e i ht hi g n cap cur hg a xn xc news hl hnews h1 hle hfit;grind[Value.ownBlock]
  ·by_cases hnil:(Hd.val ⟨ha,hn,hcap⟩)=.slice none 0 0
   ·have hown':w.ownsRow w.heap.size e i.size (Hd.val ⟨ha,hn,hcap⟩) n xs:=by
     refine⟨hown.1,.inl ⟨hnil,?_⟩⟩;rcases hown.2 with⟨_,hn⟩|⟨g',cap',cur',hv',_⟩
     ·exact hn
     grind
    obtain⟨v',w',hr,h2,h3,_⟩:=run_append_own (P:=P) w w.heap.size t ty e i z i.size i.bytes ht hi hz rfl rfl hzs hsz _ n xs hown' a xn xc news hl hnews h1 h63 hbytes (aaT _);have h2':w'.ownsRow 0 e i.size v' (n+xn) (xs++news):=⟨h2.1,h2.2.imp id λ⟨g,cap,cur,hv,_,hrest⟩=>⟨g,cap,cur,hv,afX _,hrest⟩⟩
    obtain⟨h',rfl⟩:=toHd v' w' h2';exact⟨h',w',hr,h2',h3,λg hg=>.inr (h2.lt g hg).1⟩
   ·rcases hown.2 with⟨hv,_⟩|⟨g,cap,cur,hv,_,hg,hnc,hcm,hcs,htake⟩
    ·grind
    ·have hgrow:cap<n+xn:=by
      grind
     have holds:∀j u,xs[j]?=some u->w.cell? ((⟨g,0,none⟩:Addr).add j)=some u:=hown.cells (g:=g) (by rw[hv];rfl);have hr:=run_append_grow (P:=P) w t ty e i z ht hi hz ⟨g,0,none⟩ n cap xs hown.1 holds a xn xc news hl hnews hgrow (by simp only[maxLen]at h63;omega) (growslice_fits (by omega) hbytes);obtain⟨v',w',hr',h2,h3,_⟩:=run_append_own (P:=P) w 0 t ty e i z i.size i.bytes ht hi hz rfl rfl hzs hsz _ n xs hown a xn xc news hl hnews h1 h63 hbytes (afX _);grind[Value.ownBlock]
theorem DX{e:TypeId}{sz:Nat}{s x:Operand}{ty:Ty}{xs ys:List ty.den}{h hx:Hd}(j j':Nat)
  (hj:L[j]?=some (.own ty e ci K xs h)) (A:HA) (hj':L[j']?=some A) (hA:GT A (.rep ty K2 ys hx))
  (ho:o.op=.call { callee:=.builtin .append,args:=#[s,x],argTypes:=#[t,t]}) (ht:P.underlying t=some (.slice e)) (hi:TI P e sz by_ z) (hs:sz=ty.sz)
  (hzs:Nat.beq z.cells.size sz=true) (hsz:Nat.ble 1 sz=true) (hse:aS ρ s=h.val) (hxe:aS ρ x=hx.val)
  (hroom:decide ((xs.length+ys.length)*by_<=140737488355328/\xs.length+ys.length<=maxLen)=true) (hci:Nat.ble 2 ci=true) (hK:ty.pureB=true\/(K++K2).all (λk=>!(Nat.beq k ci))=true) (hK':K++K2=K') (he:Nat.blt e 1048576=true) :
  di P ρ o L [ci] Hd.val (λh'=>[.own ty e ci K' (xs++ys) h']):=by
 intro a ev w c next Q ha hL hk
 have htihi:=hi;clear hi;obtain⟨inf,hi,hz,rfl,rfl⟩:=htihi.get;obtain⟨rs,hr1,hown,hcol⟩:=hL.at hj;obtain⟨rs2,hr2,hn2,hle2,hm2,hc2⟩:=hA w c (hL.at hj');obtain⟨hb,h63⟩:=abh hroom;have hl2:=hr2.length;have hlen:=cZ ty hl2;replace hown:=hown.plain he;rw[<-hs]at hown hlen;have hsrc:(hx.a=none/\ys.length=0/\hx.n=0/\hx.cap=0)\/∃a,hx.a=some a/\hx.n=ys.length/\∀j u,(cellsOf ty ys rs2)[j]?=some u->w.cell? (a.add j)=some u:=by
  rcases hc2 with⟨h1,h2⟩|⟨b,off,arr,tt,fz,h1,hS,hbb,hfit,hcells⟩
  ·cases hxa:hx.a with
   |none=>grind
   |some a=>
    grind
  grind[fg,na]
 obtain⟨h',w',hrun,ho',hg,hblk⟩:=GU (P:=P) (ty:=o.type) ht hi hz (amb hzs) (aaA hsz) hown hlen hsrc (li ty) h63 hb;have hex:(execOp ev o).run P w=.ok (.value h'.val) w':=by simp[execOp,ho,ha,hse,hxe,resolve,invoke,builtin,hrun,Result.andThen]
 rw[hex];have hst:=AT hci hg hcol;refine hk h' w' _ hst (aq.cons ⟨rs++rs2,?_,?_,Gv hblk hcol⟩ (aq.nil _ _))
 ·rcases hK with hp|hK
  ·exact(hr1.mono λx y _=>bU.pure ty x y hp).append (hr2.mono λx y _=>bU.pure ty x y hp)
  ·have hno:∀k∈K++K2,k∉[ci]:=λk hk hm=>by
    have:=aaB.1 hK k hk;simp_all
   subst hK';exact(hr1.mono (bU.keep (λb hb hcb=>⟨abm _ ((hst.keeps (K:=K) (λk hk=>hno k (abm _ hk))) b hb hcb).1,((hst.keeps (K:=K) (λk hk=>hno k (abm _ hk))) b hb hcb).2⟩) ty)).append
    (hr2.mono (bU.keep (λb hb hcb=>⟨abr _ ((hst.keeps (K:=K2) (λk hk=>hno k (abr _ hk))) b hb hcb).1,((hst.keeps (K:=K2) (λk hk=>hno k (abr _ hk))) b hb hcb).2⟩) ty))
 ·rw[eV ty hr1.length,aaL,<-hs];exact BQ ho'
theorem ZB{e:TypeId}{sz:Nat}{s x:Operand}{ty:Ty}{xs ys:List ty.den}{h hx:Hd}(j j':Nat)
  (hj:L[j]?=some (.own ty e ci K xs h)) (A:HA) (hj':L[j']?=some A) (hA:GT A (.rep ty K2 ys hx))
  (ho:o.op=.call { callee:=.builtin .append,args:=#[s,x],argTypes:=#[t,t]}) (ht:P.underlying t=some (.slice e)) (hi:TI P e sz by_ z) (hs:sz=ty.sz)
  (hzs:Nat.beq z.cells.size sz=true) (hsz:Nat.ble 1 sz=true) (hse:aS ρ s=h.val) (hxe:aS ρ x=hx.val)
  (hroom:decide ((xs.length+ys.length)*by_<=140737488355328/\xs.length+ys.length<=maxLen)=true) (hci:Nat.ble 2 ci=true) (hK:(K++K2).all (λk=>!(Nat.beq k ci))=true) (hK':K++K2=K') (he:Nat.blt e 1048576=true) :
  di P ρ o L [ci] Hd.val (λh'=>[.own ty e ci K' (xs++ys) h']):=
 DX j j' hj A hj' hA ho ht hi hs hzs hsz hse hxe hroom hci (.inr hK) hK' he
theorem di.weaken{Y:Type}{val:Y->Value}{Φ Φ':Y->List HA}(h:di P ρ o L κ val Φ)(hw:∀y w c,aq w c (Φ y)->aq w c (Φ' y)):di P ρ o L κ val Φ' :=
 λa ev w c next Q ha hL hk=>h a ev w c next Q ha hL λy w' c' hs hF=>hk y w' c' hs (hw y w' c' hF)
theorem CE{e:TypeId}{sz:Nat}{s x:Operand}{ty:Ty}{xs ys:List ty.den}{h hx:Hd}(hpure:ty.pureB=true)(j j':Nat)
  (hj:L[j]?=some (.own ty e ci K xs h)) (A:HA) (hj':L[j']?=some A) (hA:GT A (.rep ty K2 ys hx))
  (ho:o.op=.call { callee:=.builtin .append,args:=#[s,x],argTypes:=#[t,t]}) (ht:P.underlying t=some (.slice e)) (hi:TI P e sz by_ z) (hs:sz=ty.sz)
  (hzs:Nat.beq z.cells.size sz=true) (hsz:Nat.ble 1 sz=true) (hse:aS ρ s=h.val) (hxe:aS ρ x=hx.val)
  (hroom:decide ((xs.length+ys.length)*by_<=140737488355328/\xs.length+ys.length<=maxLen)=true) (hci:Nat.ble 2 ci=true) (he:Nat.blt e 1048576=true) :
  di P ρ o L [ci] Hd.val (λh'=>[.own ty e ci K (xs++ys) h']):=
 (DX j j' hj A hj' hA ho ht hi hs hzs hsz hse hxe hroom hci (.inl hpure) rfl he).weaken λ_ w c hF=>aq.cons (A2 hpure w c (hF.at (k:=0) rfl)) (aq.nil _ _)
theorem zT{e:TypeId}{sz:Nat}{cells:List Value}{ty:Ty}{xs:List ty.den}{ys:List ty.Refs}
  (ho:o.op=.buildSlice t n parts) (ht:P.underlying t=some (.slice e)) (hi:TI P e sz by_ z) (_hs:sz=ty.sz) (hsmall:Nat.ble (n*sz) 16777216=true) (h0:Nat.ble 1 (n*sz)=true)
  (hp:parts.toList.map (λp=>(p.1,(aS ρ p.2).cells.toList))=vals) (hfill:qz (λi=>some (i*sz,sz)) ((List.range (n*sz)).map (λj=>z.cells.toList.getD (j%z.cells.toList.length) default)) vals=some cells)
  (hx:Nat.beq xs.length n=true) (hy:Nat.beq ys.length n=true) (hcells:cellsOf ty xs ys=cells) (hpaid:pI L (vS ty K xs ys)) (hN:Nat.ble 2 N=true) :
  di P ρ o L [] Hd.val (λh=>[.own ty e N K xs h]):=by
 intro a ev w c next Q ha hL hk
 have htihi:=hi;clear hi;obtain⟨inf,hi,hz,rfl,_⟩:=htihi.get;have hxl:=amb hx;have hyl:=amb hy;have hsm:=aaA hsmall;have hpos:=aaA h0;have hlen:=cZ ty (xs:=xs) (ys:=ys) (by omega);have hex:(execOp ev o).run P w=.ok (.value (.slice (some ⟨w.heap.size,0,none⟩) n n)) (w.alloc (.cells cells.toArray e)):=by
  have hsm':¬16777216<n*inf.size:=by omega
  have hne:¬n*inf.size=0:=by omega
  have hfill':=Ao _ _ _ _ _ _ hp hfill;have hzero:(Array.range (n*inf.size)).map (z.cells[· % z.cells.size]!)=((List.range (n*inf.size)).map (λj=>z.cells.toList.getD (j%z.cells.toList.length) default)).toArray:=by grind
  rw[<-hzero]at hfill';simp only[execOp,ho,ha,Instr.buildSlice,Sem.run_bind,run_underlying ht,sizeOf,typeInfo,zeroValue,run_program,Result.andThen_ok,hi,hz,Sem.run_pure,if_neg hsm',if_neg hne];rw[hfill'];rfl
 rw[hex];have hst:=vc (w:=w) (c:=c) hN (.cells cells.toArray e);refine hk ⟨some ⟨w.heap.size,0,none⟩,n,n⟩ _ _ hst (aq.cons ⟨ys,?_,⟨?_,.inr ⟨w.heap.size,n,cells.toArray,e,(0,0),by rw[hxl],heap_alloc_new w _,.inl ⟨rfl,rfl⟩,by omega,?_,?_,?_⟩⟩,λg hg=>?_⟩ (aq.nil _ _))
 ·exact(Hr ty (by omega) (hpaid.heap hL)).mono (bU.keep (hst.keeps (by simp)) ty)
 ·rw[hlen]
 ·simp only[maxLen];have:n<=n*inf.size:=alL n (Nat.pos_of_ne_zero λh=>by grind);omega
 ·grind
 ·grind
 ·simp[Value.ownBlock]at hg;grind
theorem Gy{e:TypeId}{sz:Nat}{ty:Ty}(ho:o.op=.buildSlice t 0 parts)(ht:P.underlying t=some (.slice e))(hi:TI P e sz by_ z)(hp:parts = #[])(hN:Nat.ble 2 N=true) :
  di P ρ o L [] Hd.val (λh=>[.own ty e N K [] h]):=by
 intro a ev w c next Q ha hL hk
 have htihi:=hi;clear hi;obtain⟨inf,hi,_,_,_⟩:=htihi.get;have hex:(execOp ev o).run P w=.ok (.value (.slice (some ⟨w.heap.size,0,none⟩) 0 0)) (w.alloc (.cells #[] e)):=by simp[execOp,ho,ha,Instr.buildSlice,run_underlying ht,sizeOf,typeInfo,hi,hp,newRow,Instr.fill,Result.andThen];grind
 rw[hex];have hst:=vc (w:=w) (c:=c) hN (.cells #[] e);refine hk ⟨some ⟨w.heap.size,0,none⟩,0,0⟩ _ _ hst (aq.cons ⟨[],trivial,⟨by simp[cellsOf],.inr ⟨w.heap.size,0,#[],e,(0,0),rfl,heap_alloc_new w _,.inl ⟨rfl,rfl⟩,by simp,by simp[maxLen],by simp,by simp[cellsOf]⟩⟩,λg hg=>?_⟩ (aq.nil _ _))
 ·simp[Value.ownBlock]at hg;grind
end
structure OSp:Type 1 where
 ex:Bool
 d:Nat
 pre:List Nat
 Y:Type
 val:Y->Value
 Φ:Y->List HA
 κ:List Nat
 eat:List Nat
 tl:List (Nat×(Y->Value))
def agS{Y:Type}(ρ:dr)(tl:List (Nat×(Y->Value)))(y:Y):Prop:=∀p∈tl,ρ p.1=p.2 y
def aoW{Y:Type}(ρ:dr)(y:Y):List (Nat×(Y->Value))->dr
 |[]=>ρ
 |p::r=>aoW (zH ρ p.1 (p.2 y)) y r
def OSp.ok(s:OSp)(ρ:dr)(w:World)(c:bu):Prop:=(s.ex=true->∃y,ρ s.d=s.val y/\agS ρ s.tl y/\aq w c (s.Φ y))/\(s.ex=false->ρ s.d=undef)
def Ob(P:Program)(o:Oper)(s:OSp)(es:List OSp):List Nat->dr->List HA->Prop
 |[],ρ,L=>di P ρ o L s.κ s.val (λy=>.pure (agS ρ s.tl y)::s.Φ y)
 |j::js,ρ,L=>match es[j]? with
  |none=>False
  |some e=>(e.ex=true->∀y,Ob P o s es js (zH ρ e.d (e.val y)) (e.Φ y++L))/\(e.ex=false->Ob P o s es js (zH ρ e.d undef) L)
def Fin(R:dr->List HA->Prop)(es:List OSp):List Nat->dr->List HA->Prop
 |[],ρ,L=>R ρ L
 |j::js,ρ,L=>match es[j]? with
  |none=>False
  |some e=>(e.ex=true->∀y,Fin R es js (aoW (zH ρ e.d (e.val y)) y e.tl) (e.Φ y++L))/\(e.ex=false->Fin R es js (zH ρ e.d undef) L)
def tE(o:Oper):List Nat:=(o.after.toList.filter (Region.binds .any)).map (·.on)
def cq(j:Nat)(l:List Nat):Bool:=l.any λk=>Nat.beq j k
theorem mem_iff{j:Nat}{l:List Nat}:cq j l=true↔j∈l:=by simp only[cq,ame];simp_all
def Gs(l:List Oper)(cl:List (List Nat)):Bool:=
 (List.range l.length).all λi=>match l[i]?,cl[i]? with
  |some o,some c=>(tE o).all (λj=>Nat.blt j i)&&c.all λj=>cq j (tE o)||(tE o).any λk=>match cl[k]? with|some ck=>cq j ck|none=>false
  |_,_=>false
def Ga(o:Oper)(es:List OSp)(pre:List Nat):Bool:=
 o.op.operands.toList.all λx=>match x with
  |.tmp t=>!(es.any λe=>Nat.beq t e.d)||pre.any λj=>match es[j]? with|some e=>Nat.beq t e.d|none=>false
  |_=>true
def acx(s:OSp)(es:List OSp):Bool:=s.tl.all λp=>s.pre.any λj=>match es[j]? with|some e=>Nat.beq p.1 e.d|none=>false
def A8(o:Oper):Bool:=match o.op with|.select .. => false|_=>true
def aeX(n:Nat)(o:Oper)(s:OSp)(es:List OSp)(c:List Nat):Prop:=
 match o.guard with
 |none=>s.ex=true
 |some (j,want)=>cq j c=true/\∃e b,es[j]?=some e/\Nat.blt e.d n=true/\(∀y,e.val y=.bool b)/\s.ex=(e.ex&&(b==want))
def Xk(n:Nat)(o:Oper)(s:OSp):Prop:=(o.dst=some s.d/\Nat.blt s.d n=true)\/(o.dst=none/\Nat.ble n s.d=true/\∀y,s.val y=undef)
def BO(P:Program)(n:Nat)(es:List OSp)(ρ:dr)(B:Nat->List HA):List Oper->List OSp->List (List Nat)->Nat->Prop
 |o::l,s::ss,c::cs,i=>(Xk n o s/\A8 o=true/\s.pre.all (λj=>cq j c)=true/\Ga o es s.pre=true/\acx s es=true/\aeX n o s es c/\(s.ex=true->Ob P o s es s.pre ρ (B i)))/\BO P n es ρ B l ss cs (i+1)
 |_,[],_,_=>True
 |_,_,_,_=>False
theorem BO.at{P:Program}{n:Nat}{es:List OSp}{ρ:dr}{B:Nat->List HA}:∀{l:List Oper} {ss:List OSp} {cs:List (List Nat)} {m i:Nat} {o:Oper} {s:OSp},BO P n es ρ B l ss cs m->l[i]?=some o->ss[i]?=some s ->
  ∃c,cs[i]?=some c/\Xk n o s/\A8 o=true/\s.pre.all (λj=>cq j c)=true/\Ga o es s.pre=true/\acx s es=true/\aeX n o s es c/\(s.ex=true->Ob P o s es s.pre ρ (B (m+i)))
 |o'::l,s'::ss,c'::cs,m,0,o,s,h,ho,hs=>by simp at ho hs;subst ho;subst hs;exact⟨c',rfl,h.1⟩
 |o'::l,s'::ss,c'::cs,m,i+1,o,s,h,ho,hs=>by simp at ho hs;obtain⟨c,hc,hr⟩:=BO.at h.2 ho hs;grind
 |_,[],_,_,i,_,_,_,_,hs=>by simp at hs
 |[],s::ss,cs,_,i,_,_,h,_,_=>by grind
 |o::l,s::ss,[],_,i,_,_,h,_,_=>h.elim
def yw(κ eat:List Nat):Nat->List OSp->Prop
 |_,[]=>True
 |k,e::r=>(cq k eat=true\/∀y,(e.Φ y).all (rx κ)=true)/\yw κ eat (k+1) r
def YO(cl:List (List Nat))(i:Nat):List Nat:=(List.range cl.length).filter λk=>match cl[k]? with|some c=>cq i c|none=>false
def Jw(es:List OSp)(cl:List (List Nat)):List OSp->Nat->Prop
 |[],_=>True
 |s::r,i=>(s.κ=[]\/yw s.κ (i::(s.eat++YO cl i)) 0 es)/\Jw es cl r (i+1)
theorem yw.at{κ eat:List Nat}:∀{es:List OSp} {k j:Nat} {e:OSp},yw κ eat k es->es[j]?=some e->cq (k+j) eat=true\/∀y,(e.Φ y).all (rx κ)=true
 |e'::r,k,0,e,h,he=>by simp at he;subst he;exact h.1
 |e'::r,k,j+1,e,h,he=>by simp at he;have:=yw.at h.2 he;grind
 |[],_,_,_,_,he=>by simp at he
theorem Jw.at{es:List OSp}{cl:List (List Nat)}:∀{ss:List OSp} {k i:Nat} {s:OSp},Jw es cl ss k->ss[i]?=some s->s.κ=[]\/yw s.κ ((k+i)::(s.eat++YO cl (k+i))) 0 es
 |e'::r,k,0,e,h,he=>by simp at he;subst he;exact h.1
 |e'::r,k,j+1,e,h,he=>by simp at he;have:=Jw.at h.2 he;grind
 |[],_,_,_,_,he=>by simp at he
section
variable {P:Program} {n:Nat} {Q:Exit->Act->World->Prop}
def q9(f:Nat->Bool):Nat->Nat
 |0=>0
 |k+1=>q9 f k+cond (f k) 1 0
theorem LM{f g:Nat->Bool}:∀{k:Nat},(∀j,j<k->f j=g j)->q9 f k=q9 g k
 |0,_=>rfl
 |k+1,h=>by simp only[q9,LM (k:=k) λj hj=>h j (by omega),h k (by omega)]
theorem RV{f g:Nat->Bool}{i:Nat}(hf:f i=true)(hg:g i=false):∀{k:Nat},i<k->(∀j,j<k->j≠i->f j=g j)->q9 f k=q9 g k+1
 |k+1,hi,h=>by
  simp only[q9];by_cases he:i=k
  ·grind[LM]
  ·rw[RV hf hg (k:=k) (by omega) λj hj hne=>h j (by omega) hne,h k (by omega) (by omega)];omega
theorem MQ{f:Nat->Bool}:∀{k:Nat},q9 f k=0->∀i,i<k->f i=false
 |k+1,h,i,hi=>by
  simp only[q9]at h;by_cases he:i=k
  ·grind
  ·exact MQ (k:=k) (by omega) i (by omega)
def G6(listed:Array Bool)(i:Nat):Bool:=!(listed.getD i false)
theorem alC(hcl:Gs l cl=true){k:Nat}(hk:k<l.length):∃c,cl[k]?=some c:=by have h:=aaB.1 hcl k (aev.2 hk);grind
def Lb(l:List Oper)(listed:Array Bool):Prop:=∀(i:Nat) (o:Oper),l[i]?=some o->listed.getD i false=true->∀j∈tE o,listed.getD j false=true
theorem xG(hcl:Gs l cl=true)(hd:Lb l listed):∀(i:Nat) (o:Oper) (c:List Nat),l[i]?=some o->cl[i]?=some c ->
  (∀j∈tE o,listed.getD j false=true)->∀j∈c,listed.getD j false=true:=by
 intro i;induction i using Nat.strongRecOn with
 | _ i ih=>
  intro o c ho hc hp j hj;have hlt:i<l.length:=(abC.1 ho).1;have h:=aaB.1 hcl i (aev.2 hlt);simp only[ho,hc,aas]at h;have h2:=aaB.1 h.2 j hj;simp only[acO]at h2;rcases h2 with h2|h2
  ·exact hp j (mem_iff.1 h2)
  ·obtain⟨k,hk,hm⟩:=ame.1 h2;have hki:k<i:=aaA (aaB.1 h.1 k hk);cases hck:cl[k]? with
   |none=>grind
   |some ck=>
    simp only[hck]at hm;have hkl:k<l.length:=by omega
    exact ih k hki l[k] ck (by simp[hkl]) hck (hd k l[k] (by simp[hkl]) (hp k hk)) j (mem_iff.1 hm)
theorem BD{j:Nat}(h:i<listed.size):(listed.setIfInBounds i true).getD j false=(Nat.beq j i||listed.getD j false):=by
 by_cases hij:i=j
 ·simp_all
 ·have:Nat.beq j i=false:=by
   cases hb:Nat.beq j i
   ·rfl
   simp_all
  simp_all
theorem zA(hsz:listed.size=l.length)(h:i∈Region.ready .any l.toArray listed) :
  ∃o,l[i]?=some o/\listed.getD i false=false/\∀j∈tE o,listed.getD j false=true:=by
 rw[mem_ready]at h;obtain⟨h0,o,ho,hall⟩:=h;have ho':l[i]?=some o:=by simpa using ho
 have hlt:i<l.length:=(abC.1 ho').1;refine⟨o,ho',by grind,λj hj=>?_⟩;obtain⟨e,he,rfl⟩:=aaG.1 hj;grind
theorem Et(hcl:Gs l cl=true)(hsz:listed.size=l.length)(h:Region.ready .any l.toArray listed=[]) :
  ∀i,i<l.length->listed.getD i false=true:=by
 intro i;induction i using Nat.strongRecOn with
 | _ i ih=>
  intro hi;cases hb:listed.getD i false
  ·exfalso;have hmem:i∈Region.ready .any l.toArray listed:=by
    rw[mem_ready];have ho:l[i]?=some l[i]:=by simp[hi]
    refine⟨by grind,l[i],by simp[hi],λe he hbd=>?_⟩;have hc:=aaB.1 hcl i (aev.2 hi);simp only[ho]at hc;cases hci:cl[i]? with
    |none=>grind
    |some c=>
     simp only[hci,aas]at hc;have hlt:e.on<i:=aaA (aaB.1 hc.1 e.on (aaG.2 ⟨e,ac0.2 ⟨by simpa using he,hbd⟩,rfl⟩));grind
   grind
  ·rfl
theorem N0(hsz:listed.size=l.length)(hd:Lb l listed){o:Oper}(ho:l[i]?=some o)(hp:∀j∈tE o,listed.getD j false=true) :
  Lb l (listed.setIfInBounds i true):=by
 have hlt:i<l.length:=(abC.1 ho).1;intro k o' ho' hk j hj;rw[BD (by omega)]at hk|-;by_cases hki:k=i
 ·grind
 ·have:Nat.beq k i=false:=by
   cases hb:Nat.beq k i
   ·rfl
   simp_all
  rw[this]at hk;rw[hd k o' ho' (by simpa using hk) j hj];simp
def amk(l:List Oper)(cl:List (List Nat))(p:Nat):Bool:=(List.range l.length).all λi=>Nat.blt i p||match cl[i]? with|some c=>(List.range i).all λj=>cq j c|none=>false
theorem aat{k:Nat}(hk:k<l.length):l.drop k=l[k]::l.drop (k+1):=by simp_all
theorem Zt(hcl:Gs l cl=true){p:Nat}(hseq:amk l cl p=true)(hpl:p<=l.length)
  (J:Array Bool->Act->World->Prop) (hJend:∀listed a w,J listed a w->(∀i,i<p->listed.getD i false=true)->(∀i,p<=i->listed.getD i false=false)->wpList P l.toArray Q (l.drop p) a w)
  (hJ:∀listed a w i o,J listed a w->Lb l listed->listed.size=l.length->i<p->l[i]?=some o->listed.getD i false=false->(∀j∈tE o,listed.getD j false=true) ->
   wpOp P l.toArray Q i (J (listed.setIfInBounds i true)) a w) :
  ∀(fuel:Nat) (listed:Array Bool) (a:Act) (w:World),listed.size=l.length->Lb l listed->q9 (G6 listed) l.length<=fuel ->
   ((J listed a w/\∀i,p<=i->listed.getD i false=false)\/∃k,p<=k/\k<=l.length/\(∀i,listed.getD i false=decide (i<k))/\wpList P l.toArray Q (l.drop k) a w) ->
   wpAny P .any l.toArray Q fuel listed a w:=by
 intro fuel;induction fuel with
 | zero=>
  intro listed a w hsz hd hc hst;have hall:∀i,i<l.length->listed.getD i false=true:=λi hi=>by grind[G6,MQ]
  have hready:Region.ready .any l.toArray listed=[]:=by
   cases hr:Region.ready .any l.toArray listed with
   |nil=>rfl
   |cons x xs=>
    obtain⟨o,ho,hf,_⟩:=zA hsz (i:=x) (by rw[hr];simp);grind
  refine⟨hready,?_⟩;rcases hst with⟨hj,hrest⟩|⟨k,hpk,hkl,hk,hw⟩
  ·have hpe:p=l.length:=by
    rcases abL p l.length with h|h
    ·grind
    ·omega
   have:=hJend listed a w hj (λi hi=>hall i (by omega)) hrest;rw[hpe,afw]at this;exact this
  ·have hke:k=l.length:=by
    rcases abL k l.length with h|h
    ·grind
    ·omega
   rw[hke,afw]at hw;exact hw
 | succ fuel ih=>
  intro listed a w hsz hd hc hst;have hst':(J listed a w/\(∀i,p<=i->listed.getD i false=false)/\∃i,i<p/\listed.getD i false=false) \/
    ∃k,p<=k/\k<=l.length/\(∀i,listed.getD i false=decide (i<k))/\wpList P l.toArray Q (l.drop k) a w:=by
   grind
  have hdec:∀i,i<l.length->listed.getD i false=false->q9 (G6 (listed.setIfInBounds i true)) l.length<=fuel:=by intro i hi hf;have:=RV (f:=G6 listed) (g:=G6 (listed.setIfInBounds i true)) (i:=i) (by simp[G6,hf]) (by simp only[G6];rw[BD (by omega)];simp) hi (λj _ hne=>by simp only[G6];rw[getD_set_ne false (Ne.symm hne)]);omega
  rcases hst' with⟨hj,hrest,i0,hi0,hf0⟩|⟨k,hpk,hkl,hk,hw⟩
  ·refine⟨λhr=>absurd (Et hcl hsz hr i0 (by omega)) (by rw[hf0];simp),λi hi=>?_⟩;obtain⟨o,ho,hf,hp⟩:=zA hsz hi;have hlt:i<l.length:=(abC.1 ho).1;have hip:i<p:=by
    rcases abL i p with h|h
    ·exact h
    ·exfalso;have hs:=aaB.1 hseq i (aev.2 hlt);have:Nat.blt i p=false:=by
      cases hb:Nat.blt i p
      ·rfl
      ·have:=aaA hb;omega
     rw[this]at hs;cases hci:cl[i]? with
     |none=>grind
     |some c=>
      simp only[hci,akq]at hs;have hm:=aaB.1 hs i0 (aev.2 (by omega));grind[xG,mem_iff]
   refine wpOp_mono (λa' w' hj'=>ih _ a' w' (by grind) (N0 hsz hd ho hp) (hdec i hlt hf) (.inl ⟨hj',λj hpj=>?_⟩)) (hJ listed a w i o hj hd hsz hip ho hf hp);rw[getD_set_ne false (by omega)];grind
  ·refine⟨λhr=>?_,λi hi=>?_⟩
   ·have hke:k=l.length:=by
     rcases abL k l.length with h|h
     ·have:=Et hcl hsz hr k h;grind
     ·omega
    rw[hke,afw]at hw;exact hw
   ·obtain⟨o,ho,hf,hp⟩:=zA hsz hi;have hlt:i<l.length:=(abC.1 ho).1;have hik:i=k:=by
     rw[hk i]at hf;have hge:k<=i:=by simpa using hf
     rcases abL k i with h|h
     ·exfalso;have hs:=aaB.1 hseq i (aev.2 hlt);have:Nat.blt i p=false:=by
       cases hb:Nat.blt i p
       ·rfl
       ·have:=aaA hb;omega
      rw[this]at hs;cases hci:cl[i]? with
      |none=>grind
      |some c=>
       simp only[hci,akq]at hs;have hm:=aaB.1 hs k (aev.2 h);have:=xG hcl hd i o c ho hci hp k (mem_iff.1 hm);grind
     ·omega
    subst hik;rw[aat hlt]at hw;have hoe:l[i]=o:=by grind
    rw[hoe]at hw;have hnext:∀a' w',wpList P l.toArray Q (l.drop (i+1)) a' w'->wpAny P .any l.toArray Q fuel (listed.setIfInBounds i true) a' w':=λa' w' hw' =>
     ih _ a' w' (by grind) (N0 hsz hd ho hp) (hdec i hlt hf) (.inr ⟨i+1,by omega,by omega,λj=>by
      rw[BD (by omega),hk j];by_cases hj:j=i
      ·subst hj;simp
      grind[Nat.beq,absurd,Nat.eq_of_beq_eq_true],hw'⟩)
    grind[wpOp,wpList,id,Oper.wp_mono]
theorem ZO{ρ:dr}{a:Act}(ha:Rel n ρ a){j d:Nat}{o:Oper}(ho:l[j]?=some o)(hd:o.dst=some d)(hlt:Nat.blt d n=true) :
  yielded l.toArray a.tmps j=match ρ d with|.bool b=>some b|_=>none:=by
 have hlt':d<a.tmps.size:=by rw[ha.size];simp_all
 have hv:=ha.val d;simp only[yielded,List.getElem?_toArray,ho,f7,hd];simp only[afG,Array.getElem?_eq_getElem hlt',afy]at hv|-;grind
theorem abQ{c:bu}:Stp [] w c { w with drawn:=w.drawn+1} c:=.mk0 (aaT _) (λ_ _=>rfl) (λ_ _ _=>rfl) (λ_ h1 h2=>absurd (Nat.lt_of_le_of_lt h1 h2) (Nat.lt_irrefl _)) ⟨rfl,rfl⟩
theorem A5(k i:Nat):(Array.replicate k false).getD i false=false:=by rw[afG,als];split<;>rfl
theorem Zi(f:Nat->Bool):∀k,q9 f k<=k
 |0=>by simp[q9]
 |k+1=>by have:=Zi f k;simp only[q9];grind
end
section
variable {P:Program} {n:Nat} {Q:Exit->Act->World->Prop} {ρ:dr} {L:List HA} {o:Oper}
theorem all_cons{es:List OSp}{s:OSp}{ss:List OSp}{c:List Nat}{cs:List (List Nat)}{B:Nat->List HA}(Li:List HA)(hB:B i=Li)(h1:Xk n o s)(h3:A8 o=true)(h4:s.pre.all (λj=>cq j c)=true)(h5:Ga o es s.pre=true)(h5':acx s es=true)
  (h6:aeX n o s es c) (h7:s.ex=true->Ob P o s es s.pre ρ Li) (h:BO P n es ρ B l ss cs (i+1)):BO P n es ρ B (o::l) (s::ss) (c::cs) i:=⟨⟨h1,h3,h4,h5,h5',h6,hB▸h7⟩,h⟩
end
abbrev tA(n:Nat)(k:IntKind):Ty:=.arr n Int 0 (Value.int k) (λ_=>rfl)
def ta(n:Nat)(x y:List Int):Bool:=(List.range n).all λi=>x.getD i 0==y.getD i 0
section
variable {P:Program} {n:Nat} {ρ:dr} {L:List HA} {o:Oper}
def Uy(P:Program):List Field->List (Nat×Nat)->Prop
 |[],[]=>True
 |f::fs,p::ps=>f.offset=p.1/\(∃by_ z,TI P f.type p.2 by_ z)/\Uy P fs ps
 |_,_=>False
theorem GE{sz:Nat}{places:List (Nat×Nat)}{cells:List Value}
  (ho:o.op=.build t parts) (ht:P.underlying t=some (.struct fs)) (hi:TI P t sz by_ z) (hpl:Uy P fs.toList places)
  (hp:parts.toList.map (λp=>(p.1,(aS ρ p.2).cells.toList))=vals) (hfill:qz (λj=>places[j]?) z.cells.toList vals=some cells):bh P ρ o L (.agg cells.toArray):=λev w c he _=>by
 subst he;have htihi:=hi;clear hi;obtain⟨inf,hi,hz,_,_⟩:=htihi.get;have hm:∀(l:List Field) (ps:List (Nat×Nat)),Uy P l ps->(l.mapM (λf=>do pure (f.offset,<-sizeOf f.type):Field->Sem (Nat×Nat))).run P w=.ok ps w:=by
  intro l;induction l with
  |nil=>intro ps h;cases ps<;>first|rfl|exact h.elim
  | cons f l ih=>
   intro ps h;cases ps with
   |nil=>exact h.elim
   |cons p ps=>
    obtain⟨h1,⟨_,_,h2⟩,h3⟩:=h;obtain⟨i,hi,_,hs',_⟩:=h2.get;have hs:(sizeOf f.type).run P w=.ok p.2 w:=by simp[sizeOf,typeInfo,hi,hs']
    simp only[alU,Sem.run_bind,hs,Result.andThen_ok,Sem.run_pure,ih ps h3,h1]
 have hpl':(fs.mapM (λf=>do pure (f.offset,<-sizeOf f.type):Field->Sem (Nat×Nat))).run P w=.ok places.toArray w:=by rw[aln,Sem.run_map,hm _ _ hpl];rfl
 have hfill':=Ao (λj=>places.toArray[j]?) parts ρ vals z.cells.toList cells hp (by grind);simp only[Array.toArray_toList]at hfill';simp only[execOp,ho,Instr.build,Sem.run_bind,zeroValue,typeInfo,run_program,Result.andThen_ok,hi,hz,Sem.run_pure,run_underlying ht,hpl'];simp_all
theorem H0{e:TypeId}{k:Nat}{sz esz eby:Nat}{ez:Value}{cells:List Value}
  (ho:o.op=.build t parts) (ht:P.underlying t=some (.array k e)) (hi:TI P t sz by_ z) (he:TI P e esz eby ez)
  (hp:parts.toList.map (λp=>(p.1,(aS ρ p.2).cells.toList))=vals) (hfill:qz (λj=>some (j*esz,esz)) z.cells.toList vals=some cells):bh P ρ o L (.agg cells.toArray):=λev w c hev _=>by
 subst hev;have htihi:=hi;clear hi;obtain⟨inf,hi,hz,_,_⟩:=htihi.get;have htihe:=he;clear he;obtain⟨einf,he,_,rfl,_⟩:=htihe.get;have hfill':=Ao (λj=>some (j*einf.size,einf.size)) parts ρ vals z.cells.toList cells hp hfill;simp only[Array.toArray_toList]at hfill';simp only[execOp,ho,Instr.build,Sem.run_bind,zeroValue,typeInfo,run_program,Result.andThen_ok,hi,hz,Sem.run_pure,run_underlying ht,sizeOf,he];simp_all
def DP(tmps:Array Value):ResultVar->Sem Value
 |.tmp t=>pure (tmps.getD t undef)
 |.cell x t=>do loadVar t (<-asAddr (tmps.getD x undef))
def Id(P:Program)(ρ:dr)(L:List HA)(r:ResultVar)(v:Value):Prop:=∀(a:Act) (w:World) (c:bu),(∀t,a.tmps.getD t undef=ρ t)->aq w c L->(DP a.tmps r).run P w=.ok v w
theorem apS{t:Tmp}{v:Value}(h:ρ t=v):Id P ρ L (.tmp t) v:=λa w _ ha _=>by simp only[DP,ha,h];rfl
theorem adR{x:Tmp}{b:Nat}{v:Value}(k:Nat)(hk:L[k]?=some (.box i b cs))(ht:P.underlying t=some d)
  (hd:lR d=false) (hx:ρ x=.pointer (some ⟨b,0,none⟩)) (hv:cs[0]?=some v):Id P ρ L (.cell x t) v:=λa w c ha hL=>by
 obtain⟨⟨ty,hb⟩,_⟩:=hL.at hk;simp only[DP,ha,hx];simp[asAddr,loadVar,mj ht hd,na hb,hv,Result.andThen]
theorem af6{x:Tmp}{b:Nat}{sz:Nat}(k:Nat)(hk:L[k]?=some (.box i b cs))(ht:P.underlying t=some d)
  (hd:lR d=true) (hi:TI P t sz by_ z) (hx:ρ x=.pointer (some ⟨b,0,none⟩)) (hl:Nat.beq cs.length sz=true):Id P ρ L (.cell x t) (.agg cs.toArray):=λa w c ha hL=>by
 have htihi:=hi;clear hi;obtain⟨inf,hi,_,rfl,_⟩:=htihi.get;obtain⟨⟨ty,hb⟩,_⟩:=hL.at hk;have hl':=amb hl;have hload:=run_loadCells_list (P:=P) (w:=w) ⟨b,0,none⟩ cs (λj v hv=>by rw[fg,na hb];simpa using hv);rw[hl']at hload;simp only[DP,ha,hx];simp[asAddr,loadVar,y9 ht hd,sizeOf,typeInfo,hi,hload,Result.andThen]
def XP(P:Program)(ρ:dr)(L:List HA):List ResultVar->List Value->Prop
 |[],[]=>True
 |r::rs,v::vs=>Id P ρ L r v/\XP P ρ L rs vs
 |_,_=>False
theorem Nh{a:Act}{w:World}{c:bu}(ha:∀t,a.tmps.getD t undef=ρ t)(hL:aq w c L):∀{rs:List ResultVar} {vs:List Value},XP P ρ L rs vs->(rs.mapM (DP a.tmps)).run P w=.ok vs w
 |[],[],_=>rfl
 |r::rs,v::vs,⟨h1,h2⟩=>by simp only[alU,Sem.run_bind,h1 a w c ha hL,Result.andThen_ok,Nh ha hL h2,Sem.run_pure]
 |[],_::_,h=>h.elim
 |_::_,[],h=>h.elim
theorem Cg{fn:Func}{rs:List ResultVar}(h:fn.results=rs.toArray){a:Act}{c:bu}(ha:∀t,a.tmps.getD t undef=ρ t)(hL:aq w c L)(hr:XP P ρ L rs vs) :
  (results fn a.tmps).run P w=.ok (if h:vs.toArray.size=1 then vs.toArray[0]else .tuple vs.toArray) w:=by
 have he:results fn a.tmps=(do let vs<-fn.results.mapM (DP a.tmps);pure (if h:vs.size=1 then vs[0]else .tuple vs)):=by rfl
 rw[he,h];simp only[Sem.run_bind];rw[show(Array.mapM (DP a.tmps) rs.toArray).run P w=.ok vs.toArray w by rw[aln,Sem.run_map];simp only[Nh ha hL hr];rfl];rfl
theorem DU(d:Nat){e:TypeId}{k:IntKind}{i:TypeInfo}(x y:List Int)(ht:P.underlying t=some (.array m e))(he:P.underlying e=some (.int k))(hi:P.info? e=some i)(hs:i.size=1) :
  (Op.equalIn (d+2) t (.agg ((tA m k).fill x ()).toArray) (.agg ((tA m k).fill y ()).toArray)).run P w=.ok (ta m x y) w:=by
 rw[run_equalIn_array (P:=P) w (d+1) _ _ ht hi];have hc:P.cellsOf e=1:=by simp[Program.cellsOf,hi,hs]
 have gen:∀is:List Nat,(∀j∈is,j<m)->(Op.eqItems (d+1) e (P.cellsOf e) ((tA m k).fill x ()).toArray ((tA m k).fill y ()).toArray is).run P w=.ok (is.all λi=>x.getD i 0==y.getD i 0) w:=by
  intro is;induction is with
  |nil=>intro _;rfl
  |cons j is ih=>
   intro hj;have hjm:j<m:=hj j (by simp);have hx:(part e ((tA m k).fill x ()).toArray (j*P.cellsOf e)).run P w=.ok (.int k (x.getD j 0)) w:=by simp[part,mj he rfl,hc,Ty.fill,hjm,Result.andThen]
   have hy:(part e ((tA m k).fill y ()).toArray (j*P.cellsOf e)).run P w=.ok (.int k (y.getD j 0)) w:=by simp[part,mj he rfl,hc,Ty.fill,hjm,Result.andThen]
   simp only[Op.eqItems,Sem.run_bind,hx,hy,Result.andThen_ok,run_equalIn_int w d e k k _ _ he,adD];have ih':=ih λj' hj'=>hj j' (by simp[hj']);cases hb:(x.getD j 0==y.getD j 0)
   ·simp
   ·simp[ih']
 exact gen _ λj hj=>by simpa using hj
theorem aam{e:TypeId}{a b:Operand}{k:IntKind}{x y:List Int}(ho:o.op=.binOp .eql t a b t')(ht:P.underlying t=some (.array m e))(he:P.underlying e=some (.int k))(hi:TI P e 1 by_ z)
  (hg:P.eqGuardType P.depth t=false) (hx:aS ρ a=.agg ((tA m k).fill x ()).toArray) (hy:aS ρ b=.agg ((tA m k).fill y ()).toArray):bh P ρ o L (.bool (ta m x y)):=λev w c hev _=>by
 subst hev;have htihi:=hi;clear hi;obtain⟨i,hi,_,hs,_⟩:=htihi.get;have h1:(eqGuard .eql t a b (.agg ((tA m k).fill x ()).toArray) (.agg ((tA m k).fill y ()).toArray)).run P w=.ok () w:=run_eqGuard_agg w .eql t a b _ _ hg;have h2:(binOp .eql t (.agg ((tA m k).fill x ()).toArray) (.agg ((tA m k).fill y ()).toArray)).run P w=.ok (.bool (ta m x y)) w:=by rw[run_eql_struct,DU 9998 x y ht he hi hs];rfl
 grind[execOp,Sem.run_bind,Result.andThen_ok,Sem.run_pure]
theorem aeE{x:Operand}{f:Nat}{v:Value}(ho:o.op=.field t x f)(ht:P.underlying t=some (.struct fs))(hf:fs[f]?=some fd)
  (hu:P.underlying fd.type=some d) (hd:lR d=false) (hx:aS ρ x=.agg cs.toArray) (hv:cs[fd.offset]?=some v):bh P ρ o L v:=λev w c he _=>by
 subst he;simp[execOp,ho,hx,Instr.field,run_underlying ht,hf,asAgg,part,mj hu hd,hv,Result.andThen]
theorem aeb{x:Operand}{f:Nat}{sz:Nat}(ho:o.op=.field t x f)(ht:P.underlying t=some (.struct fs))(hf:fs[f]?=some fd)
  (hu:P.underlying fd.type=some d) (hd:lR d=true) (hi:TI P fd.type sz by_ z) (hx:aS ρ x=.agg cs.toArray) (hv:(cs.drop fd.offset).take sz=cs') :
  bh P ρ o L (.agg cs'.toArray):=λev w c he _=>by
 subst he;have htihi:=hi;clear hi;obtain⟨inf,hi,_,rfl,_⟩:=htihi.get;simp[execOp,ho,hx,Instr.field,run_underlying ht,hf,asAgg,part,y9 hu hd,sizeOf,typeInfo,hi,hv,Result.andThen]
abbrev ae(n:Int):Int:=IntKind.i64.wrap n
def aH(m k b:Nat):Bool:=decide ((m+k)*b<=140737488355328/\m+k<=maxLen)
def af{α:Type}(b:Bool)(m:Option α):Option α:=bif b then m else none
theorem NM{b:Bool}{m:Option α}{r:α}(h:af b m=some r):b=true/\m=some r:=by
 cases b
 ·cases h
 ·exact⟨rfl,h⟩
end
end Go.Sm
