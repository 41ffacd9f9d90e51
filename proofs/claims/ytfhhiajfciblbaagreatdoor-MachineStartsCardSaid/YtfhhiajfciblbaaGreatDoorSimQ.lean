/-
  Pointers into rows, told by the row's header and an offset; stores into rows of the call's own; slices of slices. Nothing of a program is named here; no condition.
-/
import Derived.Laws.IdiomCopy
import Derived.Test.YtfhhiajfciblbaaGreatDoorSimG
import Derived.WalkSpells
import Derived.WideMake
import Derived.Lib.AppendStr
import Derived.Laws.Runes
namespace Go.Sm
def dP (h:Hd) (off:Nat):Addr:=match h.a with
 | some a=>⟨a.block,a.off+off,none⟩
 | none=>⟨0,off,none⟩
theorem tQ (h:Hd) (x y:Nat) (b o:Nat) (hp:dP h x=⟨b,o,none⟩):dP h (x+y)=⟨b,o+y,none⟩:=by
 unfold dP at hp ⊢
 split at hp <;> rename_i ha <;> simp only [Addr.mk.injEq] at hp <;> simp [ha] <;> omega
section
variable {P:Program} {ρ:cF} {L:List HA} {o:Oper} {N:Nat}
def acG (w:World) (c:bd) (t:Ty) (K:List Nat) (x:t.den) (p:Addr):Prop:=∃ y b off arr ty fz,p=⟨b,off,none⟩∧w.heap[b]? = some (.cells arr ty fz)∧off+t.sz≤arr.size ∧
 (arr.toList.drop off).take t.sz=t.fill x y∧bA w (fun b=>c b∈K) t x y
def El (L:List HA) (t:Ty) (K:List Nat) (v:t.den) (h:Hd) (x:Nat):Prop:=∀ w c,ai w c L→acG w c t K v (dP h x)
theorem G9 {ty:Ty} {K:List Nat} {xs:List ty.den} {h:Hd} {i:Int} {v:ty.den} {sz:Nat} (j:Nat) (hj:L[j]? = some (.rep ty K xs h)) (hs:ty.sz=sz) (hv:ac xs i=some v) :
  El L ty K v h (i.toNat * sz):=fun w c hL=>by
 subst hs
 obtain ⟨ys,hr,hn,hle,hm,hc⟩:=hL.at hj
 obtain ⟨h0,hget,hlt⟩:=lg hv
 obtain ⟨y,hy,hry⟩:=hr.get hget
 rcases hc with ⟨ha',hcap⟩ | ⟨b,off,arr,tt,fz,ha',hS,hb,hfit,hcells⟩
 ·omega
 ·refine ⟨y,b,off+i.toNat * ty.sz,arr,tt,fz,by simp [dP,ha'],hb,?_,?_,hry⟩
  ·have:(i.toNat+1) * ty.sz≤h.cap * ty.sz:=Nat.mul_le_mul_right _ (by omega)
   rw [Nat.add_mul] at this
   omega
  ·rw [← px ty hget hy,← hcells,List.drop_take,List.drop_drop,List.take_take,Nat.min_eq_left]
   have:(i.toNat+1) * ty.sz≤xs.length * ty.sz:=Nat.mul_le_mul_right _ hlt
   rw [Nat.add_mul] at this
   omega
theorem adD {ty:Ty} {e:TypeId} {ci:Nat} {K:List Nat} {xs:List ty.den} {h:Hd} {i:Int} {v:ty.den} {sz:Nat} (j:Nat) (hj:L[j]? = some (.own ty e ci K xs h)) (hs:ty.sz=sz) (hv:ac xs i=some v) :
  El L ty K v h (i.toNat * sz):=fun w c hL=>by
 subst hs
 obtain ⟨ys,hr,hown,hcol⟩:=hL.at hj
 obtain ⟨h0,hget,hlt⟩:=lg hv
 obtain ⟨y,hy,hry⟩:=hr.get hget
 have hlen:=hown.1
 rcases hown.2 with ⟨_,hn0⟩ | ⟨g,cap,cur,tt,fz,hval',hg,_,hnc,hcm,hcur,htake⟩
 ·omega
 ·have hha:h.a=some ⟨g,0,none⟩:=by
   have:=hval'; simp only [Hd.val,Value.slice.injEq] at this; exact this.1
  refine ⟨y,g,i.toNat * ty.sz,cur,tt,fz,by simp [dP,hha],hg,?_,?_,hry⟩
  ·have:(i.toNat+1) * ty.sz≤cap * ty.sz:=Nat.mul_le_mul_right _ (by omega)
   rw [Nat.add_mul] at this
   omega
  ·rw [← px ty hget hy,← htake,List.drop_take,List.take_take,Nat.min_eq_left]
   have:(i.toNat+1) * ty.sz≤xs.length * ty.sz:=Nat.mul_le_mul_right _ hlt
   rw [Nat.add_mul] at this
   omega
theorem Fl {t u:Ty} {K:List Nat} {v:t.den} {v' : u.den} {h:Hd} {x fo:Nat} (pth:Pth t u) (hE:El L t K v h x) (hv:pth.get v=v') (ho:pth.off=fo):El L u K v' h (x+fo):=fun w c hL=>by
 subst hv ho
 obtain ⟨y,b,off,arr,tt,fz,hp,hb,hle,hcs,hr⟩:=hE w c hL
 have hl:=pth.le
 refine ⟨pth.refs y,b,off+pth.off,arr,tt,fz,tQ h x _ b off hp,hb,by omega,?_,pth.rep v y hr⟩
 rw [← pth.cells v y,← hcs,List.drop_take,List.drop_drop,List.take_take,Nat.min_eq_left (by omega)]
theorem abp {n:Nat} {α:Type} {d:α} {f:α→Value} {hf : ∀ x,(f x).oneCell' = true} {K:List Nat} {xs:List α} {h:Hd} {x:Nat} {i:Int} (hE:El L (.arr n α d f hf) K xs h x) (h0:decide (0≤i∧i<n)=true) :
  El L (.one α f hf) K (xs.getD i.toNat d) h (x+i.toNat):=fun w c hL=>by
 obtain ⟨y,b,off,arr,ty,fz,hp,hb,hle,hcs,hr⟩:=hE w c hL
 have hi0:0≤i∧i<n:=of_decide_eq_true h0
 have hlt:i.toNat<n:=by omega
 refine ⟨(),b,off+i.toNat,arr,ty,fz,tQ h x _ b off hp,hb,by simp [Ty.sz] at hle ⊢; omega,?_,trivial⟩
 have h1:((arr.toList.drop off).take n)[i.toNat]? = some (f (xs.getD i.toNat d)):=by
  rw [show (arr.toList.drop off).take n=(Ty.arr n α d f hf).fill xs y from hcs]
  simp [Ty.fill,hlt]
 simp only [List.getElem?_take,if_pos hlt,List.getElem?_drop] at h1
 rw [show (Ty.one α f hf).sz=1 from rfl,List.take_one]
 simp only [Ty.fill]
 rw [List.head?_drop,h1]
 rfl
theorem ad2 {t e:TypeId} {x ix:Operand} {k:IntKind} {i:Int} {ty:Ty} {K:List Nat} {xs:List ty.den} {h:Hd} {v:ty.den} {sz by_:Nat} {z:Value} (j:Nat) (hj:L[j]? = some (.rep ty K xs h)) (ho:o.op = .indexAddr t x ix)
  (ht:P.underlying t=some (.slice e)) (hi:TI P e sz by_ z) (hx:aK ρ x=h.val) (hix:aK ρ ix = .int k i) (hv:ac xs i=some v) :
  aY P ρ o L (.pointer (some (dP h (i.toNat * sz)))):=fun ev w c he hL=>by
 subst he
 have htihi:=hi; clear hi
 obtain ⟨inf,hi,_,rfl,_⟩:=htihi.get
 obtain ⟨ys,hr,hn,hle,hm,hc⟩:=hL.at hj
 obtain ⟨h0,hget,hlt⟩:=lg hv
 rcases hc with ⟨ha',hcap⟩ | ⟨b,off,arr,tt,fz,ha',hS,hb,hfit,hcells⟩
 ·omega
 ·have hi0:0≤i∧i<(h.n:Int):=⟨h0,by omega⟩
  simp [execOp,ho,hx,hix,Instr.indexAt,asIntOf,run_underlying ht,sizeOf,typeInfo,hi,ha',hi0,d6,Result.andThen,dP]
theorem sE {t:TypeId} {x:Operand} {d:TypeDesc} {α:Type} {f:α→Value} {hf : ∀ x,(f x).oneCell' = true} {K:List Nat} {h:Hd} {X:Nat} {v:α} (hE:El L (.one α f hf) K v h X) (ho:o.op = .load t x)
  (ht:P.underlying t=some d) (hd:jx d=false) (hx:aK ρ x = .pointer (some (dP h X))):aY P ρ o L (f v):=fun ev w c he hL=>
 by
 obtain ⟨y,b,off,arr,ty,fz,hp,hb,hle,hcs,hr⟩:=hE w c hL
 exact Lu (L:=.elem (.one α f hf) [c b] v (dP h X)::L) 0 rfl ho ht hd hx ev w c he (ai.cons ⟨y,b,off,arr,ty,fz,hp,by simp,hb,hle,hcs,trivial⟩ hL)
theorem vg {t:TypeId} {x:Operand} {d:TypeDesc} {ty:Ty} {K:List Nat} {h:Hd} {X:Nat} {xs:List ty.den} (hE:El L (.slice ty) K xs h X) (ho:o.op = .load t x)
  (ht:P.underlying t=some d) (hd:jx d=false) (hx:aK ρ x = .pointer (some (dP h X))):cz P ρ o L [] Hd.val (fun h=>[.rep ty K xs h]):=tJ fun ev w c ha hL=>by
 obtain ⟨y,b,off,arr,tt,fz,hp,hb,hle,hcs,hr⟩:=hE w c hL
 rw [hp] at hx
 have hc:w.cell? ⟨b,off,none⟩=some (Hd.val y):=by
  rw [kn hb]
  have:=congrArg (·[0]?) hcs
  simpa [Ty.fill,List.getElem?_take] using this
 exact ⟨y,by simp [execOp,ho,ha,hx,sa ht hd hc],ai.cons hr (ai.nil _ _)⟩
theorem dV {t:TypeId} {x:Operand} {d:TypeDesc} {ty:Ty} {K:List Nat} {h:Hd} {X:Nat} {v:ty.den} {sz by_:Nat} {z:Value} (hE:El L ty K v h X) (ho:o.op = .load t x)
  (ht:P.underlying t=some d) (hd:jx d=true) (hi:TI P t sz by_ z) (hs:sz=ty.sz) (hx:aK ρ x = .pointer (some (dP h X))) :
  cz P ρ o L [] (fun y:ty.Refs=>.agg (ty.fill v y).toArray) (fun y=>facts ty K v y):=tJ fun ev w c ha hL=>by
 have htihi:=hi; clear hi
 obtain ⟨i,hi,_,rfl,_⟩:=htihi.get
 obtain ⟨y,b,off,arr,tt,fz,hp,hb,hle,hcs,hr⟩:=hE w c hL
 rw [hp] at hx
 refine ⟨y,?_,nz ty v y hr⟩
 simp [execOp,ho,ha,hx,rX ht hd hi hb (off:=off) (cs:=ty.fill v y) (by rw [hs]; exact hcs) (by rw [hs]; exact ty.fill_length v y)]
def mi (L:List HA) (K:List Nat) (t:Ty) (v:t.den) (off:Nat) (new:List Value) (v' : t.den):Prop:=∀ w c,ai w c L→∀ r,bA w (fun b=>c b∈K) t v r →
 ∃ r',bA w (fun b=>c b∈K) t v' r' ∧ off+new.length≤t.sz∧(t.fill v r).take off++new++(t.fill v r).drop (off+new.length)=t.fill v' r' ∧ ∀ u∈new,u.oneCell' = true
def mP {α:Type} (n:Nat) (d:α) (xs:List α) (i:Nat) (x:α):List α:=(List.range n).map fun j=>if j=i then x else xs.getD j d
theorem Z4 {n:Nat} {α:Type} {d:α} {f:α→Value} {hf : ∀ x,(f x).oneCell' = true} {K:List Nat} {v:List α} {x:α} {i:Int} (h0:decide (0≤i∧i<n)=true) :
  mi L K (.arr n α d f hf) v i.toNat [f x] (mP n d v i.toNat x):=fun _ _ _ _ _=>by
 have hi0:0≤i∧i<n:=of_decide_eq_true h0
 have hlt:i.toNat<n:=by omega
 refine ⟨(),trivial,by simp [Ty.sz]; omega,?_,by simpa using hf x⟩
 apply List.ext_getElem?
 intro j
 simp only [Ty.fill,mP,List.length_cons,List.length_nil,Nat.zero_add]
 simp only [List.getElem?_append,List.length_append,List.length_take,List.length_map,List.length_range,List.length_cons,List.length_nil]
 rw [Nat.min_eq_left (by omega)]
 by_cases h1:j<i.toNat
 ·simp [h1,show j<i.toNat+1 by omega,show j<n by omega,show j≠i.toNat by omega,List.getElem?_take]
 ·by_cases h2:j=i.toNat
  ·subst h2; simp [hlt]
  ·simp only [h1,show ¬ j<i.toNat+(0+1) by omega,if_false,List.getElem?_drop,show i.toNat+1+(j - (i.toNat+(0+1)))=j by omega]
   by_cases h3:j<n
   ·simp [h3,h2]
   ·simp [h3]
theorem ZU {a b:Ty} {K:List Nat} {v:a.den×b.den} {off:Nat} {new:List Value} {x:a.den} (hs:mi L K a v.1 off new x):mi L K (.pair a b) v off new (x,v.2):=fun w c hL r hr=>by
 obtain ⟨r',h1,h2,h3,h4⟩:=hs w c hL r.1 hr.1
 refine ⟨(r',r.2),⟨h1,hr.2⟩,by simp [Ty.sz]; omega,?_,h4⟩
 have hl:=a.fill_length v.1 r.1
 simp only [Ty.fill]
 rw [← h3,List.take_append,List.drop_append,show off - (a.fill v.1 r.1).length=0 by omega,show off+new.length - (a.fill v.1 r.1).length=0 by omega]
 simp
theorem aaq {a b:Ty} {K:List Nat} {v:a.den×b.den} {off off' : Nat} {new:List Value} {x:b.den} (hs:mi L K b v.2 off new x) (ho:a.sz+off=off'):mi L K (.pair a b) v off' new (v.1,x):=fun w c hL r hr=>by
 subst ho
 obtain ⟨r',h1,h2,h3,h4⟩:=hs w c hL r.2 hr.2
 refine ⟨(r.1,r'),⟨hr.1,h1⟩,by simp [Ty.sz]; omega,?_,h4⟩
 have hl:=a.fill_length v.1 r.1
 simp only [Ty.fill]
 rw [← h3,List.take_append,List.drop_append,List.take_of_length_le (l:=a.fill v.1 r.1) (by omega),List.drop_eq_nil_of_le (as:=a.fill v.1 r.1) (by omega),show a.sz+off - (a.fill v.1 r.1).length=off by omega,
  show a.sz+off+new.length - (a.fill v.1 r.1).length=off+new.length by omega]
 simp
theorem adI {K:List Nat} {v:Nd} {n:List Value} {off:Nat} {z:Ty.nodeT.den} (h:mi L K Ty.nodeT v.tup off n z):mi L K .node v off n (Nd.of z):=fun w c hL r hr=>by
 obtain ⟨r',p1,q1,e1,o1⟩:=h w c hL ((),(),(),r) ⟨trivial,trivial,trivial,lQ.1 hr⟩
 exact ⟨r'.2.2.2,lQ.2 p1.2.2.2,q1,e1,o1⟩
theorem xm (t:Ty) : ∀ {xs:List t.den} {ys:List t.Refs} {i:Nat} {x x' : t.den} {y y' : t.Refs} {off:Nat} {new:List Value},xs.length=ys.length→xs[i]? = some x→ys[i]? = some y →
  off+new.length≤t.sz→(t.fill x y).take off++new++(t.fill x y).drop (off+new.length)=t.fill x' y' →
  (cellsOf t xs ys).take (i * t.sz+off)++new++(cellsOf t xs ys).drop (i * t.sz+off+new.length)=cellsOf t (xs.set i x') (ys.set i y')
 | a::xs,b::ys,0,x,x',y,y',off,new,hl,hx,hy,ho,hf=>by
  simp at hx hy; subst hx hy
  have f:=t.fill_length a b
  simp only [List.set_cons_zero,cellsOf,← hf]
  rw [show 0 * t.sz=0 by omega,Nat.zero_add,List.take_append,List.drop_append,show off - (t.fill a b).length=0 by omega,show off+new.length - (t.fill a b).length=0 by omega]
  simp
 | a::xs,b::ys,i+1,x,x',y,y',off,new,hl,hx,hy,ho,hf=>by
  simp at hx hy
  have f:=t.fill_length a b
  have ih:=xm t (xs:=xs) (ys:=ys) (i:=i) (by simpa using hl) hx hy ho hf
  simp only [List.set_cons_succ,cellsOf,← ih]
  have e:(i+1) * t.sz=(t.fill a b).length+i * t.sz:=by rw [Nat.add_mul,f]; omega
  rw [e,Nat.add_assoc,List.take_append,List.drop_append,List.take_of_length_le (l:=t.fill a b) (by omega),List.drop_eq_nil_of_le (as:=t.fill a b) (by omega),Nat.add_sub_cancel_left,
   show (t.fill a b).length+(i * t.sz+off)+new.length - (t.fill a b).length=i * t.sz+off+new.length by omega]
  simp
 | [],_,_,_,_,_,_,_,_,_,hx,_,_,_=>by simp at hx
 | _::_,[],_,_,_,_,_,_,_,hl,_,_,_,_=>by simp at hl
theorem vW (g:Nat) (t:TypeId) (fz:Nat×Nat) : ∀ (vs:List Value) (o:Nat) (cur:Array Value) (w:World),w.heap[g]? = some (.cells cur t fz)→o+vs.length≤cur.size →
  w.setCells g o vs=w.setRow g (cur.toList.take o++vs++cur.toList.drop (o+vs.length)).toArray
 | [],o,cur,w,hg,_=>by
  have e:(cur.toList.take o++[]++cur.toList.drop (o+([]:List Value).length)).toArray=cur:=by simp
  rw [e,setRow_self w g cur t fz hg]; rfl
 | v::r,o,cur,w,hg,hl=>by
  simp only [List.length_cons] at hl
  show (w.setCell ⟨g,o,none⟩ v).setCells g (o+1) r=_
  rw [setCell_eq_setRow w g o cur t fz v hg,vW g t fz r (o+1) _ _ (setRow_heap w g cur _ t fz hg) (by simp; omega),setRow_setRow]
  congr 2
  have h2:=list_seg_step cur.toList o v r (by simp; omega)
  rw [Array.toList_setIfInBounds,h2]
  rfl
theorem j7 (P:Program) (g o:Nat) (t:TypeId) (fz:Nat×Nat) (vs:List Value) (cur:Array Value) (w:World) (hg:w.heap[g]? = some (.cells cur t fz)) (hfz:fz=(0,0)∨cur.size≤fz.1) (hl:o+vs.length≤cur.size) (h1 : ∀ v∈vs,v.oneCell' = true) :
  (storeCells ⟨g,o,none⟩ vs 0).run P w = .ok () (w.setRow g (cur.toList.take o++vs++cur.toList.drop (o+vs.length)).toArray):=by
 have hc : ∀ j,j<vs.length→(w.cell? ⟨g,o+0+j,none⟩).isSome=true:=fun j hj=>by
  have:o+j<cur.size:=by omega
  simp [World.cell?,hg,this]
 have hf : ∀ j,j<vs.length→w.frozen? ⟨g,o+0+j,none⟩=false:=fun j hj=>by
  obtain ⟨lo,hi'⟩:=fz
  simp only [World.frozen?,hg,Bool.and_eq_false_iff,decide_eq_false_iff_not]
  rcases hfz with h | h
  ·simp only [Prod.mk.injEq] at h; omega
  ·simp only at h; omega
 rw [run_storeCells_cells g o vs 0 w hc hf h1,Nat.add_zero,vW g t fz vs o cur w hg hl]
theorem Hh {t e:TypeId} {x y:Operand} {ty:Ty} {ci:Nat} {K:List Nat} {xs:List ty.den} {h:Hd} {i:Int} {v v' : ty.den} {sz by_ esz X off:Nat} {z val:Value} {new:List Value} (j:Nat) (hj:L[j]? = some (.own ty e ci K xs h))
  (ho:o.op = .store t x y) (hi:TI P t sz by_ z) (hx:aK ρ x = .pointer (some (dP h X))) (hX:X=i.toNat * esz+off) (hesz:esz=ty.sz) (hv:ac xs i=some v) (hy:aK ρ y=val) (hval:val.cells=new.toArray) (hl:Nat.beq new.length sz=true)
  (hs:mi L K ty v off new v') (hK:K.all (fun k=>!(Nat.beq k ci))=true):cz P ρ o L [ci] (fun _:Unit=>undef) (fun _=>[.own ty e ci K (xs.set i.toNat v') h]):=by
 intro a ev w c next Q ha hL hn
 have htihi:=hi; clear hi
 obtain ⟨inf,hi,_,rfl,_⟩:=htihi.get
 subst hesz hX
 obtain ⟨ys,hr,hown,hcol⟩:=hL.at hj
 obtain ⟨h0,hget,hlt⟩:=lg hv
 obtain ⟨y',hy',hry⟩:=hr.get hget
 obtain ⟨r',hr',hfit,hfill,hones⟩:=hs w c hL y' hry
 rcases hown.2 with ⟨_,hn0⟩ | ⟨g,cap,cur,tt,fz,hval',hg,hmark,hnc,hcm,hcur,htake⟩
 ·omega
 have hha:h.a=some ⟨g,0,none⟩:=by
  have:=hval'; simp only [Hd.val,Value.slice.injEq] at this; exact this.1
 have hpat:dP h (i.toNat * ty.sz+off)=⟨g,i.toNat * ty.sz+off,none⟩:=by simp [dP,hha]
 have hcg:c g=ci:=hcol g (by rw [hval']; rfl)
 have hlen:=hown.1
 have h1:(i.toNat+1) * ty.sz≤xs.length * ty.sz:=Nat.mul_le_mul_right _ hlt
 rw [Nat.add_mul,Nat.one_mul] at h1
 have h2:xs.length * ty.sz≤cap * ty.sz:=Nat.mul_le_mul_right _ hnc
 have hst:=j7 P g (i.toNat * ty.sz+off) tt fz new cur w hg (hmark.imp (fun h=>h.2) (fun h=>h.2)) (by omega) hones
 have hrun:(execOp ev o).run P w = .ok .skip (w.setRow g (cur.toList.take (i.toNat * ty.sz+off)++new++cur.toList.drop (i.toNat * ty.sz+off+new.length)).toArray):=by
  simp [execOp,ho,ha,hx,hpat,hy,Instr.storeAt,Instr.sureAddr,storeVar,hval,sizeOf,typeInfo,hi,Nat.eq_of_beq_eq_true hl,hst,Result.andThen]
 rw [hrun]
 have hrow:=setRow_heap w g cur (cur.toList.take (i.toNat * ty.sz+off)++new++cur.toList.drop (i.toNat * ty.sz+off+new.length)).toArray tt fz hg
 have hstp:=qG (w:=w) (c:=c) (b:=g) (i:=ci) (cs:=(cur.toList.take (i.toNat * ty.sz+off)++new++cur.toList.drop (i.toNat * ty.sz+off+new.length)).toArray) hcg
 have hno : ∀ k∈K,k∉[ci]:=fun k hk hm=>by
  have:=List.all_eq_true.1 hK k hk
  simp only [List.mem_singleton] at hm
  subst hm
  simp at this
 have hset:=(hr.set i.toNat hr').mono (bA.keep (hstp.keeps hno) ty)
 have hcl:=bU ty hr.length
 have hcs:=xm ty hr.length hget hy' hfit hfill
 refine hn () _ c hstp (ai.cons ⟨ys.set i.toNat r',hset,⟨by rw [List.length_set,bU ty (by simpa using hr.length)]; simp, .inr ⟨g,cap,_,tt,fz,by rw [List.length_set]; exact hval',hrow,hmark.imp id (fun h=>⟨h.1,?_⟩),by rw [List.length_set]; exact hnc,hcm,?_,?_⟩⟩,hcol⟩ (ai.nil _ _))
 ·have:cur.toList.length=cap * ty.sz:=by simpa using hcur
  refine Nat.le_trans ?_ h.2
  simp only [List.size_toArray,List.length_append,List.length_take,List.length_drop]; omega
 ·have:cur.toList.length=cap * ty.sz:=by simpa using hcur
  simp only [List.size_toArray,List.length_append,List.length_take,List.length_drop]; omega
 ·have hcl2:cur.toList.length=cap * ty.sz:=by simpa using hcur
  rw [List.length_set,← hcs,← htake]
  apply List.ext_getElem?
  intro m
  simp only [List.getElem?_append,List.getElem?_take,List.getElem?_drop,List.length_take,List.length_append,List.length_drop]
  rw [Nat.min_eq_left (show i.toNat * ty.sz+off≤cur.toList.length by omega),Nat.min_eq_left (show xs.length * ty.sz≤cur.toList.length by omega),Nat.min_eq_left (show i.toNat * ty.sz+off≤xs.length * ty.sz by omega)]
  by_cases c1:m<xs.length * ty.sz
  ·simp only [c1,if_true]
   by_cases c2:m<i.toNat * ty.sz+off+new.length
   ·simp only [c2,if_true]
   ·simp only [c2,if_false]
    try rw [if_pos (by omega)]
  ·simp only [c1,if_false]
   try (first | rfl | rw [if_neg (by omega),if_neg (by omega)])
theorem kK {w:World} {k:IntKind} {i:Int} {y:Nat} {code:BoundsCode} (h0:0≤i) (h1:i≤y):(Instr.sliceBound (.int k i) y code).run P w = .ok i.toNat w:=by
 simp [Instr.sliceBound,asIntOf,h0,h1,Result.andThen]
def Hd.cut (h:Hd) (lo hi sz:Nat):Hd:=⟨if h.cap=lo then h.a else h.a.map (·.add (lo * sz)),hi - lo,h.cap - lo⟩
theorem ux {t e:TypeId} {x:Operand} {lo hi:Option Operand} {klo khi:IntKind} {i j:Int} {ty:Ty} {K:List Nat} {xs:List ty.den} {h:Hd} {sz by_:Nat} {z:Value} (k:Nat) (hk:L[k]? = some (.rep ty K xs h)) (ho:o.op = .slice t x lo hi none)
  (ht:P.underlying t=some (.slice e)) (hti:TI P e sz by_ z) (hs:sz=ty.sz) (hx:aK ρ x=h.val) (hlo:lo.elim (i=0) (fun q=>aK ρ q = .int klo i)) (hhi:hi.elim (j=xs.length) (fun q=>aK ρ q = .int khi j))
  (hb:decide (0≤i∧i≤j∧j≤xs.length)=true) :
  cz P ρ o L [] (fun _:Unit=>(h.cut i.toNat j.toNat sz).val) (fun _=>[.rep ty K ((xs.take j.toNat).drop i.toNat) (h.cut i.toNat j.toNat sz)]):=tJ fun ev w c he hL=>by
 have htihi:=hti; clear hti
 obtain ⟨inf,hi',_,rfl,_⟩:=htihi.get
 obtain ⟨h0,hij,hj⟩:=of_decide_eq_true hb
 obtain ⟨ys,hr,hn,hle,hm,hc⟩:=hL.at hk
 refine ⟨(),?_,ai.cons ⟨(ys.take j.toNat).drop i.toNat,(hr.take _).drop _,?_⟩ (ai.nil _ _)⟩
 ·have b3:(Instr.sliceBounds true h.n h.cap (lo.map (aK ρ)) (hi.map (aK ρ)) none).run P w = .ok (i.toNat,j.toNat,h.cap) w:=by
   have b1 : ∀ q,hi=some q→(Instr.sliceBound (aK ρ q) h.cap .sliceAcap).run P w = .ok j.toNat w:=fun q hq=>by
    subst hq; simp at hhi; rw [hhi]; exact kK (by omega) (by omega)
   have b2 : ∀ q,lo=some q→(Instr.sliceBound (aK ρ q) j.toNat .sliceB).run P w = .ok i.toNat w:=fun q hq=>by
    subst hq; simp at hlo; rw [hlo]; exact kK h0 (by omega)
   cases hi with
   | none=>
    simp at hhi; subst hhi
    cases lo with
    | none=>simp at hlo; subst hlo; simp [Instr.sliceBounds,hn]
    | some q=>have:=b2 q rfl; simp only [Int.toNat_natCast] at this; simp [Instr.sliceBounds,hn,this,Result.andThen]
   | some q' =>
    have h1:=b1 q' rfl
    cases lo with
    | none=>simp at hlo; subst hlo; simp [Instr.sliceBounds,h1,Result.andThen]
    | some q=>simp [Instr.sliceBounds,h1,b2 q rfl,Result.andThen]
  have:(Instr.slice t h.val (lo.map (aK ρ)) (hi.map (aK ρ)) none).run P w = .ok (h.cut i.toNat j.toNat inf.size).val w:=by
   simp [Instr.slice,run_underlying ht,b3,sizeOf,typeInfo,hi',Hd.cut,Result.andThen]
  simp [execOp,ho,he,hx,Instr.sliceAt,run_underlying ht,this,Result.andThen]
 ·refine ⟨by simp [Hd.cut]; omega,by simp [Hd.cut]; omega,by simp [Hd.cut]; omega,?_⟩
  rcases hc with ⟨ha',hcap⟩ | ⟨b,off,arr,tt,fz,ha',hS,hbb,hfit,hcells⟩
  ·exact .inl ⟨trivial,by simp [Hd.cut,hcap]⟩
  ·right
   by_cases hcap:h.cap=i.toNat
   ·refine ⟨b,off,arr,tt,fz,by simp [Hd.cut,hcap,ha'],hS,hbb,by simp [Hd.cut,hcap]; omega,?_⟩
    have hjn:j.toNat=i.toNat:=by omega
    have e:(xs.take j.toNat).drop i.toNat=[]:=by rw [hjn]; simp
    have e' : (ys.take j.toNat).drop i.toNat=[]:=by rw [hjn]; simp
    rw [e,e']
    simp [cellsOf]
   ·have hm2:h.cap * ty.sz=i.toNat * ty.sz+(h.cap - i.toNat) * ty.sz:=by rw [← Nat.add_mul]; congr 1; omega
    refine ⟨b,off+i.toNat * inf.size,arr,tt,fz,by simp [Hd.cut,hcap,ha',d6],hS,hbb,?_,?_⟩
    ·simp only [Hd.cut]; rw [hs]; omega
    ·have hl:=hr.length
     have e1:((xs.take j.toNat).drop i.toNat).length=j.toNat - i.toNat:=by simp; omega
     have e2:j.toNat * ty.sz≤xs.length * ty.sz:=Nat.mul_le_mul_right _ (by omega)
     rw [e1,ow ty i.toNat (by simp [hl]),gO ty j.toNat hl,← hcells,hs,List.take_take,List.drop_take,List.drop_drop,Nat.min_eq_left e2,← Nat.sub_mul]
end
end Go.Sm
namespace Go.Sm
abbrev abZ (k:IntKind) (a b:Int):Int:=k.wrap (a * 2 ^ (min b.toNat k.bits))
abbrev kJ (k:IntKind) (a b:Int):Int:=a.fdiv (2 ^ (min b.toNat k.bits))
def mH (op:BinOp) (k:IntKind) (x y:Int):Int:=match op with
 | .and=>k.wrap (BitVec.ofInt k.bits x &&& BitVec.ofInt k.bits y).toNat
 | .or=>k.wrap (BitVec.ofInt k.bits x ||| BitVec.ofInt k.bits y).toNat
 | .xor=>k.wrap (BitVec.ofInt k.bits x ^^^ BitVec.ofInt k.bits y).toNat
 | .andNot=>k.wrap (BitVec.ofInt k.bits x &&& ~~~(BitVec.ofInt k.bits y)).toNat
 | _=>0
section
variable {P:Program} {ρ:cF} {L:List HA} {o:Oper} {N:Nat}
theorem aeg {t t' : TypeId} {x y:Operand} {k k' : IntKind} {a b:Int} (ho:o.op = .binOp .shl t x y t') (hx:aK ρ x = .int k a) (hy:aK ρ y = .int k' b) (h0:decide (0≤b)=true) :
  aY P ρ o L (.int k (abZ k a b)):=fun ev w c he _=>by
 have : ¬ b<0:=by have:=of_decide_eq_true h0; omega
 subst he; simp [execOp,ho,hx,hy,cr,binOp,Op.shift,this,Result.andThen]
theorem aec {op:BinOp} {t t' : TypeId} {x y:Operand} {k:IntKind} {a b:Int} (ho:o.op = .binOp op t x y t') (hop:op = .and∨op = .or∨op = .xor∨op = .andNot) (hx:aK ρ x = .int k a) (hy:aK ρ y = .int k b) :
  aY P ρ o L (.int k (mH op k a b)):=fun ev w c he _=>by
 subst he
 rcases hop with rfl | rfl | rfl | rfl <;> simp [execOp,ho,hx,hy,cr,binOp,Op.intBits,mH,Result.andThen]
theorem aep {t t' : TypeId} {x y:Operand} {k k' : IntKind} {a b:Int} (ho:o.op = .binOp .shr t x y t') (hx:aK ρ x = .int k a) (hy:aK ρ y = .int k' b) (h0:decide (0≤b)=true) :
  aY P ρ o L (.int k (kJ k a b)):=fun ev w c he _=>by
 have : ¬ b<0:=by have:=of_decide_eq_true h0; omega
 subst he; simp [execOp,ho,hx,hy,cr,binOp,Op.shift,this,Result.andThen]
theorem Iqw {t:TypeId} {x y:Operand} {k:IntKind} {s:List UInt8} {i:Int} {b:UInt8} (ho:o.op = .index t x y) (ht:P.underlying t=some .string) (hx:aK ρ x = .string ⟨s.toArray⟩) (hy:aK ρ y = .int k i) (hv:ac s i=some b) :
  aY P ρ o L (.int .u8 (b.toNat:Int)):=fun ev w c he _=>by
 subst he
 obtain ⟨h0,hg,hlt⟩:=lg hv
 have hb:(⟨s.toArray⟩:ByteArray)[i.toNat]? = some b:=by
  have h1:i.toNat<(⟨s.toArray⟩:ByteArray).size:=by simpa [ByteArray.size] using hlt
  rw [getElem?_pos (⟨s.toArray⟩:ByteArray) i.toNat h1]
  have h2:=(List.getElem?_eq_some_iff.1 hg).2
  show some (s.toArray[i.toNat]'(by simpa using hlt))=some b
  rw [List.getElem_toArray,h2]
 have hm:(if 0≤i then (⟨s.toArray⟩:ByteArray)[i.toNat]? else none)=some b:=by rw [if_pos h0,hb]
 simp only [execOp,ho,hx,hy,Instr.index,asIntOf,Sem.run_bind,Sem.run_pure,Result.andThen_ok,run_underlying ht]
 rw [hm]
 rfl
theorem IK {t e:TypeId} {x y:Operand} {k:IntKind} {n:Nat} {α:Type} {dd:α} {f:α→Value} {hf : ∀ x,(f x).oneCell' = true} {v:List α} {i:Int} {d:TypeDesc} {by_:Nat} {z:Value} (ho:o.op = .index t x y) (ht:P.underlying t=some (.array n e))
  (he:P.underlying e=some d) (hd:jx d=false) (hi:TI P e 1 by_ z) (hx:aK ρ x = .agg ((Ty.arr n α dd f hf).fill v ()).toArray) (hy:aK ρ y = .int k i) (h0:decide (0≤i∧i<n)=true):aY P ρ o L (f (v.getD i.toNat dd)):=fun ev w c hev _=>by
 subst hev
 have htihi:=hi; clear hi
 obtain ⟨inf,hi,_,hs,_⟩:=htihi.get
 have hi0:0≤i∧i<n:=of_decide_eq_true h0
 have hlt:i.toNat<n:=by omega
 simp [execOp,ho,hx,hy,Instr.index,asIntOf,run_underlying ht,hi0,sizeOf,typeInfo,hi,hs,part,ko he hd,Ty.fill,hlt,Result.andThen]
theorem L7 {t t' : TypeId} {x y:Operand} {a b:Bool} (ho:o.op = .binOp .eql t x y t') (ht:P.underlying t=some .bool) (hx:aK ρ x = .bool a) (hy:aK ρ y = .bool b):aY P ρ o L (.bool (a==b)):=fun ev w c he _=>by
 subst he
 have hg:(eqGuard .eql t x y (.bool a) (.bool b)).run P w = .ok () w:=rfl
 have hb:(binOp .eql t (.bool a) (.bool b)).run P w = .ok (.bool (a==b)) w:=by
  simp only [binOp]; simp [run_equal_bool w t a b ht]
 simp only [execOp,ho,hx,hy,Sem.run_bind,hg,hb,Result.andThen_ok,Sem.run_pure]
theorem LX {t t' : TypeId} {x y:Operand} {a b:Bool} (ho:o.op = .binOp .neq t x y t') (ht:P.underlying t=some .bool) (hx:aK ρ x = .bool a) (hy:aK ρ y = .bool b):aY P ρ o L (.bool (a != b)):=fun ev w c he _=>by
 subst he
 have hg:(eqGuard .neq t x y (.bool a) (.bool b)).run P w = .ok () w:=rfl
 have hb:(binOp .neq t (.bool a) (.bool b)).run P w = .ok (.bool (a != b)) w:=by
  simp only [binOp]; simp [run_equal_bool w t a b ht,bne]
 simp only [execOp,ho,hx,hy,Sem.run_bind,hg,hb,Result.andThen_ok,Sem.run_pure]
def Hd.isNil (h:Hd):Bool:=h.a.isNone
theorem JT {t t' e:TypeId} {x y:Operand} {h:Hd} (ho:o.op = .binOp .eql t x y t') (ht:P.underlying t=some (.slice e)) (hx:aK ρ x=h.val) (hy:aK ρ y = .slice none 0 0):aY P ρ o L (.bool h.isNil):=fun ev w c he _=>by
 subst he
 have hg:(eqGuard .eql t x y h.val (.slice none 0 0)).run P w = .ok () w:=rfl
 simp [execOp,ho,hx,hy,hg,Lib.run_eql_slice_nil w t e h.a h.n h.cap 0 0 ht,Hd.isNil,Result.andThen]
theorem GA {t t' e:TypeId} {x y:Operand} {h:Hd} (ho:o.op = .binOp .neq t x y t') (ht:P.underlying t=some (.slice e)) (hx:aK ρ x=h.val) (hy:aK ρ y = .slice none 0 0):aY P ρ o L (.bool (!h.isNil)):=fun ev w c he _=>by
 subst he
 have hg:(eqGuard .neq t x y h.val (.slice none 0 0)).run P w = .ok () w:=rfl
 simp [execOp,ho,hx,hy,hg,run_neq_slice_nil_any w t e h.a h.n h.cap 0 0 ht,Hd.isNil,Result.andThen]
theorem ul (ty:Ty) (x:ty.den) (y:ty.Refs) : ∀ n:Nat,cellsOf ty (List.replicate n x) (List.replicate n y)=(madeCells (ty.fill x y).toArray (n * ty.sz)).toList
 | 0=>by simp [cellsOf,madeCells]
 | n+1=>by
  have ih:=ul ty x y n
  have hl:=ty.fill_length x y
  rw [List.replicate_succ',List.replicate_succ',dC ty (by simp),ih]
  simp only [madeCells,Array.toList_map,Array.toList_range,cellsOf,List.append_nil]
  rw [show (n+1) * ty.sz=n * ty.sz+ty.sz by rw [Nat.add_mul]; omega,List.range_add,List.map_append]
  congr 1
  apply List.ext_getElem?
  intro j
  simp only [List.map_map,List.getElem?_map,List.getElem?_range]
  by_cases hj:j<ty.sz
  ·simp [hj,hl,Nat.mod_eq_of_lt hj]
  ·simp [hj]; omega
theorem qb {α β:Type} {R:α→β→Prop} {x:α} {y:β} (h:R x y) : ∀ n:Nat,bK R (List.replicate n x) (List.replicate n y)
 | 0=>trivial
 | n+1=>by rw [List.replicate_succ,List.replicate_succ]; exact ⟨h,qb h n⟩
theorem vN {t e:TypeId} {x y:Operand} {kl kc:IntKind} {l:Int} {ty:Ty} {v:ty.den} {r:ty.Refs} {K:List Nat} {sz by_:Nat} {z:Value} (ho:o.op = .makeSlice t x y) (ht:P.underlying t=some (.slice e)) (hi:TI P e sz by_ z) (hs:sz=ty.sz)
  (hz:z.cells=(ty.fill v r).toArray) (hf:mr L (facts ty K v r)) (hx:aK ρ x = .int kl l) (hy:aK ρ y = .int kc l) (hb:decide (0≤l∧l * by_≤281474976710656∧l≤maxLen)=true) (hN:Nat.ble 2 N=true) :
  cz P ρ o L [] Hd.val (fun h=>[.own ty e N K (List.replicate l.toNat v) h]):=by
 intro a ev w c next Q ha hL hk
 have htihi:=hi; clear hi
 obtain ⟨inf,hi,hzz,rfl,rfl⟩:=htihi.get
 obtain ⟨h0,hb1,hb2⟩:=of_decide_eq_true hb
 have hm:=run_make (P:=P) w t e inf z ht hi hzz kl kc l l h0 (Int.le_refl _) (by rw [Int.mul_comm]; exact hb1) (by simp [maxLen] at hb2; omega)
 have hex:(execOp ev o).run P w = .ok (.value (.slice (some ⟨w.heap.size,0,none⟩) l.toNat l.toNat)) (w.alloc (.cells (madeCells z.cells (l.toNat * inf.size)) e)):=by
  simp [execOp,ho,ha,hx,hy,hm,Result.andThen]
 rw [hex]
 have hst:=qM (w:=w) (c:=c) hN (.cells (madeCells z.cells (l.toNat * inf.size)) e)
 have hc:cellsOf ty (List.replicate l.toNat v) (List.replicate l.toNat r)=(madeCells z.cells (l.toNat * inf.size)).toList:=by rw [ul,hz,hs]
 have hr:=bA.keep (hst.keeps (K:=K) (by simp)) ty v r (uu ty v r (hf.heap hL))
 refine hk ⟨some ⟨w.heap.size,0,none⟩,l.toNat,l.toNat⟩ _ _ hst (ai.cons ⟨List.replicate l.toNat r,?_,⟨?_, .inr ⟨w.heap.size,l.toNat,madeCells z.cells (l.toNat * inf.size),e,(0,0),by simp,heap_alloc_new w _, .inl ⟨rfl,rfl⟩,by simp,by omega,?_,?_⟩⟩,fun g hg=>?_⟩ (ai.nil _ _))
 ·exact qb hr l.toNat
 ·rw [hc]; simp [size_madeCells,hs]
 ·rw [size_madeCells,hs]
 ·rw [hc]
  apply List.take_of_length_le
  simp [size_madeCells,hs]
 ·simp [Value.ownBlock] at hg
  subst hg
  simp
theorem HE {t e e' : TypeId} {x y:Operand} {khi:IntKind} {j:Int} {ty:Ty} {ci:Nat} {K:List Nat} {xs:List ty.den} {h:Hd} {sz by_:Nat} {z:Value} (k:Nat) (hk:L[k]? = some (.own ty e' ci K xs h)) (ho:o.op = .slice t x none (some y) none)
  (ht:P.underlying t=some (.slice e)) (hti:TI P e sz by_ z) (hs:sz=ty.sz) (hx:aK ρ x=h.val) (hhi:aK ρ y = .int khi j) (hb:decide (0≤j∧j≤xs.length)=true) :
  cz P ρ o L [] (fun _:Unit=>(h.cut 0 j.toNat sz).val) (fun _=>[.own ty e' ci K (xs.take j.toNat) (h.cut 0 j.toNat sz)]):=fun a ev w c next Q ha hL hn=>by
 obtain ⟨h0,hj⟩:=of_decide_eq_true hb
 refine ux (L:=.rep ty (ci::K) xs h::L) (i:=0) (klo:=.i64) 0 rfl ho ht hti hs hx rfl hhi (by rw [decide_eq_true_eq]; exact ⟨Int.le_refl _,h0,hj⟩) a ev w c next Q ha (ai.cons (wE (hL.at hk)) hL) fun y w' c' hst _=>hn () w' c' hst ?_
 refine ai.cons ?_ (ai.nil _ _)
 obtain ⟨ys,hr,hown,hcol⟩:(HA.own ty e' ci K xs h).holds w' c' := ai.at (hL.stp0 hst) hk
 have hlen:=hr.length
 refine ⟨ys.take j.toNat,hr.take _,?_,fun g hg=>?_⟩
 ·refine ⟨by rw [bU ty (by simp [hlen])],?_⟩
  rcases hown.2 with ⟨h1,h2⟩ | ⟨g,cap,cur,tt,fz,h1,h3,h2,h4,h5,h6,h7⟩
  ·left
   simp only [Hd.val,Value.slice.injEq] at h1
   have:j.toNat=0:=by omega
   simp [Hd.cut,h1,this]
  ·right
   simp only [Hd.val,Value.slice.injEq] at h1
   obtain ⟨a1,a2,a3⟩:=h1
   refine ⟨g,cap,cur,tt,fz,?_,h3,h2,by simp; omega,h5,h6,?_⟩
   ·simp [Hd.cut,a1,a3,d6]; omega
   ·rw [gO ty _ hlen,← h7,List.take_take,List.length_take,Nat.min_eq_left (by omega),Nat.min_eq_left (Nat.mul_le_mul_right _ (by omega))]
 ·refine hcol g ?_
  rcases hown.2 with ⟨h1,h2⟩ | ⟨g',cap,cur,tt,fz,h1,_⟩
  ·simp only [Hd.val,Value.slice.injEq] at h1
   simp [Hd.cut,h1,Value.ownBlock] at hg
  ·simp only [Hd.val,Value.slice.injEq] at h1
   obtain ⟨a1,a2,a3⟩:=h1
   simp only [Hd.val,Value.ownBlock,a1,Option.some.injEq]
   simpa [Hd.cut,a1,d6,Value.ownBlock] using hg
def mV (v u:Hd) (sz:Nat) (lo hi:Int):Prop:=0≤lo∧(v.n:Int)=hi - lo∧(lo<hi→∃ b o,v.a=some ⟨b,o,none⟩∧dP u (lo.toNat * sz)=⟨b,o,none⟩)
theorem BF {t e:TypeId} {x ix:Operand} {k:IntKind} {i lo hi:Int} {v u:Hd} {sz by_:Nat} {z:Value} (hp : ∀ w c,ai w c L→mV v u sz lo hi) (ho:o.op = .indexAddr t x ix)
  (ht:P.underlying t=some (.slice e)) (hi' : TI P e sz by_ z) (hx:aK ρ x=v.val) (hix:aK ρ ix = .int k i) (hb:decide (0≤i∧i<hi - lo)=true) :
  aY P ρ o L (.pointer (some (dP u ((lo+i).toNat * sz)))):=fun ev w c he hL=>by
 subst he
 have htihi:=hi'; clear hi'
 obtain ⟨inf,hi',_,rfl,_⟩:=htihi.get
 obtain ⟨h0,hn,hpt⟩:=hp w c hL
 obtain ⟨b0,b1⟩:=of_decide_eq_true hb
 obtain ⟨b,of_,ha,hu⟩:=hpt (by omega)
 have hi0:0≤i∧i<(v.n:Int):=⟨b0,by omega⟩
 have e1:(lo+i).toNat * inf.size=lo.toNat * inf.size+i.toNat * inf.size:=by rw [← Nat.add_mul]; congr 1; omega
 rw [e1,tQ u _ _ b of_ hu]
 simp [execOp,ho,hx,hix,Instr.indexAt,asIntOf,run_underlying ht,sizeOf,typeInfo,hi',ha,hi0,d6,Result.andThen]
theorem UA {α:Type} {a b:α} (h:some a=some b):a=b:=by cases h; rfl
theorem aek {a b:Bool} (h:(a&&b)=true):a=true:=by cases a <;> simp_all
end
end Go.Sm
namespace Go.Sm
def jj (π:List Nat) (σ:List Nat):Prop:=∃ l,σ=l++π
theorem dO (π:List Nat):jj π π:=⟨[],rfl⟩
theorem yc {π σ:List Nat} {j:Nat} (h:jj π σ):jj π (j::σ):=by
 obtain ⟨l,rfl⟩:=h
 exact ⟨j::l,rfl⟩
theorem Hs {π σ:List Nat} {j k:Nat} (hj:jj (j::π) σ) (hk:jj (k::π) σ):j=k:=by
 obtain ⟨l,rfl⟩:=hj
 obtain ⟨m,hm⟩:=hk
 have e:(l++[j])++π=(m++[k])++π:=by simpa using hm
 have e2:=List.append_cancel_right e
 have:=congrArg List.getLast? e2
 simpa using this
theorem pV {π σ:List Nat} {j:Nat} (h:jj (j::π) σ):σ≠π:=by
 obtain ⟨l,rfl⟩:=h
 intro e
 have:=congrArg List.length e
 simp at this
 omega
theorem bo.ren {w:World} {S S' : Nat→Prop} {d d' : Nat→List Nat} {f:List Nat→List Nat} {π0:List Nat} (hf : ∀ σ k,jj π0 σ→f (k::σ)=k::f σ)
  (hk : ∀ b,S b→jj π0 (d b)→S' b∧d' b=f (d b)):(t:Ty)→(ε:EI)→(π:List Nat)→(x:t.den)→(y:t.Refs)→jj π0 π→bo w S d t ε π x y→bo w S' d' t ε (f π) x y
 | .one _ _ _,_,_,_,_,_,_=>trivial
 | .arr _ _ _ _ _,_,_,_,_,_,_=>trivial
 | .unit,_,_,_,_,_,_=>trivial
 | .pair a b,ε,π,x,y,hu,h=>by
  have h1:=bo.ren hf hk a _ (0::π) _ _ (yc hu) h.1
  have h2:=bo.ren hf hk b _ (1::π) _ _ (yc hu) h.2
  rw [hf π 0 hu] at h1
  rw [hf π 1 hu] at h2
  exact ⟨h1,h2⟩
 | .slice t,ε,π,xs,h,hu,hh=>by
  rcases hh with hh | ⟨e,s,he,ys,h1,h2,h3⟩
  ·exact .inl hh
  ·refine .inr ⟨e,s,he,ys,h1,?_,fun j x y hx hy=>?_⟩
   ·obtain ⟨g,cap,cur,g1,g2,g3,g4,g5,g6,g7,g8⟩:=h2
    obtain ⟨k1,k2⟩:=hk g g7 (by rw [g8]; exact hu)
    exact ⟨g,cap,cur,g1,g2,g3,g4,g5,g6,k1,by rw [k2,g8]⟩
   ·have:=bo.ren hf hk t s (j::π) x y (yc hu) (h3 j x y hx hy)
    rw [hf π j hu] at this
    exact this
theorem bo.re {w:World} {S S' : Nat→Prop} {d d' : Nat→List Nat} {π0:List Nat} (hk : ∀ b,S b→jj π0 (d b)→S' b∧d' b=d b) {t:Ty} {ε:EI} {π:List Nat} {x:t.den} {y:t.Refs} (hu:jj π0 π) (h:bo w S d t ε π x y):bo w S' d' t ε π x y:=
 bo.ren (f:=id) (fun _ _ _=>rfl) hk t ε π x y hu h
theorem gU.of {w:World} {S S' : Nat→Prop} (h : ∀ b,S b→S' b):gU w w S S' := fun b _ hb=>⟨h b hb,rfl⟩
def gZ (w:World) (S:Nat→Prop) (t:Ty) (s:EI) (xs:List t.den) (ys:List t.Refs):Prop:=∃ d:Nat→List Nat,∀ (j:Nat) (x:t.den) (y:t.Refs),xs[j]? = some x→ys[j]? = some y→bo w S d t s [j] x y
def uJ (w:World) (S:Nat→Prop) (t:Ty) (s:EI) (xs:List t.den) (ys:List t.Refs) (k:Nat):Prop:=∃ d:Nat→List Nat,∀ (j:Nat) (x:t.den) (y:t.Refs),j≠k→xs[j]? = some x→ys[j]? = some y→bo w S d t s [j] x y
section
variable {w w' : World} {S S' S1 S2:Nat→Prop} {t:Ty} {s:EI} {xs xs' : List t.den} {ys ys' : List t.Refs}
theorem gZ.keep (hk:gU w w' S S') (h:gZ w S t s xs ys):gZ w' S' t s xs ys:=h.imp fun _ h j x y hx hy=>bo.keep hk t s [j] x y (h j x y hx hy)
theorem uJ.keep {k:Nat} (hk:gU w w' S S') (h:uJ w S t s xs ys k):uJ w' S' t s xs ys k:=h.imp fun _ h j x y hj hx hy=>bo.keep hk t s [j] x y (h j x y hj hx hy)
theorem gZ.nil:gZ w S t s [] ys:=⟨fun _=>[],fun j x y hx=>by simp at hx⟩
theorem gZ.take (n:Nat) (h:gZ w S t s xs ys):gZ w S t s (xs.take n) (ys.take n):=h.imp fun _ h j x y hx hy=>h j x y (by
  rw [List.getElem?_take] at hx
  split at hx
  ·exact hx
  ·cases hx) (by
  rw [List.getElem?_take] at hy
  split at hy
  ·exact hy
  ·cases hy)
theorem gZ.one {x:t.den} {y:t.Refs} (h:cp w S t s x y):gZ w S t s [x] [y]:=by
 obtain ⟨d,h⟩:=h
 refine ⟨fun b=>d b++[0],fun j x' y' hx hy=>?_⟩
 cases j with
 | zero=>
  simp at hx hy
  subst hx hy
  exact bo.ren (f:=fun σ=>σ++[0]) (π0:=[]) (fun _ _ _=>rfl) (fun b hb _=>⟨hb,rfl⟩) t s [] x y ⟨[],rfl⟩ h
 | succ j=>simp at hx
def rA (n:Nat):List Nat→List Nat
 | []=>[]
 | [j]=>[n+j]
 | k::a::r=>k::rA n (a::r)
theorem IL {n j k:Nat} {σ:List Nat} (h:jj [j] σ):rA n (k::σ)=k::rA n σ:=by
 cases σ with
 | nil=>obtain ⟨l,hl⟩:=h; simp at hl
 | cons a r=>rfl
open Classical in
theorem gZ.append (hl:ys.length=xs.length) (hd : ∀ b,S1 b→¬ S2 b) (h1 : ∀ b,S1 b→S b) (h2 : ∀ b,S2 b→S b) (ha:gZ w S1 t s xs ys) (hb:gZ w S2 t s xs' ys'):gZ w S t s (xs++xs') (ys++ys'):=by
 obtain ⟨d1,ha⟩:=ha
 obtain ⟨d2,hb⟩:=hb
 refine ⟨fun b=>if S1 b then d1 b else rA xs.length (d2 b),fun j x y hx hy=>?_⟩
 by_cases hj:j<xs.length
 ·rw [List.getElem?_append_left hj] at hx
  rw [List.getElem?_append_left (by omega)] at hy
  exact bo.re (π0:=[j]) (fun b hb _=>⟨h1 b hb,by simp [hb]⟩) (dO _) (ha j x y hx hy)
 ·rw [List.getElem?_append_right (by omega)] at hx
  rw [List.getElem?_append_right (by omega),hl] at hy
  have:=bo.ren (f:=rA xs.length) (π0:=[j - xs.length]) (S' := S) (d' := fun b=>if S1 b then d1 b else rA xs.length (d2 b)) (fun σ k hu=>IL hu) (fun b hb _=>⟨h2 b hb,by
   have : ¬ S1 b:=fun h=>hd b h hb
   simp [this]⟩) t s _ x y (dO _) (hb _ x y hx hy)
  simp only [rA] at this
  rwa [show xs.length+(j - xs.length)=j by omega] at this
theorem we {j k:Nat} {σ:List Nat} (h:jj [j] σ):(k::σ).dropLast=k::σ.dropLast:=by
 cases σ with
 | nil=>obtain ⟨l,hl⟩:=h; simp at hl
 | cons a r=>rfl
theorem gZ.pick {k:Nat} {x:t.den} {y:t.Refs} (hx:xs[k]? = some x) (hy:ys[k]? = some y) (h:gZ w S t s xs ys) :
  ∃ Sk:Nat→Prop,(∀ b,Sk b→S b)∧cp w Sk t s x y∧uJ w (fun b=>S b∧¬ Sk b) t s xs ys k:=by
 obtain ⟨d,h⟩:=h
 refine ⟨fun b=>S b∧jj [k] (d b),fun b hb=>hb.1,⟨fun b=>(d b).dropLast,?_⟩,d,fun j x' y' hj hx' hy' => ?_⟩
 ·have:=bo.ren (f:=List.dropLast) (π0:=[k]) (S' := fun b=>S b∧jj [k] (d b)) (d' := fun b=>(d b).dropLast) (fun σ _ hu=>we hu) (fun b hb hu=>⟨⟨hb,hu⟩,rfl⟩) t s [k] x y (dO _) (h k x y hx hy)
  exact this
 ·exact bo.re (π0:=[j]) (fun b hb hu=>⟨⟨hb,fun hc=>hj (Hs hu hc.2)⟩,rfl⟩) (dO _) (h j x' y' hx' hy')
open Classical in
theorem uJ.put {k:Nat} {x:t.den} {y:t.Refs} (hk:k<xs.length) (hl:ys.length=xs.length) (hd : ∀ b,S1 b→¬ S2 b) (h1 : ∀ b,S1 b→S b) (h2 : ∀ b,S2 b→S b) (h:uJ w S1 t s xs ys k) (hx:cp w S2 t s x y):gZ w S t s (xs.set k x) (ys.set k y):=by
 obtain ⟨d1,h⟩:=h
 obtain ⟨d2,hx⟩:=hx
 refine ⟨fun b=>if S1 b then d1 b else d2 b++[k],fun j x' y' hx' hy' => ?_⟩
 by_cases hj:j=k
 ·subst hj
  rw [List.getElem?_set_self (by omega)] at hx' hy'
  cases hx'; cases hy'
  refine bo.ren (f:=fun σ=>σ++[j]) (π0:=[]) (fun _ _ _=>rfl) (fun b hb _=>⟨h2 b hb,?_⟩) t s [] x y ⟨[],rfl⟩ hx
  have : ¬ S1 b:=fun h=>hd b h hb
  simp [this]
 ·rw [List.getElem?_set_ne (by omega)] at hx' hy'
  exact bo.re (π0:=[j]) (fun b hb _=>⟨h1 b hb,by simp [hb]⟩) (dO _) (h j x' y' hj hx' hy')
end
def vv (w:World) (e:TypeId) (sz:Nat) (v:Hd) (n:Nat) (cells:List Value) (g:Nat):Prop:=
 ∃ (cap:Nat) (cur:Array Value),v=⟨some ⟨g,0,none⟩,n,cap⟩∧w.heap[g]? = some (.cells cur e (0,0))∧n≤cap∧cap≤maxLen∧cur.size=cap * sz∧cur.toList.take (n * sz)=cells
theorem cp.split {w:World} {S:Nat→Prop} {t:Ty} {e:TypeId} {s:EI} {xs:List t.den} {v:Hd} (h:cp w S (.slice t) (.row e s) xs v):(v=⟨none,0,0⟩∧xs=[])∨∃ ys g,ys.length=xs.length∧vv w e t.sz v xs.length (cellsOf t xs ys) g∧S g ∧
  gZ w (fun b=>S b∧b≠g) t s xs ys:=by
 obtain ⟨d,h⟩:=h
 rcases h with h | ⟨e',s',he,ys,h1,⟨g,cap,cur,g1,g2,g3,g4,g5,g6,g7,g8⟩,h3⟩
 ·exact .inl h
 ·cases he
  refine .inr ⟨ys,g,h1,⟨cap,cur,g1,g2,g3,g4,g5,g6⟩,g7,d,fun j x y hx hy=>?_⟩
  refine bo.re (π0:=[j]) (fun b hb hu=>⟨⟨hb,fun e=>?_⟩,rfl⟩) (dO _) (h3 j x y hx hy)
  subst e
  rw [g8] at hu
  exact pV hu rfl
open Classical in
theorem cp.join {w:World} {S S2:Nat→Prop} {t:Ty} {e:TypeId} {s:EI} {xs:List t.den} {ys:List t.Refs} {v:Hd} {g:Nat} (hl:ys.length=xs.length) (hr:vv w e t.sz v xs.length (cellsOf t xs ys) g) (hg:S g) (h2 : ∀ b,S2 b→S b) (hn : ¬ S2 g) (hF:gZ w S2 t s xs ys) :
  cp w S (.slice t) (.row e s) xs v:=by
 obtain ⟨cap,cur,g1,g2,g3,g4,g5,g6⟩:=hr
 obtain ⟨d,hF⟩:=hF
 refine ⟨fun b=>if S2 b then d b else [], .inr ⟨e,s,rfl,ys,hl,⟨g,cap,cur,g1,g2,g3,g4,g5,g6,hg,by simp [hn]⟩,fun j x y hx hy=>?_⟩⟩
 exact bo.re (π0:=[j]) (fun b hb _=>⟨h2 b hb,by simp [hb]⟩) (dO _) (hF j x y hx hy)
open Classical in
theorem Hol.join {w:World} {S S2:Nat→Prop} {t:Ty} {e e0:TypeId} {s:EI} {xs:List t.den} {ys:List t.Refs} {v:Hd} {g k:Nat} {cs:List Value} (he:e6 e = .row e0 s) (hl:ys.length=xs.length) (hk:k<xs.length) (hcs:cs.length=t.sz) (hr:vv w e0 t.sz v xs.length (dE t xs ys k cs) g) (hg:S g) (h2 : ∀ b,S2 b→S b)
  (hn : ¬ S2 g) (hF:uJ w S2 t s xs ys k):iD w S t e xs v k cs:=by
 obtain ⟨cap,cur,g1,g2,g3,g4,g5,g6⟩:=hr
 obtain ⟨d,hF⟩:=hF
 refine ⟨fun b=>if S2 b then d b else [],e0,s,ys,he,hl,hk,hcs,⟨g,cap,cur,g1,g2,g3,g4,g5,g6,hg,by simp [hn]⟩,fun j x y hj hx hy=>?_⟩
 exact bo.re (π0:=[j]) (fun b hb _=>⟨h2 b hb,by simp [hb]⟩) (dO _) (hF j x y hj hx hy)
theorem iD.split {w:World} {S:Nat→Prop} {t:Ty} {e:TypeId} {xs:List t.den} {v:Hd} {k:Nat} {cs:List Value} (h:iD w S t e xs v k cs) : ∃ ys g e0 s,e6 e = .row e0 s∧ys.length=xs.length∧k<xs.length∧cs.length=t.sz ∧
  vv w e0 t.sz v xs.length (dE t xs ys k cs) g∧S g∧uJ w (fun b=>S b∧b≠g) t s xs ys k:=by
 obtain ⟨d,e0,s,ys,he,hl,hk,hcs,⟨g,cap,cur,g1,g2,g3,g4,g5,g6,g7,g8⟩,h3⟩:=h
 refine ⟨ys,g,e0,s,he,hl,hk,hcs,⟨cap,cur,g1,g2,g3,g4,g5,g6⟩,g7,d,fun j x y hj hx hy=>?_⟩
 refine bo.re (π0:=[j]) (fun b hb hu=>⟨⟨hb,fun e=>?_⟩,rfl⟩) (dO _) (h3 j x y hj hx hy)
 subst e
 rw [g8] at hu
 exact pV hu rfl
theorem pz {t:Ty} {xs:List t.den} {ys:List t.Refs} {k:Nat} {x:t.den} {y:t.Refs} (hl:ys.length=xs.length) (hx:xs[k]? = some x) (hy:ys[k]? = some y):dE t xs ys k (t.fill x y)=cellsOf t xs ys:=by
 have hk:k<xs.length:=(List.getElem?_eq_some_iff.1 hx).1
 have e1:xs=xs.take k++(x::xs.drop (k+1)):=by
  rw [← (List.getElem?_eq_some_iff.1 hx).2,List.getElem_cons_drop,List.take_append_drop]
 have e2:ys=ys.take k++(y::ys.drop (k+1)):=by
  rw [← (List.getElem?_eq_some_iff.1 hy).2,List.getElem_cons_drop,List.take_append_drop]
 unfold dE
 conv=>rhs; rw [e1,e2,dC t (by simp; omega)]
 simp [cellsOf]
theorem pj {t:Ty} {xs:List t.den} {ys:List t.Refs} {k:Nat} {x:t.den} {y:t.Refs} (hl:ys.length=xs.length) (hk:k<xs.length):cellsOf t (xs.set k x) (ys.set k y)=dE t xs ys k (t.fill x y):=by
 rw [← pz (k:=k) (x:=x) (y:=y) (by simpa using hl) (by rw [List.getElem?_set_self hk]) (by rw [List.getElem?_set_self (by omega)])]
 unfold dE
 rw [List.take_set_of_le (Nat.le_refl k),List.take_set_of_le (Nat.le_refl k),List.drop_set_of_lt (by omega),List.drop_set_of_lt (by omega)]
theorem cp.open {w:World} {S:Nat→Prop} {t:Ty} {e e0:TypeId} {s:EI} {xs:List t.den} {v:Hd} {k:Nat} {x:t.den} (he:e6 e = .row e0 s) (hx:xs[k]? = some x) (h:cp w S (.slice t) (e6 e) xs v) :
  ∃ (y:t.Refs) (S2:Nat→Prop),(∀ b,S2 b→S b)∧iD w (fun b=>S b∧¬ S2 b) t e xs v k (t.fill x y)∧cp w S2 t s x y:=by
 have hk:k<xs.length:=(List.getElem?_eq_some_iff.1 hx).1
 rw [he] at h
 rcases h.split with ⟨_,rfl⟩ | ⟨ys,g,hl,hr,hg,hF⟩
 ·simp at hk
 ·obtain ⟨y,hy⟩ : ∃ y,ys[k]? = some y:=⟨ys[k]'(by omega),List.getElem?_eq_getElem _⟩
  obtain ⟨Sk,h1,h2,h3⟩:=hF.pick hx hy
  refine ⟨y,Sk,fun b hb=>(h1 b hb).1,?_,h2⟩
  rw [← pz hl hx hy] at hr
  exact Hol.join he hl hk (t.fill_length x y) hr ⟨hg,fun hb=>(h1 g hb).2 rfl⟩ (S2:=fun b=>(S b∧b≠g)∧¬ Sk b) (fun b hb=>⟨hb.1.1,hb.2⟩) (fun hb=>hb.1.2 rfl) h3
theorem iD.close {w:World} {S S1 S2:Nat→Prop} {t:Ty} {e e0:TypeId} {s:EI} {xs:List t.den} {v:Hd} {k:Nat} {x:t.den} {y:t.Refs} (he:e6 e = .row e0 s) (hd : ∀ b,S1 b→¬ S2 b) (h1 : ∀ b,S1 b→S b) (h2 : ∀ b,S2 b→S b)
  (h:iD w S1 t e xs v k (t.fill x y)) (hx:cp w S2 t s x y):cp w S (.slice t) (e6 e) (xs.set k x) v:=by
 obtain ⟨ys,g,e0',s',he',hl,hk,hcs,hr,hg,hF⟩:=h.split
 rw [he] at he' ⊢
 cases he'
 rw [← pj hl hk] at hr
 refine cp.join (ys:=ys.set k y) (S2:=fun b=>(S1 b∧b≠g)∨S2 b) (by simpa using hl) (by rw [List.length_set]; exact hr) (h1 g hg) (fun b hb=>hb.elim (fun h=>h1 b h.1) (h2 b)) (fun hb=>hb.elim (fun h=>h.2 rfl) (hd g hg)) ?_
 exact uJ.put hk hl (S1:=fun b=>S1 b∧b≠g) (fun b hb=>hd b hb.1) (fun b hb=>.inl hb) (fun b hb=>.inr hb) hF hx
theorem cp.fst {w:World} {S:Nat→Prop} {a b:Ty} {ε:EI} {x:a.den×b.den} {y:a.Refs×b.Refs} (h:cp w S (.pair a b) ε x y) : ∃ Sa:Nat→Prop,(∀ g,Sa g→S g)∧cp w Sa a ε.fst x.1 y.1∧cp w (fun g=>S g∧¬ Sa g) b ε.snd x.2 y.2:=by
 obtain ⟨d,h1,h2⟩:=h
 refine ⟨fun g=>S g∧jj [0] (d g),fun g h=>h.1,⟨fun g=>(d g).dropLast,?_⟩,⟨fun g=>(d g).dropLast,?_⟩⟩
 ·exact bo.ren (f:=List.dropLast) (π0:=[0]) (S' := fun g=>S g∧jj [0] (d g)) (d' := fun g=>(d g).dropLast) (fun σ _ hu=>we hu) (fun g hb hu=>⟨⟨hb,hu⟩,rfl⟩) a _ [0] _ _ (dO _) h1
 ·exact bo.ren (f:=List.dropLast) (π0:=[1]) (S' := fun g=>S g∧¬ (S g∧jj [0] (d g))) (d' := fun g=>(d g).dropLast) (fun σ _ hu=>we hu) (fun g hb hu=>⟨⟨hb,fun hc=>by have:=Hs hu hc.2; omega⟩,rfl⟩) b _ [1] _ _ (dO _) h2
open Classical in
theorem cp.pair {w:World} {S Sa Sb:Nat→Prop} {a b:Ty} {ε:EI} {x:a.den×b.den} {y:a.Refs×b.Refs} (hd : ∀ g,Sa g→¬ Sb g) (h1 : ∀ g,Sa g→S g) (h2 : ∀ g,Sb g→S g) (ha:cp w Sa a ε.fst x.1 y.1) (hb:cp w Sb b ε.snd x.2 y.2):cp w S (.pair a b) ε x y:=by
 obtain ⟨d1,ha⟩:=ha
 obtain ⟨d2,hb⟩:=hb
 refine ⟨fun g=>if Sa g then d1 g++[0] else d2 g++[1],?_,?_⟩
 ·exact bo.ren (f:=fun σ=>σ++[0]) (S' := S) (d' := fun g=>if Sa g then d1 g++[0] else d2 g++[1]) (π0:=[]) (fun _ _ _=>rfl) (fun g hg _=>⟨h1 g hg,by simp [hg]⟩) a _ [] _ _ ⟨[],rfl⟩ ha
 ·refine bo.ren (f:=fun σ=>σ++[1]) (S' := S) (d' := fun g=>if Sa g then d1 g++[0] else d2 g++[1]) (π0:=[]) (fun _ _ _=>rfl) (fun g hg _=>⟨h2 g hg,?_⟩) b _ [] _ _ ⟨[],rfl⟩ hb
  have : ¬ Sa g:=fun h=>hd g h hg
  simp [this]
theorem cp.plain {w:World} {c:bd} {i:Nat} {t:Ty} {e:TypeId} {s:EI} {K:List Nat} {xs:List t.den} {v:Hd} (hp:t.pureB=true) (h:cp w (fun b=>c b=i) (.slice t) (.row e s) xs v):HA.holds w c (.own t e i K xs v):=by
 rcases h.split with ⟨rfl,rfl⟩ | ⟨ys,g,hl,⟨cap,cur,rfl,g2,g3,g4,g5,g6⟩,hg,_⟩
 ·exact yL w c
 ·refine ⟨ys,iK hl fun j x y _ _=>bA.pure t x y hp,⟨bU t hl.symm, .inr ⟨g,cap,cur,e,(0,0),rfl,g2, .inl ⟨rfl,rfl⟩,g3,g4,g5,g6⟩⟩,fun g' hg' => ?_⟩
  simp only [Value.ownBlock,Option.some.injEq] at hg'
  rw [← hg']; exact hg
theorem pK {w:World} {S:Nat→Prop} {d:Nat→List Nat}:(t:Ty)→(ε:EI)→(π:List Nat)→(x:t.den)→(y:t.Refs)→t.pureB=true→bo w S d t ε π x y
 | .one _ _ _,_,_,_,_,_=>trivial
 | .arr _ _ _ _ _,_,_,_,_,_=>trivial
 | .unit,_,_,_,_,_=>trivial
 | .pair a b,ε,π,x,y,h=>by
  simp only [Ty.pureB,Bool.and_eq_true] at h
  exact ⟨pK a _ _ _ _ h.1,pK b _ _ _ _ h.2⟩
 | .slice t,_,_,_,_,h=>by cases h
 | .node,_,_,_,_,h=>by cases h
 | .mp _ _,_,_,_,_,h=>by cases h
theorem cp.of_pure {w:World} {S:Nat→Prop} {t:Ty} {ε:EI} {x:t.den} {y:t.Refs} (h:t.pureB=true):cp w S t ε x y:=⟨fun _=>[],pK t ε [] x y h⟩
theorem cp.of_plain {w:World} {c:bd} {i:Nat} {t:Ty} {e:TypeId} {s:EI} {K:List Nat} {xs:List t.den} {v:Hd} (hp:t.pureB=true) (he:Nat.blt e 1048576=true) (h:HA.holds w c (.own t e i K xs v)):cp w (fun b=>c b=i) (.slice t) (.row e s) xs v:=by
 obtain ⟨ys,h1,h2,h3⟩:=h
 obtain ⟨a,n,cap⟩:=v
 rcases (h2.plain he).2 with ⟨hv,hn⟩ | ⟨g,cap',cur,hv,_,hg,g3,g4,g5,g6⟩
 ·simp only [Hd.val,Value.slice.injEq] at hv
  obtain ⟨rfl,rfl,rfl⟩:=hv
  exact ⟨fun _=>[], .inl ⟨rfl,List.eq_nil_of_length_eq_zero hn⟩⟩
 ·have hcg:=h3 g (by rw [hv]; rfl)
  simp only [Hd.val,Value.slice.injEq] at hv
  obtain ⟨rfl,rfl,rfl⟩:=hv
  exact cp.join (S2:=fun _=>False) h1.length.symm ⟨cap,cur,rfl,hg,g3,g4,g5,g6⟩ hcg (fun _ h=>h.elim) (fun h=>h) ⟨fun _=>[],fun j x y _ _=>pK t s [j] x y hp⟩
theorem cp.nil {w:World} {S:Nat→Prop} {t:Ty} {ε:EI}:cp w S (.slice t) ε [] ⟨none,0,0⟩:=⟨fun _=>[], .inl ⟨rfl,rfl⟩⟩
end Go.Sm
namespace Go.Sm
section
variable {P:Program} {ρ:cF} {L:List HA} {o:Oper} {N:Nat}
theorem jP {t:Ty} {xs:List t.den} {ys:List t.Refs} {k:Nat} {cs:List Value} (hl:ys.length=xs.length) (hk:k<xs.length) (hcs:cs.length=t.sz) :
  (dE t xs ys k cs).length=xs.length * t.sz∧(cellsOf t (xs.take k) (ys.take k)).length=k * t.sz:=by
 have h1:=bU t (xs:=xs.take k) (ys:=ys.take k) (by simp; omega)
 have h2:=bU t (xs:=xs.drop (k+1)) (ys:=ys.drop (k+1)) (by simp; omega)
 simp only [List.length_take,List.length_drop,Nat.min_eq_left (Nat.le_of_lt hk)] at h1 h2
 refine ⟨?_,h1⟩
 simp only [dE,List.length_append,h1,h2,hcs]
 rw [← Nat.add_one_mul,← Nat.add_mul]
 congr 1
 omega
theorem iD.at {w:World} {S:Nat→Prop} {t:Ty} {e:TypeId} {xs:List t.den} {v:Hd} {k:Nat} {cs:List Value} (h:iD w S t e xs v k cs) : ∃ (g:Nat) (cur:Array Value) (e0:TypeId),v.a=some ⟨g,0,none⟩∧w.heap[g]? = some (.cells cur e0 (0,0))∧S g ∧
  k * t.sz+t.sz≤cur.size∧(cur.toList.drop (k * t.sz)).take t.sz=cs∧cs.length=t.sz:=by
 obtain ⟨d,e0,s,ys,he,hl,hk,hcs,⟨g,cap,cur,rfl,g2,g3,g4,g5,g6,g7,g8⟩,h3⟩:=h
 obtain ⟨c1,c2⟩:=jP (cs:=cs) hl hk hcs
 have h1:(k+1) * t.sz≤xs.length * t.sz:=Nat.mul_le_mul_right _ hk
 have h2:xs.length * t.sz≤cap * t.sz:=Nat.mul_le_mul_right _ g3
 rw [Nat.add_mul,Nat.one_mul] at h1
 refine ⟨g,cur,e0,rfl,g2,g7,by omega,?_,hcs⟩
 have e1:(cur.toList.drop (k * t.sz)).take t.sz=((cur.toList.take (xs.length * t.sz)).drop (k * t.sz)).take t.sz:=by
  rw [List.drop_take,List.take_take,Nat.min_eq_left (by omega)]
 rw [e1,g6]
 unfold dE
 rw [List.append_assoc,List.drop_append,List.drop_eq_nil_of_le (by omega),c2,Nat.sub_self,List.drop_zero,List.nil_append,List.take_append,List.take_of_length_le (by omega),hcs]
 simp
theorem MR {t:TypeId} {x:Operand} {off:Nat} {ty:Ty} {e:TypeId} {i:Nat} {xs:List ty.den} {h:Hd} {k:Nat} {cs:List Value} {v:Value} {d:TypeDesc} (j:Nat) (hj:L[j]? = some (.hol ty e i xs h k cs)) (ho:o.op = .load t x) (ht:P.underlying t=some d)
  (hd:jx d=false) (hx:aK ρ x = .pointer (some (dP h (k * ty.sz+off)))) (hv:cs[off]? = some v):aY P ρ o L v:=fun ev w c he hL=>by
 subst he
 obtain ⟨g,cur,e0,h1,h2,_,h4,h5,h6⟩:=iD.at (hL.at hj)
 have hoff:off<ty.sz:=by rw [← h6]; exact (List.getElem?_eq_some_iff.1 hv).1
 have hp:dP h (k * ty.sz+off)=⟨g,k * ty.sz+off,none⟩:=by simp [dP,h1]
 have hc:w.cell? ⟨g,k * ty.sz+off,none⟩=some v:=by
  rw [kn h2,← hv,← h5,List.getElem?_take,if_pos hoff,List.getElem?_drop,Array.getElem?_toList]
 simp [execOp,ho,hx,hp,sa ht hd (v:=v) (w:=w) hc,Result.andThen]
theorem IH {t:TypeId} {x:Operand} {off:Nat} {ty:Ty} {e:TypeId} {i:Nat} {xs:List ty.den} {h:Hd} {k:Nat} {cs cs' : List Value} {d:TypeDesc} {sz by_:Nat} {z:Value} (j:Nat) (hj:L[j]? = some (.hol ty e i xs h k cs)) (ho:o.op = .load t x) (ht:P.underlying t=some d)
  (hd:jx d=true) (hi:TI P t sz by_ z) (hx:aK ρ x = .pointer (some (dP h (k * ty.sz+off)))) (hv:(cs.drop off).take sz=cs') (hl:Nat.beq cs'.length sz=true) (hfit:off+sz≤cs.length):aY P ρ o L (.agg cs'.toArray):=fun ev w c he hL=>by
 subst he
 have htihi:=hi; clear hi
 obtain ⟨inf,hi,_,rfl,_⟩:=htihi.get
 obtain ⟨g,cur,e0,h1,h2,_,h4,h5,h6⟩:=iD.at (hL.at hj)
 have hp:dP h (k * ty.sz+off)=⟨g,k * ty.sz+off,none⟩:=by simp [dP,h1]
 have hcs:(cur.toList.drop (k * ty.sz+off)).take inf.size=cs' := by
  rw [← hv,← h5,List.drop_take,List.drop_drop,List.take_take,Nat.min_eq_left (by omega)]
 simp [execOp,ho,hx,hp,rX ht hd hi h2 (cs:=cs') (off:=k * ty.sz+off) (by simpa using hcs) (Nat.eq_of_beq_eq_true hl),Result.andThen]
theorem Bh {α:Type} {A m B C new:List α} {n off:Nat} (hA:A.length=n) (hm:off+new.length≤m.length) :
  (A++m++B++C).take (n+off)++new++(A++m++B++C).drop (n+off+new.length)=A++(m.take off++new++m.drop (off+new.length))++B++C:=by
 subst hA
 have e1:(A++m++B++C).take (A.length+off)=A++m.take off:=by
  rw [List.append_assoc,List.append_assoc,List.take_append,List.take_of_length_le (by omega),show A.length+off - A.length=off by omega,List.take_append,show off - m.length=0 by omega,List.take_zero,List.append_nil]
 have e2:(A++m++B++C).drop (A.length+off+new.length)=m.drop (off+new.length)++B++C:=by
  rw [List.append_assoc,List.append_assoc,List.drop_append,List.drop_eq_nil_of_le (by omega),List.nil_append,show A.length+off+new.length - A.length=off+new.length by omega,List.drop_append,show off+new.length - m.length=0 by omega,List.drop_zero,List.append_assoc]
 rw [e1,e2]
 simp [List.append_assoc]
theorem FX {t:TypeId} {x y:Operand} {off:Nat} {ty:Ty} {e:TypeId} {i:Nat} {xs:List ty.den} {h:Hd} {k:Nat} {cs vs cs' : List Value} {v z:Value} {sz by_:Nat} (j:Nat) (hj:L[j]? = some (.hol ty e i xs h k cs)) (ho:o.op = .store t x y) (hi:TI P t sz by_ z)
  (hx:aK ρ x = .pointer (some (dP h (k * ty.sz+off)))) (hy:aK ρ y=v) (hv:v.cells=vs.toArray) (hl:Nat.beq vs.length sz=true) (hones:vs.all Value.oneCell' = true)
  (hin:Nat.ble (off+vs.length) cs.length=true) (hcs:cs.take off++vs++cs.drop (off+vs.length)=cs'):cz P ρ o L [i] (fun _:Unit=>undef) (fun _=>[.hol ty e i xs h k cs']):=by
 intro a ev w c next Q ha hL hn
 have htihi:=hi; clear hi
 obtain ⟨inf,hi,_,rfl,_⟩:=htihi.get
 have hle:=Nat.le_of_ble_eq_true hin
 have hH:=hL.at hj
 obtain ⟨d,e0,s,ys,he,hlen,hk,hc0,⟨g,cap,cur,rfl,g2,g3,g4,g5,g6,g7,g8⟩,h3⟩:=(show iD w (fun b=>c b=i) ty e xs h k cs from hH)
 obtain ⟨c1,c2⟩:=jP (cs:=cs) hlen hk hc0
 have m1:(k+1) * ty.sz≤xs.length * ty.sz:=Nat.mul_le_mul_right _ hk
 have m2:xs.length * ty.sz≤cap * ty.sz:=Nat.mul_le_mul_right _ g3
 rw [Nat.add_mul,Nat.one_mul] at m1
 have hcur:cur.toList=cellsOf ty (xs.take k) (ys.take k)++cs++cellsOf ty (xs.drop (k+1)) (ys.drop (k+1))++cur.toList.drop (xs.length * ty.sz):=by
  rw [show cellsOf ty (xs.take k) (ys.take k)++cs++cellsOf ty (xs.drop (k+1)) (ys.drop (k+1))=dE ty xs ys k cs from rfl,← g6,List.take_append_drop]
 have hp:dP ⟨some ⟨g,0,none⟩,xs.length,cap⟩ (k * ty.sz+off)=⟨g,k * ty.sz+off,none⟩:=by simp [dP]
 have hst:=j7 P g (k * ty.sz+off) e0 (0,0) vs cur w g2 (.inl rfl) (by omega) (wP hones)
 have hrun:(execOp ev o).run P w = .ok .skip (w.setRow g (cur.toList.take (k * ty.sz+off)++vs++cur.toList.drop (k * ty.sz+off+vs.length)).toArray):=by
  simp [execOp,ho,ha,hx,hp,hy,Instr.storeAt,Instr.sureAddr,storeVar,hv,sizeOf,typeInfo,hi,Nat.eq_of_beq_eq_true hl,hst,Result.andThen]
 rw [hrun]
 have e1:cur.toList.take (k * ty.sz+off)++vs++cur.toList.drop (k * ty.sz+off+vs.length)=cellsOf ty (xs.take k) (ys.take k)++cs' ++ cellsOf ty (xs.drop (k+1)) (ys.drop (k+1))++cur.toList.drop (xs.length * ty.sz):=by
  generalize hC:cur.toList.drop (xs.length * ty.sz)=C at hcur
  rw [hcur,← hcs]
  exact Bh c2 hle
 rw [e1]
 have hc' : cs'.length=ty.sz:=by
  rw [← hcs]; simp only [List.length_append,List.length_take,List.length_drop]; omega
 obtain ⟨c3,_⟩:=jP (cs:=cs') hlen hk hc'
 have hoth : ∀ (j:Nat) (x:ty.den) (y:ty.Refs),j≠k→xs[j]? = some x→ys[j]? = some y→bo w (fun b=>c b=i∧b≠g) d ty s [j] x y:=fun j x y hjk hx hy=>
  bo.re (π0:=[j]) (fun b hb hu=>⟨⟨hb,fun e=>by
   subst e
   rw [g8] at hu
   exact pV hu rfl⟩,rfl⟩) (dO _) (h3 j x y hjk hx hy)
 refine hn () _ c (qG (i:=i) g7) (ai.cons ⟨d,e0,s,ys,he,hlen,hk,hc',⟨g,cap,_,rfl,setRow_heap w g cur _ e0 (0,0) g2,g3,g4,?_,?_,g7,g8⟩,fun j x y hjk hx hy=>?_⟩ (ai.nil _ _))
 ·have:cur.toList.length=cap * ty.sz:=by simpa using g5
  have c4:=c3
  simp only [dE,List.length_append] at c4
  simp only [List.size_toArray,List.length_append,List.length_drop]; omega
 ·show (dE ty xs ys k cs' ++ cur.toList.drop (xs.length * ty.sz)).take (xs.length * ty.sz)=_
  rw [List.take_append,List.take_of_length_le (by omega),c3,Nat.sub_self,List.take_zero,List.append_nil]
 ·refine bo.keep (fun b _ hb=>⟨hb.1,?_⟩) ty s _ x y (hoth j x y hjk hx hy)
  simp [World.setRow,Array.getElem?_modify,show ¬ g=b from fun e=>hb.2 e.symm]
abbrev V1:={ v:Value // v.oneCell' = true }
abbrev ge (n:Nat):Ty:=.arr n V1 ⟨.bool true,rfl⟩ (fun v=>v.1) (fun v=>v.2)
theorem Up {sz:Nat} {l:List V1} (h:l.length=sz):(ge sz).fill l ()=l.map (fun v=>v.1):=by
 subst h
 show (List.range l.length).map (fun i=>(l.getD i ⟨.bool true,rfl⟩).1)=_
 apply List.ext_getElem?
 intro m
 simp only [List.getElem?_map,List.getElem?_range,List.getD_eq_getElem?_getD]
 by_cases hm:m<l.length
 ·simp [hm]
 ·simp [hm]
theorem uN (sz:Nat) : ∀ (m:Nat) (cells:List Value),nv cells→cells.length=m * sz→∃ rows:List (List V1),rows.length=m∧cellsOf (ge sz) rows (List.replicate m ())=cells
 | 0,cells,_,hl=>⟨[],rfl,by
  have:cells=[]:=List.eq_nil_of_length_eq_zero (by simpa using hl)
  subst this
  rfl⟩
 | m+1,cells,ho,hl=>by
  rw [Nat.add_mul,Nat.one_mul] at hl
  obtain ⟨rows,h1,h2⟩:=uN sz m (cells.drop sz) (fun v hv=>ho v (List.mem_of_mem_drop hv)) (by rw [List.length_drop]; omega)
  have ht:(cells.take sz).length=sz:=by rw [List.length_take]; omega
  refine ⟨(cells.take sz).pmap (fun v h=>(⟨v,h⟩:V1)) (fun v hv=>ho v (List.mem_of_mem_take hv))::rows,by simp [h1],?_⟩
  rw [List.replicate_succ]
  simp only [cellsOf,h2]
  rw [Up (by rw [List.length_pmap]; exact ht),List.map_pmap]
  simp
theorem KC {w:World} {c:bd} {i:Nat} {e:TypeId} {sz n:Nat} {v:Hd} {cells:List Value} {g:Nat} {rows:List (List V1)} (hr:vv w e sz v n cells g) (hc:c g=i) (hl:rows.length=n) (hcells:cellsOf (ge sz) rows (List.replicate n ())=cells) {K:List Nat}:HA.holds w c (.own (ge sz) e i K rows v):=by
 obtain ⟨cap,cur,rfl,g2,g3,g4,g5,g6⟩:=hr
 subst hl
 have hlen:=bU (ge sz) (xs:=rows) (ys:=List.replicate rows.length ()) (by simp)
 refine ⟨List.replicate rows.length (),?_,⟨hlen, .inr ⟨g,cap,cur,e,(0,0),rfl,g2, .inl ⟨rfl,rfl⟩,g3,g4,g5,by rw [hcells]; exact g6⟩⟩,fun g' hg' => ?_⟩
 ·exact iK (by simp) fun j x y _ _=>trivial
 ·simp only [Value.ownBlock,Option.some.injEq] at hg'
  rw [← hg']; exact hc
theorem H2 : ∀ l:List Unit,l=List.replicate l.length ()
 | []=>rfl
 | ()::r=>by simp only [List.length_cons,List.replicate_succ,List.cons.injEq,true_and]; exact H2 r
theorem I5 {w:World} {c:bd} {i:Nat} {e:TypeId} {sz:Nat} {v:Hd} {rows:List (List V1)} {K:List Nat} (he:Nat.blt e 1048576=true) (h:HA.holds w c (.own (ge sz) e i K rows v)) :
  (v=⟨none,0,0⟩∧rows=[])∨∃ g,vv w e sz v rows.length (cellsOf (ge sz) rows (List.replicate rows.length ())) g∧c g=i:=by
 obtain ⟨ys,h1,h2,h3⟩:=h
 have hy:ys=List.replicate rows.length ():=by rw [h1.length]; exact H2 ys
 subst hy
 obtain ⟨a,n,cap⟩:=v
 rcases (h2.plain he).2 with ⟨hv,hn⟩ | ⟨g,cap',cur,hv,_,hg,g3,g4,g5,g6⟩
 ·simp only [Hd.val,Value.slice.injEq] at hv
  obtain ⟨rfl,rfl,rfl⟩:=hv
  exact .inl ⟨rfl,List.eq_nil_of_length_eq_zero hn⟩
 ·have hcg:=h3 g (by rw [hv]; rfl)
  simp only [Hd.val,Value.slice.injEq] at hv
  obtain ⟨rfl,rfl,rfl⟩:=hv
  exact .inr ⟨g,⟨cap,cur,rfl,hg,g3,g4,g5,g6⟩,hcg⟩
theorem vv.rep {w:World} {c:bd} {K:List Nat} {e:TypeId} {sz n:Nat} {v:Hd} {cells:List Value} {g:Nat} {rows:List (List V1)} (hr:vv w e sz v n cells g) (hc:c g∈K) (hl:rows.length=n) (hcells:cellsOf (ge sz) rows (List.replicate n ())=cells):HA.holds w c (.rep (ge sz) K rows v):=by
 have:=wE (KC (c:=c) (i:=c g) (K:=[]) hr rfl hl hcells)
 exact bA.keep (fun b _ (hb:c b∈[c g])=>⟨by
  show c b∈K
  simp only [List.mem_singleton] at hb
  rw [hb]; exact hc,rfl⟩) (.slice (ge sz)) rows v this
theorem Gk {t e0 e:TypeId} {s:EI} {sz by_:Nat} {z:Value} {sx x:Operand} {ty:Ty} {i i2 N:Nat} {K K2:List Nat} {xs ys:List ty.den} {h hx:Hd} (j j' : Nat)
  (hj:L[j]? = some (.tr ty e i K xs h)) (hj' : L[j']? = some (.tr ty e i2 K2 ys hx)) (hei:e6 e = .row e0 s)
  (ho:o.op = .call { callee:=.builtin .append,args:=#[sx,x],argTypes:=#[t,t] }) (ht:P.underlying t=some (.slice e0)) (hi:TI P e0 sz by_ z) (hs:sz=ty.sz)
  (hzs:Nat.beq z.cells.size sz=true) (hsz:Nat.ble 1 sz=true) (hse:aK ρ sx=h.val) (hxe:aK ρ x=hx.val)
  (hroom:decide ((xs.length+ys.length) * by_≤140737488355328∧xs.length+ys.length≤maxLen)=true) (hci:Nat.ble 2 i=true) (hN:Nat.ble 2 N=true) (hd:Nat.beq i i2=false) (hd1:Nat.beq i N=false) (hd2:Nat.beq i2 N=false) (he:Nat.blt e0 1048576=true) :
  cz P ρ o L [i,i2,N] Hd.val (fun h' => [.tr ty e i [] (xs++ys) h']):=by
 classical
 intro a ev w c next Q ha hL hk
 have hne:i≠i2:=Nat.ne_of_beq_eq_false hd
 have hne1:i≠N:=Nat.ne_of_beq_eq_false hd1
 have hne2:i2≠N:=Nat.ne_of_beq_eq_false hd2
 have hci' := Nat.le_of_ble_eq_true hci
 have hN' := Nat.le_of_ble_eq_true hN
 subst hs
 have hT1:cp w (fun b=>c b=i) (.slice ty) (e6 e) xs h:=hL.at hj
 have hT2:cp w (fun b=>c b=i2) (.slice ty) (e6 e) ys hx:=hL.at hj'
 rw [hei] at hT1 hT2
 obtain ⟨yx,g1,rows1,hl1,hr1,hcl1,hown1,hF1,hg1⟩ : ∃ (yx:List ty.Refs) (g1:Nat) (rows1:List (List V1)),yx.length=xs.length∧rows1.length=xs.length∧cellsOf (ge ty.sz) rows1 (List.replicate xs.length ())=cellsOf ty xs yx ∧
   (∀ c1:bd,c1 g1=N→HA.holds w c1 (.own (ge ty.sz) e0 N [] rows1 h))∧gZ w (fun b=>b<w.heap.size∧c b=i∧b≠g1) ty s xs yx∧(g1<w.heap.size→c g1=i):=by
  rcases hT1.split with ⟨rfl,rfl⟩ | ⟨yx,g1,hl,hr,hg,hF⟩
  ·exact ⟨[],w.heap.size,[],rfl,rfl,rfl,fun c1 _=>yL w c1,gZ.nil,fun h=>absurd h (Nat.lt_irrefl _)⟩
  ·obtain ⟨rows,h1,h2⟩:=uN ty.sz xs.length (cellsOf ty xs yx) (gK ty) (bU ty hl.symm)
   exact ⟨yx,g1,rows,hl,h1,h2,fun c1 hc=>KC hr hc h1 h2,hF.keep (fun b hb h=>⟨⟨hb,h⟩,rfl⟩),fun _=>hg⟩
 obtain ⟨yy,rows2,hl2,hr2,hcl2,hrep2,hF2⟩ : ∃ (yy:List ty.Refs) (rows2:List (List V1)),yy.length=ys.length∧rows2.length=ys.length∧cellsOf (ge ty.sz) rows2 (List.replicate ys.length ())=cellsOf ty ys yy ∧
   (∀ c1:bd,(∀ b,b<w.heap.size→c b=i2→c1 b=i2)→HA.holds w c1 (.rep (ge ty.sz) [i2] rows2 hx))∧gZ w (fun b=>b<w.heap.size∧c b=i2) ty s ys yy:=by
  rcases hT2.split with ⟨rfl,rfl⟩ | ⟨yy,g2,hl,hr,hg,hF⟩
  ·exact ⟨[],[],rfl,rfl,rfl,fun c1 _=>oW w c1,gZ.nil⟩
  ·obtain ⟨rows,h1,h2⟩:=uN ty.sz ys.length (cellsOf ty ys yy) (gK ty) (bU ty hl.symm)
   have hg2:g2<w.heap.size:=by
    obtain ⟨cap,cur,_,hh,_⟩:=hr
    exact (Array.getElem?_eq_some_iff.1 hh).1
   exact ⟨yy,rows,hl,h1,h2,fun c1 hc=>hr.rep (by rw [hc g2 hg2 hg]; simp) h1 h2,hF.keep (fun b hb h=>⟨⟨hb,h.1⟩,rfl⟩)⟩
 let c1:bd:=fun b=>if b=g1 then N else c b
 have hL1:ai w c1 [.own (ge ty.sz) e0 N [] rows1 h, .rep (ge ty.sz) [i2] rows2 hx]:=by
  refine ai.cons (hown1 c1 (by simp [c1])) (ai.cons (hrep2 c1 fun b hb hc=>?_) (ai.nil _ _))
  have:b≠g1:=fun e=>by
   subst e
   exact hne ((hg1 hb).symm.trans hc)
  simp [c1,this,hc]
 have hroom' : decide ((rows1.length+rows2.length) * by_≤140737488355328∧rows1.length+rows2.length≤maxLen)=true:=by rw [hr1,hr2]; exact hroom
 refine xQ (P:=P) (ρ:=ρ) (o:=o) (L:=[.own (ge ty.sz) e0 N [] rows1 h, .rep (ge ty.sz) [i2] rows2 hx]) (ty:=ge ty.sz) (K:=[]) (K2:=[i2]) rfl 0 1 rfl _ rfl su ho ht hi rfl hzs hsz hse hxe hroom' hN he a ev w c1 next Q ha hL1 ?_
 intro h' w' c' hst hF
 have hc1 : ∀ b,b<w.heap.size→c b≠i→c1 b=c b:=fun b hb hc=>by
  have:b≠g1:=fun e=>by
   subst e
   exact hc (hg1 hb)
  simp [c1,this]
 have hA : ∀ b,b<w.heap.size→c b=i→b≠g1→c' b=i∧w'.heap[b]? = w.heap[b]? := fun b hb hc hn=>by
  have e1:c1 b=i:=by simp [c1,hn,hc]
  have e2:c1 b∉[N]:=by rw [e1]; simpa using hne1
  exact ⟨by rw [hst.col b hb e2,e1],hst.same b hb e2⟩
 have hB : ∀ b,b<w.heap.size→c b=i2→c' b=i2∧w'.heap[b]? = w.heap[b]? := fun b hb hc=>by
  have e1:c1 b=i2:=by rw [hc1 b hb (fun e=>hne (e.symm.trans hc)),hc]
  have e2:c1 b∉[N]:=by rw [e1]; simpa using hne2
  exact ⟨by rw [hst.col b hb e2,e1],hst.same b hb e2⟩
 let c2:bd:=fun b=>if c' b=N∨c' b=i2 then i else c' b
 have hstp:Stp [i,i2,N] w c w' c2:=by
  refine ⟨hst.size,fun b hb hn=>?_,fun b hb hn=>?_,fun b hb h=>?_,hst.env⟩
  ·simp only [List.mem_cons,List.not_mem_nil,or_false,not_or] at hn
   have e1:=hc1 b hb hn.1
   have e2:c' b=c b:=by rw [hst.col b hb (by rw [e1]; simpa using hn.2.2),e1]
   show (if c' b=N∨c' b=i2 then i else c' b)=c b
   rw [e2,if_neg (by simp [hn.2.1,hn.2.2])]
  ·simp only [List.mem_cons,List.not_mem_nil,or_false,not_or] at hn
   exact hst.same b hb (by rw [hc1 b hb hn.1]; simpa using hn.2.2)
  ·show 2≤(if c' b=N∨c' b=i2 then i else c' b)
   split
   ·exact hci'
   ·by_cases hlt:b<w.heap.size
    ·obtain ⟨_,h2⟩:=h hlt
     by_cases e1:c1 b=N
     ·exact hst.two b hb fun _=>⟨by simp [e1],by omega⟩
     ·rw [hst.col b hlt (by simpa using e1)]
      have:b≠g1:=fun e=>e1 (by simp [c1,e])
      simp only [c1,if_neg this]
      exact h2
    ·exact hst.two b hb fun h=>absurd h hlt
 refine hk h' w' c2 hstp (ai.cons ?_ (ai.nil _ _))
 show cp w' (fun b=>c2 b=i) (.slice ty) (e6 e) (xs++ys) h'
 rw [hei]
 have hFA:gZ w' (fun b=>b<w.heap.size∧c b=i∧b≠g1) ty s xs yx:=hF1.keep fun b _ hb=>⟨hb,(hA b hb.1 hb.2.1 hb.2.2).2⟩
 have hFB:gZ w' (fun b=>b<w.heap.size∧c b=i2) ty s ys yy:=hF2.keep fun b _ hb=>⟨hb,(hB b hb.1 hb.2).2⟩
 have hFF:gZ w' (fun b=>(b<w.heap.size∧c b=i∧b≠g1)∨(b<w.heap.size∧c b=i2)) ty s (xs++ys) (yx++yy):=gZ.append hl1 (fun b h1 h2=>hne (h1.2.1.symm.trans h2.2)) (fun b hb=>.inl hb) (fun b hb=>.inr hb) hFA hFB
 rcases I5 he (hF.at (k:=0) rfl) with ⟨hn,hrows⟩ | ⟨g',hr',hg'⟩
 ·have hz:(rows1++rows2).length=0:=by rw [hrows]; rfl
  rw [List.length_append,hr1,hr2] at hz
  have:xs++ys=[]:=List.eq_nil_of_length_eq_zero (by rw [List.length_append]; exact hz)
  rw [this,hn]
  exact cp.nil
 ·have hlen:(rows1++rows2).length=(xs++ys).length:=by simp [hr1,hr2]
  have hcells:cellsOf (ge ty.sz) (rows1++rows2) (List.replicate (rows1++rows2).length ())=cellsOf ty (xs++ys) (yx++yy):=by
   rw [List.length_append,← List.replicate_append_replicate,dC _ (by simp),dC ty hl1.symm,hr1,hr2,hcl1,hcl2]
  rw [hcells,hlen] at hr'
  refine cp.join (S2:=fun b=>(b<w.heap.size∧c b=i∧b≠g1)∨(b<w.heap.size∧c b=i2)) (by simp [hl1,hl2]) hr' (by simp [c2,hg']) (fun b hb=>?_) (fun hb=>?_) hFF
  ·show (if c' b=N∨c' b=i2 then i else c' b)=i
   rcases hb with hb | hb
   ·rw [(hA b hb.1 hb.2.1 hb.2.2).1]
    rw [if_neg (by simp [hne,hne1])]
   ·rw [(hB b hb.1 hb.2).1]
    simp
  ·rcases hb with hb | hb
   ·exact hne1 ((hA _ hb.1 hb.2.1 hb.2.2).1.symm.trans hg')
   ·exact hne2 ((hB _ hb.1 hb.2).1.symm.trans hg')
theorem aaF {w:World} {c:bd} {ty:Ty} {e:TypeId} {i:Nat} {K:List Nat} {xs:List ty.den} {h:Hd} (m sz:Nat) (hm:m≤xs.length) (hT:HA.holds w c (.tr ty e i K xs h)):HA.holds w c (.tr ty e i K (xs.take m) (h.cut 0 m sz)):=by
 obtain ⟨d,hT⟩:=(show cp w (fun b=>c b=i) (.slice ty) (e6 e) xs h from hT)
 rcases hT with ⟨rfl,rfl⟩ | ⟨e',s,he,ys,hl,⟨g,cap,cur,rfl,g2,g3,g4,g5,g6,g7,g8⟩,h3⟩
 ·have:m=0:=by simpa using hm
  subst this
  exact ⟨d, .inl ⟨by simp [Hd.cut],by simp⟩⟩
 ·refine ⟨d, .inr ⟨e',s,he,ys.take m,by simp [hl],⟨g,cap,cur,?_,g2,by rw [List.length_take]; omega,g4,g5,?_,g7,g8⟩,fun j x y hx hy=>h3 j x y ?_ ?_⟩⟩
  ·simp [Hd.cut,d6]; omega
  ·rw [gO ty _ hl.symm,← g6,List.take_take,List.length_take,Nat.min_eq_left hm,Nat.min_eq_left (Nat.mul_le_mul_right _ hm)]
  ·rw [List.getElem?_take] at hx
   split at hx
   ·exact hx
   ·cases hx
  ·rw [List.getElem?_take] at hy
   split at hy
   ·exact hy
   ·cases hy
theorem IJ {t e0 e:TypeId} {x y:Operand} {khi:IntKind} {j:Int} {ty:Ty} {i:Nat} {K:List Nat} {xs:List ty.den} {h:Hd} {sz by_:Nat} {z:Value} (k:Nat) (hk:L[k]? = some (.tr ty e i K xs h)) (ho:o.op = .slice t x none (some y) none)
  (ht:P.underlying t=some (.slice e0)) (hti:TI P e0 sz by_ z) (hs:sz=ty.sz) (hx:aK ρ x=h.val) (hhi:aK ρ y = .int khi j) (hb:decide (0≤j∧j≤xs.length)=true) :
  cz P ρ o L [] (fun _:Unit=>(h.cut 0 j.toNat sz).val) (fun _=>[.tr ty e i K (xs.take j.toNat) (h.cut 0 j.toNat sz)]):=fun a ev w c next Q ha hL hn=>by
 obtain ⟨h0,hj⟩:=of_decide_eq_true hb
 refine ux (L:=.rep ty (i::K) xs h::L) (i:=0) (klo:=.i64) 0 rfl ho ht hti hs hx rfl hhi (by rw [decide_eq_true_eq]; exact ⟨Int.le_refl _,h0,hj⟩) a ev w c next Q ha (ai.cons (E1 (hL.at hk)) hL) fun y w' c' hst _=>hn () w' c' hst ?_
 exact ai.cons (aaF j.toNat sz (by omega) (ai.at (hL.stp0 hst) hk)) (ai.nil _ _)
theorem cz.tree {ty:Ty} {e0 e:TypeId} {s:EI} {N:Nat} {Kn:List Nat} {K:List Nat} {rows:List (List V1)} {xs:List ty.den} {ys:List ty.Refs} (h:cz P ρ o L [] Hd.val (fun h=>[.own (ge ty.sz) e0 N K rows h])) (hei:e6 e = .row e0 s) (he:Nat.blt e0 1048576=true) (hN:Nat.ble 2 N=true)
  (hl:ys.length=xs.length) (hr:rows.length=xs.length) (hcells:cellsOf (ge ty.sz) rows (List.replicate xs.length ())=cellsOf ty xs ys) (hF : ∀ w c,ai w c L→gZ w (fun b=>c b∈Kn) ty s xs ys) (hn:bM N Kn=false):cz P ρ o L Kn Hd.val (fun h=>[.tr ty e N [] xs h]):=by
 classical
 intro a ev w c next Q ha hL hk
 have hF0:=hF w c hL
 have hN' := Nat.le_of_ble_eq_true hN
 have hn' : N∉Kn:=fun hc=>by rw [mem_iff.2 hc] at hn; cases hn
 refine h a ev w c next Q ha hL fun h' w' c' hst hH=>?_
 have hF1:gZ w (fun b=>b<w.heap.size∧c b∈Kn) ty s xs ys:=hF0.keep fun b hb h=>⟨⟨hb,h⟩,rfl⟩
 have hF2:gZ w' (fun b=>b<w.heap.size∧c b∈Kn) ty s xs ys:=hF1.keep fun b hb h=>⟨h,hst.same b hb (by simp)⟩
 let c2:bd:=fun b=>if b<w.heap.size∧c b∈Kn then N else c' b
 have hstp:Stp Kn w c w' c2:=by
  refine ⟨hst.size,fun b hb hn=>?_,fun b hb _=>hst.same b hb (by simp),fun b hb h=>?_,hst.env⟩
  ·show (if b<w.heap.size∧c b∈Kn then N else c' b)=c b
   rw [if_neg (fun h=>hn h.2)]
   exact hst.col b hb (by simp)
  ·show 2≤(if b<w.heap.size∧c b∈Kn then N else c' b)
   split
   ·exact hN'
   ·rename_i hno
    by_cases hlt:b<w.heap.size
    ·exact absurd ⟨hlt,(h hlt).1⟩ hno
    ·exact hst.two b hb fun h=>absurd h hlt
 refine hk h' w' c2 hstp (ai.cons ?_ (ai.nil _ _))
 show cp w' (fun b=>c2 b=N) (.slice ty) (e6 e) xs h'
 rw [hei]
 rcases I5 he (hH.at (k:=0) rfl) with ⟨hnil,hrows⟩ | ⟨g',hr',hg'⟩
 ·have hz:xs.length=0:=by rw [← hr,hrows]; rfl
  rw [List.eq_nil_of_length_eq_zero hz,hnil]
  exact cp.nil
 ·rw [hr,hcells] at hr'
  refine cp.join (S2:=fun b=>b<w.heap.size∧c b∈Kn) hl hr' ?_ (fun b hb=>by simp [c2,hb]) (fun hb=>?_) hF2
  ·show (if g' < w.heap.size∧c g' ∈ Kn then N else c' g')=N
   split
   ·rfl
   ·exact hg'
  ·have e1:=hst.col g' hb.1 (by simp)
   exact hn' (by rw [← hg',e1]; exact hb.2)
end
end Go.Sm
namespace Go.Sm
section
variable {P:Program} {ρ:cF} {L:List HA} {o:Oper} {N:Nat}
def vZ {A:Type} (q:A→Bool) (a0:A):List A→List A
 | []=>[a0]
 | a::r=>bif q a then a0::r else a::vZ q a0 r
def kO:List Bool→List MapEntry→Nat→Option (Nat×Value)
 | b::bs,e::r,i=>bif b then some (i,e.val) else kO bs r (i+1)
 | _,_,_=>none
abbrev pN (l:List MapEntry):List (Value×Value):=l.map fun e=>(e.key,e.val)
structure KeyRun {A:Type} (P:Program) (kt:TypeId) (x:Value) (q:A→Bool) (f:A→Value×Value) (xs:List A):Prop where
 check : ∀ w em,(Instr.checkKey em 10000 kt x).run P w = .ok () w
 find : ∀ w (l:List MapEntry),pN l=xs.map f→(Instr.findKey kt x l).run P w = .ok (kO (xs.map q) l 0) w
 same : ∀ a∈xs,q a=true→(f a).1=x
 stays : ∀ w,(Instr.keyThatStays x x).run P w = .ok x w
theorem vu {A:Type} {q:A→Bool} {f:A→Value×Value} : ∀ {l:List MapEntry} {xs:List A} (i:Nat),pN l=xs.map f→(kO (xs.map q) l i).map (·.2)=(xs.find? q).map fun a=>(f a).2
 | [],[],_,_=>rfl
 | [],_::_,_,h=>by cases h
 | _::_,[],_,h=>by cases h
 | e::r,a::xs,i,h=>by
  simp only [pN,List.map_cons,List.cons.injEq] at h
  simp only [List.map_cons,kO,List.find?_cons]
  cases q a
  ·exact vu (i+1) h.2
  ·simp only [cond_true,Option.map_some,Option.some.injEq]; rw [← h.1]
theorem BP {A:Type} {q:A→Bool} {f:A→Value×Value} {a0:A} : ∀ {l:List MapEntry} {xs:List A} {i:Nat},pN l=xs.map f→(∀ a∈xs,q a=true→(f a).1=(f a0).1) →
  match kO (xs.map q) l i with
  | some (j,_)=>i≤j∧(∃ e,l[j - i]? = some e∧e.key=(f a0).1)∧pN (l.modify (j - i) fun e=>{ e with key:=(f a0).1,val:=(f a0).2 })=(vZ q a0 xs).map f
  | none=>∀ b,pN (l++[{ key:=(f a0).1,val:=(f a0).2,born:=b }])=(vZ q a0 xs).map f
 | [],[],i,_,_=>fun _=>rfl
 | [],_::_,_,h,_=>by cases h
 | _::_,[],_,h,_=>by cases h
 | e::r,a::xs,i,hl,h=>by
  simp only [pN,List.map_cons,List.cons.injEq] at hl
  simp only [List.map_cons,kO]
  cases hq:q a
  ·have ih:=BP (q:=q) (f:=f) (a0:=a0) (l:=r) (xs:=xs) (i:=i+1) hl.2 fun p hp=>h p (List.mem_cons_of_mem _ hp)
   simp only [cond_false]
   cases hf:kO (xs.map q) r (i+1) with
   | none=>
    rw [hf] at ih
    intro b
    have:=ih b
    simp only [pN,List.map_append,List.cons_append,List.map_cons,vZ,hq,cond_false] at this ⊢
    rw [this,hl.1]
   | some p=>
    obtain ⟨j,v'⟩:=p
    rw [hf] at ih
    obtain ⟨h1,⟨e',h2,h3⟩,h4⟩:=ih
    refine ⟨by omega,⟨e',?_,h3⟩,?_⟩
    ·rw [show j - i=(j - (i+1))+1 by omega,List.getElem?_cons_succ]; exact h2
    ·rw [show j - i=(j - (i+1))+1 by omega]
     simp only [List.modify_succ_cons,pN,List.map_cons,vZ,hq,cond_false] at h4 ⊢
     rw [h4,hl.1]
  ·simp only [cond_true,Nat.sub_self]
   refine ⟨Nat.le_refl _,⟨e,rfl,?_⟩,?_⟩
   ·rw [← h a List.mem_cons_self hq,← hl.1]
   ·simp [pN,vZ,hq,List.modify,hl.2]
theorem sQ (x v:Value) : ∀ (l:List MapEntry) (j:Nat),(l.modify j fun e=>{ e with key:=x,val:=v }).map (·.born)=l.map (·.born)
 | [],j=>by cases j <;> rfl
 | e::r,0=>by simp [List.modify]
 | e::r,j+1=>by simp [List.modify_succ_cons,sQ x v r j]
theorem Sv {A:Type} {t kt et:TypeId} {m x:Operand} {b i:Nat} {xs:List A} {kx z:Value} {q:A→Bool} {f:A→Value×Value} {sz by_:Nat} (k:Nat) (hk:L[k]? = some (.mp i b (xs.map f))) (ho:o.op = .lookup t m x false) (ht:P.underlying t=some (.map kt et))
  (hm:aK ρ m = .map (some b)) (hx:aK ρ x=kx) (K:KeyRun P kt kx q f xs) (hi:TI P et sz by_ z):aY P ρ o L (((xs.find? q).map fun a=>(f a).2).getD z):=fun ev w c he hL=>by
 subst he
 have htihi:=hi; clear hi
 obtain ⟨inf,hi,hz,_,_⟩:=htihi.get
 obtain ⟨arr,clock,h1,h2,h3,h4,h5⟩:=(show qf w (fun g=>c g=i) b (xs.map f) from hL.at hk)
 have hv:=vu (q:=q) 0 (show pN arr.toList=xs.map f from h2)
 have hf:=K.find w arr.toList h2
 rw [← hv]
 cases he:kO (xs.map q) arr.toList 0 with
 | none=>
  rw [he] at hf
  simp [execOp,ho,hm,hx,Instr.lookup,run_underlying ht,MapKept.run_getObj_map h1,K.check,hf,Result.andThen,zeroValue,typeInfo,hi,hz]
 | some p=>
  rw [he] at hf
  simp [execOp,ho,hm,hx,Instr.lookup,run_underlying ht,MapKept.run_getObj_map h1,K.check,hf,Result.andThen]
theorem OX {A:Type} {t kt et:TypeId} {m x:Operand} {b i:Nat} {xs:List A} {kx:Value} {a0:A} {q:A→Bool} {f:A→Value×Value} (k:Nat) (hk:L[k]? = some (.mp i b (xs.map f))) (ho:o.op = .lookup t m x false) (ht:P.underlying t=some (.map kt et))
  (hm:aK ρ m = .map (some b)) (hx:aK ρ x=kx) (K:KeyRun P kt kx q f xs) (hi:xs.find? q=some a0):aY P ρ o L (f a0).2:=fun ev w c he hL=>by
 subst he
 obtain ⟨arr,clock,h1,h2,h3,h4,h5⟩:=(show qf w (fun g=>c g=i) b (xs.map f) from hL.at hk)
 have hv:=vu (q:=q) 0 (show pN arr.toList=xs.map f from h2)
 rw [hi] at hv
 have hf:=K.find w arr.toList h2
 cases he:kO (xs.map q) arr.toList 0 with
 | none=>rw [he] at hv; cases hv
 | some p=>
  rw [he] at hf hv
  simp only [Option.map_some,Option.some.injEq] at hv
  simp [execOp,ho,hm,hx,Instr.lookup,run_underlying ht,MapKept.run_getObj_map h1,K.check,hf,Result.andThen,hv]
theorem K4 {t:TypeId} (ho:o.op = .makeMap t none) (hN:Nat.ble 2 N=true):cz P ρ o L [] (fun b:Nat=>.map (some b)) (fun b=>[.mp N b []]):=fun a ev w c next Q _ _ hk=>by
 have hrun:(execOp ev o).run P w = .ok (.value (.map (some w.heap.size))) (w.alloc (.map #[] 0)):=by
  simp [execOp,ho,Instr.makeMap,Result.andThen]
 rw [hrun]
 exact hk w.heap.size _ _ (qM hN _) (ai.cons ⟨#[],0,heap_alloc_new w _,rfl,by simp,by simp,by simp⟩ (ai.nil _ _))
theorem zP {w:World} {c:bd} {b i:Nat} {ob:Obj} (hc:c b=i):Stp [i] w c { w with heap:=w.heap.setIfInBounds b ob } c:=by
 refine .mk0 (by simp) (fun _ _=>rfl) (fun b' hb' hn=>?_) (fun b' h1 h2=>by simp at h2; omega) ⟨rfl,rfl⟩
 have:b≠b' := fun e=>hn (by rw [← e,hc]; simp)
 simp [this]
theorem QA {A:Type} {t kt et:TypeId} {m x y:Operand} {b i:Nat} {xs:List A} {a0:A} {q:A→Bool} {f:A→Value×Value} (k:Nat) (hk:L[k]? = some (.mp i b (xs.map f))) (ho:o.op = .mapUpdate t m x y∨o.op = .insert t m x y) (ht:P.underlying t=some (.map kt et))
  (hm:aK ρ m = .map (some b)) (hx:aK ρ x=(f a0).1) (hy:aK ρ y=(f a0).2) (K:KeyRun P kt (f a0).1 q f xs):cz P ρ o L [i] (fun _:Unit=>undef) (fun _=>[.mp i b ((vZ q a0 xs).map f)]):=by
 intro a ev w c next Q ha hL hn
 subst ha
 obtain ⟨arr,clock,h1,h2,h3,h4,h5⟩:=(show qf w (fun g=>c g=i) b (xs.map f) from hL.at hk)
 have hf:=K.find w arr.toList h2
 have hp:=BP (q:=q) (f:=f) (a0:=a0) (i:=0) (show pN arr.toList=xs.map f from h2) K.same
 cases he:kO (xs.map q) arr.toList 0 with
 | none=>
  rw [he] at hf hp
  have hrun:(execOp (aK ρ) o).run P w = .ok .skip { w with heap:=w.heap.setIfInBounds b (.map (arr.push { key:=(f a0).1,val:=(f a0).2,born:=clock }) (clock+1)) }:=by
   rcases ho with ho | ho <;> simp [execOp,ho,hm,hx,hy,Instr.mapUpdate,run_underlying ht,MapKept.run_getObj_map h1,K.check,hf,Result.andThen,MapKept.run_setObj_map _ h1]
  rw [hrun]
  refine hn () _ c (zP h5) (ai.cons ⟨_,_,(MapKept.heap_set h1).1,?_,?_,?_,h5⟩ (ai.nil _ _))
  ·rw [Array.toList_push]; exact hp clock
  ·intro e hm'
   rw [Array.toList_push] at hm'
   rcases List.mem_append.1 hm' with hm' | hm'
   ·have:=h3 e hm'; omega
   ·simp only [List.mem_singleton] at hm'
    subst hm'
    exact Nat.lt_succ_self _
  ·rw [Array.toList_push,List.map_append,List.nodup_append]
   refine ⟨h4,by simp,?_⟩
   intro a ha b' hb' e
   simp only [List.map_cons,List.map_nil,List.mem_singleton] at hb'
   subst hb'
   obtain ⟨z,hz,rfl⟩:=List.mem_map.1 ha
   have:=h3 z hz
   omega
 | some p=>
  obtain ⟨j,v'⟩:=p
  rw [he] at hf hp
  obtain ⟨_,⟨e,e1,e2⟩,e3⟩:=hp
  rw [Nat.sub_zero] at e1 e3
  rw [Array.getElem?_toList] at e1
  have hst:=K.stays w
  have hrun:(execOp (aK ρ) o).run P w = .ok .skip { w with heap:=w.heap.setIfInBounds b (.map (arr.modify j fun e=>{ e with key:=(f a0).1,val:=(f a0).2 }) clock) }:=by
   rcases ho with ho | ho <;> simp [execOp,ho,hm,hx,hy,Instr.mapUpdate,run_underlying ht,MapKept.run_getObj_map h1,K.check,hf,Result.andThen,e1,e2,hst,MapKept.run_setObj_map _ h1]
  rw [hrun]
  refine hn () _ c (zP h5) (ai.cons ⟨_,_,(MapKept.heap_set h1).1,?_,?_,?_,h5⟩ (ai.nil _ _))
  ·rw [Array.toList_modify]; exact e3
  ·intro e' hm'
   have hb:=sQ (f a0).1 (f a0).2 arr.toList j
   rw [Array.toList_modify] at hm'
   have:e'.born∈(arr.toList.modify j fun e=>{ e with key:=(f a0).1,val:=(f a0).2 }).map (·.born):=List.mem_map.2 ⟨_,hm',rfl⟩
   rw [hb] at this
   obtain ⟨z,hz,hz2⟩:=List.mem_map.1 this
   have:=h3 z hz
   omega
  ·rw [Array.toList_modify,sQ]; exact h4
theorem ac5 {A:Type} {kt:TypeId} {k:IntKind} (ht:P.underlying kt=some (.int k)) (x:Int) {q:A→Bool} {f:A→Value×Value} {xs:List A} {g:A→Int} (hf : ∀ a∈xs,(f a).1 = .int k (g a)) (hq : ∀ a∈xs,q a=(x==g a)):KeyRun P kt (.int k x) q f xs where
 check w em:=MapKept.run_checkKey ht (by simp [MapKept.IsKey]) em 9999
 find w l hl:=by
  have key : ∀ (l:List MapEntry) (xs:List A) (i:Nat),(∀ a∈xs,(f a).1 = .int k (g a))→(∀ a∈xs,q a=(x==g a))→pN l=xs.map f→Instr.findNow (.int k) (.int k x) l i=some (kO (xs.map q) l i):=by
   intro l
   induction l with
   | nil=>intro xs i _ _ h; cases xs <;> rfl
   | cons e r ih=>
    intro xs i hf hq h
    cases xs with
    | nil=>cases h
    | cons p es=>
     simp only [pN,List.map_cons,List.cons.injEq] at h
     obtain ⟨h1,h3⟩:=h
     have e1:e.key = .int k (g p):=by rw [← hf p List.mem_cons_self,← h1]
     simp only [Instr.findNow,e1,Instr.sameNow,if_true,List.map_cons,kO,hq p List.mem_cons_self]
     cases hx:x==g p
     ·simp only [cond_false]; exact ih es (i+1) (fun a ha=>hf a (List.mem_cons_of_mem _ ha)) (fun a ha=>hq a (List.mem_cons_of_mem _ ha)) h3
     ·rfl
  exact MapKept.run_findKey ht (key l xs 0 hf hq hl)
 same a ha h:=by
  rw [hq a ha,beq_iff_eq] at h
  rw [hf a ha,h]
 stays w:=by simp [Instr.keyThatStays,Instr.sameBits,Sem.run_pure]
theorem Pd {A:Type} {kt:TypeId} {Fd:Array Field} (ht:P.underlying kt=some (.struct Fd)) {x:Value} {q:A→Bool} {f:A→Value×Value} {xs:List A} (hc : ∀ w em,(Instr.checkKey em 10000 kt x).run P w = .ok () w)
  (he : ∀ w,∀ a∈xs,(Op.equalIn 10000 kt x (f a).1).run P w = .ok (q a) w) (hs : ∀ a∈xs,q a=true→(f a).1=x) (hb:Instr.sameBits 10000 x x=true):KeyRun P kt x q f xs where
 check:=hc
 find w l hl:=by
  have ask : ∀ (l:List MapEntry) (xs:List A) (i:Nat),(∀ a∈xs,(Op.equalIn 10000 kt x (f a).1).run P w = .ok (q a) w)→pN l=xs.map f→(Instr.findAsking kt x l i).run P w = .ok (kO (xs.map q) l i) w:=by
   intro l
   induction l with
   | nil=>intro xs i _ h; cases xs <;> simp [Instr.findAsking,kO]
   | cons e r ih=>
    intro xs i he h
    cases xs with
    | nil=>cases h
    | cons p es=>
     simp only [pN,List.map_cons,List.cons.injEq] at h
     obtain ⟨h1,h3⟩:=h
     have e1:e.key=(f p).1:=by rw [← h1]
     have e2:=he p List.mem_cons_self
     rw [← e1] at e2
     have e3:(Op.equal kt x e.key).run P w = .ok (q p) w:=e2
     simp only [Instr.findAsking,Sem.run_bind,e3,Result.andThen_ok,List.map_cons,kO]
     cases hx:q p
     ·simpa using ih es (i+1) (fun a ha=>he a (List.mem_cons_of_mem _ ha)) h3
     ·simp [Sem.run_pure]
  have h0:=ask l xs 0 (he w) hl
  cases l with
  | nil=>
   simp only [Instr.findKey,Sem.run_bind,run_underlying ht,Result.andThen_ok,Instr.findNow,Sem.run_pure]
   cases xs with
   | nil=>rfl
   | cons _ _=>cases hl
  | cons e r=>
   have hn:Instr.findNow (.struct Fd) x (e::r) 0=none:=by simp [Instr.findNow,Instr.sameNow]
   simp only [Instr.findKey,Sem.run_bind,run_underlying ht,Result.andThen_ok,hn]
   exact h0
 same:=hs
 stays w:=by simp [Instr.keyThatStays,hb,Sem.run_pure]
end
end Go.Sm
namespace Go.Sm
section
variable {P:Program} {ρ:cF} {L:List HA} {o:Oper}
theorem tE.rep {w:World} {S SK S' : Nat→Prop} {t:Ty} {e:TypeId} {xs:List t.den} {v:Hd} {m:Int} (h1 : ∀ b,S b→S' b) (h2 : ∀ b,SK b→S' b) (h:tE w S SK t e xs v m):bA w S' (.slice t) xs v:=by
 rcases h with ⟨rfl,rfl⟩ | ⟨d,e0,s,ys,_,hl,hr,hT,hR⟩
 ·exact ⟨[],trivial,rfl,by simp,by simp [maxLen], .inl ⟨trivial,rfl⟩⟩
 ·refine ⟨ys,iK hl fun j x y hx hy=>?_,?_⟩
  ·by_cases hj:(j:Int)<m
   ·exact bo.rep h1 t s [j] x y (hT j x y hj hx hy)
   ·exact bA.keep (gU.of h2) t x y (hR j x y (by omega) hx hy)
  ·obtain ⟨g,cap,cur,rfl,g2,g3,g4,g5,g6,g7,g8⟩:=hr
   exact ⟨rfl,g3,g4, .inr ⟨g,0,cur,e0,(0,0),rfl,h1 g g7,g2,by show 0+cap * t.sz≤cur.size; omega,by simpa using g6⟩⟩
theorem GO {w:World} {c:bd} {t:Ty} {e:TypeId} {i:Nat} {K:List Nat} {xs:List t.den} {v:Hd} {m:Int} (h:HA.holds w c (.pt t e i K xs v m)):HA.holds w c (.rep t (i::K) xs v):=
 tE.rep (S:=fun b=>c b=i) (SK:=fun b=>c b∈K) (fun b (hb:c b=i)=>by show c b∈i::K; rw [hb]; exact List.mem_cons_self) (fun b hb=>List.mem_cons_of_mem _ hb) h
theorem aan {w:World} {c:bd} {t:Ty} {e e0:TypeId} {s:EI} {i:Nat} {K:List Nat} {xs:List t.den} {v:Hd} (hei:e6 e = .row e0 s) (he:Nat.blt e0 1048576=true) (h:HA.holds w c (.own t e0 i K xs v)):HA.holds w c (.pt t e i K xs v 0):=by
 obtain ⟨ys,h1,h2,h3⟩:=h
 obtain ⟨a,n,cap⟩:=v
 rcases (h2.plain he).2 with ⟨hv,hn⟩ | ⟨g,cap',cur,hv,_,hg,g3,g4,g5,g6⟩
 ·simp only [Hd.val,Value.slice.injEq] at hv
  obtain ⟨rfl,rfl,rfl⟩:=hv
  exact .inl ⟨rfl,List.eq_nil_of_length_eq_zero hn⟩
 ·have hcg:=h3 g (by rw [hv]; rfl)
  simp only [Hd.val,Value.slice.injEq] at hv
  obtain ⟨rfl,rfl,rfl⟩:=hv
  refine .inr ⟨fun _=>[],e0,s,ys,hei,h1.length.symm,⟨g,cap,cur,rfl,hg,g3,g4,g5,g6,hcg,rfl⟩,fun j x y hj=>by omega,fun j x y _ hx hy=>?_⟩
  have hget : ∀ {xs:List t.den} {ys:List t.Refs} {j:Nat},bK (bA w (fun b=>c b∈K) t) xs ys→xs[j]? = some x→ys[j]? = some y→bA w (fun b=>c b∈K) t x y:=by
   intro xs
   induction xs with
   | nil=>intro ys j _ hx; simp at hx
   | cons a xs ih=>
    intro ys j h hx hy
    cases ys with
    | nil=>simp at hy
    | cons b ys=>
     cases j with
     | zero=>
      simp at hx hy
      subst hx hy
      exact h.1
     | succ j=>exact ih h.2 (by simpa using hx) (by simpa using hy)
  exact hget h1 hx hy
theorem Zc {w:World} {c:bd} {t:Ty} {e:TypeId} {i:Nat} {K K' : List Nat} {xs:List t.den} {v:Hd} {m:Int} (hm:(xs.length:Int)≤m) (h:HA.holds w c (.pt t e i K xs v m)):HA.holds w c (.tr t e i K' xs v):=by
 rcases h with ⟨rfl,rfl⟩ | ⟨d,e0,s,ys,hei,hl,hr,hT,hR⟩
 ·exact cp.nil
 ·show cp w (fun b=>c b=i) (.slice t) (e6 e) xs v
  rw [hei]
  exact ⟨d, .inr ⟨e0,s,rfl,ys,hl,hr,fun j x y hx hy=>hT j x y (by have:=(List.getElem?_eq_some_iff.1 hx).1; omega) hx hy⟩⟩
theorem IN {t:TypeId} {x y:Operand} {off:Nat} {ty:Ty} {e e0:TypeId} {s:EI} {i:Nat} {K Kn:List Nat} {xs:List ty.den} {h:Hd} {k:Nat} {vs:List Value} {v z:Value} {sz by_:Nat} {xo xn:ty.den} (j:Nat) (hj:L[j]? = some (.pt ty e i K xs h (k:Int))) (hei:e6 e = .row e0 s) (ho:o.op = .store t x y) (hi:TI P t sz by_ z)
  (hx:aK ρ x = .pointer (some (dP h (k * ty.sz+off)))) (hy:aK ρ y=v) (hv:v.cells=vs.toArray) (hl:Nat.beq vs.length sz=true) (hones:vs.all Value.oneCell' = true) (hin:off+vs.length≤ty.sz) (hxo:xs[k]? = some xo)
  (hfill : ∀ yo:ty.Refs,∃ yn:ty.Refs,ty.fill xn yn=(ty.fill xo yo).take off++vs++(ty.fill xo yo).drop (off+vs.length)∧∀ w c,ai w c L→cp w (fun b=>c b∈Kn) ty s xn yn)
  (h2:Nat.ble 2 i=true) (hn:bM i Kn=false) (hK:K.all (fun q=>!(bM q (i::Kn)))=true) :
  cz P ρ o L (i::Kn) (fun _:Unit=>undef) (fun _=>[.pt ty e i K (xs.set k xn) h (k+1:Nat), .rep ty (i::K) (xs.set k xn) h]):=by
 classical
 intro a ev w c next Q ha hL hk
 have htihi:=hi; clear hi
 obtain ⟨inf,hi,_,rfl,_⟩:=htihi.get
 have hi2:=Nat.le_of_ble_eq_true h2
 have hn' : i∉Kn:=fun hc=>by rw [mem_iff.2 hc] at hn; cases hn
 have hK' : ∀ q∈K,q≠i∧q∉Kn:=fun q hq=>by
  have:=List.all_eq_true.1 hK q hq
  simp only [Bool.not_eq_true'] at this
  have hm:q∉i::Kn:=fun hc=>by rw [mem_iff.2 hc] at this; cases this
  simp only [List.mem_cons,not_or] at hm
  exact hm
 have hklt:k<xs.length:=(List.getElem?_eq_some_iff.1 hxo).1
 rcases (show tE w (fun b=>c b=i) (fun b=>c b∈K) ty e xs h k from hL.at hj) with ⟨_,rfl⟩ | ⟨d,e0',s',ys,he,hlen,⟨g,cap,cur,rfl,g2,g3,g4,g5,g6,g7,g8⟩,hT,hR⟩
 ·simp at hklt
 rw [hei] at he
 cases he
 obtain ⟨yo,hyo⟩ : ∃ yo,ys[k]? = some yo:=⟨ys[k]'(by omega),List.getElem?_eq_getElem _⟩
 obtain ⟨yn,hf1,hf2⟩:=hfill yo
 have hFn:=hf2 w c hL
 have hfl:(ty.fill xo yo).length=ty.sz:=ty.fill_length _ _
 rw [← pz hlen hxo hyo] at g6
 obtain ⟨c1,c2⟩:=jP (cs:=ty.fill xo yo) hlen hklt hfl
 have m1:(k+1) * ty.sz≤xs.length * ty.sz:=Nat.mul_le_mul_right _ hklt
 have m2:xs.length * ty.sz≤cap * ty.sz:=Nat.mul_le_mul_right _ g3
 rw [Nat.add_mul,Nat.one_mul] at m1
 have hcur:cur.toList=cellsOf ty (xs.take k) (ys.take k)++ty.fill xo yo++cellsOf ty (xs.drop (k+1)) (ys.drop (k+1))++cur.toList.drop (xs.length * ty.sz):=by
  rw [show cellsOf ty (xs.take k) (ys.take k)++ty.fill xo yo++cellsOf ty (xs.drop (k+1)) (ys.drop (k+1))=dE ty xs ys k (ty.fill xo yo) from rfl,← g6,List.take_append_drop]
 have hp:dP ⟨some ⟨g,0,none⟩,xs.length,cap⟩ (k * ty.sz+off)=⟨g,k * ty.sz+off,none⟩:=by simp [dP]
 have hst:=j7 P g (k * ty.sz+off) e0 (0,0) vs cur w g2 (.inl rfl) (by omega) (wP hones)
 have hrun:(execOp ev o).run P w = .ok .skip (w.setRow g (cur.toList.take (k * ty.sz+off)++vs++cur.toList.drop (k * ty.sz+off+vs.length)).toArray):=by
  simp [execOp,ho,ha,hx,hp,hy,Instr.storeAt,Instr.sureAddr,storeVar,hv,sizeOf,typeInfo,hi,Nat.eq_of_beq_eq_true hl,hst,Result.andThen]
 rw [hrun]
 have e1:cur.toList.take (k * ty.sz+off)++vs++cur.toList.drop (k * ty.sz+off+vs.length)=dE ty xs ys k (ty.fill xn yn)++cur.toList.drop (xs.length * ty.sz):=by
  generalize hC:cur.toList.drop (xs.length * ty.sz)=C at hcur
  rw [hcur,hf1]
  exact Bh c2 (by omega)
 rw [e1]
 obtain ⟨c3,_⟩:=jP (cs:=ty.fill xn yn) hlen hklt (ty.fill_length _ _)
 let cc:bd:=fun b=>if c b∈Kn then i else c b
 have hgK:c g∉Kn:=fun hb=>hn' (by rw [← show c g=i from g7]; exact hb)
 have hsame : ∀ b,b≠g→(w.setRow g (dE ty xs ys k (ty.fill xn yn)++cur.toList.drop (xs.length * ty.sz)).toArray).heap[b]? = w.heap[b]? := fun b hb=>by
  simp [World.setRow,Array.getElem?_modify,show ¬ g=b from fun e=>hb e.symm]
 have hstp:Stp (i::Kn) w c (w.setRow g (dE ty xs ys k (ty.fill xn yn)++cur.toList.drop (xs.length * ty.sz)).toArray) cc:=by
  refine ⟨by rw [ph]; exact Nat.le_refl _,fun b _ hb=>?_,fun b _ hb=>?_,fun b hb hb2=>?_,⟨rfl,rfl⟩⟩
  ·show (if c b∈Kn then i else c b)=c b
   rw [if_neg (fun h=>hb (List.mem_cons_of_mem _ h))]
  ·exact hsame b fun e=>hb (by rw [e,show c g=i from g7]; exact List.mem_cons_self)
  ·show 2≤(if c b∈Kn then i else c b)
   rw [ph] at hb
   split
   ·exact hi2
   ·exact (hb2 hb).2
 have hPt:HA.holds (w.setRow g (dE ty xs ys k (ty.fill xn yn)++cur.toList.drop (xs.length * ty.sz)).toArray) cc (.pt ty e i K (xs.set k xn) ⟨some ⟨g,0,none⟩,xs.length,cap⟩ (k+1:Nat)):=by
  obtain ⟨d2,hFn⟩:=hFn
  have hgcc:cc g=i:=by
   show (if c g∈Kn then i else c g)=i
   rw [if_neg hgK]; exact g7
  refine .inr ⟨fun b=>if c b∈Kn then d2 b++[k] else d b,e0,s,ys.set k yn,hei,by simpa using hlen,⟨g,cap,_,by rw [List.length_set],setRow_heap w g cur _ e0 (0,0) g2,by rw [List.length_set]; exact g3,g4,?_,?_,hgcc,?_⟩,fun q x' y' hq hx' hy' => ?_,fun q x' y' hq hx' hy' => ?_⟩
  ·have:cur.toList.length=cap * ty.sz:=by simpa using g5
   simp only [List.size_toArray,List.length_append,List.length_drop]; omega
  ·rw [List.length_set,pj hlen hklt]
   show (dE ty xs ys k (ty.fill xn yn)++cur.toList.drop (xs.length * ty.sz)).take (xs.length * ty.sz)=_
   rw [List.take_append,List.take_of_length_le (by omega),c3,Nat.sub_self,List.take_zero,List.append_nil]
  ·show (if c g∈Kn then d2 g++[k] else d g)=[]
   rw [if_neg hgK]; exact g8
  ·by_cases hqk:q=k
   ·subst hqk
    rw [List.getElem?_set_self hklt] at hx'
    rw [List.getElem?_set_self (by omega)] at hy'
    cases hx'; cases hy'
    have h1:bo w (fun b=>c b∈Kn) (fun b=>d2 b++[q]) ty s [q] xn yn:=bo.ren (f:=fun σ=>σ++[q]) (π0:=[]) (fun _ _ _=>rfl) (fun b hb _=>⟨hb,rfl⟩) ty s [] xn yn ⟨[],rfl⟩ hFn
    have h2:bo w (fun b=>c b∈Kn) (fun b=>if c b∈Kn then d2 b++[q] else d b) ty s [q] xn yn:=bo.re (π0:=[q]) (fun b hb _=>⟨hb,by simp [hb]⟩) (dO _) h1
    refine bo.keep (fun b _ (hb:c b∈Kn)=>⟨?_,hsame b fun e=>hgK (by rw [← e]; exact hb)⟩) ty s _ _ _ h2
    show (if c b∈Kn then i else c b)=i
    rw [if_pos hb]
   ·rw [List.getElem?_set_ne (by omega)] at hx' hy'
    have h0:=hT q x' y' (by omega) hx' hy'
    have h1:bo w (fun b=>c b=i∧b≠g) (fun b=>if c b∈Kn then d2 b++[k] else d b) ty s [q] x' y' := bo.re (π0:=[q]) (fun b (hb:c b=i) hu=>⟨⟨hb,fun e=>by
     subst e
     rw [g8] at hu
     exact pV hu rfl⟩,by
      have:c b∉Kn:=by rw [hb]; exact hn'
      simp [this]⟩) (dO _) h0
    refine bo.keep (fun b _ hb=>⟨?_,hsame b hb.2⟩) ty s _ _ _ h1
    show (if c b∈Kn then i else c b)=i
    rw [if_neg (by rw [hb.1]; exact hn')]; exact hb.1
  ·have hqk:q≠k:=by omega
   rw [List.getElem?_set_ne (by omega)] at hx' hy'
   refine bA.keep (S:=fun b=>c b∈K) (fun b _ (hb:c b∈K)=>⟨?_,hsame b fun e=>?_⟩) ty _ _ (hR q x' y' (by omega) hx' hy')
   ·show (if c b∈Kn then i else c b)∈K
    rw [if_neg (hK' _ hb).2]; exact hb
   ·exact (hK' _ hb).1 (by rw [e]; exact g7)
 exact hk () _ cc hstp (ai.cons hPt (ai.cons (GO hPt) (ai.nil _ _)))
end
end Go.Sm
namespace Go.Sm
theorem y5 {P:Program} {w:World} {t u ty e:TypeId} {i:TypeInfo} (ht:P.underlying t=some (.slice e)) (hu:P.underlying u=some .string) (hi:P.info? e=some i) (hz:i.zero=some (.int .u8 0)) (hs:i.size=1) (hby:i.bytes=1)
  {h:Hd} {n:Nat} {xs:List Value} (hown:w.ownsRow 0 e 1 h.val n xs) (s:ByteArray) (h63:n+s.size≤maxLen) (hbytes:n+s.size≤140737488355328) :
  ∃ (h' : Hd) (w' : World),(Builtin.append_ #[t,u] ty #[h.val, .string s]).run P w = .ok h'.val w' ∧ w'.ownsRow 0 e 1 h'.val (n+s.size) (xs++Lib.strCells s)∧w.grownBy w' h.val.ownBlock ∧
   (∀ g,h'.val.ownBlock=some g→h.val.ownBlock=some g∨w.heap.size≤g):=by
 have toHd : ∀ (v' : Value) (w' : World),w'.ownsRow 0 e 1 v' (n+s.size) (xs++Lib.strCells s)→∃ h' : Hd,v' = h'.val:=by
  intro v' w' ho
  rcases ho.2 with ⟨rfl,_⟩ | ⟨g,cap,cur,rfl,_⟩
  ·exact ⟨⟨none,0,0⟩,rfl⟩
  ·exact ⟨⟨some ⟨g,0,none⟩,n+s.size,cap⟩,rfl⟩
 obtain ⟨v0,hv0⟩ : ∃ v,v=h.val:=⟨_,rfl⟩
 rw [← hv0] at hown ⊢
 rcases hown.2 with ⟨hnil,hn0⟩ | ⟨g,cap,cur,hv,_,hg,hnc,hcm,hcs,htake⟩
 ·have hown' : w.ownsRow w.heap.size e 1 v0 n xs:=⟨hown.1, .inl ⟨hnil,hn0⟩⟩
  obtain ⟨v',w',hr,h2,h3,_⟩:=Lib.run_append_own_string (P:=P) w w.heap.size t u ty e i ht hu hi hz hs hby _ n xs hown' s h63 hbytes (Nat.le_refl _)
  have h2' : w'.ownsRow 0 e 1 v' (n+s.size) (xs++Lib.strCells s):=⟨h2.1,h2.2.imp id fun ⟨g,cap,cur,hv,_,hrest⟩=>⟨g,cap,cur,hv,Nat.zero_le _,hrest⟩⟩
  obtain ⟨h',rfl⟩:=toHd v' w' h2'
  exact ⟨h',w',hr,h2',h3,fun g hg=>.inr (h2.lt g hg).1⟩
 ·obtain ⟨v',w',hr,h2,h3,_⟩:=Lib.run_append_own_string (P:=P) w 0 t u ty e i ht hu hi hz hs hby _ n xs hown s h63 hbytes (Nat.zero_le _)
  have hcs' : cur.size=cap:=by simpa using hcs
  by_cases hroom:n+s.size≤cap
  ·have hr2:=Lib.run_append_room_string (P:=P) w t u ty e i ht hu hi hs g n cap cur hg s hroom (by omega)
   rw [hv] at hr ⊢
   rw [hr2] at hr
   simp only [Result.ok.injEq] at hr
   obtain ⟨rfl,rfl⟩:=hr
   rw [hv] at h3
   exact ⟨⟨some ⟨g,0,none⟩,n+s.size,cap⟩,_,hr2,h2,h3,fun g' hg' => .inl (by simpa [Value.ownBlock] using hg')⟩
  ·have holds : ∀ j u,xs[j]? = some u→w.cell? ((⟨g,0,none⟩:Addr).add j)=some u:=hown.cells (g:=g) (by rw [hv]; rfl)
   have hr2:=Lib.run_append_grow_string (P:=P) w t u ty e i (.int .u8 0) ht hu hi hz ⟨g,0,none⟩ n cap xs (by rw [hs]; exact hown.1) holds s (by omega) (by simp only [maxLen] at h63; omega) (by rw [hby]; exact growslice_fits (by omega) (by omega))
   rw [hv] at hr ⊢
   rw [hr2] at hr
   simp only [Result.ok.injEq] at hr
   obtain ⟨rfl,rfl⟩:=hr
   rw [hv] at h3
   refine ⟨⟨some ⟨w.heap.size,0,none⟩,n+s.size,_⟩,_,hr2,h2,h3,fun g' hg' => .inr ?_⟩
   simp [Value.ownBlock] at hg'
   omega
section
variable {P:Program} {ρ:cF} {L:List HA} {o:Oper}
abbrev zj:Ty:=.one Int (fun x=>.int .u8 x) (fun _=>rfl)
theorem Hx : ∀ (l:List UInt8),(l.map fun b=>Value.int .u8 b.toNat)=cellsOf zj (l.map fun b=>(b.toNat:Int)) (List.replicate l.length ())
 | []=>rfl
 | b::r=>by
  simp only [List.map_cons,List.length_cons,List.replicate_succ,cellsOf,Hx r]
  rfl
theorem Cm {t u e:TypeId} {sz by_:Nat} {s x:Operand} {ci:Nat} {K:List Nat} {xs:List Int} {h:Hd} {l:List UInt8} (j:Nat)
  (hj:L[j]? = some (.own zj e ci K xs h)) (ho:o.op = .call { callee:=.builtin .append,args:=#[s,x],argTypes:=#[t,u] }) (ht:P.underlying t=some (.slice e)) (hu:P.underlying u=some .string) (hi:TI P e sz by_ (.int .u8 0)) (hs:Nat.beq sz 1=true) (hb:Nat.beq by_ 1=true)
  (hse:aK ρ s=h.val) (hxe:aK ρ x = .string ⟨l.toArray⟩)
  (hroom:decide ((xs.length+l.length) * by_≤140737488355328∧xs.length+l.length≤maxLen)=true) (hci:Nat.ble 2 ci=true) (he:Nat.blt e 1048576=true) :
  cz P ρ o L [ci] Hd.val (fun h' => [.own zj e ci K (xs++l.map fun b=>(b.toNat:Int)) h']):=by
 intro a ev w c next Q ha hL hk
 have htihi:=hi; clear hi
 obtain ⟨inf,hi,hz,hs1,hb1⟩:=htihi.get
 obtain ⟨rs,hr1,hown,hcol⟩:=hL.at hj
 obtain ⟨hb2,h63⟩:=of_decide_eq_true hroom
 have hs' := Nat.eq_of_beq_eq_true hs
 have hb' := Nat.eq_of_beq_eq_true hb
 rw [hb',Nat.mul_one] at hb2
 replace hown:w.ownsRow 0 e 1 h.val xs.length (cellsOf zj xs rs):=hown.plain he
 have hsz:(⟨l.toArray⟩:ByteArray).size=l.length:=by simp [ByteArray.size]
 obtain ⟨h',w',hrun,ho',hg,hblk⟩:=y5 (P:=P) (ty:=o.type) ht hu hi hz (by omega) (by omega) hown ⟨l.toArray⟩ (by omega) (by omega)
 have hex:(execOp ev o).run P w = .ok (.value h'.val) w' := by
  simp [execOp,ho,ha,hse,hxe,resolve,invoke,builtin,hrun,Result.andThen]
 rw [hex]
 have hst:=sA hci hg hcol
 refine hk h' w' _ hst (ai.cons ⟨rs++List.replicate l.length (),?_,?_,wF hblk hcol⟩ (ai.nil _ _))
 ·exact (hr1.mono fun x y _=>bA.pure zj x y rfl).append (iK (by simp) fun j x y _ _=>bA.pure zj x y rfl)
 ·rw [dC zj hr1.length,← Hx]
  have e1:Lib.strCells ⟨l.toArray⟩=l.map fun b=>Value.int .u8 b.toNat:=by simp [Lib.strCells]
  rw [hsz,e1] at ho'
  have:=tV ho'
  simpa using this
end
end Go.Sm
namespace Go.Sm
section
variable {P:Program} {ρ:cF} {L:List HA} {o:Oper}
def AZ (x y z u:Int):Int:=let a:=if y<x then y else x; let b:=if z<a then z else a; if u<b then u else b
theorem HQ {w:World} (ts:Array TypeId) (t:TypeId) (k1 k2 k3 k4:IntKind) (x y z u:Int):(Builtin.min_ ts t #[.int k1 x, .int k2 y, .int k3 z, .int k4 u]).run P w = .ok (.int k1 (AZ x y z u)) w:=by
 simp [Builtin.min_,Builtin.min2,AZ]
theorem acX {ts:Array TypeId} {x y z u:Operand} {k:IntKind} {a b c d:Int} (ho:o.op = .call { callee:=.builtin .min,args:=#[x,y,z,u],argTypes:=ts }) (hx:aK ρ x = .int k a) (hy:aK ρ y = .int k b) (hz:aK ρ z = .int k c) (hu:aK ρ u = .int k d) :
  aY P ρ o L (.int k (AZ a b c d)):=fun ev w c he _=>by
 subst he; simp [execOp,ho,hx,hy,hz,hu,resolve,invoke,builtin,HQ,Result.andThen]
theorem IP {t:TypeId} {x y:Operand} {off:Nat} {ty:Ty} {e:TypeId} {i:Nat} {K:List Nat} {xs:List ty.den} {h:Hd} {k:Nat} {vs:List Value} {v z:Value} {sz by_:Nat} {xo xn:ty.den} (j:Nat) (hj:L[j]? = some (.tr ty e i K xs h)) (ho:o.op = .store t x y) (hi:TI P t sz by_ z)
  (hx:aK ρ x = .pointer (some (dP h (k * ty.sz+off)))) (hy:aK ρ y=v) (hv:v.cells=vs.toArray) (hl:Nat.beq vs.length sz=true) (hones:vs.all Value.oneCell' = true) (hin:off+vs.length≤ty.sz) (hxo:xs[k]? = some xo)
  (hfill : ∀ yo:ty.Refs,ty.fill xn yo=(ty.fill xo yo).take off++vs++(ty.fill xo yo).drop (off+vs.length))
  (htree : ∀ (w:World) (S:Nat→Prop) (d:Nat→List Nat) (ε:EI) (π:List Nat) (yo:ty.Refs),bo w S d ty ε π xo yo→bo w S d ty ε π xn yo) :
  cz P ρ o L [i] (fun _:Unit=>undef) (fun _=>[.tr ty e i K (xs.set k xn) h]):=by
 intro a ev w c next Q ha hL hk
 have htihi:=hi; clear hi
 obtain ⟨inf,hi,_,rfl,_⟩:=htihi.get
 have hklt:k<xs.length:=(List.getElem?_eq_some_iff.1 hxo).1
 obtain ⟨d,hT⟩:=(show cp w (fun b=>c b=i) (.slice ty) (e6 e) xs h from hL.at hj)
 rcases hT with ⟨_,rfl⟩ | ⟨e0,s,hei,ys,hlen,⟨g,cap,cur,rfl,g2,g3,g4,g5,g6,g7,g8⟩,hT⟩
 ·simp at hklt
 obtain ⟨yo,hyo⟩ : ∃ yo,ys[k]? = some yo:=⟨ys[k]'(by omega),List.getElem?_eq_getElem _⟩
 have hf1:=hfill yo
 have hfl:(ty.fill xo yo).length=ty.sz:=ty.fill_length _ _
 rw [← pz hlen hxo hyo] at g6
 obtain ⟨c1,c2⟩:=jP (cs:=ty.fill xo yo) hlen hklt hfl
 have m1:(k+1) * ty.sz≤xs.length * ty.sz:=Nat.mul_le_mul_right _ hklt
 have m2:xs.length * ty.sz≤cap * ty.sz:=Nat.mul_le_mul_right _ g3
 rw [Nat.add_mul,Nat.one_mul] at m1
 have hcur:cur.toList=cellsOf ty (xs.take k) (ys.take k)++ty.fill xo yo++cellsOf ty (xs.drop (k+1)) (ys.drop (k+1))++cur.toList.drop (xs.length * ty.sz):=by
  rw [show cellsOf ty (xs.take k) (ys.take k)++ty.fill xo yo++cellsOf ty (xs.drop (k+1)) (ys.drop (k+1))=dE ty xs ys k (ty.fill xo yo) from rfl,← g6,List.take_append_drop]
 have hp:dP ⟨some ⟨g,0,none⟩,xs.length,cap⟩ (k * ty.sz+off)=⟨g,k * ty.sz+off,none⟩:=by simp [dP]
 have hst:=j7 P g (k * ty.sz+off) e0 (0,0) vs cur w g2 (.inl rfl) (by omega) (wP hones)
 have hrun:(execOp ev o).run P w = .ok .skip (w.setRow g (cur.toList.take (k * ty.sz+off)++vs++cur.toList.drop (k * ty.sz+off+vs.length)).toArray):=by
  simp [execOp,ho,ha,hx,hp,hy,Instr.storeAt,Instr.sureAddr,storeVar,hv,sizeOf,typeInfo,hi,Nat.eq_of_beq_eq_true hl,hst,Result.andThen]
 rw [hrun]
 have e1:cur.toList.take (k * ty.sz+off)++vs++cur.toList.drop (k * ty.sz+off+vs.length)=dE ty xs ys k (ty.fill xn yo)++cur.toList.drop (xs.length * ty.sz):=by
  generalize hC:cur.toList.drop (xs.length * ty.sz)=C at hcur
  rw [hcur,hf1]
  exact Bh c2 (by omega)
 rw [e1]
 obtain ⟨c3,_⟩:=jP (cs:=ty.fill xn yo) hlen hklt (ty.fill_length _ _)
 have hsame : ∀ b,b≠g→(w.setRow g (dE ty xs ys k (ty.fill xn yo)++cur.toList.drop (xs.length * ty.sz)).toArray).heap[b]? = w.heap[b]? := fun b hb=>by
  simp [World.setRow,Array.getElem?_modify,show ¬ g=b from fun e=>hb e.symm]
 have hys:ys.set k yo=ys:=by
  refine List.ext_getElem? fun q=>?_
  by_cases hq:q=k
  ·subst hq; rw [List.getElem?_set_self (by omega)]; exact hyo.symm
  ·rw [List.getElem?_set_ne (by omega)]
 refine hk () _ c (qG (i:=i) g7) (ai.cons ?_ (ai.nil _ _))
 show cp _ (fun b=>c b=i) (.slice ty) (e6 e) (xs.set k xn) _
 rw [hei]
 refine ⟨d, .inr ⟨e0,s,rfl,ys,by simpa using hlen,⟨g,cap,_,by rw [List.length_set],setRow_heap w g cur _ e0 (0,0) g2,by rw [List.length_set]; exact g3,g4,?_,?_,g7,g8⟩,fun q x' y' hx' hy' => ?_⟩⟩
 ·have:cur.toList.length=cap * ty.sz:=by simpa using g5
  simp only [List.size_toArray,List.length_append,List.length_drop]; omega
 ·rw [List.length_set]
  have:=pj (t:=ty) (x:=xn) (y:=yo) hlen hklt
  rw [hys] at this
  rw [this]
  show (dE ty xs ys k (ty.fill xn yo)++cur.toList.drop (xs.length * ty.sz)).take (xs.length * ty.sz)=_
  rw [List.take_append,List.take_of_length_le (by omega),c3,Nat.sub_self,List.take_zero,List.append_nil]
 ·have h0:bo w (fun b=>c b=i) d ty s [q] x' y' := by
   by_cases hqk:q=k
   ·subst hqk
    rw [List.getElem?_set_self hklt] at hx'
    cases hx'
    rw [hyo] at hy'
    cases hy'
    exact htree _ _ _ _ _ _ (hT q xo yo hxo hyo)
   ·rw [List.getElem?_set_ne (by omega)] at hx'
    exact hT q x' y' hx' hy'
  have h1:bo w (fun b=>c b=i∧b≠g) d ty s [q] x' y' := bo.re (π0:=[q]) (fun b hb hu=>⟨⟨hb,fun e=>by
   subst e
   rw [g8] at hu
   exact pV hu rfl⟩,rfl⟩) (dO _) h0
  exact bo.keep (fun b _ hb=>⟨hb.1,hsame b hb.2⟩) ty s _ _ _ h1
end
end Go.Sm
namespace Go.Sm
theorem yj {P:Program} {w:World} {t u ty e:TypeId} {ku:IntKind} {i:TypeInfo} {z:Value} (ht:P.underlying t=some (.slice e)) (hu:P.underlying u=some (.int ku)) (hi:P.info? e=some i) (hz:i.zero=some z) (hzs:z.cells.size=i.size) (hsz:0<i.size)
  {h:Hd} {n m:Nat} {xs:List Value} (hown:w.ownsRow 0 e i.size h.val n xs) (h1 : ∀ u∈(Builtin.zeroCells z.cells m).toList,u.oneCell' = true) (h63:n+m≤maxLen) (hbytes:(n+m) * i.bytes≤140737488355328) :
  ∃ (h' : Hd) (w' : World),(Builtin.append_ #[t,u] ty #[h.val, .int .i64 m]).run P w = .ok h'.val w' ∧ w'.ownsRow 0 e i.size h'.val (n+m) (xs++(Builtin.zeroCells z.cells m).toList)∧w.grownBy w' h.val.ownBlock ∧
   (∀ g,h'.val.ownBlock=some g→h.val.ownBlock=some g∨w.heap.size≤g):=by
 have hsmall:n+m≤9223372036854775807:=by simp only [maxLen] at h63; omega
 have hwrap:IntKind.i64.wrap (m:Int)=m:=wrap_small m (by omega) (by omega)
 have hl:(Builtin.zeroCells z.cells m).size=m * i.size:=by rw [size_zeroCells,hzs]
 have hlen:(xs++(Builtin.zeroCells z.cells m).toList).length=(n+m) * i.size:=by rw [List.length_append,hown.1,Array.length_toList,hl,Nat.add_mul]
 have hmb : ¬ (281474976710656<(m:Int) * (i.bytes:Int)):=by
  have:m * i.bytes≤(n+m) * i.bytes:=Nat.mul_le_mul_right _ (by omega)
  have h2:((m * i.bytes:Nat):Int)≤281474976710656:=by omega
  rw [Int.natCast_mul] at h2
  omega
 have happ:(if m * i.size=0 then (pure #[]:Sem (Array Value)) else do pure (Builtin.zeroCells z.cells m))=pure (Builtin.zeroCells z.cells m):=by
  split
  ·rename_i h0
   have hm0:m=0:=by
    rcases Nat.mul_eq_zero.1 h0 with h | h <;> omega
   have:Builtin.zeroCells z.cells m = #[]:=Array.eq_empty_of_size_eq_zero (by rw [hl,hm0,Nat.zero_mul])
   rw [this]
  ·rfl
 have hm0 : ¬ ((m:Int)<0):=by omega
 have grown : ∀ (old:Nat),old<n+m→∀ (row:Option Nat),
   (w.drew.alloc (.cells (xs.toArray++Builtin.zeroCells z.cells m++Builtin.zeroCells z.cells (grownCap w (n+m) old e - (n+m))) e)).ownsRow 0 e i.size
    (.slice (some ⟨w.heap.size,0,none⟩) (n+m) (grownCap w (n+m) old e)) (n+m) (xs++(Builtin.zeroCells z.cells m).toList) ∧
   w.grownBy (w.drew.alloc (.cells (xs.toArray++Builtin.zeroCells z.cells m++Builtin.zeroCells z.cells (grownCap w (n+m) old e - (n+m))) e)) row:=by
  intro old ho row
  have hge:=grownCap_ge w (n+m) old e
  have hcm:grownCap w (n+m) old e≤maxLen:=grownCap_le_maxLen w (n+m) old e h63
  refine ⟨⟨hlen, .inr ⟨w.heap.size,_,_,rfl,Nat.zero_le _,heap_alloc_new w.drew _,hge,hcm,?_,?_⟩⟩,⟨rfl,rfl,rfl,by simp,fun k hk _=>by show (w.heap.push _)[k]? = _; rw [Array.getElem?_push,if_neg (Nat.ne_of_lt hk)]⟩⟩
  ·simp only [Array.size_append,List.size_toArray,size_zeroCells,hzs,hown.1,← Nat.add_mul]
   congr 1
   omega
  ·simp only [Array.toList_append,List.append_assoc]
   rw [← List.append_assoc,← hlen]
   exact List.take_left
 obtain ⟨v0,hv0⟩ : ∃ v,v=h.val:=⟨_,rfl⟩
 rw [← hv0] at hown ⊢
 rcases hown.2 with ⟨rfl,rfl⟩ | ⟨g,cap,cur,rfl,hbg,hg,hnc,hcm,hcs,htake⟩
 ·have hx:xs=[]:=List.eq_nil_of_length_eq_zero (by simpa using hown.1)
  subst hx
  by_cases hm:m=0
  ·subst hm
   refine ⟨⟨none,0,0⟩,w,?_,?_,⟨rfl,rfl,rfl,Nat.le_refl _,fun _ _ _=>rfl⟩,fun g hg=>by simp [Hd.val,Value.ownBlock] at hg⟩
   ·simp [Builtin.append_,run_underlying ht,run_underlying hu,sizeOf,typeInfo,hi,hz,zeroValue,asInt,asIntOf,wrap_small 0 (by omega) (by omega),Hd.val]
   ·simpa [Builtin.zeroCells,Hd.val] using World.ownsRow_nil w 0 e i.size
  ·have h48' : ¬ (281474976710656<Builtin.nextslicecap m 0 * i.bytes):=by
    rw [nextslicecap_zero (by omega)]
    simp only [Nat.zero_add] at hbytes
    omega
   have h63' : ¬ (9223372036854775807<(m:Int)):=by omega
   have hgr:=grown 0 (by omega) (Value.ownBlock (.slice none 0 0))
   simp only [Nat.zero_add,List.nil_append,Array.empty_append] at hgr ⊢
   refine ⟨⟨some ⟨w.heap.size,0,none⟩,m,grownCap w m 0 e⟩,_,?_,hgr.1,hgr.2,fun g hg=>.inr ?_⟩
   ·simp [Builtin.append_,run_underlying ht,run_underlying hu,sizeOf,typeInfo,hi,hz,zeroValue,asInt,asIntOf,hwrap,hm,hm0,hmb,h48',h63',Builtin.firstCells,Question.forced,newRow,grownCap,Hd.val,happ]
    intro h0
    exact absurd h0 (Nat.mul_ne_zero hm (by omega))
   ·simp [Hd.val,Value.ownBlock] at hg
    omega
 ·have hh : ∃ h0:Hd,h0=⟨some ⟨g,0,none⟩,n,cap⟩:=⟨_,rfl⟩
  by_cases hroom:n+m≤cap
  ·have hfit:n * i.size+(Builtin.zeroCells z.cells m).toList.length≤cur.size:=by rw [Array.length_toList,hl,hcs,← Nat.add_mul]; exact Nat.mul_le_mul_right _ hroom
   have hst:=run_storeCells_at P g (n * i.size) e (Builtin.zeroCells z.cells m).toList 0 cur w hg (by simpa using hfit) h1
   simp only [Nat.add_zero] at hst
   refine ⟨⟨some ⟨g,0,none⟩,n+m,cap⟩,w.setRow g (cur.toList.take (n * i.size)++(Builtin.zeroCells z.cells m).toList++cur.toList.drop (n * i.size+(Builtin.zeroCells z.cells m).toList.length)).toArray,?_,⟨hlen, .inr ⟨g,cap,_,rfl,hbg,setRow_heap w g cur _ e _ hg,hroom,hcm,?_,?_⟩⟩,⟨rfl,rfl,rfl,by simp,fun k _ hk=>setRow_other w g k _ (fun e=>hk (by simp [Value.ownBlock,e]))⟩,fun g' hg' => .inl (by simpa [Value.ownBlock] using hg')⟩
   ·by_cases hm:m=0
    ·subst hm
     simp only [Nat.zero_mul,Nat.add_zero] at hl hst ⊢
     have h0:Builtin.zeroCells z.cells 0 = #[]:=Array.eq_empty_of_size_eq_zero hl
     rw [h0] at hst ⊢
     simp [Builtin.append_,run_underlying ht,run_underlying hu,sizeOf,typeInfo,hi,hz,zeroValue,asInt,asIntOf,wrap_small 0 (by omega) (by omega),hnc,Addr.add_lit,storeCells]
     exact (setRow_self w g cur e (0,0) hg).symm
    ·have hne : ¬ (m * i.size=0):=Nat.mul_ne_zero hm (by omega)
     simp [Builtin.append_,run_underlying ht,run_underlying hu,sizeOf,typeInfo,hi,hz,zeroValue,asInt,asIntOf,hwrap,hm0,hmb,hroom,hne,Addr.add_lit,hst]
   ·simp only [List.size_toArray,List.length_append,List.length_take,List.length_drop,Array.length_toList] at hfit ⊢
    omega
   ·rw [htake,← hlen]
    exact List.take_left
  ·have holds : ∀ j u,xs[j]? = some u→w.cell? ((⟨g,0,none⟩:Addr).add j)=some u:=hown.cells (g:=g) rfl
   have hn : ¬ (n+m≤cap):=hroom
   have hne : ¬ (m * i.size=0):=Nat.mul_ne_zero (by omega) (by omega)
   have h63' : ¬ (9223372036854775807<((n:Int)+(m:Int))):=by omega
   have h48' : ¬ (281474976710656<Builtin.nextslicecap (n+m) cap * i.bytes):=by have:=growslice_fits (show cap<n+m by omega) hbytes; omega
   have hfo:=run_firstCells_some (P:=P) w.drew i.size n ⟨g,0,none⟩ n cap xs hown.1 (by simpa using holds)
   have hgr:=grown cap (by omega) (Value.ownBlock (.slice (some ⟨g,0,none⟩) n cap))
   refine ⟨⟨some ⟨w.heap.size,0,none⟩,n+m,grownCap w (n+m) cap e⟩,_,?_,hgr.1,hgr.2,fun g hg=>.inr ?_⟩
   ·simp [Builtin.append_,run_underlying ht,run_underlying hu,sizeOf,typeInfo,hi,hz,zeroValue,asInt,asIntOf,hwrap,hm0,hmb,hn,hne,h48',h63',hfo,Question.forced,newRow,grownCap,Hd.val]
   ·simp [Value.ownBlock] at hg
    omega
section
variable {P:Program} {ρ:cF} {L:List HA} {o:Oper}
theorem PU (z:Array Value) (m:Nat):Builtin.zeroCells z m=madeCells z (m * z.size):=rfl
theorem Iu {t u e:TypeId} {ku:IntKind} {sz by_:Nat} {s x:Operand} {ty:Ty} {ci:Nat} {K:List Nat} {xs:List ty.den} {h:Hd} {l:Int} {v:ty.den} {r:ty.Refs} {z:Value} (hpure:ty.pureB=true) (j:Nat)
  (hj:L[j]? = some (.own ty e ci K xs h)) (ho:o.op = .call { callee:=.builtin .append,args:=#[s,x],argTypes:=#[t,u] }) (ht:P.underlying t=some (.slice e)) (hu:P.underlying u=some (.int ku)) (hi:TI P e sz by_ z) (hs:sz=ty.sz) (hsz:Nat.ble 1 sz=true)
  (hz:z.cells=(ty.fill v r).toArray) (hse:aK ρ s=h.val) (hxe:aK ρ x = .int .i64 l)
  (hroom:decide (0≤l∧(xs.length+l.toNat) * by_≤140737488355328∧xs.length+l.toNat≤maxLen)=true) (hci:Nat.ble 2 ci=true) (he:Nat.blt e 1048576=true) :
  cz P ρ o L [ci] Hd.val (fun h' => [.own ty e ci K (xs++List.replicate l.toNat v) h']):=by
 intro a ev w c next Q ha hL hk
 have htihi:=hi; clear hi
 obtain ⟨inf,hi,hzz,hs1,hb1⟩:=htihi.get
 obtain ⟨rs,hr1,hown,hcol⟩:=hL.at hj
 obtain ⟨h0,hb2,h63⟩:=of_decide_eq_true hroom
 obtain ⟨m,rfl⟩ : ∃ m:Nat,l=m:=⟨l.toNat,by omega⟩
 simp only [Int.toNat_natCast] at hb2 h63 ⊢
 have hszc:z.cells.size=inf.size:=by rw [hz,List.size_toArray,ty.fill_length,← hs,← hs1]
 have hzero:(Builtin.zeroCells z.cells m).toList=cellsOf ty (List.replicate m v) (List.replicate m r):=by
  rw [ul,PU,hz,List.size_toArray,ty.fill_length]
 replace hown:w.ownsRow 0 e inf.size h.val xs.length (cellsOf ty xs rs):=by rw [hs1,hs]; exact hown.plain he
 have hsz' := Nat.le_of_ble_eq_true hsz
 obtain ⟨h',w',hrun,ho',hg,hblk⟩:=yj (P:=P) (ty:=o.type) (m:=m) ht hu hi hzz hszc (by omega) hown (by rw [hzero]; exact gK ty) (by omega) (by rw [hb1]; exact hb2)
 have hex:(execOp ev o).run P w = .ok (.value h'.val) w' := by
  simp [execOp,ho,ha,hse,hxe,resolve,invoke,builtin,hrun,Result.andThen]
 rw [hex]
 have hst:=sA hci hg hcol
 refine hk h' w' _ hst (ai.cons (show (HA.own ty e ci K (xs++List.replicate m v) h').holds w' _ from ⟨rs++List.replicate m r,?_,?_,wF hblk hcol⟩) (ai.nil _ _))
 ·exact (hr1.mono fun x y _=>bA.pure ty x y hpure).append (qb (bA.pure ty v r hpure) m)
 ·rw [dC ty hr1.length,← hzero,List.length_append,List.length_replicate,← hs,← hs1]
  exact tV ho'
end
end Go.Sm
