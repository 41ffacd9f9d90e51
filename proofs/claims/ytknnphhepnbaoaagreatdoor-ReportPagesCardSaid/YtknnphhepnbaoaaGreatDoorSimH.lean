/-
  Pointers into rows, told by the row's header and an offset; stores into rows of the call's own; slices of slices. Nothing of a program is named here; no condition.
-/
import Derived.Laws.IdiomCopy
import Derived.Test.YtknnphhepnbaoaaGreatDoorSimG
namespace Go.Sm
def pat (h:Hd) (off:Nat):Addr:=match h.a with
 | some a=>⟨a.block,a.off+off,none⟩
 | none=>⟨0,off,none⟩
theorem pat_add (h:Hd) (x y:Nat) (b o:Nat) (hp:pat h x=⟨b,o,none⟩):pat h (x+y)=⟨b,o+y,none⟩:=by
 unfold pat at hp ⊢
 split at hp <;> rename_i ha <;> simp only [Addr.mk.injEq] at hp <;> simp [ha] <;> omega
section
variable {P:Program} {ρ:Env} {L:List HA} {o:Oper} {N:Nat}
def ElAt (w:World) (c:Col) (t:Ty) (K:List Nat) (x:t.den) (p:Addr):Prop:=∃ y b off arr ty fz,p=⟨b,off,none⟩∧w.heap[b]? = some (.cells arr ty fz)∧off+t.sz≤arr.size ∧
 (arr.toList.drop off).take t.sz=t.fill x y∧RepR w (fun b=>c b∈K) t x y
def El (L:List HA) (t:Ty) (K:List Nat) (v:t.den) (h:Hd) (x:Nat):Prop:=∀ w c,Heap w c L→ElAt w c t K v (pat h x)
theorem el_rep {ty:Ty} {K:List Nat} {xs:List ty.den} {h:Hd} {i:Int} {v:ty.den} {sz:Nat} (j:Nat) (hj:L[j]? = some (.rep ty K xs h)) (hs:ty.sz=sz) (hv:idx xs i=some v) :
  El L ty K v h (i.toNat * sz):=fun w c hL=>by
 subst hs
 obtain ⟨ys,hr,hn,hle,hm,hc⟩:=hL.at hj
 obtain ⟨h0,hget,hlt⟩:=idx_some hv
 obtain ⟨y,hy,hry⟩:=hr.get hget
 rcases hc with ⟨ha',hcap⟩ | ⟨b,off,arr,tt,fz,ha',hS,hb,hfit,hcells⟩
 ·omega
 ·refine ⟨y,b,off+i.toNat * ty.sz,arr,tt,fz,by simp [pat,ha'],hb,?_,?_,hry⟩
  ·have:(i.toNat+1) * ty.sz≤h.cap * ty.sz:=Nat.mul_le_mul_right _ (by omega)
   rw [Nat.add_mul] at this
   omega
  ·rw [← cellsOf_get ty hget hy,← hcells,List.drop_take,List.drop_drop,List.take_take,Nat.min_eq_left]
   have:(i.toNat+1) * ty.sz≤xs.length * ty.sz:=Nat.mul_le_mul_right _ hlt
   rw [Nat.add_mul] at this
   omega
theorem el_own {ty:Ty} {e:TypeId} {ci:Nat} {K:List Nat} {xs:List ty.den} {h:Hd} {i:Int} {v:ty.den} {sz:Nat} (j:Nat) (hj:L[j]? = some (.own ty e ci K xs h)) (hs:ty.sz=sz) (hv:idx xs i=some v) :
  El L ty K v h (i.toNat * sz):=fun w c hL=>by
 subst hs
 obtain ⟨ys,hr,hown,hcol⟩:=hL.at hj
 obtain ⟨h0,hget,hlt⟩:=idx_some hv
 obtain ⟨y,hy,hry⟩:=hr.get hget
 have hlen:=hown.1
 rcases hown.2 with ⟨_,hn0⟩ | ⟨g,cap,cur,tt,fz,hval',hg,_,hnc,hcm,hcur,htake⟩
 ·omega
 ·have hha:h.a=some ⟨g,0,none⟩:=by
   have:=hval'; simp only [Hd.val,Value.slice.injEq] at this; exact this.1
  refine ⟨y,g,i.toNat * ty.sz,cur,tt,fz,by simp [pat,hha],hg,?_,?_,hry⟩
  ·have:(i.toNat+1) * ty.sz≤cap * ty.sz:=Nat.mul_le_mul_right _ (by omega)
   rw [Nat.add_mul] at this
   omega
  ·rw [← cellsOf_get ty hget hy,← htake,List.drop_take,List.take_take,Nat.min_eq_left]
   have:(i.toNat+1) * ty.sz≤xs.length * ty.sz:=Nat.mul_le_mul_right _ hlt
   rw [Nat.add_mul] at this
   omega
theorem el_pth {t u:Ty} {K:List Nat} {v:t.den} {v' : u.den} {h:Hd} {x fo:Nat} (pth:Pth t u) (hE:El L t K v h x) (hv:pth.get v=v') (ho:pth.off=fo):El L u K v' h (x+fo):=fun w c hL=>by
 subst hv ho
 obtain ⟨y,b,off,arr,tt,fz,hp,hb,hle,hcs,hr⟩:=hE w c hL
 have hl:=pth.le
 refine ⟨pth.refs y,b,off+pth.off,arr,tt,fz,pat_add h x _ b off hp,hb,by omega,?_,pth.rep v y hr⟩
 rw [← pth.cells v y,← hcs,List.drop_take,List.drop_drop,List.take_take,Nat.min_eq_left (by omega)]
theorem el_arr {n:Nat} {α:Type} {d:α} {f:α→Value} {hf : ∀ x,(f x).oneCell' = true} {K:List Nat} {xs:List α} {h:Hd} {x:Nat} {i:Int} (hE:El L (.arr n α d f hf) K xs h x) (h0:decide (0≤i∧i<n)=true) :
  El L (.one α f hf) K (xs.getD i.toNat d) h (x+i.toNat):=fun w c hL=>by
 obtain ⟨y,b,off,arr,ty,fz,hp,hb,hle,hcs,hr⟩:=hE w c hL
 have hi0:0≤i∧i<n:=of_decide_eq_true h0
 have hlt:i.toNat<n:=by omega
 refine ⟨(),b,off+i.toNat,arr,ty,fz,pat_add h x _ b off hp,hb,by simp [Ty.sz] at hle ⊢; omega,?_,trivial⟩
 have h1:((arr.toList.drop off).take n)[i.toNat]? = some (f (xs.getD i.toNat d)):=by
  rw [show (arr.toList.drop off).take n=(Ty.arr n α d f hf).fill xs y from hcs]
  simp [Ty.fill,hlt]
 simp only [List.getElem?_take,if_pos hlt,List.getElem?_drop] at h1
 rw [show (Ty.one α f hf).sz=1 from rfl,List.take_one]
 simp only [Ty.fill]
 rw [List.head?_drop,h1]
 rfl
theorem p_idx {t e:TypeId} {x ix:Operand} {k:IntKind} {i:Int} {ty:Ty} {K:List Nat} {xs:List ty.den} {h:Hd} {v:ty.den} {sz by_:Nat} {z:Value} (j:Nat) (hj:L[j]? = some (.rep ty K xs h)) (ho:o.op = .indexAddr t x ix)
  (ht:P.underlying t=some (.slice e)) (hi:TI P e sz by_ z) (hx:evo ρ x=h.val) (hix:evo ρ ix = .int k i) (hv:idx xs i=some v) :
  PureOk P ρ o L (.pointer (some (pat h (i.toNat * sz)))):=fun ev w c he hL=>by
 subst he
 have htihi:=hi; clear hi
 obtain ⟨inf,hi,_,rfl,_⟩:=htihi.get
 obtain ⟨ys,hr,hn,hle,hm,hc⟩:=hL.at hj
 obtain ⟨h0,hget,hlt⟩:=idx_some hv
 rcases hc with ⟨ha',hcap⟩ | ⟨b,off,arr,tt,fz,ha',hS,hb,hfit,hcells⟩
 ·omega
 ·have hi0:0≤i∧i<(h.n:Int):=⟨h0,by omega⟩
  simp [execOp,ho,hx,hix,Instr.indexAt,asIntOf,run_underlying ht,sizeOf,typeInfo,hi,ha',hi0,addr_add,Result.andThen,pat]
theorem p_load_at {t:TypeId} {x:Operand} {d:TypeDesc} {α:Type} {f:α→Value} {hf : ∀ x,(f x).oneCell' = true} {K:List Nat} {h:Hd} {X:Nat} {v:α} (hE:El L (.one α f hf) K v h X) (ho:o.op = .load t x)
  (ht:P.underlying t=some d) (hd:aggB d=false) (hx:evo ρ x = .pointer (some (pat h X))):PureOk P ρ o L (f v):=fun ev w c he hL=>
 by
 obtain ⟨y,b,off,arr,ty,fz,hp,hb,hle,hcs,hr⟩:=hE w c hL
 exact p_load_one (L:=.elem (.one α f hf) [c b] v (pat h X)::L) 0 rfl ho ht hd hx ev w c he (Heap.cons ⟨y,b,off,arr,ty,fz,hp,by simp,hb,hle,hcs,trivial⟩ hL)
theorem ok_load_sl_at {t:TypeId} {x:Operand} {d:TypeDesc} {ty:Ty} {K:List Nat} {h:Hd} {X:Nat} {xs:List ty.den} (hE:El L (.slice ty) K xs h X) (ho:o.op = .load t x)
  (ht:P.underlying t=some d) (hd:aggB d=false) (hx:evo ρ x = .pointer (some (pat h X))):OpOk P ρ o L [] Hd.val (fun h=>[.rep ty K xs h]):=ok_val fun ev w c ha hL=>by
 obtain ⟨y,b,off,arr,tt,fz,hp,hb,hle,hcs,hr⟩:=hE w c hL
 rw [hp] at hx
 have hc:w.cell? ⟨b,off,none⟩=some (Hd.val y):=by
  rw [cell_at hb]
  have:=congrArg (·[0]?) hcs
  simpa [Ty.fill,List.getElem?_take] using this
 exact ⟨y,by simp [execOp,ho,ha,hx,run_load1 ht hd hc],Heap.cons hr (Heap.nil _ _)⟩
theorem ok_load_agg_at {t:TypeId} {x:Operand} {d:TypeDesc} {ty:Ty} {K:List Nat} {h:Hd} {X:Nat} {v:ty.den} {sz by_:Nat} {z:Value} (hE:El L ty K v h X) (ho:o.op = .load t x)
  (ht:P.underlying t=some d) (hd:aggB d=true) (hi:TI P t sz by_ z) (hs:sz=ty.sz) (hx:evo ρ x = .pointer (some (pat h X))) :
  OpOk P ρ o L [] (fun y:ty.Refs=>.agg (ty.fill v y).toArray) (fun y=>facts ty K v y):=ok_val fun ev w c ha hL=>by
 have htihi:=hi; clear hi
 obtain ⟨i,hi,_,rfl,_⟩:=htihi.get
 obtain ⟨y,b,off,arr,tt,fz,hp,hb,hle,hcs,hr⟩:=hE w c hL
 rw [hp] at hx
 refine ⟨y,?_,facts_of ty v y hr⟩
 simp [execOp,ho,ha,hx,run_loadN ht hd hi hb (off:=off) (cs:=ty.fill v y) (by rw [hs]; exact hcs) (by rw [hs]; exact ty.fill_length v y)]
def SetOk (L:List HA) (K:List Nat) (t:Ty) (v:t.den) (off:Nat) (new:List Value) (v' : t.den):Prop:=∀ w c,Heap w c L→∀ r,RepR w (fun b=>c b∈K) t v r →
 ∃ r',RepR w (fun b=>c b∈K) t v' r' ∧ off+new.length≤t.sz∧(t.fill v r).take off++new++(t.fill v r).drop (off+new.length)=t.fill v' r' ∧ ∀ u∈new,u.oneCell' = true
def arrSet {α:Type} (n:Nat) (d:α) (xs:List α) (i:Nat) (x:α):List α:=(List.range n).map fun j=>if j=i then x else xs.getD j d
theorem set_arr {n:Nat} {α:Type} {d:α} {f:α→Value} {hf : ∀ x,(f x).oneCell' = true} {K:List Nat} {v:List α} {x:α} {i:Int} (h0:decide (0≤i∧i<n)=true) :
  SetOk L K (.arr n α d f hf) v i.toNat [f x] (arrSet n d v i.toNat x):=fun _ _ _ _ _=>by
 have hi0:0≤i∧i<n:=of_decide_eq_true h0
 have hlt:i.toNat<n:=by omega
 refine ⟨(),trivial,by simp [Ty.sz]; omega,?_,by simpa using hf x⟩
 apply List.ext_getElem?
 intro j
 simp only [Ty.fill,arrSet,List.length_cons,List.length_nil,Nat.zero_add]
 simp only [List.getElem?_append,List.length_append,List.length_take,List.length_map,List.length_range,List.length_cons,List.length_nil]
 rw [Nat.min_eq_left (by omega)]
 by_cases h1:j<i.toNat
 ·simp [h1,show j<i.toNat+1 by omega,show j<n by omega,show j≠i.toNat by omega,List.getElem?_take]
 ·by_cases h2:j=i.toNat
  ·subst h2; simp [hlt]
  ·simp only [h1,show ¬ j<i.toNat+(0+1) by omega,if_false,List.getElem?_drop,show i.toNat+1+(j - (i.toNat+(0+1)))=j by omega]
   by_cases h3:j<n
   ·simp [h3,h2]
   ·simp [h3]
theorem set_fst {a b:Ty} {K:List Nat} {v:a.den×b.den} {off:Nat} {new:List Value} {x:a.den} (hs:SetOk L K a v.1 off new x):SetOk L K (.pair a b) v off new (x,v.2):=fun w c hL r hr=>by
 obtain ⟨r',h1,h2,h3,h4⟩:=hs w c hL r.1 hr.1
 refine ⟨(r',r.2),⟨h1,hr.2⟩,by simp [Ty.sz]; omega,?_,h4⟩
 have hl:=a.fill_length v.1 r.1
 simp only [Ty.fill]
 rw [← h3,List.take_append,List.drop_append,show off - (a.fill v.1 r.1).length=0 by omega,show off+new.length - (a.fill v.1 r.1).length=0 by omega]
 simp
theorem set_snd {a b:Ty} {K:List Nat} {v:a.den×b.den} {off off' : Nat} {new:List Value} {x:b.den} (hs:SetOk L K b v.2 off new x) (ho:a.sz+off=off'):SetOk L K (.pair a b) v off' new (v.1,x):=fun w c hL r hr=>by
 subst ho
 obtain ⟨r',h1,h2,h3,h4⟩:=hs w c hL r.2 hr.2
 refine ⟨(r.1,r'),⟨hr.1,h1⟩,by simp [Ty.sz]; omega,?_,h4⟩
 have hl:=a.fill_length v.1 r.1
 simp only [Ty.fill]
 rw [← h3,List.take_append,List.drop_append,List.take_of_length_le (l:=a.fill v.1 r.1) (by omega),List.drop_eq_nil_of_le (as:=a.fill v.1 r.1) (by omega),show a.sz+off - (a.fill v.1 r.1).length=off by omega,
  show a.sz+off+new.length - (a.fill v.1 r.1).length=off+new.length by omega]
 simp
theorem cellsOf_set (t:Ty) : ∀ {xs:List t.den} {ys:List t.Refs} {i:Nat} {x x' : t.den} {y y' : t.Refs} {off:Nat} {new:List Value},xs.length=ys.length→xs[i]? = some x→ys[i]? = some y →
  off+new.length≤t.sz→(t.fill x y).take off++new++(t.fill x y).drop (off+new.length)=t.fill x' y' →
  (cellsOf t xs ys).take (i * t.sz+off)++new++(cellsOf t xs ys).drop (i * t.sz+off+new.length)=cellsOf t (xs.set i x') (ys.set i y')
 | a::xs,b::ys,0,x,x',y,y',off,new,hl,hx,hy,ho,hf=>by
  simp at hx hy; subst hx hy
  have f:=t.fill_length a b
  simp only [List.set_cons_zero,cellsOf,← hf]
  rw [show 0 * t.sz=0 by omega,Nat.zero_add,List.take_append,List.drop_append,show off - (t.fill a b).length=0 by omega,show off+new.length - (t.fill a b).length=0 by omega]
  simp
 | a::xs,b::ys,i+1,x,x',y,y',off,new,hl,hx,hy,ho,hf=>by
  simp at hx hy
  have f:=t.fill_length a b
  have ih:=cellsOf_set t (xs:=xs) (ys:=ys) (i:=i) (by simpa using hl) hx hy ho hf
  simp only [List.set_cons_succ,cellsOf,← ih]
  have e:(i+1) * t.sz=(t.fill a b).length+i * t.sz:=by rw [Nat.add_mul,f]; omega
  rw [e,Nat.add_assoc,List.take_append,List.drop_append,List.take_of_length_le (l:=t.fill a b) (by omega),List.drop_eq_nil_of_le (as:=t.fill a b) (by omega),Nat.add_sub_cancel_left,
   show (t.fill a b).length+(i * t.sz+off)+new.length - (t.fill a b).length=i * t.sz+off+new.length by omega]
  simp
 | [],_,_,_,_,_,_,_,_,_,hx,_,_,_=>by simp at hx
 | _::_,[],_,_,_,_,_,_,_,hl,_,_,_,_=>by simp at hl
theorem setCells_row (g:Nat) (t:TypeId) (fz:Nat×Nat) : ∀ (vs:List Value) (o:Nat) (cur:Array Value) (w:World),w.heap[g]? = some (.cells cur t fz)→o+vs.length≤cur.size →
  w.setCells g o vs=w.setRow g (cur.toList.take o++vs++cur.toList.drop (o+vs.length)).toArray
 | [],o,cur,w,hg,_=>by
  have e:(cur.toList.take o++[]++cur.toList.drop (o+([]:List Value).length)).toArray=cur:=by simp
  rw [e,setRow_self w g cur t fz hg]; rfl
 | v::r,o,cur,w,hg,hl=>by
  simp only [List.length_cons] at hl
  show (w.setCell ⟨g,o,none⟩ v).setCells g (o+1) r=_
  rw [setCell_eq_setRow w g o cur t fz v hg,setCells_row g t fz r (o+1) _ _ (setRow_heap w g cur _ t fz hg) (by simp; omega),setRow_setRow]
  congr 2
  have h2:=list_seg_step cur.toList o v r (by simp; omega)
  rw [Array.toList_setIfInBounds,h2]
  rfl
theorem run_storeCells_in (P:Program) (g o:Nat) (t:TypeId) (fz:Nat×Nat) (vs:List Value) (cur:Array Value) (w:World) (hg:w.heap[g]? = some (.cells cur t fz)) (hfz:fz=(0,0)∨cur.size≤fz.1) (hl:o+vs.length≤cur.size) (h1 : ∀ v∈vs,v.oneCell' = true) :
  (storeCells ⟨g,o,none⟩ vs 0).run P w = .ok () (w.setRow g (cur.toList.take o++vs++cur.toList.drop (o+vs.length)).toArray):=by
 have hc : ∀ j,j<vs.length→(w.cell? ⟨g,o+0+j,none⟩).isSome=true:=fun j hj=>by
  have:o+j<cur.size:=by omega
  simp [World.cell?,hg,this]
 have hf : ∀ j,j<vs.length→w.frozen? ⟨g,o+0+j,none⟩=false:=fun j hj=>by
  obtain ⟨lo,hi'⟩:=fz
  simp only [World.frozen?,hg,Bool.and_eq_false_iff,decide_eq_false_iff_not]
  rcases hfz with h | h
  ·simp only [Prod.mk.injEq] at h; omega
  ·simp only at h; omega
 rw [run_storeCells_cells g o vs 0 w hc hf h1,Nat.add_zero,setCells_row g t fz vs o cur w hg hl]
theorem ok_store_own {t e:TypeId} {x y:Operand} {ty:Ty} {ci:Nat} {K:List Nat} {xs:List ty.den} {h:Hd} {i:Int} {v v' : ty.den} {sz by_ esz X off:Nat} {z val:Value} {new:List Value} (j:Nat) (hj:L[j]? = some (.own ty e ci K xs h))
  (ho:o.op = .store t x y) (hi:TI P t sz by_ z) (hx:evo ρ x = .pointer (some (pat h X))) (hX:X=i.toNat * esz+off) (hesz:esz=ty.sz) (hv:idx xs i=some v) (hy:evo ρ y=val) (hval:val.cells=new.toArray) (hl:Nat.beq new.length sz=true)
  (hs:SetOk L K ty v off new v') (hK:K.all (fun k=>!(Nat.beq k ci))=true):OpOk P ρ o L [ci] (fun _:Unit=>undef) (fun _=>[.own ty e ci K (xs.set i.toNat v') h]):=by
 intro a ev w c next Q ha hL hn
 have htihi:=hi; clear hi
 obtain ⟨inf,hi,_,rfl,_⟩:=htihi.get
 subst hesz hX
 obtain ⟨ys,hr,hown,hcol⟩:=hL.at hj
 obtain ⟨h0,hget,hlt⟩:=idx_some hv
 obtain ⟨y',hy',hry⟩:=hr.get hget
 obtain ⟨r',hr',hfit,hfill,hones⟩:=hs w c hL y' hry
 rcases hown.2 with ⟨_,hn0⟩ | ⟨g,cap,cur,tt,fz,hval',hg,hmark,hnc,hcm,hcur,htake⟩
 ·omega
 have hha:h.a=some ⟨g,0,none⟩:=by
  have:=hval'; simp only [Hd.val,Value.slice.injEq] at this; exact this.1
 have hpat:pat h (i.toNat * ty.sz+off)=⟨g,i.toNat * ty.sz+off,none⟩:=by simp [pat,hha]
 have hcg:c g=ci:=hcol g (by rw [hval']; rfl)
 have hlen:=hown.1
 have h1:(i.toNat+1) * ty.sz≤xs.length * ty.sz:=Nat.mul_le_mul_right _ hlt
 rw [Nat.add_mul,Nat.one_mul] at h1
 have h2:xs.length * ty.sz≤cap * ty.sz:=Nat.mul_le_mul_right _ hnc
 have hst:=run_storeCells_in P g (i.toNat * ty.sz+off) tt fz new cur w hg (hmark.imp (fun h=>h.2) (fun h=>h.2)) (by omega) hones
 have hrun:(execOp ev o).run P w = .ok .skip (w.setRow g (cur.toList.take (i.toNat * ty.sz+off)++new++cur.toList.drop (i.toNat * ty.sz+off+new.length)).toArray):=by
  simp [execOp,ho,ha,hx,hpat,hy,Instr.storeAt,Instr.sureAddr,storeVar,hval,sizeOf,typeInfo,hi,Nat.eq_of_beq_eq_true hl,hst,Result.andThen]
 rw [hrun]
 have hrow:=setRow_heap w g cur (cur.toList.take (i.toNat * ty.sz+off)++new++cur.toList.drop (i.toNat * ty.sz+off+new.length)).toArray tt fz hg
 have hstp:=stp_setRow (w:=w) (c:=c) (b:=g) (i:=ci) (cs:=(cur.toList.take (i.toNat * ty.sz+off)++new++cur.toList.drop (i.toNat * ty.sz+off+new.length)).toArray) hcg
 have hno : ∀ k∈K,k∉[ci]:=fun k hk hm=>by
  have:=List.all_eq_true.1 hK k hk
  simp only [List.mem_singleton] at hm
  subst hm
  simp at this
 have hset:=(hr.set i.toNat hr').mono (RepR.keep (hstp.keeps hno) ty)
 have hcl:=cellsOf_length ty hr.length
 have hcs:=cellsOf_set ty hr.length hget hy' hfit hfill
 refine hn () _ c hstp (Heap.cons ⟨ys.set i.toNat r',hset,⟨by rw [List.length_set,cellsOf_length ty (by simpa using hr.length)]; simp, .inr ⟨g,cap,_,tt,fz,by rw [List.length_set]; exact hval',hrow,hmark.imp id (fun h=>⟨h.1,?_⟩),by rw [List.length_set]; exact hnc,hcm,?_,?_⟩⟩,hcol⟩ (Heap.nil _ _))
 ·have:cur.toList.length=cap * ty.sz:=by simpa using hcur
  refine Nat.le_trans ?_ h.2
  simp only [List.size_toArray,List.length_append,List.length_take,List.length_drop]; omega
 ·have:cur.toList.length=cap * ty.sz:=by simpa using hcur
  simp only [List.size_toArray,List.length_append,List.length_take,List.length_drop]; omega
 ·have hcl2:cur.toList.length=cap * ty.sz:=by simpa using hcur
  rw [List.length_set,← hcs,← htake]
  apply List.ext_getElem?
  intro m
  simp only [List.getElem?_append,List.getElem?_take,List.getElem?_drop,List.length_take,List.length_append,List.length_drop]
  rw [Nat.min_eq_left (show i.toNat * ty.sz+off≤cur.toList.length by omega),Nat.min_eq_left (show xs.length * ty.sz≤cur.toList.length by omega),Nat.min_eq_left (show i.toNat * ty.sz+off≤xs.length * ty.sz by omega)]
  by_cases c1:m<xs.length * ty.sz
  ·simp only [c1,if_true]
   by_cases c2:m<i.toNat * ty.sz+off+new.length
   ·simp only [c2,if_true]
   ·simp only [c2,if_false]
    try rw [if_pos (by omega)]
  ·simp only [c1,if_false]
   try (first | rfl | rw [if_neg (by omega),if_neg (by omega)])
theorem bound_ok {w:World} {k:IntKind} {i:Int} {y:Nat} {code:BoundsCode} (h0:0≤i) (h1:i≤y):(Instr.sliceBound (.int k i) y code).run P w = .ok i.toNat w:=by
 simp [Instr.sliceBound,asIntOf,h0,h1,Result.andThen]
def Hd.cut (h:Hd) (lo hi sz:Nat):Hd:=⟨if h.cap=lo then h.a else h.a.map (·.add (lo * sz)),hi - lo,h.cap - lo⟩
theorem ok_slice {t e:TypeId} {x:Operand} {lo hi:Option Operand} {klo khi:IntKind} {i j:Int} {ty:Ty} {K:List Nat} {xs:List ty.den} {h:Hd} {sz by_:Nat} {z:Value} (k:Nat) (hk:L[k]? = some (.rep ty K xs h)) (ho:o.op = .slice t x lo hi none)
  (ht:P.underlying t=some (.slice e)) (hti:TI P e sz by_ z) (hs:sz=ty.sz) (hx:evo ρ x=h.val) (hlo:lo.elim (i=0) (fun q=>evo ρ q = .int klo i)) (hhi:hi.elim (j=xs.length) (fun q=>evo ρ q = .int khi j))
  (hb:decide (0≤i∧i≤j∧j≤xs.length)=true) :
  OpOk P ρ o L [] (fun _:Unit=>(h.cut i.toNat j.toNat sz).val) (fun _=>[.rep ty K ((xs.take j.toNat).drop i.toNat) (h.cut i.toNat j.toNat sz)]):=ok_val fun ev w c he hL=>by
 have htihi:=hti; clear hti
 obtain ⟨inf,hi',_,rfl,_⟩:=htihi.get
 obtain ⟨h0,hij,hj⟩:=of_decide_eq_true hb
 obtain ⟨ys,hr,hn,hle,hm,hc⟩:=hL.at hk
 refine ⟨(),?_,Heap.cons ⟨(ys.take j.toNat).drop i.toNat,(hr.take _).drop _,?_⟩ (Heap.nil _ _)⟩
 ·have b3:(Instr.sliceBounds true h.n h.cap (lo.map (evo ρ)) (hi.map (evo ρ)) none).run P w = .ok (i.toNat,j.toNat,h.cap) w:=by
   have b1 : ∀ q,hi=some q→(Instr.sliceBound (evo ρ q) h.cap .sliceAcap).run P w = .ok j.toNat w:=fun q hq=>by
    subst hq; simp at hhi; rw [hhi]; exact bound_ok (by omega) (by omega)
   have b2 : ∀ q,lo=some q→(Instr.sliceBound (evo ρ q) j.toNat .sliceB).run P w = .ok i.toNat w:=fun q hq=>by
    subst hq; simp at hlo; rw [hlo]; exact bound_ok h0 (by omega)
   cases hi with
   | none=>
    simp at hhi; subst hhi
    cases lo with
    | none=>simp at hlo; subst hlo; simp [Instr.sliceBounds,hn]
    | some q=>have:=b2 q rfl; simp only [Int.toNat_natCast] at this; simp [Instr.sliceBounds,hn,this,Result.andThen]
   | some q' =>
    have h1:=b1 q' rfl
    cases lo with
    | none=>simp at hlo; subst hlo; simp [Instr.sliceBounds,h1,Result.andThen]
    | some q=>simp [Instr.sliceBounds,h1,b2 q rfl,Result.andThen]
  have:(Instr.slice t h.val (lo.map (evo ρ)) (hi.map (evo ρ)) none).run P w = .ok (h.cut i.toNat j.toNat inf.size).val w:=by
   simp [Instr.slice,run_underlying ht,b3,sizeOf,typeInfo,hi',Hd.cut,Result.andThen]
  simp [execOp,ho,he,hx,Instr.sliceAt,run_underlying ht,this,Result.andThen]
 ·refine ⟨by simp [Hd.cut]; omega,by simp [Hd.cut]; omega,by simp [Hd.cut]; omega,?_⟩
  rcases hc with ⟨ha',hcap⟩ | ⟨b,off,arr,tt,fz,ha',hS,hbb,hfit,hcells⟩
  ·exact .inl ⟨trivial,by simp [Hd.cut,hcap]⟩
  ·right
   by_cases hcap:h.cap=i.toNat
   ·refine ⟨b,off,arr,tt,fz,by simp [Hd.cut,hcap,ha'],hS,hbb,by simp [Hd.cut,hcap]; omega,?_⟩
    have hjn:j.toNat=i.toNat:=by omega
    have e:(xs.take j.toNat).drop i.toNat=[]:=by rw [hjn]; simp
    have e' : (ys.take j.toNat).drop i.toNat=[]:=by rw [hjn]; simp
    rw [e,e']
    simp [cellsOf]
   ·have hm2:h.cap * ty.sz=i.toNat * ty.sz+(h.cap - i.toNat) * ty.sz:=by rw [← Nat.add_mul]; congr 1; omega
    refine ⟨b,off+i.toNat * inf.size,arr,tt,fz,by simp [Hd.cut,hcap,ha',addr_add],hS,hbb,?_,?_⟩
    ·simp only [Hd.cut]; rw [hs]; omega
    ·have hl:=hr.length
     have e1:((xs.take j.toNat).drop i.toNat).length=j.toNat - i.toNat:=by simp; omega
     have e2:j.toNat * ty.sz≤xs.length * ty.sz:=Nat.mul_le_mul_right _ (by omega)
     rw [e1,cellsOf_drop ty i.toNat (by simp [hl]),cellsOf_take ty j.toNat hl,← hcells,hs,List.take_take,List.drop_take,List.drop_drop,Nat.min_eq_left e2,← Nat.sub_mul]
end
end Go.Sm
