/-
  Shifts, bytes of strings, made slices, and the question whether a slice is nil. Nothing of a program is named here; no condition.
-/
import Derived.WalkSpells
import Derived.Test.YtknnphhepnbaoaaGreatDoorSimH
namespace Go.Sm
abbrev shlI (k:IntKind) (a b:Int):Int:=k.wrap (a * 2 ^ (min b.toNat k.bits))
abbrev shrI (k:IntKind) (a b:Int):Int:=a.fdiv (2 ^ (min b.toNat k.bits))
def bitI (op:BinOp) (k:IntKind) (x y:Int):Int:=match op with
 | .and=>k.wrap (BitVec.ofInt k.bits x &&& BitVec.ofInt k.bits y).toNat
 | .or=>k.wrap (BitVec.ofInt k.bits x ||| BitVec.ofInt k.bits y).toNat
 | .xor=>k.wrap (BitVec.ofInt k.bits x ^^^ BitVec.ofInt k.bits y).toNat
 | .andNot=>k.wrap (BitVec.ofInt k.bits x &&& ~~~(BitVec.ofInt k.bits y)).toNat
 | _=>0
section
variable {P:Program} {ρ:Env} {L:List HA} {o:Oper} {N:Nat}
theorem p_shl {t t' : TypeId} {x y:Operand} {k k' : IntKind} {a b:Int} (ho:o.op = .binOp .shl t x y t') (hx:evo ρ x = .int k a) (hy:evo ρ y = .int k' b) (h0:decide (0≤b)=true) :
  PureOk P ρ o L (.int k (shlI k a b)):=fun ev w c he _=>by
 have : ¬ b<0:=by have:=of_decide_eq_true h0; omega
 subst he; simp [execOp,ho,hx,hy,run_eqGuard_int,binOp,Op.shift,this,Result.andThen]
theorem p_bit {op:BinOp} {t t' : TypeId} {x y:Operand} {k:IntKind} {a b:Int} (ho:o.op = .binOp op t x y t') (hop:op = .and∨op = .or∨op = .xor∨op = .andNot) (hx:evo ρ x = .int k a) (hy:evo ρ y = .int k b) :
  PureOk P ρ o L (.int k (bitI op k a b)):=fun ev w c he _=>by
 subst he
 rcases hop with rfl | rfl | rfl | rfl <;> simp [execOp,ho,hx,hy,run_eqGuard_int,binOp,Op.intBits,bitI,Result.andThen]
theorem p_shr {t t' : TypeId} {x y:Operand} {k k' : IntKind} {a b:Int} (ho:o.op = .binOp .shr t x y t') (hx:evo ρ x = .int k a) (hy:evo ρ y = .int k' b) (h0:decide (0≤b)=true) :
  PureOk P ρ o L (.int k (shrI k a b)):=fun ev w c he _=>by
 have : ¬ b<0:=by have:=of_decide_eq_true h0; omega
 subst he; simp [execOp,ho,hx,hy,run_eqGuard_int,binOp,Op.shift,this,Result.andThen]
theorem p_index_str {t:TypeId} {x y:Operand} {k:IntKind} {s:List UInt8} {i:Int} {b:UInt8} (ho:o.op = .index t x y) (ht:P.underlying t=some .string) (hx:evo ρ x = .string ⟨s.toArray⟩) (hy:evo ρ y = .int k i) (hv:idx s i=some b) :
  PureOk P ρ o L (.int .u8 (b.toNat:Int)):=fun ev w c he _=>by
 subst he
 obtain ⟨h0,hg,hlt⟩:=idx_some hv
 have hb:(⟨s.toArray⟩:ByteArray)[i.toNat]? = some b:=by
  have h1:i.toNat<(⟨s.toArray⟩:ByteArray).size:=by simpa [ByteArray.size] using hlt
  rw [getElem?_pos (⟨s.toArray⟩:ByteArray) i.toNat h1]
  have h2:=(List.getElem?_eq_some_iff.1 hg).2
  show some (s.toArray[i.toNat]'(by simpa using hlt))=some b
  rw [List.getElem_toArray,h2]
 have hm:(if 0≤i then (⟨s.toArray⟩:ByteArray)[i.toNat]? else none)=some b:=by rw [if_pos h0,hb]
 simp only [execOp,ho,hx,hy,Instr.index,asIntOf,Sem.run_bind,Sem.run_pure,Result.andThen_ok,run_underlying ht]
 rw [hm]
 rfl
theorem p_index_arr {t e:TypeId} {x y:Operand} {k:IntKind} {n:Nat} {α:Type} {dd:α} {f:α→Value} {hf : ∀ x,(f x).oneCell' = true} {v:List α} {i:Int} {d:TypeDesc} {by_:Nat} {z:Value} (ho:o.op = .index t x y) (ht:P.underlying t=some (.array n e))
  (he:P.underlying e=some d) (hd:aggB d=false) (hi:TI P e 1 by_ z) (hx:evo ρ x = .agg ((Ty.arr n α dd f hf).fill v ()).toArray) (hy:evo ρ y = .int k i) (h0:decide (0≤i∧i<n)=true):PureOk P ρ o L (f (v.getD i.toNat dd)):=fun ev w c hev _=>by
 subst hev
 have htihi:=hi; clear hi
 obtain ⟨inf,hi,_,hs,_⟩:=htihi.get
 have hi0:0≤i∧i<n:=of_decide_eq_true h0
 have hlt:i.toNat<n:=by omega
 simp [execOp,ho,hx,hy,Instr.index,asIntOf,run_underlying ht,hi0,sizeOf,typeInfo,hi,hs,part,notAgg he hd,Ty.fill,hlt,Result.andThen]
theorem p_eql_bool {t t' : TypeId} {x y:Operand} {a b:Bool} (ho:o.op = .binOp .eql t x y t') (ht:P.underlying t=some .bool) (hx:evo ρ x = .bool a) (hy:evo ρ y = .bool b):PureOk P ρ o L (.bool (a==b)):=fun ev w c he _=>by
 subst he
 have hg:(eqGuard .eql t x y (.bool a) (.bool b)).run P w = .ok () w:=rfl
 have hb:(binOp .eql t (.bool a) (.bool b)).run P w = .ok (.bool (a==b)) w:=by
  simp only [binOp]; simp [run_equal_bool w t a b ht]
 simp only [execOp,ho,hx,hy,Sem.run_bind,hg,hb,Result.andThen_ok,Sem.run_pure]
theorem p_neq_bool {t t' : TypeId} {x y:Operand} {a b:Bool} (ho:o.op = .binOp .neq t x y t') (ht:P.underlying t=some .bool) (hx:evo ρ x = .bool a) (hy:evo ρ y = .bool b):PureOk P ρ o L (.bool (a != b)):=fun ev w c he _=>by
 subst he
 have hg:(eqGuard .neq t x y (.bool a) (.bool b)).run P w = .ok () w:=rfl
 have hb:(binOp .neq t (.bool a) (.bool b)).run P w = .ok (.bool (a != b)) w:=by
  simp only [binOp]; simp [run_equal_bool w t a b ht,bne]
 simp only [execOp,ho,hx,hy,Sem.run_bind,hg,hb,Result.andThen_ok,Sem.run_pure]
def Hd.isNil (h:Hd):Bool:=h.a.isNone
theorem p_eqnil {t t' e:TypeId} {x y:Operand} {h:Hd} (ho:o.op = .binOp .eql t x y t') (ht:P.underlying t=some (.slice e)) (hx:evo ρ x=h.val) (hy:evo ρ y = .slice none 0 0):PureOk P ρ o L (.bool h.isNil):=fun ev w c he _=>by
 subst he
 have hg:(eqGuard .eql t x y h.val (.slice none 0 0)).run P w = .ok () w:=rfl
 simp [execOp,ho,hx,hy,hg,Lib.run_eql_slice_nil w t e h.a h.n h.cap 0 0 ht,Hd.isNil,Result.andThen]
theorem p_neqnil {t t' e:TypeId} {x y:Operand} {h:Hd} (ho:o.op = .binOp .neq t x y t') (ht:P.underlying t=some (.slice e)) (hx:evo ρ x=h.val) (hy:evo ρ y = .slice none 0 0):PureOk P ρ o L (.bool (!h.isNil)):=fun ev w c he _=>by
 subst he
 have hg:(eqGuard .neq t x y h.val (.slice none 0 0)).run P w = .ok () w:=rfl
 simp [execOp,ho,hx,hy,hg,run_neq_slice_nil_any w t e h.a h.n h.cap 0 0 ht,Hd.isNil,Result.andThen]
theorem made_cells (ty:Ty) (x:ty.den) (y:ty.Refs) : ∀ n:Nat,cellsOf ty (List.replicate n x) (List.replicate n y)=(madeCells (ty.fill x y).toArray (n * ty.sz)).toList
 | 0=>by simp [cellsOf,madeCells]
 | n+1=>by
  have ih:=made_cells ty x y n
  have hl:=ty.fill_length x y
  rw [List.replicate_succ',List.replicate_succ',cellsOf_append ty (by simp),ih]
  simp only [madeCells,Array.toList_map,Array.toList_range,cellsOf,List.append_nil]
  rw [show (n+1) * ty.sz=n * ty.sz+ty.sz by rw [Nat.add_mul]; omega,List.range_add,List.map_append]
  congr 1
  apply List.ext_getElem?
  intro j
  simp only [List.map_map,List.getElem?_map,List.getElem?_range]
  by_cases hj:j<ty.sz
  ·simp [hj,hl,Nat.mod_eq_of_lt hj]
  ·simp [hj]; omega
theorem rep_replicate {α β:Type} {R:α→β→Prop} {x:α} {y:β} (h:R x y) : ∀ n:Nat,RepAll R (List.replicate n x) (List.replicate n y)
 | 0=>trivial
 | n+1=>by rw [List.replicate_succ,List.replicate_succ]; exact ⟨h,rep_replicate h n⟩
theorem ok_makeSlice {t e:TypeId} {x y:Operand} {kl kc:IntKind} {l:Int} {ty:Ty} {v:ty.den} {r:ty.Refs} {K:List Nat} {sz by_:Nat} {z:Value} (ho:o.op = .makeSlice t x y) (ht:P.underlying t=some (.slice e)) (hi:TI P e sz by_ z) (hs:sz=ty.sz)
  (hz:z.cells=(ty.fill v r).toArray) (hf:PaidL L (facts ty K v r)) (hx:evo ρ x = .int kl l) (hy:evo ρ y = .int kc l) (hb:decide (0≤l∧l * by_≤281474976710656∧l≤maxLen)=true) (hN:Nat.ble 2 N=true) :
  OpOk P ρ o L [] Hd.val (fun h=>[.own ty e N K (List.replicate l.toNat v) h]):=by
 intro a ev w c next Q ha hL hk
 have htihi:=hi; clear hi
 obtain ⟨inf,hi,hzz,rfl,rfl⟩:=htihi.get
 obtain ⟨h0,hb1,hb2⟩:=of_decide_eq_true hb
 have hm:=run_make (P:=P) w t e inf z ht hi hzz kl kc l l h0 (Int.le_refl _) (by rw [Int.mul_comm]; exact hb1) (by simp [maxLen] at hb2; omega)
 have hex:(execOp ev o).run P w = .ok (.value (.slice (some ⟨w.heap.size,0,none⟩) l.toNat l.toNat)) (w.alloc (.cells (madeCells z.cells (l.toNat * inf.size)) e)):=by
  simp [execOp,ho,ha,hx,hy,hm,Result.andThen]
 rw [hex]
 have hst:=stp_new (w:=w) (c:=c) hN (.cells (madeCells z.cells (l.toNat * inf.size)) e)
 have hc:cellsOf ty (List.replicate l.toNat v) (List.replicate l.toNat r)=(madeCells z.cells (l.toNat * inf.size)).toList:=by rw [made_cells,hz,hs]
 have hr:=RepR.keep (hst.keeps (K:=K) (by simp)) ty v r (of_facts ty v r (hf.heap hL))
 refine hk ⟨some ⟨w.heap.size,0,none⟩,l.toNat,l.toNat⟩ _ _ hst (Heap.cons ⟨List.replicate l.toNat r,?_,⟨?_, .inr ⟨w.heap.size,l.toNat,madeCells z.cells (l.toNat * inf.size),e,(0,0),by simp,heap_alloc_new w _, .inl ⟨rfl,rfl⟩,by simp,by omega,?_,?_⟩⟩,fun g hg=>?_⟩ (Heap.nil _ _))
 ·exact rep_replicate hr l.toNat
 ·rw [hc]; simp [size_madeCells,hs]
 ·rw [size_madeCells,hs]
 ·rw [hc]
  apply List.take_of_length_le
  simp [size_madeCells,hs]
 ·simp [Value.ownBlock] at hg
  subst hg
  simp
theorem ok_slice_own {t e e' : TypeId} {x y:Operand} {khi:IntKind} {j:Int} {ty:Ty} {ci:Nat} {K:List Nat} {xs:List ty.den} {h:Hd} {sz by_:Nat} {z:Value} (k:Nat) (hk:L[k]? = some (.own ty e' ci K xs h)) (ho:o.op = .slice t x none (some y) none)
  (ht:P.underlying t=some (.slice e)) (hti:TI P e sz by_ z) (hs:sz=ty.sz) (hx:evo ρ x=h.val) (hhi:evo ρ y = .int khi j) (hb:decide (0≤j∧j≤xs.length)=true) :
  OpOk P ρ o L [] (fun _:Unit=>(h.cut 0 j.toNat sz).val) (fun _=>[.own ty e' ci K (xs.take j.toNat) (h.cut 0 j.toNat sz)]):=fun a ev w c next Q ha hL hn=>by
 obtain ⟨h0,hj⟩:=of_decide_eq_true hb
 refine ok_slice (L:=.rep ty (ci::K) xs h::L) (i:=0) (klo:=.i64) 0 rfl ho ht hti hs hx rfl hhi (by rw [decide_eq_true_eq]; exact ⟨Int.le_refl _,h0,hj⟩) a ev w c next Q ha (Heap.cons (own_rep (hL.at hk)) hL) fun y w' c' hst _=>hn () w' c' hst ?_
 refine Heap.cons ?_ (Heap.nil _ _)
 obtain ⟨ys,hr,hown,hcol⟩:(HA.own ty e' ci K xs h).holds w' c' := Heap.at (hL.stp0 hst) hk
 have hlen:=hr.length
 refine ⟨ys.take j.toNat,hr.take _,?_,fun g hg=>?_⟩
 ·refine ⟨by rw [cellsOf_length ty (by simp [hlen])],?_⟩
  rcases hown.2 with ⟨h1,h2⟩ | ⟨g,cap,cur,tt,fz,h1,h3,h2,h4,h5,h6,h7⟩
  ·left
   simp only [Hd.val,Value.slice.injEq] at h1
   have:j.toNat=0:=by omega
   simp [Hd.cut,h1,this]
  ·right
   simp only [Hd.val,Value.slice.injEq] at h1
   obtain ⟨a1,a2,a3⟩:=h1
   refine ⟨g,cap,cur,tt,fz,?_,h3,h2,by simp; omega,h5,h6,?_⟩
   ·simp [Hd.cut,a1,a3,addr_add]; omega
   ·rw [cellsOf_take ty _ hlen,← h7,List.take_take,List.length_take,Nat.min_eq_left (by omega),Nat.min_eq_left (Nat.mul_le_mul_right _ (by omega))]
 ·refine hcol g ?_
  rcases hown.2 with ⟨h1,h2⟩ | ⟨g',cap,cur,tt,fz,h1,_⟩
  ·simp only [Hd.val,Value.slice.injEq] at h1
   simp [Hd.cut,h1,Value.ownBlock] at hg
  ·simp only [Hd.val,Value.slice.injEq] at h1
   obtain ⟨a1,a2,a3⟩:=h1
   simp only [Hd.val,Value.ownBlock,a1,Option.some.injEq]
   simpa [Hd.cut,a1,addr_add,Value.ownBlock] using hg
def PrtOf (v u:Hd) (sz:Nat) (lo hi:Int):Prop:=0≤lo∧(v.n:Int)=hi - lo∧(lo<hi→∃ b o,v.a=some ⟨b,o,none⟩∧pat u (lo.toNat * sz)=⟨b,o,none⟩)
theorem p_idx_prt {t e:TypeId} {x ix:Operand} {k:IntKind} {i lo hi:Int} {v u:Hd} {sz by_:Nat} {z:Value} (hp : ∀ w c,Heap w c L→PrtOf v u sz lo hi) (ho:o.op = .indexAddr t x ix)
  (ht:P.underlying t=some (.slice e)) (hi' : TI P e sz by_ z) (hx:evo ρ x=v.val) (hix:evo ρ ix = .int k i) (hb:decide (0≤i∧i<hi - lo)=true) :
  PureOk P ρ o L (.pointer (some (pat u ((lo+i).toNat * sz)))):=fun ev w c he hL=>by
 subst he
 have htihi:=hi'; clear hi'
 obtain ⟨inf,hi',_,rfl,_⟩:=htihi.get
 obtain ⟨h0,hn,hpt⟩:=hp w c hL
 obtain ⟨b0,b1⟩:=of_decide_eq_true hb
 obtain ⟨b,of_,ha,hu⟩:=hpt (by omega)
 have hi0:0≤i∧i<(v.n:Int):=⟨b0,by omega⟩
 have e1:(lo+i).toNat * inf.size=lo.toNat * inf.size+i.toNat * inf.size:=by rw [← Nat.add_mul]; congr 1; omega
 rw [e1,pat_add u _ _ b of_ hu]
 simp [execOp,ho,hx,hix,Instr.indexAt,asIntOf,run_underlying ht,sizeOf,typeInfo,hi',ha,hi0,addr_add,Result.andThen]
end
end Go.Sm
