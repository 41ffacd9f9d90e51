/-
  What single operations come to. Nothing of a program is named here; no condition.
-/
import Derived.Test.YtknnphhepnbaoaaGreatDoorSimC
namespace Go.Sm
def TI (P:Program) (t:TypeId) (sz by_:Nat) (z:Value):Prop:=(P.info? t).map (fun i=>(i.zero,i.size,i.bytes))=some (some z,sz,by_)
theorem TI.get {P:Program} {t:TypeId} {sz by_:Nat} {z:Value} (h:TI P t sz by_ z) : ∃ i,P.info? t=some i∧i.zero=some z∧i.size=sz∧i.bytes=by_:=by
 unfold TI at h
 cases hi:P.info? t with
 | none=>rw [hi] at h; cases h
 | some i=>
  rw [hi] at h
  simp only [Option.map_some,Option.some.injEq,Prod.mk.injEq] at h
  exact ⟨i,rfl,h.1,h.2.1,h.2.2⟩
def aggB:TypeDesc→Bool
 | .struct _=>true
 | .array _ _=>true
 | _=>false
def ifaceB:TypeDesc→Bool
 | .interface _=>true
 | _=>false
section
variable {P:Program} {ρ:Env} {L:List HA} {o:Oper} {N:Nat}
theorem p_move {x:Operand} {v:Value} (ho:o.op = .move x) (hx:evo ρ x=v):PureOk P ρ o L v:=fun ev w c he _=>by
 subst he; simp [execOp,ho,hx]
theorem p_assign {x:Operand} {v:Value} (ho:o.op = .assign x) (hx:evo ρ x=v):PureOk P ρ o L v:=fun ev w c he _=>by
 subst he; simp [execOp,ho,hx]
theorem p_pick {c x y:Operand} {b p q:Bool} (ho:o.op = .pick c x y) (hc:evo ρ c = .bool b) (hx:b=true→evo ρ x = .bool p) (hy:b=false→evo ρ y = .bool q) :
  PureOk P ρ o L (.bool (bif b then p else q)):=fun ev w c he _=>by
 subst he
 cases b
 ·simp [execOp,ho,hc,asBool,hy rfl]
 ·simp [execOp,ho,hc,asBool,hx rfl]
theorem run_eqGuard_int {w:World} {op:BinOp} {t:TypeId} {x y:Operand} {k k' : IntKind} {a b:Int}:(eqGuard op t x y (.int k a) (.int k' b)).run P w = .ok () w:=by
 cases op <;> simp [eqGuard]
theorem p_add {t t' : TypeId} {x y:Operand} {k:IntKind} {a b:Int} (ho:o.op = .binOp .add t x y t') (hx:evo ρ x = .int k a) (hy:evo ρ y = .int k b) :
  PureOk P ρ o L (.int k (k.wrap (a+b))):=fun ev w c he _=>by
 subst he; simp [execOp,ho,hx,hy,run_eqGuard_int,binOp,Op.intArith,Result.andThen]
theorem p_sub {t t' : TypeId} {x y:Operand} {k:IntKind} {a b:Int} (ho:o.op = .binOp .sub t x y t') (hx:evo ρ x = .int k a) (hy:evo ρ y = .int k b) :
  PureOk P ρ o L (.int k (k.wrap (a - b))):=fun ev w c he _=>by
 subst he; simp [execOp,ho,hx,hy,run_eqGuard_int,binOp,Op.intArith,Result.andThen]
theorem p_mul {t t' : TypeId} {x y:Operand} {k:IntKind} {a b:Int} (ho:o.op = .binOp .mul t x y t') (hx:evo ρ x = .int k a) (hy:evo ρ y = .int k b) :
  PureOk P ρ o L (.int k (k.wrap (a * b))):=fun ev w c he _=>by
 subst he; simp [execOp,ho,hx,hy,run_eqGuard_int,binOp,Op.intArith,Result.andThen]
theorem p_quo {t t' : TypeId} {x y:Operand} {k:IntKind} {a b:Int} (ho:o.op = .binOp .quo t x y t') (hx:evo ρ x = .int k a) (hy:evo ρ y = .int k b) (hb:(b==0)=false) :
  PureOk P ρ o L (.int k (k.wrap (a.tdiv b))):=fun ev w c he _=>by
 have : ¬ b=0:=by simpa using hb
 subst he; simp [execOp,ho,hx,hy,run_eqGuard_int,binOp,Op.intDiv,Result.andThen,this]
theorem p_rem {t t' : TypeId} {x y:Operand} {k:IntKind} {a b:Int} (ho:o.op = .binOp .rem t x y t') (hx:evo ρ x = .int k a) (hy:evo ρ y = .int k b) (hb:(b==0)=false) :
  PureOk P ρ o L (.int k (a.tmod b)):=fun ev w c he _=>by
 have : ¬ b=0:=by simpa using hb
 subst he; simp [execOp,ho,hx,hy,run_eqGuard_int,binOp,Op.intDiv,Result.andThen,this]
theorem p_lss {t t' : TypeId} {x y:Operand} {k:IntKind} {a b:Int} (ho:o.op = .binOp .lss t x y t') (hx:evo ρ x = .int k a) (hy:evo ρ y = .int k b) :
  PureOk P ρ o L (.bool (decide (a<b))):=fun ev w c he _=>by
 subst he; simp [execOp,ho,hx,hy,run_eqGuard_int,binOp,Op.intCmp,Result.andThen]
theorem p_leq {t t' : TypeId} {x y:Operand} {k:IntKind} {a b:Int} (ho:o.op = .binOp .leq t x y t') (hx:evo ρ x = .int k a) (hy:evo ρ y = .int k b) :
  PureOk P ρ o L (.bool (decide (a≤b))):=fun ev w c he _=>by
 subst he; simp [execOp,ho,hx,hy,run_eqGuard_int,binOp,Op.intCmp,Result.andThen]
theorem p_gtr {t t' : TypeId} {x y:Operand} {k:IntKind} {a b:Int} (ho:o.op = .binOp .gtr t x y t') (hx:evo ρ x = .int k a) (hy:evo ρ y = .int k b) :
  PureOk P ρ o L (.bool (decide (b<a))):=fun ev w c he _=>by
 subst he; simp [execOp,ho,hx,hy,run_eqGuard_int,binOp,Op.intCmp,Result.andThen]
theorem p_geq {t t' : TypeId} {x y:Operand} {k:IntKind} {a b:Int} (ho:o.op = .binOp .geq t x y t') (hx:evo ρ x = .int k a) (hy:evo ρ y = .int k b) :
  PureOk P ρ o L (.bool (decide (b≤a))):=fun ev w c he _=>by
 subst he; simp [execOp,ho,hx,hy,run_eqGuard_int,binOp,Op.intCmp,Result.andThen]
theorem p_eql {t t' : TypeId} {x y:Operand} {k:IntKind} {a b:Int} (ho:o.op = .binOp .eql t x y t') (hx:evo ρ x = .int k a) (hy:evo ρ y = .int k b) :
  PureOk P ρ o L (.bool (a==b)):=fun ev w c he _=>by
 subst he; simp [execOp,ho,hx,hy,run_eqGuard_int,binOp,Op.intCmp,Result.andThen]
theorem p_neq {t t' : TypeId} {x y:Operand} {k:IntKind} {a b:Int} (ho:o.op = .binOp .neq t x y t') (hx:evo ρ x = .int k a) (hy:evo ρ y = .int k b) :
  PureOk P ρ o L (.bool (a != b)):=fun ev w c he _=>by
 subst he; simp [execOp,ho,hx,hy,run_eqGuard_int,binOp,Op.intCmp,Result.andThen]
theorem p_not {t:TypeId} {x:Operand} {b:Bool} (ho:o.op = .unOp .not t x) (hx:evo ρ x = .bool b):PureOk P ρ o L (.bool (!b)):=fun ev w c he _=>by
 subst he; simp [execOp,ho,hx,Op.unary]
theorem p_neg {t:TypeId} {x:Operand} {k:IntKind} {a:Int} (ho:o.op = .unOp .neg t x) (hx:evo ρ x = .int k a):PureOk P ρ o L (.int k (k.wrap (0 - a))):=fun ev w c he _=>by
 subst he; simp [execOp,ho,hx,Op.unary,Op.intArith]
theorem p_conv {s d:TypeId} {x:Operand} {k k' : IntKind} {ds:TypeDesc} {a:Int} (ho:o.op = .convert s d x) (hs:P.underlying s=some ds) (hd:P.underlying d=some (.int k')) (hx:evo ρ x = .int k a) :
  PureOk P ρ o L (.int k' (k'.wrap a)):=fun ev w c he _=>by
 subst he; simp [execOp,ho,hx,convert,run_underlying hs,run_underlying hd,Conv.intToInt,Result.andThen]
theorem p_len {t:TypeId} {e:TypeId} {x:Operand} {h:Hd} (ho:o.op = .call { callee:=.builtin .len,args:=#[x],argTypes:=#[t] }) (ht:P.underlying t=some (.slice e)) (hx:evo ρ x=h.val) :
  PureOk P ρ o L (.int .i64 h.n):=fun ev w c he _=>by
 subst he; simp [execOp,ho,hx,resolve,invoke,builtin,Builtin.len_,run_underlying ht,goInt,Result.andThen]
theorem rep_len {w:World} {c:Col} {t:Ty} {K:List Nat} {xs:List t.den} {h:Hd} (hA:HA.holds w c (.rep t K xs h)):h.n=xs.length:=by
 obtain ⟨ys,_,hs,_⟩:=hA; exact hs
theorem p_len_rep {t:TypeId} {e:TypeId} {x:Operand} {h:Hd} {ty:Ty} {K:List Nat} {xs:List ty.den} (k:Nat) (hk:L[k]? = some (.rep ty K xs h))
  (ho:o.op = .call { callee:=.builtin .len,args:=#[x],argTypes:=#[t] }) (ht:P.underlying t=some (.slice e)) (hx:evo ρ x=h.val) :
  PureOk P ρ o L (.int .i64 xs.length):=fun ev w c he hL=>by
 rw [← rep_len (hL.at hk)]; exact p_len ho ht hx ev w c he hL
theorem p_max {ts:Array TypeId} {x y:Operand} {k:IntKind} {a b:Int} (ho:o.op = .call { callee:=.builtin .max,args:=#[x,y],argTypes:=ts }) (hx:evo ρ x = .int k a) (hy:evo ρ y = .int k b) :
  PureOk P ρ o L (.int k (if b > a then b else a)):=fun ev w c he _=>by
 subst he; simp [execOp,ho,hx,hy,resolve,invoke,builtin,run_max_int2,Result.andThen]
theorem p_min {ts:Array TypeId} {x y:Operand} {k:IntKind} {a b:Int} (ho:o.op = .call { callee:=.builtin .min,args:=#[x,y],argTypes:=ts }) (hx:evo ρ x = .int k a) (hy:evo ρ y = .int k b) :
  PureOk P ρ o L (.int k (if b<a then b else a)):=fun ev w c he _=>by
 subst he; simp [execOp,ho,hx,hy,resolve,invoke,builtin,run_min_int2,Result.andThen]
theorem p_extract {x:Operand} {vs:List Value} {i:Nat} {v:Value} (ho:o.op = .extract x i) (hx:evo ρ x = .tuple vs.toArray) (hv:vs[i]? = some v):PureOk P ρ o L v:=fun ev w c he _=>by
 subst he; simp [execOp,ho,hx,Instr.extract,hv]
theorem p_fieldAddr {s:TypeId} {x:Operand} {b off fo f:Nat} {fs:Array Field} {fd:Field} {sz by_:Nat} {z:Value} (ho:o.op = .fieldAddr s x f) (hs:P.underlying s=some (.struct fs)) (hf:fs[f]? = some fd)
  (hi:TI P fd.type sz by_ z) (hz:Nat.beq sz 0=false) (hfo:fd.offset=fo) (hx:evo ρ x = .pointer (some ⟨b,off,none⟩)):PureOk P ρ o L (.pointer (some ⟨b,off+fo,none⟩)):=fun ev w c he _=>by
 subst he
 have htihi:=hi; clear hi
 obtain ⟨i,hi,_,rfl,_⟩:=htihi.get
 have hz' : i.size≠0:=Nat.ne_of_beq_eq_false hz
 have hadd:(⟨b,off,none⟩:Addr).add fd.offset=⟨b,off+fo,none⟩:=by
  unfold Addr.add; split <;> simp_all
 simp [execOp,ho,hx,Instr.fieldAt,run_underlying hs,hf,Instr.sureAddr,fieldPlace,sizeOf,typeInfo,hi,hz',hadd,Result.andThen]
theorem notAgg {w:World} {t:TypeId} {d:TypeDesc} (ht:P.underlying t=some d) (hd:aggB d=false):(isAgg t).run P w = .ok false w:=by
 unfold isAgg
 simp only [bind,Sem.run_bind',run_underlying ht,Result.andThen]
 cases d <;> first | rfl | simp [aggB] at hd | simp [ifaceB] at hd
theorem isAgg_ok {w:World} {t:TypeId} {d:TypeDesc} (ht:P.underlying t=some d) (hd:aggB d=true):(isAgg t).run P w = .ok true w:=by
 unfold isAgg
 simp only [bind,Sem.run_bind',run_underlying ht,Result.andThen]
 cases d <;> first | rfl | simp [aggB] at hd | simp [ifaceB] at hd
theorem addr_add (b off n:Nat):(⟨b,off,none⟩:Addr).add n=⟨b,off+n,none⟩:=by
 unfold Addr.add; split <;> simp_all
theorem cell_at {w:World} {b off:Nat} {arr:Array Value} {ty:TypeId} {fz:Nat×Nat} (hb:w.heap[b]? = some (.cells arr ty fz)):w.cell? ⟨b,off,none⟩=arr[off]? := by
 simp [World.cell?,hb]
theorem run_load1 {w:World} {t:TypeId} {d:TypeDesc} {a:Addr} {v:Value} (ht:P.underlying t=some d) (hd:aggB d=false)
  (hc:w.cell? a=some v):(Instr.loadAt t (.pointer (some a))).run P w = .ok v w:=by
 simp [Instr.loadAt,Instr.sureAddr,loadVar,notAgg ht hd,hc,Result.andThen]
theorem run_loadN {w:World} {t:TypeId} {d:TypeDesc} {b off:Nat} {arr:Array Value} {ty:TypeId} {fz:Nat×Nat} {i:TypeInfo} {cs:List Value} (ht:P.underlying t=some d)
  (hd:aggB d=true) (hi:P.info? t=some i) (hb:w.heap[b]? = some (.cells arr ty fz)) (hcs:(arr.toList.drop off).take i.size=cs) (hl:cs.length=i.size) :
  (Instr.loadAt t (.pointer (some ⟨b,off,none⟩))).run P w = .ok (.agg cs.toArray) w:=by
 have hload:=run_loadCells_list (P:=P) (w:=w) ⟨b,off,none⟩ cs (fun j v hv=>by
  rw [addr_add,cell_at hb]
  rw [← hcs,List.getElem?_take] at hv
  split at hv
  ·simpa [List.getElem?_drop] using hv
  ·cases hv)
 rw [hl] at hload
 simp [Instr.loadAt,Instr.sureAddr,loadVar,isAgg_ok ht hd,sizeOf,typeInfo,hi,hload,Result.andThen]
theorem p_load_box {t:TypeId} {x:Operand} {b off i:Nat} {cs:List Value} {v:Value} {d:TypeDesc} (k:Nat) (hk:L[k]? = some (.box i b cs)) (ho:o.op = .load t x) (ht:P.underlying t=some d)
  (hd:aggB d=false) (hx:evo ρ x = .pointer (some ⟨b,off,none⟩)) (hv:cs[off]? = some v):PureOk P ρ o L v:=fun ev w c he hL=>by
 subst he
 obtain ⟨⟨ty,hb⟩,_⟩:=hL.at hk
 simp [execOp,ho,hx,run_load1 ht hd (v:=v) (w:=w) (by rw [cell_at hb]; simpa using hv),Result.andThen]
theorem p_loadN_box {t:TypeId} {x:Operand} {b off i:Nat} {cs cs' : List Value} {d:TypeDesc} {sz by_:Nat} {z:Value} (k:Nat) (hk:L[k]? = some (.box i b cs)) (ho:o.op = .load t x) (ht:P.underlying t=some d)
  (hd:aggB d=true) (hi:TI P t sz by_ z) (hx:evo ρ x = .pointer (some ⟨b,off,none⟩))
  (hv:(cs.drop off).take sz=cs') (hl:Nat.beq cs'.length sz=true):PureOk P ρ o L (.agg cs'.toArray):=fun ev w c he hL=>by
 subst he
 have htihi:=hi; clear hi
 obtain ⟨inf,hi,_,rfl,_⟩:=htihi.get
 obtain ⟨⟨ty,hb⟩,_⟩:=hL.at hk
 simp [execOp,ho,hx,run_loadN ht hd hi hb (cs:=cs') (off:=off) (by simpa using hv) (Nat.eq_of_beq_eq_true hl),Result.andThen]
theorem stp_new {w:World} {c:Col} (hN:Nat.ble 2 N=true) (ob:Obj):Stp [] w c (w.alloc ob) (fun b=>if b<w.heap.size then c b else N):=by
 have h2:=Nat.le_of_ble_eq_true hN
 refine .mk0 (by simp) (fun b hb=>by simp [hb]) (fun b hb _=>heap_alloc_old w ob hb) (fun b hb _=>?_) ⟨rfl,rfl,rfl⟩
 show 2≤if b<w.heap.size then c b else N
 rw [if_neg (by omega)]; exact h2
theorem ok_new {a:Act} {ev:Operand→Value} {w:World} {c:Col} {next:Act→World→Prop} {Q:Exit→Act→World→Prop} {cs:List Value} {ty:TypeId} (hN:Nat.ble 2 N=true)
  (hrun:(execOp ev o).run P w = .ok (.value (.pointer (some ⟨w.heap.size,0,none⟩))) (w.alloc (.cells cs.toArray ty)))
  (hk : ∀ (y:Nat) w' c',Stp [] w c w' c' → Heap w' c' [.box N y cs]→next (a.put o.dst (.pointer (some ⟨y,0,none⟩))) w') :
  o.upon P a next Q ((execOp ev o).run P w):=by
 rw [hrun]
 exact hk w.heap.size _ _ (stp_new hN _) (Heap.cons ⟨⟨ty,heap_alloc_new w _⟩,by simp⟩ (Heap.nil _ _))
theorem ok_alloc {t:TypeId} {sz by_:Nat} {z:Value} {cs:List Value} (ho:o.op = .alloc t) (hi:TI P t sz by_ z) (hcs:z.cells=cs.toArray) (hN:Nat.ble 2 N=true) :
  OpOk P ρ o L [] (fun b:Nat=>.pointer (some ⟨b,0,none⟩)) (fun b=>[.box N b cs]):=fun a ev w c next Q _ _ hk=>by
 have htihi:=hi; clear hi
 obtain ⟨i,hi,hz,_,_⟩:=htihi.get
 exact ok_new (ty:=t) hN (by simp [execOp,ho,Instr.alloc,zeroValue,typeInfo,hi,hz,newVar,newRow,hcs]) hk
theorem ok_box {t:TypeId} {x:Operand} {v:Value} {cs:List Value} (ho:o.op = .box t x) (hx:evo ρ x=v) (hcs:v.cells=cs.toArray) (hN:Nat.ble 2 N=true) :
  OpOk P ρ o L [] (fun b:Nat=>.pointer (some ⟨b,0,none⟩)) (fun b=>[.box N b cs]):=fun a ev w c next Q ha _ hk=>
 ok_new (ty:=t) hN (by simp [execOp,ho,ha,hx,Instr.box,newVar,newRow,hcs]) hk
theorem ones_of {l:List Value} (h:l.all Value.oneCell' = true) : ∀ v∈l,v.oneCell' = true:=List.all_eq_true.1 h
theorem size_setRow (w:World) (g:Nat) (cs:Array Value):(w.setRow g cs).heap.size=w.heap.size:=by simp [World.setRow]
theorem stp_setRow {w:World} {c:Col} {b i:Nat} {cs:Array Value} (hc:c b=i):Stp [i] w c (w.setRow b cs) c:=by
 refine .mk0 (by rw [size_setRow]; exact Nat.le_refl _) (fun _ _=>rfl) (fun b' hb' hn=>?_) (fun b' h1 h2=>by rw [size_setRow] at h2; omega) ⟨rfl,rfl,rfl⟩
 have:b≠b' := fun e=>hn (by rw [← e,hc]; simp)
 simp [World.setRow,Array.getElem?_modify,this]
theorem ok_store_box {t:TypeId} {x y:Operand} {b off i:Nat} {cs vs cs' : List Value} {v z:Value} {sz by_:Nat} (k:Nat) (hk:L[k]? = some (.box i b cs)) (ho:o.op = .store t x y) (hi:TI P t sz by_ z)
  (hx:evo ρ x = .pointer (some ⟨b,off,none⟩)) (hy:evo ρ y=v) (hv:v.cells=vs.toArray) (hl:Nat.beq vs.length sz=true) (hones:vs.all Value.oneCell' = true)
  (hin:Nat.ble (off+vs.length) cs.length=true) (hcs:cs.take off++vs++cs.drop (off+vs.length)=cs'):OpOk P ρ o L [i] (fun _:Unit=>undef) (fun _=>[.box i b cs']):=by
 intro a ev w c next Q ha hL hn
 have htihi:=hi; clear hi
 obtain ⟨inf,hi,_,rfl,_⟩:=htihi.get
 obtain ⟨⟨ty,hb⟩,hc⟩:=hL.at hk
 have hle:=Nat.le_of_ble_eq_true hin
 have hst:=run_storeCells_at P b off ty vs 0 cs.toArray w hb (by simpa using hle) (ones_of hones)
 have hrun:(execOp ev o).run P w = .ok .skip (w.setRow b cs'.toArray):=by
  simp only [Nat.add_zero] at hst
  simp [execOp,ho,ha,hx,hy,Instr.storeAt,Instr.sureAddr,storeVar,hv,sizeOf,typeInfo,hi,Nat.eq_of_beq_eq_true hl,hst,← hcs,Result.andThen]
 rw [hrun]
 have hrow:=setRow_heap w b _ cs'.toArray ty (0,0) hb
 exact hn () _ c (stp_setRow hc) (Heap.cons ⟨⟨ty,hrow⟩,hc⟩ (Heap.nil _ _))
end
end Go.Sm
