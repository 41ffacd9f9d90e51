/-
  Further operations: aggregates, results, type assertions, equality of arrays. Nothing of a program is named here; no condition.
-/
import Derived.Test.YtknnphhepnbaoaaGreatDoorSimF
import Derived.ChangeKeysEq
namespace Go.Sm
abbrev tA (n:Nat) (k:IntKind):Ty:=.arr n Int 0 (Value.int k) (fun _=>rfl)
def arrEq (n:Nat) (x y:List Int):Bool:=(List.range n).all fun i=>x.getD i 0==y.getD i 0
section
variable {P:Program} {n:Nat} {ρ:Env} {L:List HA} {o:Oper}
def PlOk (P:Program):List Field→List (Nat×Nat)→Prop
 | [],[]=>True
 | f::fs,p::ps=>f.offset=p.1∧(∃ by_ z,TI P f.type p.2 by_ z)∧PlOk P fs ps
 | _,_=>False
theorem p_build_struct {t:TypeId} {parts:Array (Nat×Operand)} {vals:List (Nat×List Value)} {sz by_:Nat} {z:Value} {fs:Array Field} {places:List (Nat×Nat)} {cells:List Value}
  (ho:o.op = .build t parts) (ht:P.underlying t=some (.struct fs)) (hi:TI P t sz by_ z) (hpl:PlOk P fs.toList places)
  (hp:parts.toList.map (fun p=>(p.1,(evo ρ p.2).cells.toList))=vals) (hfill:fillL (fun j=>places[j]?) z.cells.toList vals=some cells):PureOk P ρ o L (.agg cells.toArray):=fun ev w c he _=>by
 subst he
 have htihi:=hi; clear hi
 obtain ⟨inf,hi,hz,_,_⟩:=htihi.get
 have hm : ∀ (l:List Field) (ps:List (Nat×Nat)),PlOk P l ps→(l.mapM (fun f=>do pure (f.offset,← sizeOf f.type):Field→Sem (Nat×Nat))).run P w = .ok ps w:=by
  intro l
  induction l with
  | nil=>intro ps h; cases ps <;> first | rfl | exact h.elim
  | cons f l ih=>
   intro ps h
   cases ps with
   | nil=>exact h.elim
   | cons p ps=>
    obtain ⟨h1,⟨_,_,h2⟩,h3⟩:=h
    obtain ⟨i,hi,_,hs',_⟩:=h2.get
    have hs:(sizeOf f.type).run P w = .ok p.2 w:=by simp [sizeOf,typeInfo,hi,hs']
    simp only [List.mapM_cons,Sem.run_bind,hs,Result.andThen_ok,Sem.run_pure,ih ps h3,h1]
 have hpl' : (fs.mapM (fun f=>do pure (f.offset,← sizeOf f.type):Field→Sem (Nat×Nat))).run P w = .ok places.toArray w:=by
  rw [Array.mapM_eq_mapM_toList,Sem.run_map,hm _ _ hpl]
  rfl
 have hfill' := fill_list (fun j=>places.toArray[j]?) parts ρ vals z.cells.toList cells hp (by simpa using hfill)
 simp only [Array.toArray_toList] at hfill'
 simp only [execOp,ho,Instr.build,Sem.run_bind,zeroValue,typeInfo,run_program,Result.andThen_ok,hi,hz,Sem.run_pure,run_underlying ht,hpl']
 rw [hfill']
 rfl
theorem p_build_array {t e:TypeId} {k:Nat} {parts:Array (Nat×Operand)} {vals:List (Nat×List Value)} {sz by_ esz eby:Nat} {z ez:Value} {cells:List Value}
  (ho:o.op = .build t parts) (ht:P.underlying t=some (.array k e)) (hi:TI P t sz by_ z) (he:TI P e esz eby ez)
  (hp:parts.toList.map (fun p=>(p.1,(evo ρ p.2).cells.toList))=vals) (hfill:fillL (fun j=>some (j * esz,esz)) z.cells.toList vals=some cells):PureOk P ρ o L (.agg cells.toArray):=fun ev w c hev _=>by
 subst hev
 have htihi:=hi; clear hi
 obtain ⟨inf,hi,hz,_,_⟩:=htihi.get
 have htihe:=he; clear he
 obtain ⟨einf,he,_,rfl,_⟩:=htihe.get
 have hfill' := fill_list (fun j=>some (j * einf.size,einf.size)) parts ρ vals z.cells.toList cells hp hfill
 simp only [Array.toArray_toList] at hfill'
 simp only [execOp,ho,Instr.build,Sem.run_bind,zeroValue,typeInfo,run_program,Result.andThen_ok,hi,hz,Sem.run_pure,run_underlying ht,sizeOf,he]
 rw [hfill']
 rfl
def resv (tmps:Array Value):ResultVar→Sem Value
 | .tmp t=>pure (tmps.getD t undef)
 | .cell x t=>do loadVar t (← asAddr (tmps.getD x undef))
def ResAt (P:Program) (ρ:Env) (L:List HA) (r:ResultVar) (v:Value):Prop:=∀ (a:Act) (w:World) (c:Col),(∀ t,a.tmps.getD t undef=ρ t)→Heap w c L→(resv a.tmps r).run P w = .ok v w
theorem ra_tmp {t:Tmp} {v:Value} (h:ρ t=v):ResAt P ρ L (.tmp t) v:=fun a w _ ha _=>by simp only [resv,ha,h]; rfl
theorem ra_cell1 {x:Tmp} {t:TypeId} {d:TypeDesc} {i b:Nat} {cs:List Value} {v:Value} (k:Nat) (hk:L[k]? = some (.box i b cs)) (ht:P.underlying t=some d)
  (hd:aggB d=false) (hx:ρ x = .pointer (some ⟨b,0,none⟩)) (hv:cs[0]? = some v):ResAt P ρ L (.cell x t) v:=fun a w c ha hL=>by
 obtain ⟨⟨ty,hb⟩,_⟩:=hL.at hk
 simp only [resv,ha,hx]
 simp [asAddr,loadVar,notAgg ht hd,cell_at hb,hv,Result.andThen]
theorem ra_cellN {x:Tmp} {t:TypeId} {d:TypeDesc} {i b:Nat} {cs:List Value} {sz by_:Nat} {z:Value} (k:Nat) (hk:L[k]? = some (.box i b cs)) (ht:P.underlying t=some d)
  (hd:aggB d=true) (hi:TI P t sz by_ z) (hx:ρ x = .pointer (some ⟨b,0,none⟩)) (hl:Nat.beq cs.length sz=true):ResAt P ρ L (.cell x t) (.agg cs.toArray):=fun a w c ha hL=>by
 have htihi:=hi; clear hi
 obtain ⟨inf,hi,_,rfl,_⟩:=htihi.get
 obtain ⟨⟨ty,hb⟩,_⟩:=hL.at hk
 have hl' := Nat.eq_of_beq_eq_true hl
 have hload:=run_loadCells_list (P:=P) (w:=w) ⟨b,0,none⟩ cs (fun j v hv=>by
  rw [addr_add,cell_at hb]; simpa using hv)
 rw [hl'] at hload
 simp only [resv,ha,hx]
 simp [asAddr,loadVar,isAgg_ok ht hd,sizeOf,typeInfo,hi,hload,Result.andThen]
def ResL (P:Program) (ρ:Env) (L:List HA):List ResultVar→List Value→Prop
 | [],[]=>True
 | r::rs,v::vs=>ResAt P ρ L r v∧ResL P ρ L rs vs
 | _,_=>False
theorem resL_run {a:Act} {w:World} {c:Col} (ha : ∀ t,a.tmps.getD t undef=ρ t) (hL:Heap w c L) : ∀ {rs:List ResultVar} {vs:List Value},ResL P ρ L rs vs→(rs.mapM (resv a.tmps)).run P w = .ok vs w
 | [],[],_=>rfl
 | r::rs,v::vs,⟨h1,h2⟩=>by
  simp only [List.mapM_cons,Sem.run_bind,h1 a w c ha hL,Result.andThen_ok,resL_run ha hL h2,Sem.run_pure]
 | [],_::_,h=>h.elim
 | _::_,[],h=>h.elim
theorem results_run {fn:Func} {rs:List ResultVar} {vs:List Value} (h:fn.results=rs.toArray) {a:Act} {w:World} {c:Col} (ha : ∀ t,a.tmps.getD t undef=ρ t) (hL:Heap w c L) (hr:ResL P ρ L rs vs) :
  (results fn a.tmps).run P w = .ok (if h:vs.toArray.size=1 then vs.toArray[0] else .tuple vs.toArray) w:=by
 have he:results fn a.tmps=(do let vs ← fn.results.mapM (resv a.tmps); pure (if h:vs.size=1 then vs[0] else .tuple vs)):=by
  unfold results
  congr 2
 rw [he,h]
 simp only [Sem.run_bind]
 rw [show (Array.mapM (resv a.tmps) rs.toArray).run P w = .ok vs.toArray w by rw [Array.mapM_eq_mapM_toList,Sem.run_map]; simp only [resL_run ha hL hr]; rfl]
 rfl
theorem run_eq_arr {w:World} (d:Nat) {t e:TypeId} {m:Nat} {k:IntKind} {i:TypeInfo} (x y:List Int) (ht:P.underlying t=some (.array m e)) (he:P.underlying e=some (.int k)) (hi:P.info? e=some i) (hs:i.size=1) :
  (Op.equalIn (d+2) t (.agg ((tA m k).fill x ()).toArray) (.agg ((tA m k).fill y ()).toArray)).run P w = .ok (arrEq m x y) w:=by
 rw [run_equalIn_array (P:=P) w (d+1) _ _ ht hi]
 have hc:P.cellsOf e=1:=by simp [Program.cellsOf,hi,hs]
 have gen : ∀ is:List Nat,(∀ j∈is,j<m)→(Op.eqItems (d+1) e (P.cellsOf e) ((tA m k).fill x ()).toArray ((tA m k).fill y ()).toArray is).run P w = .ok (is.all fun i=>x.getD i 0==y.getD i 0) w:=by
  intro is
  induction is with
  | nil=>intro _; simp [Op.eqItems]
  | cons j is ih=>
   intro hj
   have hjm:j<m:=hj j (by simp)
   have hx:(part e ((tA m k).fill x ()).toArray (j * P.cellsOf e)).run P w = .ok (.int k (x.getD j 0)) w:=by
    simp [part,notAgg he rfl,hc,Ty.fill,hjm,Result.andThen]
   have hy:(part e ((tA m k).fill y ()).toArray (j * P.cellsOf e)).run P w = .ok (.int k (y.getD j 0)) w:=by
    simp [part,notAgg he rfl,hc,Ty.fill,hjm,Result.andThen]
   simp only [Op.eqItems,Sem.run_bind,hx,hy,Result.andThen_ok,run_equalIn_int w d e k k _ _ he,List.all_cons]
   have ih' := ih fun j' hj' => hj j' (by simp [hj'])
   cases hb:(x.getD j 0==y.getD j 0)
   ·simp
   ·simp [ih']
 exact gen _ fun j hj=>by simpa using hj
theorem p_eql_arr {t t' e:TypeId} {a b:Operand} {m:Nat} {k:IntKind} {by_:Nat} {z:Value} {x y:List Int} (ho:o.op = .binOp .eql t a b t') (ht:P.underlying t=some (.array m e)) (he:P.underlying e=some (.int k)) (hi:TI P e 1 by_ z)
  (hg:P.eqGuardType P.depth t=false) (hx:evo ρ a = .agg ((tA m k).fill x ()).toArray) (hy:evo ρ b = .agg ((tA m k).fill y ()).toArray):PureOk P ρ o L (.bool (arrEq m x y)):=fun ev w c hev _=>by
 subst hev
 have htihi:=hi; clear hi
 obtain ⟨i,hi,_,hs,_⟩:=htihi.get
 have h1:(eqGuard .eql t a b (.agg ((tA m k).fill x ()).toArray) (.agg ((tA m k).fill y ()).toArray)).run P w = .ok () w:=run_eqGuard_agg w .eql t a b _ _ hg
 have h2:(binOp .eql t (.agg ((tA m k).fill x ()).toArray) (.agg ((tA m k).fill y ()).toArray)).run P w = .ok (.bool (arrEq m x y)) w:=by
  rw [run_eql_struct,run_eq_arr 9998 x y ht he hi hs]; rfl
 simp only [execOp,ho,hx,hy,Sem.run_bind,h1,h2,Result.andThen_ok,Sem.run_pure]
theorem p_field1 {t:TypeId} {x:Operand} {f:Nat} {fs:Array Field} {fd:Field} {d:TypeDesc} {cs:List Value} {v:Value} (ho:o.op = .field t x f) (ht:P.underlying t=some (.struct fs)) (hf:fs[f]? = some fd)
  (hu:P.underlying fd.type=some d) (hd:aggB d=false) (hx:evo ρ x = .agg cs.toArray) (hv:cs[fd.offset]? = some v):PureOk P ρ o L v:=fun ev w c he _=>by
 subst he
 simp [execOp,ho,hx,Instr.field,run_underlying ht,hf,asAgg,part,notAgg hu hd,hv,Result.andThen]
theorem p_fieldN {t:TypeId} {x:Operand} {f:Nat} {fs:Array Field} {fd:Field} {d:TypeDesc} {cs cs' : List Value} {sz by_:Nat} {z:Value} (ho:o.op = .field t x f) (ht:P.underlying t=some (.struct fs)) (hf:fs[f]? = some fd)
  (hu:P.underlying fd.type=some d) (hd:aggB d=true) (hi:TI P fd.type sz by_ z) (hx:evo ρ x = .agg cs.toArray) (hv:(cs.drop fd.offset).take sz=cs') :
  PureOk P ρ o L (.agg cs'.toArray):=fun ev w c he _=>by
 subst he
 have htihi:=hi; clear hi
 obtain ⟨inf,hi,_,rfl,_⟩:=htihi.get
 simp [execOp,ho,hx,Instr.field,run_underlying ht,hf,asAgg,part,isAgg_ok hu hd,sizeOf,typeInfo,hi,hv,Result.andThen]
abbrev w64 (n:Int):Int:=IntKind.i64.wrap n
def appOk (m k b:Nat):Bool:=decide ((m+k) * b≤140737488355328∧m+k≤maxLen)
def chk {α:Type} (b:Bool) (m:Option α):Option α:=bif b then m else none
theorem chk_some {α:Type} {b:Bool} {m:Option α} {r:α} (h:chk b m=some r):b=true∧m=some r:=by
 cases b
 ·cases h
 ·exact ⟨rfl,h⟩
end
end Go.Sm
