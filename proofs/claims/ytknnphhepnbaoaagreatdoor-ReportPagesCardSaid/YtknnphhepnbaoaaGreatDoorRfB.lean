/-
  The symbolic evaluator: the table of types, operands, operations that only compute. Nothing of a program is named here; no condition.
-/
import Derived.Test.YtknnphhepnbaoaaGreatDoorRfA
namespace Go.Sm
inductive TD
  | int (k:IntKind)
  | bool
  | str
  | slice (e:TypeId)
  | arr (n:Nat) (e:TypeId)
  | st (fs:List (TypeId×Nat))
  | ptr (e:TypeId)
  | other
set_option linter.unusedSectionVars false
section
variable [X:XTab]
structure GEnt where
  g:Nat
  t:TC
  xs:List t.den
class GTab where
  gl:List GEnt
def GEnt.ha (e:GEnt):HA:=.gl e.g e.xs.length (cellsOf e.t.ty e.xs (List.replicate e.xs.length e.t.ref0))
variable [G:GTab]
def GLH:List HA:=G.gl.map GEnt.ha
structure TInf where
  d:TD
  sz:Nat
  by_:Nat
  zl:List Lf
  tc:TC
def TD.agg:TD→Bool
  | .arr _ _=>true
  | .st _=>true
  | _=>false
def noη:Vn:=⟨fun _=>nilHd,fun _=>0⟩
def TInf.zv (i:TInf):Value:=bif i.d.agg then .agg (cellsL noη i.zl).toArray else (cellsL noη i.zl).headD undef
def TInf.fits (P:Program) (t:TypeId):TD→Prop
  | .int k=>P.underlying t=some (.int k)
  | .bool=>P.underlying t=some .bool
  | .str=>P.underlying t=some .string
  | .slice e=>P.underlying t=some (.slice e)
  | .arr n e=>P.underlying t=some (.array n e)
  | .st fs=>∃ F,P.underlying t=some (.struct F)∧F.toList.map (fun f=>(f.type,f.offset))=fs
  | .ptr e=>P.underlying t=some (.pointer e)
  | .other=>∃ d,P.underlying t=some d∧aggB d=false
def TInf.ok (P:Program) (t:TypeId) (i:TInf):Prop:=TI P t i.sz i.by_ i.zv∧TInf.fits P t i.d∧i.zv.cells=(cellsL noη i.zl).toArray∧∀ η,cellsL η i.zl=cellsL noη i.zl
abbrev Tb:=TypeId→Option TInf
def Tb.ok (Θ:Tb) (P:Program):Prop:=∀ t i,Θ t=some i→i.ok P t
def tbl:List (TypeId×TInf)→Tb
  | [],_=>none
  | (a,i)::r,t=>bif Nat.beq t a then some i else tbl r t
def TblOk (P:Program):List (TypeId×TInf)→Prop
  | []=>True
  | (a,i)::r=>i.ok P a∧TblOk P r
theorem tbl_ok {P:Program} : ∀ {l:List (TypeId×TInf)},TblOk P l→Tb.ok (tbl l) P
  | [],_,t,i,h=>by simp [tbl] at h
  | (a,j)::r,hl,t,i,h=>by
    simp only [tbl] at h
    cases hb:Nat.beq t a
    · rw [hb] at h; exact tbl_ok hl.2 t i h
    · rw [hb] at h
      simp only [cond_true,Option.some.injEq] at h
      subst h
      rw [Nat.eq_of_beq_eq_true hb]
      exact hl.1
structure Out where
  av:AV
  fs:List AF
  κ:List Nat
abbrev SE:=List (Nat×AV)
def look (E:SE) (t:Nat):Option AV:=match E with
  | []=>none
  | (d,v)::r=>bif Nat.beq t d then some v else look r t
def EnvOk (η:Vn) (ρ:Env) (E:SE):Prop:=∀ t v,look E t=some v→ρ t=v.val η
def constAV:Value→AV
  | .int k n=>.lf (.c (.int k) n)
  | .bool b=>.lf (.c .bool b)
  | .string s=>.lf (.c .str s.data.toList)
  | .slice none 0 0=>.lf .nl
  | v=>.lf (.v v)
theorem constAV_val (η:Vn) (v:Value):(constAV v).val η=v:=by
  unfold constAV
  split <;> simp [AV.val,Lf.val,nilHd,Hd.val]
def ev (E:SE):Operand→Option AV
  | .tmp t=>look E t
  | .const v=>some (constAV v)
  | .func f=>some (.lf (.fn f))
  | .global _=>none
theorem ev_ok {η:Vn} {ρ:Env} {E:SE} (h:EnvOk η ρ E) {x:Operand} {v:AV} (hx:ev E x=some v):evo ρ x=v.val η:=by
  cases x with
  | tmp t=>exact h t v hx
  | const c=>simp only [ev,Option.some.injEq] at hx; subst hx; exact (constAV_val η c).symm
  | func f=>simp only [ev,Option.some.injEq] at hx; subst hx; rfl
  | global g=>simp [ev] at hx
def OpS0 (P:Program) (o:Oper) (E:SE) (F:List AF) (n:Nat) (u:Out):Prop:=∀ (η:Vn) (ρ:Env),EnvOk η ρ E →
  OpOk P ρ o (F.map (AF.ha η)) u.κ (fun y : { η' : Vn // η.agr n η' }=>u.av.val y.1) (fun y=>u.fs.map (AF.ha y.1))
def OpS (P:Program) (o:Oper) (E:SE) (F:List AF) (n:Nat) (u:Out):Prop:=∀ (η:Vn) (ρ:Env),EnvOk η ρ E →
  OpOk P ρ o (F.map (AF.ha η)++GLH) u.κ (fun y : { η' : Vn // η.agr n η' }=>u.av.val y.1) (fun y=>u.fs.map (AF.ha y.1))
theorem Vn.agr_refl (n:Nat) (η:Vn):η.agr n η:=fun _ _=>⟨rfl,rfl⟩
theorem OpS0.up {P:Program} {o:Oper} {E:SE} {F:List AF} {n:Nat} {u:Out} (h:OpS0 P o E F n u):OpS P o E F n u:=
  fun η ρ hE a ev w c next Q ha hL hk=>h η ρ hE a ev w c next Q ha (fun A hA=>hL A (List.mem_append_left _ hA)) hk
theorem OpS.pure {P:Program} {o:Oper} {E:SE} {F:List AF} {n:Nat} {av:AV} (h : ∀ η ρ,EnvOk η ρ E→PureOk P ρ o (F.map (AF.ha η)) (av.val η)):OpS0 P o E F n ⟨av,[],[]⟩:=by
  intro η ρ hE a ev w c next Q ha hL hk
  rw [h η ρ hE ev w c ha hL]
  exact hk ⟨η,Vn.agr_refl n η⟩ w c (Stp.refl w c) (Heap.nil _ _)
def exT:Option Bool→Prop
  | none=>True
  | some b=>b=true
def Snd {R:Type} (ex:Option Bool) (P:Program) (o:Oper) (E:SE) (F:List AF) (n:Nat) (m:Option R) (k:Out→Option R):Prop:=∀ r,m=some r→∃ u,k u=some r∧(exT ex→OpS P o E F n u)
section
variable {R:Type} {P:Program} {o:Oper} {E:SE} {F:List AF} {n:Nat} {k:Out→Option R} {ex:Option Bool}
theorem Snd.none:Snd ex P o E F n none k:=fun _ h=>by cases h
theorem Snd.of {u:Out} (h:exT ex→OpS0 P o E F n u):Snd ex P o E F n (k u) k:=fun _ h' => ⟨u,h',fun hx=>(h hx).up⟩
theorem Snd.ofG {u:Out} (h:exT ex→OpS P o E F n u):Snd ex P o E F n (k u) k:=fun _ h' => ⟨u,h',h⟩
theorem Snd.bif {b:Bool} {m:Option R} (h:b=true→Snd ex P o E F n m k):Snd ex P o E F n (bif b then m else .none) k:=fun r hr=>by
  cases b
  · cases hr
  · exact h rfl r hr
end
def gbind {α R:Type} (ex:Option Bool) (d:α) (m:Option α) (f:α→Option R):Option R:=match ex with
  | none=>m.bind f
  | some b=>(bif b then m else some d).bind f
def gchk {R:Type} (ex:Option Bool) (b:Bool) (m:Option R):Option R:=match ex with
  | none=>chk b m
  | some e=>chk (!e||b) m
theorem Snd.gbind {R α:Type} {P:Program} {o:Oper} {E:SE} {F:List AF} {n:Nat} {k:Out→Option R} {ex:Option Bool} {d:α} {m:Option α} {f:α→Option R} (h : ∀ x,(exT ex→m=some x)→Snd ex P o E F n (f x) k):Snd ex P o E F n (gbind ex d m f) k:=by
  intro r hr
  cases ex with
  | none=>
    obtain ⟨x,hx,hf⟩:=bind_some hr
    exact h x (fun _=>hx) r hf
  | some b=>
    obtain ⟨x,hx,hf⟩:=bind_some hr
    refine h x (fun hb=>?_) r hf
    cases hb
    exact hx
theorem Snd.gchk {R:Type} {P:Program} {o:Oper} {E:SE} {F:List AF} {n:Nat} {k:Out→Option R} {ex:Option Bool} {b:Bool} {m:Option R} (h:(exT ex→b=true)→Snd ex P o E F n m k):Snd ex P o E F n (gchk ex b m) k:=by
  intro r hr
  cases ex with
  | none=>
    obtain ⟨hb,hm⟩:=chk_some hr
    exact h (fun _=>hb) r hm
  | some e=>
    obtain ⟨hb,hm⟩:=chk_some hr
    refine h (fun he=>?_) r hm
    cases he
    simpa using hb
abbrev pureO (v:AV):Out:=⟨v,[],[]⟩
abbrev intL (k:IntKind) (x:Int):AV:=.lf (.c (.int k) x)
abbrev boolL (x:Bool):AV:=.lf (.c .bool x)
abbrev strL (x:List UInt8):AV:=.lf (.c .str x)
def w_ (k:IntKind) (x:Int):Int:=match k with
  | .i64=>w64 x
  | k=>k.wrap x
theorem w_eq (k:IntKind) (x:Int):w_ k x=k.wrap x:=by cases k <;> rfl
def binI {R:Type} (ex:Option Bool) (op:BinOp) (k:IntKind) (a b:Int) (kk:Out→Option R):Option R:=match op with
  | .add=>kk (pureO (intL k (w_ k (a+b))))
  | .sub=>kk (pureO (intL k (w_ k (a - b))))
  | .mul=>kk (pureO (intL k (w_ k (a * b))))
  | .quo=>gchk ex (!(b==0)) (kk (pureO (intL k (w_ k (Int.tdiv a b)))))
  | .rem=>gchk ex (!(b==0)) (kk (pureO (intL k (Int.tmod a b))))
  | .lss=>kk (pureO (boolL (decide (a<b))))
  | .leq=>kk (pureO (boolL (decide (a≤b))))
  | .gtr=>kk (pureO (boolL (decide (b<a))))
  | .geq=>kk (pureO (boolL (decide (b≤a))))
  | .eql=>kk (pureO (boolL (a==b)))
  | .neq=>kk (pureO (boolL (a != b)))
  | .and=>kk (pureO (intL k (bitI .and k a b)))
  | .or=>kk (pureO (intL k (bitI .or k a b)))
  | .xor=>kk (pureO (intL k (bitI .xor k a b)))
  | .andNot=>kk (pureO (intL k (bitI .andNot k a b)))
  | _=>none
theorem not_t' {b:Bool} (h:(!b)=true):b=false:=by cases b <;> simp_all
theorem binI_ok {R:Type} {P:Program} {o:Oper} {E:SE} {F:List AF} {n:Nat} {ex:Option Bool} {op:BinOp} {t t' : TypeId} {x y:Operand} {k:IntKind} {a b:Int} (ho:o.op = .binOp op t x y t')
    (h1:ev E x=some (intL k a)) (h2:ev E y=some (intL k b)) (kk:Out→Option R):Snd ex P o E F n (binI ex op k a b kk) kk:=by
  have hev : ∀ η ρ,EnvOk η ρ E→evo ρ x = .int k a∧evo ρ y = .int k b:=fun η ρ hE=>⟨ev_ok hE h1,ev_ok hE h2⟩
  cases op <;> simp only [binI] <;> first
    | exact Snd.none
    | (refine Snd.of fun hx=>(OpS.pure fun η ρ hE=>?_); obtain ⟨e1,e2⟩:=hev η ρ hE; simp only [AV.val,Lf.val,w_eq]
       first | exact p_add ho e1 e2 | exact p_sub ho e1 e2 | exact p_mul ho e1 e2 | exact p_lss ho e1 e2 | exact p_leq ho e1 e2 | exact p_gtr ho e1 e2 | exact p_geq ho e1 e2 | exact p_eql ho e1 e2 | exact p_neq ho e1 e2 | exact p_bit ho (by simp) e1 e2)
    | (refine Snd.gchk fun hb=>Snd.of fun hx=>(OpS.pure fun η ρ hE=>?_); obtain ⟨e1,e2⟩:=hev η ρ hE; simp only [AV.val,Lf.val,w_eq]
       first | exact p_quo ho e1 e2 (not_t' (hb hx)) | exact p_rem ho e1 e2 (not_t' (hb hx)))
def shfI {R:Type} (ex:Option Bool) (op:BinOp) (k:IntKind) (a b:Int) (kk:Out→Option R):Option R:=match op with
  | .shl=>gchk ex (decide (0≤b)) (kk (pureO (intL k (shlI k a b))))
  | .shr=>gchk ex (decide (0≤b)) (kk (pureO (intL k (shrI k a b))))
  | _=>none
theorem shfI_ok {R:Type} {P:Program} {o:Oper} {E:SE} {F:List AF} {n:Nat} {ex:Option Bool} {op:BinOp} {t t' : TypeId} {x y:Operand} {k k' : IntKind} {a b:Int} (ho:o.op = .binOp op t x y t')
    (h1:ev E x=some (intL k a)) (h2:ev E y=some (intL k' b)) (kk:Out→Option R):Snd ex P o E F n (shfI ex op k a b kk) kk:=by
  have hev : ∀ η ρ,EnvOk η ρ E→evo ρ x = .int k a∧evo ρ y = .int k' b:=fun η ρ hE=>⟨ev_ok hE h1,ev_ok hE h2⟩
  cases op <;> simp only [shfI] <;> first
    | exact Snd.none
    | (refine Snd.gchk fun hb=>Snd.of fun hx=>(OpS.pure fun η ρ hE=>?_); obtain ⟨e1,e2⟩:=hev η ρ hE; simp only [AV.val,Lf.val]
       first | exact p_shl ho e1 e2 (hb hx) | exact p_shr ho e1 e2 (hb hx))
end
end Go.Sm
