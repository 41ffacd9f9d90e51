/-
  The symbolic evaluator: calls that are looked into. Nothing of a program is named here; no condition.
-/
import Derived.Test.YtfhhiajfciblbaaGreatDoorRfHc
import Derived.Test.YtfhhiajfciblbaaGreatDoorSimQ
import Derived.Test.YtfhhiajfciblbaaGreatDoorSimR
import Derived.Laws.Strings
namespace Go.Sm
set_option linter.unusedSectionVars false
section
variable [X:XTab] [G:GTab]
def Xn (P:Program) (f:FuncId) (vs:List AV) (F:List AF) (n:Nat) (u:Out):Prop:=∀ (η:Vn) (w:World) (c:bd),ai w c (F.map (AF.ha η)++lJ) →
 Calls P f (AV.vals η vs).toArray w (fun e w' => ∃ (y : { η' : Vn // η.agr n η' }) (c' : bd),e = .returned (u.av.val y.1)∧Stp u.κ w c w' c' ∧ ai w' c' (u.fs.map (AF.ha y.1)))
structure Inl where
 rw_:Bool
 run : {R:Type}→(ex:Option Bool)→(n N:Nat)→List AV→List AF→(Out→Option R)→Option R
def Inl.sound (P:Program) (f:FuncId) (J:Inl):Prop:=
 (∃ fn cd,P.funcs[f]? = some fn∧fn.body=some cd∧(fn.name == "runtime.NumGoroutine")=false) ∧
 ∀ {R:Type} (ex:Option Bool) (n N:Nat) (vs:List AV) (F:List AF) (k:Out→Option R) (r:R),J.run ex n N vs F k=some r→∃ u,k u=some r∧(eI ex→Xn P f vs F n u)
abbrev It:=FuncId→Option Inl
def It.ok (I:It) (P:Program):Prop:=∀ f J,I f=some J→J.sound P f
section
variable {R:Type} {P:Program} {o:Oper} {E:SE} {F:List AF} {n:Nat} {ex:Option Bool}
theorem Z7 {J:Inl} {f:FuncId} (hJ:J.sound P f) {N:Nat} {x0:Operand} {xs:Array Operand} {ts:Array TypeId} {vs:List AV} (ho:o.op = .call { callee:=.value x0,args:=xs,argTypes:=ts }) (h0:ev E x0=some (.lf (.fn f))) (hvs:xz E xs.toList=some vs) (k:Out→Option R) :
  aj ex P o E F n (J.run ex n N vs F k) k:=by
 intro r hr
 obtain ⟨⟨fn,cd,hf,hb,hname⟩,hs⟩:=hJ
 obtain ⟨u,hu,hx⟩:=hs ex n N vs F k r hr
 refine ⟨u,hu,fun he η ρ hE a ev w c next Q ha hL hk=>?_⟩
 have hn' : ¬ fn.name = "runtime.NumGoroutine" := by simpa using hname
 have hargs:xs.map (aK ρ)=(AV.vals η vs).toArray:=Array.ext' (by simp [EF hE hvs])
 have hcv:aK ρ x0 = .func (.func f) #[] #[]:=aF hE h0
 have hrun:(execOp ev o).run P w = .ok (.enter f (AV.vals η vs).toArray) w:=by
  simp [execOp,ho,resolve,ha,hcv,Deferred.ofValue,invoke,callFunc,hf,hb,hn',hargs,Result.andThen]
 rw [hrun,Oper.upon_enter]
 refine (hx he η w c hL).mono ?_
 rintro e w' ⟨y,c',rfl,hst,hH⟩
 exact hk y w' c' hst hH
def Gt (I:It) (Γ:Ct) (D:List DCtr) (E:SE) (ex:Option Bool) (n N:Nat) (v0:AV) (xs:List Operand) (F:List AF) (k:Out→Option R):Option R:=match v0 with
 | .lf (.fn f)=>match I f with
  | some J=>match xz E xs with
   | some vs=>J.run ex n N vs F k
   | none=>none
  | none=>Cr Γ D E ex n N v0 xs F k
 | v0=>Cr Γ D E ex n N v0 xs F k
theorem Ps {I:It} (hI:I.ok P) {Γ:Ct} (hΓ:Γ.ok P) {D:List DCtr} (hD : ∀ C∈D,DCtr.sound P C) {N:Nat} {v0:AV} {x0:Operand} {xs:Array Operand} {ts:Array TypeId} (ho:o.op = .call { callee:=.value x0,args:=xs,argTypes:=ts }) (h0:ev E x0=some v0) (k:Out→Option R) :
  aj ex P o E F n (Gt I Γ D E ex n N v0 xs.toList F k) k:=by
 unfold Gt
 split
 ·rename_i f
  split
  ·rename_i J hJ
   split
   ·rename_i vs hvs
    exact Z7 (hI f J hJ) ho h0 hvs k
   ·exact aj.none
  ·exact E0 hΓ hD ho h0 k
 ·exact E0 hΓ hD ho h0 k
end
end
end Go.Sm
namespace Go.Sm
set_option linter.unusedSectionVars false
section
variable [X:XTab] [G:GTab]
def TC.eqD:(t:TC)→t.den→t.den→Bool
 | .sc (.int _),a,b=>(show Int from a)==(show Int from b)
 | .sc .bool,a,b=>(show Bool from a)==(show Bool from b)
 | .sc .str,a,b=>(show List UInt8 from a)==(show List UInt8 from b)
 | .pair a b,x,y=>a.eqD x.1 y.1&&b.eqD x.2 y.2
 | _,_,_=>false
def cV (k v:TC) (x:k.den) (xs:List (k.den×v.den)):Option v.den:=(xs.find? fun p=>k.eqD x p.1).map (·.2)
def cW (k v:TC) (x:k.den) (y:v.den) (xs:List (k.den×v.den)):List (k.den×v.den):=vZ (fun p=>k.eqD x p.1) (x,y) xs
def zH (Θ:Tb) (t:TypeId) (s:SC):Bool:=match Θ t,s with
 | some ⟨.int k,_,_,_,_⟩, .int k' => decide (k' = k)
 | some ⟨.bool,_,_,_,_⟩, .bool=>true
 | some ⟨.str,_,_,_,_⟩, .str=>true
 | _,_=>false
def dh (Θ:Tb):List (TypeId×Nat)→TC→Nat→Bool
 | [(ft,off)], .sc s,pos=>Nat.beq off pos&&zH Θ ft s
 | (ft,off)::f2::fs, .pair (.sc s) b,pos=>Nat.beq off pos&&zH Θ ft s&&dh Θ (f2::fs) b (pos+1)
 | _,_,_=>false
theorem B1 {Θ:Tb} {ft:TypeId} {off pos:Nat} {s:SC} {x y:s.den} {fs:List (TypeId×Nat)} {r r' : List Lf} {e:Bool} (h1:Nat.beq off pos=true) (h2:zH Θ ft s=true) (hr:lL Θ fs r r' (pos+1)=some e):lL Θ ((ft,off)::fs) (.c s x::r) (.c s y::r') pos=some ((TC.sc s).eqD x y&&e):=by
 obtain rfl:=Nat.eq_of_beq_eq_true h1
 unfold zH at h2
 split at h2
 ·rename_i hi
  simp only [lL,hi,hr,and_self,if_true,Option.map_some,TC.eqD]
 ·rename_i hi
  simp only [lL,hi,hr,if_true,Option.map_some,TC.eqD]
 ·rename_i hi
  simp only [lL,hi,hr,if_true,Option.map_some,TC.eqD]
 ·cases h2
theorem Hj {Θ:Tb} : ∀ {k:TC} {fs:List (TypeId×Nat)} {pos:Nat} {x y:k.den} {n:Nat},dh Θ fs k pos=true→lL Θ fs (gS k x n) (gS k y n) pos=some (k.eqD x y)
 | .sc s,[(ft,off)],pos,x,y,n,h=>by
  simp only [dh,Bool.and_eq_true] at h
  have:=B1 (Θ:=Θ) (x:=x) (y:=y) (fs:=[]) (r:=[]) (r' := []) (e:=true) h.1 h.2 (by simp [lL])
  rw [Bool.and_true] at this
  exact this
 | .pair (.sc s) b,(ft,off)::f2::fs,pos,x,y,n,h=>by
  rw [dh,Bool.and_eq_true,Bool.and_eq_true] at h
  exact B1 (x:=x.1) (y:=y.1) h.1.1 h.1.2 (Hj (k:=b) (x:=x.2) (y:=y.2) (n:=n+(TC.sc s).nh) h.2)
 | .sc s,[],_,_,_,_,h=>by simp [dh] at h
 | .sc s,_::_::_,_,_,_,_,h=>by simp [dh] at h
 | .pair (.sc s) b,[],_,_,_,_,h=>by simp [dh] at h
 | .pair (.sc s) b,[_],_,_,_,_,h=>by simp [dh] at h
 | .pair (.arr _ _) b,fs,_,_,_,_,h=>by rcases fs with _ | ⟨_,_ | _⟩ <;> simp [dh] at h
 | .pair .unit b,fs,_,_,_,_,h=>by rcases fs with _ | ⟨_,_ | _⟩ <;> simp [dh] at h
 | .pair (.pair _ _) b,fs,_,_,_,_,h=>by rcases fs with _ | ⟨_,_ | _⟩ <;> simp [dh] at h
 | .pair (.slice _) b,fs,_,_,_,_,h=>by rcases fs with _ | ⟨_,_ | _⟩ <;> simp [dh] at h
 | .pair (.st _) b,fs,_,_,_,_,h=>by rcases fs with _ | ⟨_,_ | _⟩ <;> simp [dh] at h
 | .pair (.ext _) b,fs,_,_,_,_,h=>by rcases fs with _ | ⟨_,_ | _⟩ <;> simp [dh] at h
 | .pair .node b,fs,_,_,_,_,h=>by rcases fs with _ | ⟨_,_ | _⟩ <;> simp [dh] at h
 | .pair (.mp _ _) b,fs,_,_,_,_,h=>by rcases fs with _ | ⟨_,_ | _⟩ <;> simp [dh] at h
 | .arr _ _,fs,_,_,_,_,h=>by rcases fs with _ | ⟨_,_ | _⟩ <;> simp [dh] at h
 | .unit,fs,_,_,_,_,h=>by rcases fs with _ | ⟨_,_ | _⟩ <;> simp [dh] at h
 | .slice _,fs,_,_,_,_,h=>by rcases fs with _ | ⟨_,_ | _⟩ <;> simp [dh] at h
 | .st _,fs,_,_,_,_,h=>by rcases fs with _ | ⟨_,_ | _⟩ <;> simp [dh] at h
 | .ext _,fs,_,_,_,_,h=>by rcases fs with _ | ⟨_,_ | _⟩ <;> simp [dh] at h
 | .node,fs,_,_,_,_,h=>by rcases fs with _ | ⟨_,_ | _⟩ <;> simp [dh] at h
 | .mp _ _,fs,_,_,_,_,h=>by rcases fs with _ | ⟨_,_ | _⟩ <;> simp [dh] at h
theorem Gc : ∀ {k:TC} {x y:k.den},k.eqD x y=true→x=y
 | .sc (.int _),x,y,h=>by simpa [TC.eqD] using h
 | .sc .bool,x,y,h=>by simpa [TC.eqD] using h
 | .sc .str,x,y,h=>by simpa [TC.eqD] using h
 | .sc .fnc,_,_,h=>by cases h
 | .pair a b,x,y,h=>by
  simp only [TC.eqD,Bool.and_eq_true] at h
  exact Prod.ext (Gc h.1) (Gc h.2)
 | .arr _ _,_,_,h=>by cases h
 | .unit,_,_,h=>by cases h
 | .slice _,_,_,h=>by cases h
 | .st _,_,_,h=>by cases h
 | .ext _,_,_,h=>by cases h
 | .node,_,_,h=>by cases h
 | .mp _ _,_,_,h=>by cases h
section
variable {R:Type} {P:Program} {o:Oper} {E:SE} {F:List AF} {n:Nat} {Θ:Tb} {ex:Option Bool}
theorem acK (hΘ:Θ.ok P) {t:TypeId} {s:SC} (h:zH Θ t s=true) (x:s.den) : ∃ D,P.underlying t=some D∧jx D=false∧MapKept.IsKey D (s.val x):=by
 unfold zH at h
 split at h
 ·rename_i k _ _ _ _ k' hi
  have hfit:=(hΘ t _ hi).2.1
  obtain rfl:=of_decide_eq_true h
  exact ⟨_,hfit,rfl,rfl⟩
 ·rename_i hi
  exact ⟨_,(hΘ t _ hi).2.1,rfl,trivial⟩
 ·rename_i hi
  exact ⟨_,(hΘ t _ hi).2.1,rfl,trivial⟩
 ·cases h
abbrev De (em:Bool) (d:Nat) (xs:Array Value) (f:Field):Sem (ForInStep PUnit):=if f.name ≠ "_" then do
  let v ← part f.type xs f.offset
  Instr.checkKey em (d+1) f.type v
  pure (ForInStep.yield PUnit.unit)
 else pure (ForInStep.yield PUnit.unit)
theorem Zb (hΘ:Θ.ok P) {w:World} {η:Vn} {xs:Array Value} {em:Bool} {d:Nat} : ∀ {fl:List Field} {fs:List (TypeId×Nat)} {k:TC} {x:k.den} {n pos:Nat},fl.map (fun f=>(f.type,f.offset))=fs→fl.all (fun f=>!(f.name == "_"))=true→dh Θ fs k pos=true →
  (∀ j,xs[pos+j]? = (aq η (gS k x n))[j]?)→(forIn fl PUnit.unit fun f (_:PUnit)=>(De em d xs f)).run P w = .ok () w:=by
 have one : ∀ {f:Field} {fl:List Field} {s:SC} {x:s.den} {pos:Nat},(f.name == "_")=false→Nat.beq f.offset pos=true→zH Θ f.type s=true→xs[pos]? = some (s.val x) →
   (forIn fl PUnit.unit fun f (_:PUnit)=>(De em d xs f)).run P w = .ok () w →
   (forIn (f::fl) PUnit.unit fun f (_:PUnit)=>(De em d xs f)).run P w = .ok () w:=by
  intro f fl s x pos hn ho hs hx ih
  obtain ⟨D,hu,hag,hk⟩:=acK hΘ hs x
  have hn' : ¬ f.name = "_" := by simpa using hn
  have p1:(part f.type xs f.offset).run P w = .ok (s.val x) w:=by simp [part,ko hu hag,Nat.eq_of_beq_eq_true ho,hx,Result.andThen]
  have p2:(Instr.checkKey em (d+1) f.type (s.val x)).run P w = .ok () w:=MapKept.run_checkKey hu hk em d
  simp only [List.forIn_cons,De,Sem.run_bind,hn',ne_eq,not_false_eq_true,if_true,Result.andThen_ok,p1,p2,Sem.run_pure]
  exact ih
 intro fl
 induction fl with
 | nil=>intros; simp [Sem.run_pure]
 | cons f fl ih=>
  intro fs k x n pos hm hn h hx
  simp only [List.map_cons] at hm
  subst hm
  simp only [List.all_cons,Bool.and_eq_true,Bool.not_eq_true'] at hn
  cases fl with
  | nil=>
   cases k <;> simp only [List.map_nil,dh] at h <;> try cases h
   rename_i s
   simp only [Bool.and_eq_true] at h
   have h0:=hx 0
   simp only [Nat.add_zero,gS,aq,Lf.cells,List.cons_append,List.getElem?_cons_zero] at h0
   exact one hn.1 h.1 h.2 h0 (by simp [Sem.run_pure])
  | cons f2 fl=>
   cases k <;> simp only [List.map_cons,dh] at h <;> try cases h
   rename_i a b
   cases a <;> simp only [dh] at h <;> try cases h
   rename_i s
   rw [Bool.and_eq_true,Bool.and_eq_true] at h
   have h0:=hx 0
   simp only [Nat.add_zero,gS,aq,Lf.cells,List.cons_append,List.getElem?_cons_zero] at h0
   refine one hn.1 h.1.1 h.1.2 h0 (ih (k:=b) (x:=x.2) (n:=n+0) (pos:=pos+1) rfl hn.2 h.2 fun j=>?_)
   have:=hx (j+1)
   rw [show pos+(j+1)=pos+1+j by omega] at this
   simpa [gS,aq,Lf.cells,TC.nh] using this
theorem xA (n:Nat) (s:SC) (x:s.den) (h:s≠.fnc):Instr.sameBits n (s.val x) (s.val x)=true:=by
 cases s with
 | int k=>simp [SC.val,Instr.sameBits]
 | bool=>simp [SC.val,Instr.sameBits]
 | str=>
  simp only [SC.val,Instr.sameBits]
  exact (MapKept.bytes_beq _ _).2 rfl
 | fnc=>exact absurd rfl h
theorem G2 {η:Vn} {m:Nat} : ∀ {k:TC} {fs:List (TypeId×Nat)} {pos n:Nat} {x:k.den},dh Θ fs k pos=true→∀ v∈aq η (gS k x n),Instr.sameBits m v v=true:=by
 have ne : ∀ {t:TypeId} {s:SC},zH Θ t s=true→s≠.fnc:=by
  intro t s h e
  subst e
  unfold zH at h
  cases hh:Θ t with
  | none=>simp [hh] at h
  | some i=>
   obtain ⟨d,_,_,_,_⟩:=i
   cases d <;> simp [hh] at h
 intro k
 induction k with
 | sc s=>
  intro fs pos n x h v hv
  rcases fs with _ | ⟨⟨ft,off⟩,_ | _⟩ <;> simp only [dh] at h <;> try cases h
  simp only [Bool.and_eq_true] at h
  simp only [gS,aq,Lf.cells,List.cons_append,List.nil_append,List.mem_singleton] at hv
  subst hv
  exact xA m s x (ne h.2)
 | pair a b _ ih=>
  intro fs pos n x h v hv
  rcases fs with _ | ⟨⟨ft,off⟩,_ | ⟨f2,fs⟩⟩ <;> cases a <;> simp only [dh] at h <;> try cases h
  rename_i s _
  rw [Bool.and_eq_true,Bool.and_eq_true] at h
  simp only [gS,aq,Lf.cells,List.cons_append,List.nil_append,List.mem_cons] at hv
  rcases hv with rfl | hv
  ·exact xA m s x.1 (ne h.1.2)
  ·exact ih h.2 v hv
 | _=>
  intro fs pos n x h v hv
  rcases fs with _ | ⟨_,_ | _⟩ <;> simp [dh] at h
theorem uI : ∀ {k:TC} {fs:List (TypeId×Nat)} {pos:Nat},dh Θ fs k pos=true→k.ty.pureB=true:=by
 intro k
 induction k with
 | sc s=>intros; rfl
 | pair a b _ ih=>
  intro fs pos h
  rcases fs with _ | ⟨⟨ft,off⟩,_ | ⟨f2,fs⟩⟩ <;> cases a <;> simp only [dh] at h <;> try cases h
  rw [Bool.and_eq_true] at h
  simp only [Ty.pureB,Bool.and_eq_true]
  exact ⟨trivial,ih h.2⟩
 | _=>
  intro fs pos h
  rcases fs with _ | ⟨_,_ | _⟩ <;> simp [dh] at h
def A1 (Θ:Tb) (Gq:TypeId→Bool) (kt:TypeId) (k:TC):Bool:=match Θ kt,k with
 | some ⟨.int k0,_,_,_,_⟩, .sc (.int k1)=>decide (k1=k0)
 | some ⟨.st fs,_,_,_,_⟩, .pair a b=>Gq kt&&dh Θ fs (.pair a b) 0
 | _,_=>false
theorem IT (hΘ:Θ.ok P) {Gq:TypeId→Bool} (hG : ∀ t,Gq t=true→wg P t) {kt:TypeId} {k v:TC} (h:A1 Θ Gq kt k=true) (x:k.den) (xs:List (k.den×v.den)) :
  KeyRun P kt (lx k x) (fun p=>k.eqD x p.1) (fun p:k.den×v.den=>(lx k p.1,lx v p.2)) xs:=by
 unfold A1 at h
 split at h
 ·rename_i k0 _ _ _ _ k1 hi
  obtain rfl:=of_decide_eq_true h
  exact ac5 (g:=fun p=>p.1) (hΘ kt _ hi).2.1 x (fun _ _=>rfl) (fun _ _=>rfl)
 ·rename_i fs _ _ _ _ a b hi
  simp only [Bool.and_eq_true] at h
  obtain ⟨g1,g2,g3⟩:=hG kt h.1
  obtain ⟨Fd,hs,hm⟩:=(hΘ kt _ hi).2.1
  have hf:P.fieldsOf kt=Fd:=by simp [Program.fieldsOf,hs]
  rw [hf] at g3
  have hcell : ∀ y:(TC.pair a b).den,lx (.pair a b) y = .agg (aq B7 (gS (.pair a b) y 0)).toArray:=by
   intro y
   rw [gE (.pair a b) y [] 0 (fun j h hj=>by simp at hj) (by rw [tZ _ (uI h.2)]; exact Nat.zero_le _)]
   simp only [lx]
   rw [lY _ (uI h.2) y _ (aI (TC.pair a b) [])]
  refine Pd hs (fun w em=>?_) (fun w p _=>?_) (fun p _ hq=>?_) ?_
  ·rw [hcell]
   rw [show (10000:Nat)=9999+1 from rfl,Instr.checkKey]
   simp only [Sem.run_bind,run_underlying hs,Result.andThen_ok]
   rw [← Array.forIn_toList]
   have:=Zb (P:=P) hΘ (w:=w) (η:=B7) (xs:=(aq B7 (gS (.pair a b) x 0)).toArray) (em:=em) (d:=9998) hm g3 h.2 (x:=x) (n:=0) (fun j=>by simp)
   rw [this]
   simp [Sem.run_pure]
  ·simp only
   rw [hcell,hcell]
   rw [run_equalIn_struct (P:=P) w 9999 kt _ _ (by rw [hf]; exact hs) g2,hf]
   exact tF hΘ (η:=B7) (d:=9998) hm g3 (Hj (n:=0) h.2) (fun j=>by simp) (fun j=>by simp)
  ·simp only at hq ⊢
   rw [Gc hq]
  ·rw [hcell]
   show Instr.sameBits (9999+1) _ _=true
   simp only [Instr.sameBits,beq_self_eq_true,Bool.true_and,List.all_eq_true]
   intro p hp
   obtain ⟨i,hi,e⟩:=List.getElem_of_mem hp
   rw [List.getElem_zip] at e
   rw [← e]
   exact G2 h.2 _ (List.getElem_mem _)
 ·cases h
theorem YY : ∀ (t:TC),t.ty.pureB=true→∀ (x:t.den) (y:t.ty.Refs),j6 t x y=lx t x
 | .sc _,_,_,_=>rfl
 | .arr _ _,_,_,_=>rfl
 | .unit,_,_,_=>rfl
 | .pair a b,h,x,y=>by simp only [j6,lx]; rw [lY _ h x y (TC.pair a b).ref0]
 | .st a,h,x,y=>by simp only [j6,lx]; rw [lY _ h x y a.ref0]
 | .slice _,h,_,_=>by cases h
 | .ext _,_,_,_=>rfl
 | .node,h,_,_=>by cases h
 | .mp _ _,h,_,_=>by cases h
theorem HG {t:TC} {v:AV} {x:t.den} {l:List Lf} {K:List Nat} (h:nu [] t v=some (x,l,K)) (hp:t.ty.pureB=true) (η:Vn):v.val η=lx t x:=by
 rw [(qL (η:=η) h).1,YY t hp]
theorem BC {Gq:TypeId→Bool} {kt:TypeId} {k:TC} (h:A1 Θ Gq kt k=true):k.ty.pureB=true:=by
 unfold A1 at h
 split at h
 ·rfl
 ·simp only [Bool.and_eq_true] at h
  exact uI h.2
 ·cases h
def TU (Θ:Tb) (n N:Nat) (t:TypeId) (k:Out→Option R):Option R:=match Θ t with
 | some ⟨.map kt et,_,_,_,_⟩=>match Θ kt,Θ et with
  | some ik,some ie=>bif Nat.ble 2 N then k ⟨.lf (.mp n),[.mp ik.tc ie.tc N [] n],[]⟩ else none
  | _,_=>none
 | _=>none
theorem ZA {N:Nat} {t:TypeId} (ho:o.op = .makeMap t none) (k:Out→Option R):aj ex P o E F n (TU Θ n N t k) k:=by
 unfold TU
 split
 ·split
  ·refine aj.bif fun hN=>aj.of fun _ η ρ hE=>?_
   refine (K4 ho hN).map (fun b=>⟨η.setH n ⟨some ⟨b,0,none⟩,0,0⟩,η.setH_agr n _⟩) (fun b=>?_) fun b=>?_
   ·simp [AV.val,Lf.val,Vn.setH_at,Hd.blk]
   ·simp [AF.ha,Vn.setH_at,Hd.blk,vL]
  ·exact aj.none
 ·exact aj.none
def E3 (ex:Option Bool) (kc vt:TC) (x:kc.den) (xs:List (kc.den×vt.den)) (ie:TInf) (k:Out→Option R):Option R:=match vt,xs,ie.zl with
 | .sc .bool,xs,[.c .bool b]=>bif ie.d.agg then none else k ⟨.lf (.c .bool ((cV kc (.sc .bool) x xs).getD b)),[],[]⟩
 | .sc .fnc,xs,_=>gbind ex (0:Nat) (cV kc (.sc .fnc) x xs) fun f=>k ⟨.lf (.c .fnc f),[],[]⟩
 | _,_,_=>none
def Mc (Θ:Tb) (Gq:TypeId→Bool) (ex:Option Bool) (t:TypeId) (h:Nat) (v:AV) (F:List AF) (k:Out→Option R):Option R:=match Θ t with
 | some ⟨.map kt et,_,_,_,_⟩=>match Θ kt,Θ et with
  | some ik,some ie=>match rd ik.tc ie.tc h F,nu [] ik.tc v with
   | some s,some (x,_,_)=>bif A1 Θ Gq kt ik.tc then E3 ex ik.tc ie.tc x s.xs ie k else none
   | _,_=>none
  | _,_=>none
 | _=>none
theorem Pb {t kt et:TypeId} {m y:Operand} {h:Nat} {kc vt:TC} {i:Nat} {x:kc.den} {xs:List (kc.den×vt.den)} {ie:TInf} (hF : .mp kc vt i xs h∈F) (hie:ie.ok P et) (ht:P.underlying t=some (.map kt et)) (ho:o.op = .lookup t m y false) (hm:ev E m=some (.lf (.mp h)))
  (hy : ∀ (η:Vn) (ρ:cF),kH η ρ E→aK ρ y=lx kc x) (K:KeyRun P kt (lx kc x) (fun p=>kc.eqD x p.1) (fun p:kc.den×vt.den=>(lx kc p.1,lx vt p.2)) xs) (k:Out→Option R):aj ex P o E F n (E3 ex kc vt x xs ie k) k:=by
 unfold E3
 split
 ·rename_i xs b hz
  cases hag:ie.d.agg
  rotate_left
  ·exact aj.none
  refine aj.of fun _=>cS.pure fun η ρ hE=>?_
  obtain ⟨j,hj⟩:=kz hF η
  have hz' : ie.zv = .bool b:=by simp [TInf.zv,hag,hz,aq,Lf.cells,SC.val]
  have h1:=hie.1
  rw [hz'] at h1
  have:=Sv (L:=F.map (AF.ha η)) j hj ho ht (by rw [aF hE hm]; rfl) (hy η ρ hE) K h1
  have e:(AV.lf (.c .bool ((cV kc (.sc .bool) x xs).getD b))).val η=((xs.find? fun p=>kc.eqD x p.1).map fun p:kc.den×(TC.sc .bool).den=>lx (.sc .bool) p.2).getD (.bool b):=by
   simp only [AV.val,Lf.val,cV]
   cases xs.find? fun p=>kc.eqD x p.1 <;> rfl
  rw [e]
  exact this
 ·rename_i xs
  refine aj.gbind fun f hf=>aj.of fun hx=>cS.pure fun η ρ hE=>?_
  obtain ⟨j,hj⟩:=kz hF η
  have hf:=hf hx
  simp only [cV,Option.map_eq_some_iff] at hf
  obtain ⟨a0,h1,rfl⟩:=hf
  exact OX (L:=F.map (AF.ha η)) j hj ho ht (by rw [aF hE hm]; rfl) (hy η ρ hE) K h1
 ·exact aj.none
theorem SU (hΘ:Θ.ok P) {Gq:TypeId→Bool} (hG : ∀ t,Gq t=true→wg P t) {t:TypeId} {m y:Operand} {h:Nat} {v:AV} (ho:o.op = .lookup t m y false) (h1:ev E m=some (.lf (.mp h))) (h2:ev E y=some v) (k:Out→Option R) :
  aj ex P o E F n (Mc Θ Gq ex t h v F k) k:=by
 unfold Mc
 split
 ·rename_i kt et _ _ _ _ ht
  split
  ·rename_i ik ie hik hie
   split
   ·rename_i s x _ _ hs hd
    refine aj.bif fun hk=>?_
    exact Pb (gT hs) (hΘ et ie hie) (hΘ t _ ht).2.1 ho h1 (fun η ρ hE=>by rw [aF hE h2]; exact HG hd (BC hk) η) (IT hΘ hG hk x s.xs) k
   ·exact aj.none
  ·exact aj.none
 ·exact aj.none
def CO (Θ:Tb) (Gq:TypeId→Bool) (t:TypeId) (h:Nat) (v1 v2:AV) (F:List AF) (k:Out→Option R):Option R:=match Θ t with
 | some ⟨.map kt et,_,_,_,_⟩=>match Θ kt,Θ et with
  | some ik,some ie=>match rd ik.tc ie.tc h F,nu [] ik.tc v1,nu [] ie.tc v2 with
   | some s,some (x,_,_),some (y,_,_)=>bif A1 Θ Gq kt ik.tc&&ie.tc.ty.pureB then k ⟨.lf (.v undef),[.mp ik.tc ie.tc s.i (cW ik.tc ie.tc x y s.xs) h],[s.i]⟩ else none
   | _,_,_=>none
  | _,_=>none
 | _=>none
theorem Ha (hΘ:Θ.ok P) {Gq:TypeId→Bool} (hG : ∀ t,Gq t=true→wg P t) {t:TypeId} {m y z:Operand} {h:Nat} {v1 v2:AV} (ho:o.op = .mapUpdate t m y z∨o.op = .insert t m y z) (h1:ev E m=some (.lf (.mp h))) (h2:ev E y=some v1) (h3:ev E z=some v2)
  (k:Out→Option R):aj ex P o E F n (CO Θ Gq t h v1 v2 F k) k:=by
 unfold CO
 split
 ·rename_i kt et _ _ _ _ ht
  split
  ·rename_i ik ie hik hie
   split
   ·rename_i s x _ _ y' _ _ hs hd1 hd2
    refine aj.bif fun hk=>aj.of fun _ η ρ hE=>?_
    simp only [Bool.and_eq_true] at hk
    obtain ⟨j,hj⟩:=kz (gT hs) η
    exact (QA (L:=F.map (AF.ha η)) (a0:=(x,y')) (q:=fun p=>ik.tc.eqD x p.1) (f:=fun p:ik.tc.den×ie.tc.den=>(lx ik.tc p.1,lx ie.tc p.2)) j hj ho (hΘ t _ ht).2.1 (by rw [aF hE h1]; rfl) (by rw [aF hE h2]; exact HG hd1 (BC hk.1) η)
     (by rw [aF hE h3]; exact HG hd2 hk.2 η) (IT hΘ hG hk.1 x s.xs)).map (fun _=>⟨η,Vn.agr_refl n η⟩) (fun _=>rfl) (fun _=>rfl)
   ·exact aj.none
  ·exact aj.none
 ·exact aj.none
def NI (Θ:Tb) (ex:Option Bool) (n N:Nat) (t t' : TypeId) (v1 v2:AV) (F:List AF) (k:Out→Option R):Option R:=match Θ t,Θ t' with
 | some ⟨.slice e,_,_,_,_⟩,some ⟨.int _,_,_,_,_⟩=>match Θ e,v1,v2 with
  | some ie, .lf l1, .lf (.c (.int .i64) a)=>match eN ie.tc e N F l1,bH [] ie.tc ie.zl with
   | some (ci,K,xs),some (z,_,_,[])=>bif Nat.beq ie.sz ie.tc.ty.sz&&Nat.ble 1 ie.sz&&ie.tc.ty.pureB&&Nat.ble 2 ci&&Nat.blt e 1048576 then
     gchk ex (decide (0≤(show Int from a)∧(xs.length+(show Int from a).toNat) * ie.by_≤140737488355328∧xs.length+(show Int from a).toNat≤maxLen)) (k ⟨.lf (.sl n),[.own ie.tc e ci K (xs++List.replicate (show Int from a).toNat z) n],[ci]⟩) else none
   | _,_=>none
  | _,_,_=>none
 | _,_=>none
theorem Ue (hΘ:Θ.ok P) {N:Nat} {t t' : TypeId} {x y:Operand} {v1 v2:AV} (ho:o.op = .call { callee:=.builtin .append,args:=#[x,y],argTypes:=#[t,t'] }) (h1:ev E x=some v1) (h2:ev E y=some v2) (k:Out→Option R) :
  aj ex P o E F n (NI Θ ex n N t t' v1 v2 F k) k:=by
 unfold NI
 split
 ·rename_i e _ _ _ _ ku _ _ _ _ ht ht'
  split
  ·rename_i ie l1 a he
   split
   ·rename_i ci K xs z l Kz hs1 hz
    refine aj.bif fun hc=>aj.gchk fun hr=>aj.of fun hx η ρ hE=>?_
    simp only [Bool.and_eq_true] at hc
    obtain ⟨⟨⟨⟨hsz,h0⟩,hp⟩,hci⟩,hel⟩:=hc
    have e1:=aF hE h1
    have e2:=aF hE h2
    simp only [AV.val] at e1 e2
    rw [lS hs1 η] at e1
    obtain ⟨g1,_,g3,g4⟩:=hΘ e ie he
    have hcell:=(cY (η:=η) ie.tc hz).1
    simp only [aq,List.append_nil] at hcell
    have hH' : ∀ w c,ai w c (F.map (AF.ha η))→ai w c (.own ie.tc.ty e ci K xs (l1.hd η)::F.map (AF.ha η)):=fun w c hH=>by
     have h0:=eC hs1 hH
     rw [dw (eh hel)] at h0
     exact ai.cons h0 hH
    have hr' := hr hx
    have:=(Iu (o:=o) (ρ:=ρ) (L:=.own ie.tc.ty e ci K xs (l1.hd η)::F.map (AF.ha η)) (v:=z) (r:=aI ie.tc (aL η l)) hp 0 rfl ho (hΘ t _ ht).2.1 (hΘ t' _ ht').2.1 g1 (Nat.eq_of_beq_eq_true hsz) h0 (by rw [g3,← g4 η,hcell]) e1 e2 hr' hci hel).from hH'
    refine this.map (fun h' => ⟨η.setH n h',η.setH_agr n h'⟩) (fun h' => ?_) fun h' => ?_
    ·simp [AV.val,Lf.val,Vn.setH_at]
    ·simp only [List.map_cons,List.map_nil,AF.ha,Vn.setH_at]
     rw [dw (eh hel)]
   ·exact aj.none
  ·exact aj.none
 ·exact aj.none
def cpD (t:TC) (e:TypeId) (N:Nat) (F:List AF) (d:Nat):Option (Nat×Int×Int×Nat×List Nat×List t.den):=match lA d F with
 | some (h,sz,lo,hi)=>bif Nat.beq sz 1 then match eN t e N F (.sl h) with
   | some (ci,K,xs)=>some (h,lo,hi,ci,K,xs)
   | none=>none
  else none
 | none=>match eN t e N F (.sl d) with
  | some (ci,K,xs)=>some (d,0,xs.length,ci,K,xs)
  | none=>none
theorem acf {t:TC} {e:TypeId} {N:Nat} {F:List AF} {d h:Nat} {lo hi:Int} {ci:Nat} {K:List Nat} {xs:List t.den} (hc:cpD t e N F d=some (h,lo,hi,ci,K,xs)) (h1:t.ty.sz=1) (he:Nat.blt e 1048576=true) :
  eN t e N F (.sl h)=some (ci,K,xs)∧∀ (η:Vn) (w:World) (c:bd),ai w c (F.map (AF.ha η))→mV (η.h d) (η.h h) 1 lo hi:=by
 unfold cpD at hc
 split at hc
 ·rename_i h' sz lo' hi' hp
  cases hb:Nat.beq sz 1
  ·rw [hb] at hc; cases hc
  ·rw [hb,cond_true] at hc
   split at hc
   ·rename_i hs
    simp only [Option.some.injEq,Prod.mk.injEq] at hc
    obtain ⟨rfl,rfl,rfl,rfl,rfl,rfl⟩:=hc
    obtain rfl:=Nat.eq_of_beq_eq_true hb
    exact ⟨hs,fun η w c hH=>hH _ (List.mem_map.2 ⟨_,gy hp,rfl⟩)⟩
   ·cases hc
 ·split at hc
  ·rename_i hs
   simp only [Option.some.injEq,Prod.mk.injEq] at hc
   obtain ⟨rfl,rfl,rfl,rfl,rfl,rfl⟩:=hc
   refine ⟨hs,fun η w c hH=>?_⟩
   have hown:=eC hs hH
   rw [dw (eh he)] at hown
   obtain ⟨rs,hr,ho,_⟩:=hown
   refine ⟨Int.le_refl _,?_,fun hlt=>?_⟩
   ·rcases (ho.plain he).2 with ⟨hv,hn⟩ | ⟨g,cap,cur,hv,_⟩
    ·simp only [Lf.hd,Hd.val,Value.slice.injEq] at hv; omega
    ·simp only [Lf.hd,Hd.val,Value.slice.injEq] at hv; omega
   ·rcases (ho.plain he).2 with ⟨hv,hn⟩ | ⟨g,cap,cur,hv,_⟩
    ·omega
    ·simp only [Lf.hd,Hd.val,Value.slice.injEq] at hv
     refine ⟨g,0,hv.1,?_⟩
     simp [dP,hv.1]
  ·cases hc
def cpS (t:TC) (F:List AF) (l:Lf):Option (List t.den×Bool):=match l with
 | .sl s=>match lA s F with
  | some (h,sz,lo,hi)=>bif Nat.beq sz 1 then match gb t F (.sl h) with
    | some s2=>some ((s2.xs.take hi.toNat).drop lo.toNat,decide (lo≤hi∧hi≤s2.xs.length))
    | none=>none
   else none
  | none=>match gb t F (.sl s) with
   | some s2=>some (s2.xs,true)
   | none=>none
 | l=>match gb t F l with
  | some s2=>some (s2.xs,true)
  | none=>none
theorem abA {t:TC} {F:List AF} {l:Lf} {ys:List t.den} {g:Bool} (hc:cpS t F l=some (ys,g)) (h1:t.ty.sz=1) (hg:g=true) (η:Vn):l.val η=(l.hd η).val∧∀ (w:World) (c:bd),ai w c (F.map (AF.ha η))→Fm w t.ty ys (l.hd η):=by
 unfold cpS at hc
 split at hc
 ·rename_i s
  refine ⟨rfl,fun w c hH=>?_⟩
  split at hc
  ·rename_i h sz lo hi hp
   cases hb:Nat.beq sz 1
   ·rw [hb] at hc; cases hc
   ·rw [hb,cond_true] at hc
    split at hc
    ·rename_i s2 hs
     simp only [Option.some.injEq,Prod.mk.injEq] at hc
     obtain ⟨rfl,rfl⟩:=hc
     obtain rfl:=Nat.eq_of_beq_eq_true hb
     exact ZG h1 (Bx (iN hs hH)) (hH _ (List.mem_map.2 ⟨_,gy hp,rfl⟩)) (of_decide_eq_true hg)
    ·cases hc
  ·split at hc
   ·rename_i s2 hs
    simp only [Option.some.injEq,Prod.mk.injEq] at hc
    obtain ⟨rfl,rfl⟩:=hc
    exact Bx (iN hs hH)
   ·cases hc
 ·split at hc
  ·rename_i s2 hs
   simp only [Option.some.injEq,Prod.mk.injEq] at hc
   obtain ⟨rfl,rfl⟩:=hc
   exact ⟨(ln hs η).1,fun w c hH=>Bx (iN hs hH)⟩
  ·cases hc
def Mq (Θ:Tb) (ex:Option Bool) (N:Nat) (t:TypeId) (v1 v2:AV) (F:List AF) (k:Out→Option R):Option R:=match Θ t with
 | some ⟨.slice e,_,_,_,_⟩=>match Θ e,v1,v2 with
  | some ie, .lf (.sl d), .lf l2=>match cpD ie.tc e N F d,cpS ie.tc F l2 with
   | some (h,lo,hi,ci,K,xs),some (ys,g)=>bif Nat.beq ie.sz 1&&Nat.beq ie.tc.ty.sz 1&&ie.tc.ty.pureB&&Nat.ble 2 ci&&Nat.blt e 1048576 then
     gchk ex (decide (lo≤hi∧hi≤xs.length)&&g) (k ⟨eZ .i64 ((min (hi - lo).toNat ys.length:Nat):Int),[.own ie.tc e ci K (xs.take lo.toNat++ys.take (min (hi - lo).toNat ys.length)++xs.drop (lo.toNat+min (hi - lo).toNat ys.length)) h],[ci]⟩) else none
   | _,_=>none
  | _,_,_=>none
 | _=>none
theorem Tz (hΘ:Θ.ok P) {N:Nat} {t t' : TypeId} {x y:Operand} {v1 v2:AV} (ho:o.op = .call { callee:=.builtin .copy,args:=#[x,y],argTypes:=#[t,t'] }) (h1:ev E x=some v1) (h2:ev E y=some v2) (k:Out→Option R) :
  aj ex P o E F n (Mq Θ ex N t v1 v2 F k) k:=by
 unfold Mq
 split
 ·rename_i e _ _ _ _ ht
  split
  ·rename_i ie d l2 he
   split
   ·rename_i h lo hi ci K xs ys g hs1 hs2
    refine aj.bif fun hc=>aj.gchk fun hr=>aj.of fun hx η ρ hE=>?_
    simp only [Bool.and_eq_true] at hc hr
    obtain ⟨⟨⟨⟨hsz,h1'⟩,hp⟩,hci⟩,hel⟩:=hc
    have e1:=aF hE h1
    have e2:=aF hE h2
    simp only [AV.val] at e1 e2
    obtain ⟨g1,g2⟩:=acf hs1 (Nat.eq_of_beq_eq_true h1') hel
    obtain ⟨g3,g4⟩:=abA hs2 (Nat.eq_of_beq_eq_true h1') (hr hx).2 η
    rw [g3] at e2
    have hH' : ∀ w c,ai w c (F.map (AF.ha η))→ai w c (.own ie.tc.ty e ci K xs (η.h h)::F.map (AF.ha η)):=fun w c hH=>by
     have h0:=eC g1 hH
     rw [dw (eh hel)] at h0
     exact ai.cons h0 hH
    have:=(ZC (o:=o) (ρ:=ρ) (L:=.own ie.tc.ty e ci K xs (η.h h)::F.map (AF.ha η)) hp h1' 0 rfl (fun w c hL=>g2 η w c fun A hA=>hL A (List.mem_cons_of_mem _ hA)) (fun w c hL=>g4 w c fun A hA=>hL A (List.mem_cons_of_mem _ hA)) ho (hΘ t _ ht).2.1 (hΘ e ie he).1 hsz e1 e2 (hr hx).1 hci hel).from hH'
    refine this.map (fun _=>⟨η,η.agr_refl n⟩) (fun _=>rfl) fun _=>?_
    simp only [List.map_cons,List.map_nil,AF.ha]
    rw [dw (eh hel)]
   ·exact aj.none
  ·exact aj.none
 ·exact aj.none
def AN (Θ:Tb) (E:SE) (ex:Option Bool) (n:Nat) (t:TypeId) (l:Lf) (lo hi:Option Operand) (F:List AF) (k:Out→Option R) (alt:Option R):Option R:=match Θ t,l,lo,hi with
 | some ⟨.slice e,_,_,_,_⟩, .sl h,some h0,none=>match Θ e with
  | some ie=>match eN ie.tc e 0 F (.sl h),ev E h0 with
   | some (ci,K,xs),some (.lf (.c (.int _) i))=>bif Nat.beq ie.sz 1&&Nat.beq ie.sz ie.tc.ty.sz&&Nat.blt e 1048576&&cq n h then
     gchk ex (decide (0≤i∧i≤(xs.length:Int)∧(xs.length:Int)≤xs.length)) (k ⟨.lf (.sl n),[.rep ie.tc (ci::K) ((xs.take (xs.length:Int).toNat).drop i.toNat) n, .prt n h 1 i xs.length],[]⟩) else alt
   | _,_=>alt
  | none=>alt
 | _,_,_,_=>alt
theorem Mi (hΘ:Θ.ok P) {t:TypeId} {x:Operand} {l:Lf} {lo hi:Option Operand} (ho:o.op = .slice t x lo hi none) (h1:ev E x=some (.lf l)) (k:Out→Option R) {alt:Option R} (halt:aj ex P o E F n alt k):aj ex P o E F n (AN Θ E ex n t l lo hi F k alt) k:=by
 unfold AN
 split
 ·rename_i e _ _ _ _ h h0 ht
  split
  ·rename_i ie he
   split
   ·rename_i ci K xs kk i hs hi
    cases hc:(Nat.beq ie.sz 1&&Nat.beq ie.sz ie.tc.ty.sz&&Nat.blt e 1048576&&cq n h)
    ·exact halt
    ·simp only [cond_true]
     refine aj.gchk fun hb=>aj.of fun hx η ρ hE=>?_
     simp only [Bool.and_eq_true] at hc
     obtain ⟨⟨⟨hs1,hsz⟩,hel⟩,hout⟩:=hc
     have h2:=aF hE h1
     simp only [AV.val,Lf.val] at h2
     have:=(IB (o:=o) (ρ:=ρ) (L:=.own ie.tc.ty e ci K xs (η.h h)::F.map (AF.ha η)) 0 rfl ho (hΘ t _ ht).2.1 (hΘ e ie he).1 (Nat.eq_of_beq_eq_true hsz) hs1 h2 (aF hE hi) (hb hx) hel).from (fun w c hH=>ai.cons (by
      have:=eC hs hH
      rwa [dw (eh hel)] at this) hH)
     refine this.map (fun _=>⟨η.setH n ((η.h h).cut i.toNat (xs.length:Int).toNat ie.sz),η.setH_agr n _⟩) (fun _=>?_) fun _=>?_
     ·simp [AV.val,Lf.val,Vn.setH_at]
     ·simp only [List.map_cons,List.map_nil,AF.ha,Vn.setH_at]
      rw [(η.setH_agr n _ h hout).1]
   ·exact halt
  ·exact halt
 ·exact halt
def Ls (Θ:Tb) (ex:Option Bool) (n N:Nat) (t t' : TypeId) (v1 v2:AV) (F:List AF) (k:Out→Option R):Option R:=match Θ t,Θ t' with
 | some ⟨.slice e,_,_,_,_⟩,some ⟨.str,_,_,_,_⟩=>match Θ e,v1,v2 with
  | some ie, .lf l1, .lf (.c .str a)=>match eN (.sc (.int .u8)) e N F l1,ie.zl with
   | some (ci,K,xs),[.c (.int .u8) z]=>bif (show Int from z)==0 && !ie.d.agg&&Nat.beq ie.sz 1&&Nat.beq ie.by_ 1&&Nat.ble 2 ci&&Nat.blt e 1048576 then
     gchk ex (aH xs.length (show List UInt8 from a).length ie.by_) (k ⟨.lf (.sl n),[.own (.sc (.int .u8)) e ci K (xs++(show List UInt8 from a).map fun b=>(b.toNat:Int)) n],[ci]⟩) else none
   | _,_=>none
  | _,_,_=>none
 | _,_=>none
theorem Q7 (hΘ:Θ.ok P) {N:Nat} {t t' : TypeId} {x y:Operand} {v1 v2:AV} (ho:o.op = .call { callee:=.builtin .append,args:=#[x,y],argTypes:=#[t,t'] }) (h1:ev E x=some v1) (h2:ev E y=some v2) (k:Out→Option R) :
  aj ex P o E F n (Ls Θ ex n N t t' v1 v2 F k) k:=by
 unfold Ls
 split
 ·rename_i e _ _ _ _ _ _ _ _ ht ht'
  split
  ·rename_i ie l1 a he
   split
   ·rename_i ci K xs z hs1 hz
    refine aj.bif fun hc=>aj.gchk fun hr=>aj.of fun hx η ρ hE=>?_
    simp only [Bool.and_eq_true,Bool.not_eq_true',beq_iff_eq] at hc
    obtain ⟨⟨⟨⟨⟨hz0,hag⟩,hsz⟩,hby⟩,hci⟩,hel⟩:=hc
    have e1:=aF hE h1
    have e2:=aF hE h2
    simp only [AV.val] at e1 e2
    rw [lS hs1 η] at e1
    have hzv:ie.zv = .int .u8 0:=by
     simp only [TInf.zv,hag,hz,cond_false,aq,Lf.cells,SC.val,List.cons_append,List.headD_cons]
     rw [show z=(0:Int) from hz0]
    have hti:=(hΘ e ie he).1
    rw [hzv] at hti
    have hH' : ∀ w c,ai w c (F.map (AF.ha η))→ai w c (.own zj e ci K xs (l1.hd η)::F.map (AF.ha η)):=fun w c hH=>by
     have h0:=eC hs1 hH
     rw [dw (eh hel)] at h0
     exact ai.cons h0 hH
    have hr' := hr hx
    have:=(Cm (o:=o) (ρ:=ρ) (L:=.own zj e ci K xs (l1.hd η)::F.map (AF.ha η)) 0 rfl ho (hΘ t _ ht).2.1 (hΘ t' _ ht').2.1 hti hsz hby e1 e2 hr' hci hel).from hH'
    refine this.map (fun h' => ⟨η.setH n h',η.setH_agr n h'⟩) (fun h' => ?_) fun h' => ?_
    ·simp [AV.val,Lf.val,Vn.setH_at]
    ·simp only [List.map_cons,List.map_nil,AF.ha,Vn.setH_at]
     rw [dw (eh hel)]
   ·exact aj.none
  ·exact aj.none
 ·exact aj.none
end
end
end Go.Sm
namespace Go.Sm
set_option linter.unusedSectionVars false
section
variable [X:XTab] [G:GTab]
def Pa.flat : {t u:TC}→Pa t u→Bool
 | _,_, .here=>true
 | _,_, .fst p=>p.flat
 | _,_, .snd p=>p.flat
 | _,_, .inn p=>p.flat
 | _,_, .nd _=>false
 | _,_, .el _=>false
theorem tD : {t u:TC}→(p:Pa t u)→p.flat=true→u.ty.pureB=true→(x:t.den)→(y:u.den)→(yo:t.ty.Refs)→(r:u.ty.Refs) →
  ∃ A M B,t.ty.fill x yo=A++M++B∧A.length=p.off∧M.length=u.ty.sz∧t.ty.fill (p.put x y) yo=A++u.ty.fill y r++B
 | t,_, .here,_,hp,x,y,yo,r=>⟨[],t.ty.fill x yo,[],by simp,rfl,Ty.fill_length _ _ _,by simp only [Pa.put,List.nil_append,List.append_nil]; exact lY t.ty hp y yo r⟩
 | _,_,@Pa.fst a b u p,hf,hp,x,y,yo,r=>by
  obtain ⟨A,M,B,h1,h2,h3,h4⟩:=tD p hf hp x.1 y yo.1 r
  refine ⟨A,M,B++b.ty.fill x.2 yo.2,?_,h2,h3,?_⟩
  ·show a.ty.fill x.1 yo.1++b.ty.fill x.2 yo.2=_
   rw [h1]; simp [List.append_assoc]
  ·show a.ty.fill (p.put x.1 y) yo.1++b.ty.fill x.2 yo.2=_
   rw [h4]; simp [List.append_assoc]
 | _,_,@Pa.snd a b u p,hf,hp,x,y,yo,r=>by
  obtain ⟨A,M,B,h1,h2,h3,h4⟩:=tD p hf hp x.2 y yo.2 r
  refine ⟨a.ty.fill x.1 yo.1++A,M,B,?_,?_,h3,?_⟩
  ·show a.ty.fill x.1 yo.1++b.ty.fill x.2 yo.2=_
   rw [h1]; simp [List.append_assoc]
  ·rw [List.length_append,Ty.fill_length,h2]; rfl
  ·show a.ty.fill x.1 yo.1++b.ty.fill (p.put x.2 y) yo.2=_
   rw [h4]; simp [List.append_assoc]
 | _,_, .inn p,hf,hp,x,y,yo,r=>tD p hf hp x y yo r
theorem wL {w:World} {S:Nat→Prop} {d:Nat→List Nat} : {t u:TC}→(p:Pa t u)→p.flat=true→u.ty.pureB=true→(x:t.den)→(y:u.den)→(ε:EI)→(π:List Nat)→(yo:t.ty.Refs)→bo w S d t.ty ε π x yo→bo w S d t.ty ε π (p.put x y) yo
 | _,_, .here,_,hp,_,y,ε,π,yo,_=>pK _ ε π y yo hp
 | _,_, .fst p,hf,hp,x,y,ε,π,yo,h=>⟨wL p hf hp x.1 y _ _ yo.1 h.1,h.2⟩
 | _,_, .snd p,hf,hp,x,y,ε,π,yo,h=>⟨h.1,wL p hf hp x.2 y _ _ yo.2 h.2⟩
 | _,_, .inn p,hf,hp,x,y,ε,π,yo,h=>wL p hf hp x y ε π yo h
section
variable {R:Type} {P:Program} {o:Oper} {E:SE} {F:List AF} {n:Nat} {Θ:Tb} {ex:Option Bool}
def Bl (Θ:Tb) (ex:Option Bool) (t:TypeId) (h:Nat) (te:TC) (i:Int) (u:TC) (p:Pa te u) (v:AV) (F:List AF) (k:Out→Option R) (alt:Option R):Option R:=match Θ t,kq te h F,v.lvs with
 | some inf,some ⟨some (e,ci),K,xs⟩,some ls=>match ep e&&p.flat&&u.ty.pureB,bH F u ls with
  | true,some (y,_,_,[])=>bif Nat.beq inf.sz u.ty.sz then gbind ex te.dft (ac xs i) fun x=>k ⟨.lf (.v undef),[.own te e ci K (xs.set i.toNat (p.put x y)) h],[ci]⟩ else none
  | _,_=>alt
 | _,_,_=>alt
theorem Lc (hΘ:Θ.ok P) {t:TypeId} {x z:Operand} {h:Nat} {te:TC} {i:Int} {u:TC} {p:Pa te u} {v:AV} (ho:o.op = .store t x z) (h1:ev E x=some (.lf (.rp h te i u p))) (h2:ev E z=some v) (k:Out→Option R) {alt:Option R} (halt:aj ex P o E F n alt k) :
  aj ex P o E F n (Bl Θ ex t h te i u p v F k alt) k:=by
 unfold Bl
 split
 ·rename_i inf e ci K xs ls hi hs hl
  split
  ·rename_i y l Kd hg hd
   refine aj.bif fun hsz=>aj.gbind fun d hdv=>aj.of fun hx η ρ hE=>?_
   simp only [Bool.and_eq_true] at hg
   obtain ⟨⟨htr,hfl⟩,hp⟩:=hg
   have hsz:=Nat.eq_of_beq_eq_true hsz
   obtain ⟨g1,_⟩:=hΘ t inf hi
   obtain ⟨i1,i2,i3⟩:=lg (hdv hx)
   have hm:(dx te.ty e ci K xs (η.h h))∈F.map (AF.ha η):=List.mem_map.2 ⟨_,fm hs,rfl⟩
   rw [gN htr] at hm
   obtain ⟨j,hj⟩:=List.getElem?_of_mem hm
   have hcl:=(cY (η:=η) u hd).1
   simp only [aq,List.append_nil] at hcl
   have hlen:(aq η ls).length=u.ty.sz:=by rw [hcl]; exact Ty.fill_length _ _ _
   have hoff:p.off+(aq η ls).length≤te.ty.sz:=by
    obtain ⟨A,M,B,q1,q2,q3,_⟩:=tD p hfl hp d y (aI te []) (aI u [])
    have:=congrArg List.length q1
    rw [Ty.fill_length] at this
    simp only [List.length_append] at this
    omega
   have hp' : aK ρ x = .pointer (some (dP (η.h h) (i.toNat * te.ty.sz+p.off))):=aF hE h1
   refine (IP (L:=F.map (AF.ha η)) j hj ho g1 hp' (aF hE h2) (v.lvs_cells hl η) (by simp [hlen,hsz]) (List.all_eq_true.2 (lr (AV.lvs_one hl))) hoff i2 (xn:=p.put d y) (fun yo=>?_) (fun w S dd ε π yo hT=>wL p hfl hp d y ε π yo hT)).map (fun _=>⟨η,Vn.agr_refl n η⟩) (fun _=>rfl) (fun _=>by simp [AF.ha,gN htr])
   obtain ⟨A,M,B,q1,q2,q3,q4⟩:=tD p hfl hp d y yo (aI u (aL η l))
   rw [q4,q1,hcl,← q2]
   have e1:(u.ty.fill y (aI u (aL η l))).length=M.length:=by rw [Ty.fill_length,q3]
   rw [e1,List.append_assoc A M B,List.take_left,List.append_assoc,List.append_assoc,← List.append_assoc A M B,← List.length_append,List.drop_left]
  ·exact halt
 ·exact halt
end
end
end Go.Sm
namespace Go.Sm
set_option linter.unusedSectionVars false
section
variable [X:XTab] [G:GTab]
section
variable {R:Type} {P:Program} {o:Oper} {E:SE} {F:List AF} {n:Nat} {Θ:Tb} {ex:Option Bool}
def RV (Θ:Tb) (op:BinOp) (t:TypeId) (a b:Bool) (k:Out→Option R):Option R:=match op,Θ t with
  | .eql,some ⟨.bool,_,_,_,_⟩=>k (bc (dI (a==b)))
  | .neq,some ⟨.bool,_,_,_,_⟩=>k (bc (dI (a != b)))
  | _,_=>none
theorem YQ (hΘ:Θ.ok P) {op:BinOp} {t t' : TypeId} {x y:Operand} {a b:Bool} (ho:o.op = .binOp op t x y t') (h1:ev E x=some (dI a)) (h2:ev E y=some (dI b)) (k:Out→Option R):aj ex P o E F n (RV Θ op t a b k) k:=by
  unfold RV
  split
  · rename_i ht
    exact aj.of fun hx=>(cS.pure fun η ρ hE=>L7 ho (hΘ t _ ht).2.1 (aF hE h1) (aF hE h2))
  · rename_i ht
    exact aj.of fun hx=>(cS.pure fun η ρ hE=>LX ho (hΘ t _ ht).2.1 (aF hE h1) (aF hE h2))
  · exact aj.none
def Sd (ex:Option Bool) (op:BinOp) (a b:List UInt8) (k:Out→Option R):Option R:=match op with
  | .add=>gchk ex (decide (a.length+b.length≤9223372036854775807)) (k (bc (uP (a++b))))
  | .eql=>k (bc (dI (a==b)))
  | .neq=>k (bc (dI (!(a==b))))
  | .lss=>k (bc (dI (Op.bytesLess a b)))
  | .leq=>k (bc (dI (Op.bytesLess a b||a==b)))
  | .gtr=>k (bc (dI (!(Op.bytesLess a b||a==b))))
  | .geq=>k (bc (dI (!(Op.bytesLess a b))))
  | _=>none
theorem Xx {ρ:cF} {L:List HA} {op:BinOp} {t t' : TypeId} {x y:Operand} {a b:List UInt8} {v:Value} (ho:o.op = .binOp op t x y t') (hx:aK ρ x = .string ⟨a.toArray⟩) (hy:aK ρ y = .string ⟨b.toArray⟩)
    (hr : ∀ w,(Op.stringOp op ⟨a.toArray⟩ ⟨b.toArray⟩).run P w = .ok v w):aY P ρ o L v:=fun ev w c he _=>by
  subst he
  have hg : ∀ w,(eqGuard op t x y (.string ⟨a.toArray⟩) (.string ⟨b.toArray⟩)).run P w = .ok () w:=fun w=>by cases op <;> rfl
  have hb:binOp op t (.string ⟨a.toArray⟩) (.string ⟨b.toArray⟩)=Op.stringOp op ⟨a.toArray⟩ ⟨b.toArray⟩:=by cases op <;> rfl
  simp [execOp,ho,hx,hy,hg,hb,hr,Result.andThen]
theorem YV {op:BinOp} {t t' : TypeId} {x y:Operand} {a b:List UInt8} (ho:o.op = .binOp op t x y t') (h1:ev E x=some (uP a)) (h2:ev E y=some (uP b)) (k:Out→Option R):aj ex P o E F n (Sd ex op a b k) k:=by
  have e : ∀ l:List UInt8,(⟨l.toArray⟩:ByteArray).toList=l:=fun l=>ByteArray.toList_mk l
  cases op <;> simp only [Sd] <;> first
    | exact aj.none
    | (refine aj.of fun hx=>(cS.pure fun η ρ hE=>Xx ho (aF hE h1) (aF hE h2) fun w=>?_); simp [Op.stringOp,AV.val,Lf.val]; done)
    | (refine aj.gchk fun hb=>aj.of fun hx=>(cS.pure fun η ρ hE=>Xx ho (aF hE h1) (aF hE h2) fun w=>?_)
       have hb' := of_decide_eq_true (hb hx)
       have hs : ∀ l:List UInt8,(⟨l.toArray⟩:ByteArray).size=l.length:=fun l=>by simp [ByteArray.size]
       have hle : ¬ (((⟨a.toArray⟩:ByteArray).size+(⟨b.toArray⟩:ByteArray).size:Nat):Int) > IntKind.i64.max:=by
         rw [hs,hs]; simp [IntKind.max,IntKind.signed,IntKind.bits]; omega
       have hab:(⟨a.toArray⟩:ByteArray)++⟨b.toArray⟩=⟨(a++b).toArray⟩:=ByteArray.ext (by simp)
       simp only [Op.stringOp,if_neg hle,Sem.run_pure,AV.val,Lf.val]
       rw [hab])
def S8 (Θ:Tb) (op:BinOp) (t:TypeId) (m:Nat) (s:SC) (a b:List s.den) (G:TypeId→Bool) (k:Out→Option R):Option R:=match op,Θ t,s,a,b with
  | .eql,some ⟨.arr m' e,_,_,_,_⟩, .int kk,a,b=>match Θ e with
    | some ⟨.int k',1,_,_,_⟩=>bif Nat.beq m m' && G t then (if k' = kk then k (bc (dI (ut m a b))) else none) else none
    | _=>none
  | .neq,some ⟨.arr m' e,_,_,_,_⟩, .int kk,a,b=>match Θ e with
    | some ⟨.int k',1,_,_,_⟩=>bif Nat.beq m m' && G t then (if k' = kk then k (bc (dI (!(ut m a b)))) else none) else none
    | _=>none
  | _,_,_,_,_=>none
def V9 (mx:Bool) (a b:AV) (k:Out→Option R):Option R:=match a,b with
  | .lf (.c (.int k1) x), .lf (.c (.int k2) y)=>if k1=k2 then k (bc (eZ k1 (bif mx then (if y > x then y else x) else (if y<x then y else x)))) else none
  | _,_=>none
theorem Qe {mx:Bool} {ts:Array TypeId} {x y:Operand} {a b:AV} (ho:o.op = .call { callee:=.builtin (bif mx then .max else .min),args:=#[x,y],argTypes:=ts }) (h1:ev E x=some a) (h2:ev E y=some b) (k:Out→Option R):aj ex P o E F n (V9 mx a b k) k:=by
  unfold V9
  split
  · rename_i k1 a k2 b
    split
    · rename_i hk
      subst hk
      refine aj.of fun hx=>(cS.pure fun η ρ hE=>?_)
      cases mx
      · exact aeq ho (aF hE h1) (aF hE h2)
      · exact adV ho (aF hE h1) (aF hE h2)
    · exact aj.none
  · exact aj.none
def sM4 (a b c d:AV) (k:Out→Option R):Option R:=match a,b,c,d with
  | .lf (.c (.int .i64) x), .lf (.c (.int .i64) y), .lf (.c (.int .i64) z), .lf (.c (.int .i64) u)=>k (bc (eZ .i64 (AZ x y z u)))
  | _,_,_,_=>none
theorem acj {ts:Array TypeId} {x y z u:Operand} {a b c d:AV} (ho:o.op = .call { callee:=.builtin .min,args:=#[x,y,z,u],argTypes:=ts }) (h1:ev E x=some a) (h2:ev E y=some b) (h3:ev E z=some c) (h4:ev E u=some d) (k:Out→Option R):aj ex P o E F n (sM4 a b c d k) k:=by
  unfold sM4
  split
  · exact aj.of fun hx=>(cS.pure fun η ρ hE=>acX ho (aF hE h1) (aF hE h2) (aF hE h3) (aF hE h4))
  · exact aj.none
structure Cx where
  Γ:Ct
  Θ:Tb
  G:TypeId→Bool
  D:List DCtr
  W:Bool
  I:It
  B:Nat
  K:Option (List Nat)
  O:List Nat
structure Cx.ok (C:Cx) (P:Program):Prop where
  Γ:C.Γ.ok P
  Θ:C.Θ.ok P
  G : ∀ t,C.G t=true→wg P t
  D : ∀ d∈C.D,DCtr.sound P d
  I:C.I.ok P
def Cx.at (C:Cx) (B:Nat):Cx:=⟨C.Γ,C.Θ,C.G,C.D,C.W,C.I,B,C.K,C.O⟩
def Cx.dk (C:Cx) (K:Option (List Nat)) (O:List Nat):Cx:=⟨C.Γ,C.Θ,C.G,C.D,C.W,C.I,C.B,K,O⟩
theorem Cx.dk_ok {C:Cx} {P:Program} (h:C.ok P) (K:Option (List Nat)) (O:List Nat):(C.dk K O).ok P:=⟨h.Γ,h.Θ,h.G,h.D,h.I⟩
theorem Cx.at_ok {C:Cx} {P:Program} (h:C.ok P) (B:Nat):(C.at B).ok P:=⟨h.Γ,h.Θ,h.G,h.D,h.I⟩
theorem Qp {ρ:cF} {L:List HA} {t t' e:TypeId} {a b:Operand} {m:Nat} {k:IntKind} {by_:Nat} {z:Value} {x y:List Int} (ho:o.op = .binOp .neq t a b t') (ht:P.underlying t=some (.array m e)) (he:P.underlying e=some (.int k)) (hi:TI P e 1 by_ z)
    (hg:P.eqGuardType P.depth t=false) (hx:aK ρ a = .agg ((tA m k).fill x ()).toArray) (hy:aK ρ b = .agg ((tA m k).fill y ()).toArray):aY P ρ o L (.bool (!(ut m x y))):=fun ev w c hev _=>by
  subst hev
  have htihi:=hi; clear hi
  obtain ⟨i,hi,_,hs,_⟩:=htihi.get
  have h1:(eqGuard .neq t a b (.agg ((tA m k).fill x ()).toArray) (.agg ((tA m k).fill y ()).toArray)).run P w = .ok () w:=run_eqGuard_agg w .neq t a b _ _ hg
  have h2:(binOp .neq t (.agg ((tA m k).fill x ()).toArray) (.agg ((tA m k).fill y ()).toArray)).run P w = .ok (.bool (!(ut m x y))) w:=by
    rw [run_neq_struct,ze 9998 x y ht he hi hs]; rfl
  simp only [execOp,ho,hx,hy,Sem.run_bind,h1,h2,Result.andThen_ok,Sem.run_pure]
theorem ZK {C:Cx} (hC:C.ok P) {op:BinOp} {t t' : TypeId} {x y:Operand} {m:Nat} {s:SC} {a b:List s.den} (ho:o.op = .binOp op t x y t') (h1:ev E x=some (.lf (.ar m s a))) (h2:ev E y=some (.lf (.ar m s b))) (k:Out→Option R) :
    aj ex P o E F n (S8 C.Θ op t m s a b C.G k) k:=by
  unfold S8
  split
  · rename_i m' e _ _ _ _ kk a b ht
    split
    · rename_i k' _ _ _ he
      refine aj.bif fun hc=>?_
      simp only [Bool.and_eq_true] at hc
      obtain rfl:=Nat.eq_of_beq_eq_true hc.1
      split
      · rename_i hk
        subst hk
        refine aj.of fun hx=>(cS.pure fun η ρ hE=>?_)
        exact PA ho (hC.Θ t _ ht).2.1 (hC.Θ e _ he).2.1 (hC.Θ e _ he).1 (hC.G t hc.2).1 (aF hE h1) (aF hE h2)
      · exact aj.none
    · exact aj.none
  · rename_i m' e _ _ _ _ kk a b ht
    split
    · rename_i k' _ _ _ he
      refine aj.bif fun hc=>?_
      simp only [Bool.and_eq_true] at hc
      obtain rfl:=Nat.eq_of_beq_eq_true hc.1
      split
      · rename_i hk
        subst hk
        refine aj.of fun hx=>(cS.pure fun η ρ hE=>?_)
        exact Qp ho (hC.Θ t _ ht).2.1 (hC.Θ e _ he).2.1 (hC.Θ e _ he).1 (hC.G t hc.2).1 (aF hE h1) (aF hE h2)
      · exact aj.none
    · exact aj.none
  · exact aj.none
def zR (C:Cx) (ex:Option Bool) (n N:Nat) (E:SE) (F:List AF) (op:Op) (k:Out→Option R):Option R:=match op with
  | .move x=>match ev E x with
    | some v=>k (bc v)
    | none=>none
  | .assign x=>match ev E x with
    | some v=>k (bc v)
    | none=>none
  | .binOp b t x y _=>match ev E x,ev E y with
    | some (.lf (.c (.int k1) a1)),some (.lf (.c (.int k2) a2))=>match b with
      | .shl=>NW ex .shl k1 a1 a2 k
      | .shr=>NW ex .shr k1 a1 a2 k
      | b=>if k2=k1 then RU ex b k1 a1 a2 k else none
    | some (.lf (.c .bool a1)),some (.lf (.c .bool a2))=>RV C.Θ b t a1 a2 k
    | some (.lf (.c .str a1)),some (.lf (.c .str a2))=>Sd ex b a1 a2 k
    | some (.lf (.ar m1 s1 a1)),some (.lf (.ar m2 s2 a2))=>if h:s2=s1∧m2=m1 then S8 C.Θ b t m1 s1 a1 (wz h.1 a2) C.G k else none
    | some (.ag l1),some (.ag l2)=>MV C.Θ C.G b t l1 l2 k
    | some (.lf l),some (.lf .nl)=>NY C.Θ b t l F k
    | _,_=>none
  | .unOp u _ x=>match ev E x with
    | some v=>sUn u v k
    | none=>none
  | .convert s d x=>match ev E x with
    | some (.lf (.sl h))=>zV C.Θ s d (.sl h) F k
    | some (.lf .nl)=>zV C.Θ s d .nl F k
    | some (.lf (.c .str a))=>EP C.Θ ex n N s d a k
    | some v=>NU C.Θ s d v k
    | none=>none
  | .extract x i=>match ev E x with
    | some v=>yD v i k
    | none=>none
  | .alloc t=>HM C.Θ n N t k
  | .box _ x=>match ev E x with
    | some v=>Ub n N v k
    | none=>none
  | .build t ps=>EO C.Θ E t ps k
  | .buildSlice t m ps=>AL C.Θ E n N t m ps F k (AY C.Θ E n N t m ps F k)
  | .nilCheck x=>match ev E x with
    | some v=>UL v k
    | none=>none
  | .makeFunc fn first cap=>NN E fn first.toList cap.toList k
  | .load t (.global g)=>FU C.Θ t g k
  | .load t x=>match ev E x with
    | some (.lf (.gp g te i u p))=>Hw C.Θ ex n t g te i u p k
    | some (.lf (.bp b off))=>E7 C.Θ t b off F k
    | some (.lf (.bq b off m s j))=>F8 C.Θ ex t b off m s j F k
    | some (.lf (.rp h te i u p))=>match mc te h F with
      | some s=>Hy C.Θ ex t te i u p s k
      | none=>Ho C.Θ ex n t h te i u p F k
    | _=>none
  | .store t x y=>match ev E x,ev E y with
    | some (.lf (.bp b off)),some v=>Bk C.Θ t b off v F k
    | some (.lf (.bq b off m s j)),some v=>Bj C.Θ ex t b off m s j v F k
    | some (.lf (.rp h te i u p)),some v=>match mc te h F with
      | some s=>Bp C.Θ ex t h te i u p v s k
      | none=>match vY te h F with
        | some s=>AM C.Θ ex t h te i u p v s F k
        | none=>Bl C.Θ ex t h te i u p v F k (Bw C.Θ ex t h te i u p v F k)
    | _,_=>none
  | .fieldAddr t x f=>match ev E x with
    | some (.lf l)=>Gg C.Θ t f l k
    | _=>none
  | .field t x f=>match ev E x with
    | some v=>Bc C.Θ t f v k
    | _=>none
  | .indexAddr t (.global g) ix=>match ev E ix with
    | some (.lf (.c (.int _) i))=>Md C.Θ ex t g i k
    | _=>none
  | .indexAddr t x ix=>match C.Θ t,ev E x,ev E ix with
    | some ⟨.slice _,_,_,_,_⟩,some (.lf (.sl h)),some (.lf (.c (.int _) i))=>Ln C.Θ ex t h i F k (L1 C.Θ ex t (.sl h) i F k)
    | some ⟨.slice _,_,_,_,_⟩,some (.lf l),some (.lf (.c (.int _) i))=>L1 C.Θ ex t l i F k
    | some ⟨.arr _ _,_,_,_,_⟩,some (.lf l),some (.lf (.c (.int _) i))=>KI C.Θ ex t l i k
    | _,_,_=>none
  | .index t x ix=>match ev E x,ev E ix with
    | some (.lf (.ars te xs)),some (.lf (.c (.int _) i))=>Av C.Θ ex t te xs i k
    | some v,some (.lf (.c (.int _) i))=>Bm C.Θ ex t v i k
    | _,_=>none
  | .makeSlice t x y=>match ev E x,ev E y with
    | some v1,some v2=>FW C.Θ ex n N t x y v1 v2 k (Ox C.Θ ex n N t x y v1 v2 k)
    | _,_=>none
  | .slice t x lo hi none=>match ev E x with
    | some (.lf (.c .str s))=>AB C.Θ E ex t s lo hi k
    | some (.lf (.bp b 0))=>AR C.Θ E ex n t b lo hi F k
    | some (.lf l)=>A6 C.Θ E ex n t l lo hi F k (AN C.Θ E ex n t l lo hi F k (FG C.Θ E ex n t l lo hi F k))
    | _=>none
  | .slice t x none (some hi) (some mx)=>match ev E x with
    | some (.lf l)=>Bn C.Θ E ex n t l hi mx F k
    | _=>none
  | .slice t x (some lo) (some hi) (some mx)=>match ev E x with
    | some (.lf l)=>AE C.Θ E ex n t l lo hi mx F k
    | _=>none
  | .makeMap t none=>TU C.Θ n N t k
  | .lookup t x y false=>match ev E x,ev E y with
    | some (.lf (.mp h)),some v=>Mc C.Θ C.G ex t h v F k
    | _,_=>none
  | .mapUpdate t x y z=>match ev E x,ev E y,ev E z with
    | some (.lf (.mp h)),some v1,some v2=>CO C.Θ C.G t h v1 v2 F k
    | _,_,_=>none
  | .insert t x y z=>match ev E x,ev E y,ev E z with
    | some (.lf (.mp h)),some v1,some v2=>CO C.Θ C.G t h v1 v2 F k
    | _,_,_=>none
  | .call c=>match c.callee,c.args.toList,c.argTypes.toList with
    | .builtin .len,[x],[t]=>match ev E x with
      | some (.lf (.sl h))=>NX C.Θ t h F k (M8 C.Θ t (.lf (.sl h)) F k)
      | some v=>M8 C.Θ t v F k
      | none=>none
    | .builtin .append,[x,y],[t,t']=>match ev E x,ev E y with
      | some v1,some v2=>bif Nat.beq t' t then LM C.Θ ex n N t v1 v2 F k (T7 C.Θ ex n N t v1 v2 F k) else (match v2 with
        | .lf (.c (.int .i64) _)=>NI C.Θ ex n N t t' v1 v2 F k
        | _=>Ls C.Θ ex n N t t' v1 v2 F k)
      | _,_=>none
    | .builtin .copy,[x,y],[t,_]=>match ev E x,ev E y with
      | some v1,some v2=>Mq C.Θ ex N t v1 v2 F k
      | _,_=>none
    | .builtin .max,[x,y],_=>match ev E x,ev E y with
      | some v1,some v2=>V9 true v1 v2 k
      | _,_=>none
    | .builtin .min,[x,y],_=>match ev E x,ev E y with
      | some v1,some v2=>V9 false v1 v2 k
      | _,_=>none
    | .builtin .min,[x,y,z,u],_=>match ev E x,ev E y,ev E z,ev E u with
      | some v1,some v2,some v3,some v4=>sM4 v1 v2 v3 v4 k
      | _,_,_,_=>none
    | .value f,xs,_=>match ev E f with
      | some v=>Gt C.I C.Γ C.D E ex n N v xs F k
      | none=>none
    | _,_,_=>none
  | _=>none
theorem oU (c:Call) {f:Callee} {xs:List Operand} {ts:List TypeId} (h1:c.callee=f) (h2:c.args.toList=xs) (h3:c.argTypes.toList=ts):c = { callee:=f,args:=xs.toArray,argTypes:=ts.toArray }:=by
  cases c; simp at h1 h2 h3; subst h1 h2 h3; simp
theorem Gu {C:Cx} (hC:C.ok P) {N:Nat} (k:Out→Option R):aj ex P o E F n (zR C ex n N E F o.op k) k:=by
  unfold zR
  split
  · rename_i x ho
    split
    · rename_i v hv; exact aj.of fun hx=>(cS.pure fun η ρ hE=>abx ho (aF hE hv))
    · exact aj.none
  · rename_i x ho
    split
    · rename_i v hv; exact aj.of fun hx=>(cS.pure fun η ρ hE=>Tl ho (aF hE hv))
    · exact aj.none
  · rename_i b t x y t' ho
    split
    · rename_i k1 a1 k2 a2 h1 h2
      split
      · exact Jb ho h1 h2 k
      · exact Jb ho h1 h2 k
      · split
        · rename_i hk; subst hk; exact ZD ho h1 h2 k
        · exact aj.none
    · rename_i h1 h2; exact YQ hC.Θ ho h1 h2 k
    · rename_i h1 h2; exact YV ho h1 h2 k
    · rename_i h1 h2
      split
      · rename_i he
        obtain ⟨rfl,rfl⟩:=he
        exact ZK hC ho h1 h2 k
      · exact aj.none
    · rename_i h1 h2; exact Rk hC.Θ hC.G ho h1 h2 k
    · rename_i h1 h2; exact U8 hC.Θ ho h1 h2 k
    · exact aj.none
  · rename_i ho
    split
    · rename_i hv; exact adr ho hv k
    · exact aj.none
  · rename_i ho
    split
    · rename_i hv; exact Cf hC.Θ ho hv k
    · rename_i hv; exact Cf hC.Θ ho hv k
    · rename_i hv; exact P1 hC.Θ ho hv k
    · rename_i hv; exact T0 hC.Θ ho hv k
    · exact aj.none
  · rename_i ho
    split
    · rename_i hv; exact IF ho hv k
    · exact aj.none
  · rename_i ho; exact Pg hC.Θ ho k
  · rename_i ho
    split
    · rename_i hv; exact Zr ho hv k
    · exact aj.none
  · rename_i ho; exact P6 hC.Θ ho k
  · rename_i ho; exact K7 hC.Θ ho k (LW hC.Θ ho k)
  · rename_i ho
    split
    · rename_i hv; exact Zq ho hv k
    · exact aj.none
  · rename_i ho; exact T3 ho k
  · rename_i ho; exact Pz hC.Θ ho k
  · rename_i ho
    split
    · rename_i hv; exact OW hC.Θ ho hv k
    · rename_i hv; exact Qk hC.Θ ho hv k
    · rename_i hv; exact OY hC.Θ ho hv k
    · rename_i hv
      split
      · rename_i hs; exact Qd hC.Θ hs ho hv k
      · exact O3 hC.Θ ho hv k
    · exact aj.none
  · rename_i ho
    split
    · rename_i h1 h2; exact Ow hC.Θ ho h1 h2 k
    · rename_i h1 h2; exact Nh hC.Θ ho h1 h2 k
    · rename_i h1 h2
      split
      · rename_i hs; exact N7 hC.Θ hs ho h1 h2 k
      · split
        · rename_i hs; exact NR hC.Θ hs ho h1 h2 k
        · exact Lc hC.Θ ho h1 h2 k (MS hC.Θ ho h1 h2 k)
    · exact aj.none
  · rename_i ho
    split
    · rename_i hv; exact Pr hC.Θ ho hv k
    · exact aj.none
  · rename_i ho
    split
    · rename_i hv; exact L8 hC.Θ ho hv k
    · exact aj.none
  · rename_i ho
    split
    · rename_i h2; exact S7 hC.Θ ho h2 k
    · exact aj.none
  · rename_i ho
    split
    · rename_i h1 h2; exact Se hC.Θ ho h1 h2 k (JC hC.Θ ho h1 h2 k)
    · rename_i h1 h2; exact JC hC.Θ ho h1 h2 k
    · rename_i h1 h2; exact TH hC.Θ ho h1 h2 k
    · exact aj.none
  · rename_i ho
    split
    · rename_i h1 h2; exact KZ hC.Θ ho h1 h2 k
    · rename_i h1 h2; exact NE hC.Θ ho h1 h2 k
    · exact aj.none
  · rename_i ho
    split
    · rename_i h1 h2; exact PL hC.Θ ho h1 h2 k (Re hC.Θ ho h1 h2 k)
    · exact aj.none
  · rename_i ho
    split
    · rename_i hv; exact M9 hC.Θ ho hv k
    · rename_i hv; exact N6 hC.Θ ho hv k
    · rename_i hv; exact Nj hC.Θ ho hv k (Mi hC.Θ ho hv k (Qr hC.Θ ho hv k))
    · exact aj.none
  · rename_i ho
    split
    · rename_i hv; exact MT hC.Θ ho hv k
    · exact aj.none
  · rename_i ho
    split
    · rename_i hv; exact KO hC.Θ ho hv k
    · exact aj.none
  · rename_i ho; exact ZA ho k
  · rename_i ho
    split
    · rename_i h1 h2; exact SU hC.Θ hC.G ho h1 h2 k
    · exact aj.none
  · rename_i ho
    split
    · rename_i h1 h2 h3; exact Ha hC.Θ hC.G (.inl ho) h1 h2 h3 k
    · exact aj.none
  · rename_i ho
    split
    · rename_i h1 h2 h3; exact Ha hC.Θ hC.G (.inr ho) h1 h2 h3 k
    · exact aj.none
  · rename_i c ho
    split
    · rename_i x t h1 h2 h3
      have hc:=oU c h1 h2 h3
      split
      · rename_i hv; exact TV hC.Θ (by rw [ho,hc]) hv k (Kk hC.Θ (by rw [ho,hc]) hv k)
      · rename_i hv; exact Kk hC.Θ (by rw [ho,hc]) hv k
      · exact aj.none
    · rename_i x y t t' h1 h2 h3
      have hc:=oU c h1 h2 h3
      split
      · rename_i hv1 hv2
        cases ht:Nat.beq t' t
        · rw [cond_false]
          split
          · exact Ue hC.Θ (by rw [ho,hc]) hv1 hv2 k
          · exact Q7 hC.Θ (by rw [ho,hc]) hv1 hv2 k
        · obtain rfl:=Nat.eq_of_beq_eq_true ht
          exact Uv hC.Θ (by rw [ho,hc]) hv1 hv2 k (YU hC.Θ (by rw [ho,hc]) hv1 hv2 k)
      · exact aj.none
    · rename_i x y t t' h1 h2 h3
      have hc:=oU c h1 h2 h3
      split
      · rename_i hv1 hv2; exact Tz hC.Θ (by rw [ho,hc]) hv1 hv2 k
      · exact aj.none
    · rename_i x y ts h1 h2
      have hc:=oU c h1 h2 rfl
      split
      · rename_i hv1 hv2; exact Qe (mx:=true) (by rw [ho,hc]; rfl) hv1 hv2 k
      · exact aj.none
    · rename_i x y ts h1 h2
      have hc:=oU c h1 h2 rfl
      split
      · rename_i hv1 hv2; exact Qe (mx:=false) (by rw [ho,hc]; rfl) hv1 hv2 k
      · exact aj.none
    · rename_i x y z u ts h1 h2
      have hc:=oU c h1 h2 rfl
      split
      · rename_i hv1 hv2 hv3 hv4; exact acj (by rw [ho,hc]) hv1 hv2 hv3 hv4 k
      · exact aj.none
    · rename_i f h1
      have hc:=oU c h1 rfl rfl
      split
      · rename_i hv
        exact Ps (ts:=c.argTypes) hC.I hC.Γ hC.D (xs:=c.args) (by rw [ho]; cases c; simp at h1; subst h1; rfl) hv k
      · exact aj.none
    · exact aj.none
  · exact aj.none
end
end
end Go.Sm
