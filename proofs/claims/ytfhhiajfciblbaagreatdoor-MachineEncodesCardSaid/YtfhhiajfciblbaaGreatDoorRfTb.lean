/- Laws for the row. No condition. -/
import Derived.Test.YtfhhiajfciblbaaGreatDoorRfHc
import Derived.Test.YtfhhiajfciblbaaGreatDoorSimR
import Derived.Laws.CopyRow
namespace Go.Sm
set_option linter.unusedSectionVars false
variable {h N d:Nat} {x y m:Operand} {Gq:TypeId->Bool} {kt t':TypeId} {i:Int}
section
variable [X:XTab] [G:GTab]
def aiX(P:Program)(f:FuncId)(vs:List AV)(F:List AF)(n:Nat)(u:Out):Prop:=∀(η:Vn) (w:World) (c:bu),aq w c (F.map (AF.ha η)++oL) ->
 Calls P f (AV.vals η vs).toArray w (λe w'=>∃(y : { η':Vn//η.agr n η'}) (c':bu),e=.returned (u.av.val y.1)/\Stp u.κ w c w' c'/\aq w' c' (u.fs.map (AF.ha y.1)))
structure Inl where
 rw_:Bool
 run : {R:Type}->(ex:Option Bool)->(n N:Nat)->List AV->List AF->(Out->Option R)->Option R
def Inl.sound(P:Program)(f:FuncId)(J:Inl):Prop:=
 (∃fn cd,P.funcs[f]?=some fn/\fn.body=some cd/\(fn.name == "runtime.NumGoroutine")=false) /\
 ∀{R:Type} (ex:Option Bool) (n N:Nat) (vs:List AV) (F:List AF) (k:Out->Option R) (r:R),J.run ex n N vs F k=some r->∃u,k u=some r/\(ge ex->aiX P f vs F n u)
abbrev It:=FuncId->Option Inl
def It.ok(I:It)(P:Program):Prop:=∀f J,I f=some J->J.sound P f
section
variable {R:Type} {P:Program} {o:Oper} {E:SE} {F:List AF} {n:Nat} {ex:Option Bool}
theorem al2{J:Inl}{f:FuncId}(hJ:J.sound P f){x0:Operand}{xs:Array Operand}{ts:Array TypeId}{vs:List AV}(ho:o.op=.call { callee:=.value x0,args:=xs,argTypes:=ts})(h0:ev E x0=some (.lf (.fn f)))(hvs:Ca E xs.toList=some vs)(k:Out->Option R) :
  au ex P o E F n (J.run ex n N vs F k) k:=by
 intro r hr;obtain⟨⟨fn,cd,hf,hb,hname⟩,hs⟩:=hJ;obtain⟨u,hu,hx⟩:=hs ex n N vs F k r hr;refine⟨u,hu,λhe η ρ hE a ev w c next Q ha hL hk=>?_⟩;have hn':¬fn.name = "runtime.NumGoroutine" := by grind
 have hargs:xs.map (aS ρ)=(AV.vals η vs).toArray:=alh (by simp[MG hE hvs]);have hcv:aS ρ x0=.func (.func f) #[] #[]:=aN hE h0;have hrun:(execOp ev o).run P w=.ok (.enter f (AV.vals η vs).toArray) w:=by simp[execOp,ho,resolve,ha,hcv,Deferred.ofValue,invoke,callFunc,hf,hb,hn',hargs,Result.andThen]
 rw[hrun,Oper.upon_enter];refine(hx he η w c hL).mono ?_;rintro e w' ⟨y,c',rfl,hst,hH⟩;grind
def Lj(I:It)(Γ:Ct)(D:List DCtr)(E:SE)(ex:Option Bool)(n N:Nat)(v0:AV)(xs:List Operand)(F:List AF)(k:Out->Option R):Option R:=match v0 with
 | .lf (.fn f)=>match I f with
  |some J=>match Ca E xs with
   |some vs=>J.run ex n N vs F k
   |none=>none
  |none=>Ia Γ D E ex n N v0 xs F k
 |v0=>Ia Γ D E ex n N v0 xs F k
theorem aaj{I:It}(hI:I.ok P){Γ:Ct}(hΓ:Γ.ok P){D:List DCtr}(hD:∀C∈D,DCtr.sound P C){v0:AV}{x0:Operand}{xs:Array Operand}{ts:Array TypeId}(ho:o.op=.call { callee:=.value x0,args:=xs,argTypes:=ts})(h0:ev E x0=some v0)(k:Out->Option R) :
  au ex P o E F n (Lj I Γ D E ex n N v0 xs.toList F k) k:=by
 unfold Lj;split
 ·rename_i f;split
  ·rename_i J hJ;split
   ·rename_i vs hvs;exact al2 (hI f J hJ) ho h0 hvs k
   ·exact au.none
  ·exact NZ hΓ hD ho h0 k
 ·exact NZ hΓ hD ho h0 k
end
end
section
variable [X:XTab] [G:GTab]
def TC.eqD:(t:TC)->t.den->t.den->Bool
 |.sc (.int _),a,b=>(show Int from a)==(show Int from b)
 |.sc .bool,a,b=>(show Bool from a)==(show Bool from b)
 |.sc .str,a,b=>(show List UInt8 from a)==(show List UInt8 from b)
 |.pair a b,x,y=>a.eqD x.1 y.1&&b.eqD x.2 y.2
 |_,_,_=>false
def dF(k v:TC)(x:k.den)(xs:List (k.den×v.den)):Option v.den:=(xs.find? λp=>k.eqD x p.1).map (·.2)
def dl(k v:TC)(x:k.den)(y:v.den)(xs:List (k.den×v.den)):List (k.den×v.den):=yL (λp=>k.eqD x p.1) (x,y) xs
def EL(Θ:Tb)(t:TypeId)(s:SC):Bool:=match Θ t,s with
 |some ⟨.int k,_,_,_,_⟩,.int k'=>decide (k'=k)
 |some ⟨.bool,_,_,_,_⟩,.bool=>true
 |some ⟨.str,_,_,_,_⟩,.str=>true
 |_,_=>false
def dQ(Θ:Tb):List (TypeId×Nat)->TC->Nat->Bool
 |[(ft,off)],.sc s,pos=>Nat.beq off pos&&EL Θ ft s
 |(ft,off)::f2::fs,.pair (.sc s) b,pos=>Nat.beq off pos&&EL Θ ft s&&dQ Θ (f2::fs) b (pos+1)
 |_,_,_=>false
theorem Hf{Θ:Tb}{ft:TypeId}{off pos:Nat}{s:SC}{x y:s.den}{fs:List (TypeId×Nat)}{r r':List Lf}{e:Bool}(h1:Nat.beq off pos=true)(h2:EL Θ ft s=true)(hr:pm Θ fs r r' (pos+1)=some e):pm Θ ((ft,off)::fs) (.c s x::r) (.c s y::r') pos=some ((TC.sc s).eqD x y&&e):=by
 obtain rfl:=amb h1;unfold EL at h2;split at h2
 ·grind[pm,TC.eqD]
 ·grind[pm,TC.eqD]
 ·grind[pm,TC.eqD]
 ·cases h2
theorem Mx{Θ:Tb}:∀{k:TC} {fs:List (TypeId×Nat)} {pos:Nat} {x y:k.den} {n:Nat},dQ Θ fs k pos=true->pm Θ fs (jT k x n) (jT k y n) pos=some (k.eqD x y)
 |.sc s,[(ft,off)],pos,x,y,n,h=>by simp only[dQ,aas]at h;have:=Hf (Θ:=Θ) (x:=x) (y:=y) (fs:=[]) (r:=[]) (r':=[]) (e:=true) h.1 h.2 (by simp[pm]);rw[akW]at this;exact this
 |.pair (.sc s) b,(ft,off)::f2::fs,pos,x,y,n,h=>by rw[dQ,aas,aas]at h;exact Hf (x:=x.1) (y:=y.1) h.1.1 h.1.2 (Mx (k:=b) (x:=x.2) (y:=y.2) (n:=n+(TC.sc s).nh) h.2)
 |.sc s,[],_,_,_,_,h=>by simp[dQ]at h
 |.sc s,_::_::_,_,_,_,_,h=>by simp[dQ]at h
 |.pair (.sc s) b,[],_,_,_,_,h=>by simp[dQ]at h
 |.pair (.sc s) b,[_],_,_,_,_,h=>by simp[dQ]at h
 |.pair (.arr _ _) b,fs,_,_,_,_,h=>by rcases fs with _|⟨_,_|_⟩<;>simp[dQ]at h
 |.pair .unit b,fs,_,_,_,_,h=>by rcases fs with _|⟨_,_|_⟩<;>simp[dQ]at h
 |.pair (.pair _ _) b,fs,_,_,_,_,h=>by rcases fs with _|⟨_,_|_⟩<;>simp[dQ]at h
 |.pair (.slice _) b,fs,_,_,_,_,h=>by rcases fs with _|⟨_,_|_⟩<;>simp[dQ]at h
 |.pair (.st _) b,fs,_,_,_,_,h=>by rcases fs with _|⟨_,_|_⟩<;>simp[dQ]at h
 |.pair (.ext _) b,fs,_,_,_,_,h=>by rcases fs with _|⟨_,_|_⟩<;>simp[dQ]at h
 |.pair .node b,fs,_,_,_,_,h=>by rcases fs with _|⟨_,_|_⟩<;>simp[dQ]at h
 |.pair (.mp _ _) b,fs,_,_,_,_,h=>by rcases fs with _|⟨_,_|_⟩<;>simp[dQ]at h
 |.arr _ _,fs,_,_,_,_,h=>by rcases fs with _|⟨_,_|_⟩<;>simp[dQ]at h
 |.unit,fs,_,_,_,_,h=>by rcases fs with _|⟨_,_|_⟩<;>simp[dQ]at h
 |.slice _,fs,_,_,_,_,h=>by rcases fs with _|⟨_,_|_⟩<;>simp[dQ]at h
 |.st _,fs,_,_,_,_,h=>by rcases fs with _|⟨_,_|_⟩<;>simp[dQ]at h
 |.ext _,fs,_,_,_,_,h=>by rcases fs with _|⟨_,_|_⟩<;>simp[dQ]at h
 |.node,fs,_,_,_,_,h=>by rcases fs with _|⟨_,_|_⟩<;>simp[dQ]at h
 |.mp _ _,fs,_,_,_,_,h=>by rcases fs with _|⟨_,_|_⟩<;>simp[dQ]at h
theorem OH:∀{k:TC} {x y:k.den},k.eqD x y=true->x=y
 |.sc (.int _),x,y,h=>by simpa[TC.eqD]using h
 |.sc .bool,x,y,h=>by simpa[TC.eqD]using h
 |.sc .str,x,y,h=>by simpa[TC.eqD]using h
 |.sc .fnc,_,_,h=>by cases h
 |.pair a b,x,y,h=>by simp only[TC.eqD,aas]at h;exact Prod.ext (OH h.1) (OH h.2)
 |.arr _ _,_,_,h=>by cases h
 |.unit,_,_,h=>by cases h
 |.slice _,_,_,h=>by cases h
 |.st _,_,_,h=>by cases h
 |.ext _,_,_,h=>by cases h
 |.node,_,_,h=>by cases h
 |.mp _ _,_,_,h=>by cases h
section
variable {R:Type} {P:Program} {o:Oper} {E:SE} {F:List AF} {n:Nat} {Θ:Tb} {ex:Option Bool}
theorem apj(hΘ:Θ.ok P){t:TypeId}{s:SC}(h:EL Θ t s=true)(x:s.den):∃D,P.underlying t=some D/\lR D=false/\MapKept.IsKey D (s.val x):=by
 unfold EL at h;split at h
 ·rename_i k _ _ _ _ k' hi;have hfit:=(hΘ t _ hi).2.1;obtain rfl:=abh h;exact⟨_,hfit,rfl,rfl⟩
 ·rename_i hi;exact⟨_,(hΘ t _ hi).2.1,rfl,trivial⟩
 ·rename_i hi;exact⟨_,(hΘ t _ hi).2.1,rfl,trivial⟩
 ·cases h
abbrev Ww(em:Bool)(d:Nat)(xs:Array Value)(f:Field):Sem (ForInStep PUnit):=if f.name ≠ "_" then do
  let v<-part f.type xs f.offset
  Instr.checkKey em (d+1) f.type v
  pure (ForInStep.yield PUnit.unit)
 else pure (ForInStep.yield PUnit.unit)
theorem amG(hΘ:Θ.ok P){w:World}{η:Vn}{xs:Array Value}{em:Bool}:∀{fl:List Field} {fs:List (TypeId×Nat)} {k:TC} {x:k.den} {n pos:Nat},fl.map (λf=>(f.type,f.offset))=fs->fl.all (λf=>!(f.name == "_"))=true->dQ Θ fs k pos=true ->
  (∀j,xs[pos+j]?=(ay η (jT k x n))[j]?)->(forIn fl PUnit.unit λf (_:PUnit)=>(Ww em d xs f)).run P w=.ok () w:=by
 have one:∀{f:Field} {fl:List Field} {s:SC} {x:s.den} {pos:Nat},(f.name == "_")=false->Nat.beq f.offset pos=true->EL Θ f.type s=true->xs[pos]?=some (s.val x) ->
   (forIn fl PUnit.unit λf (_:PUnit)=>(Ww em d xs f)).run P w=.ok () w ->
   (forIn (f::fl) PUnit.unit λf (_:PUnit)=>(Ww em d xs f)).run P w=.ok () w:=by
  intro f fl s x pos hn ho hs hx ih;obtain⟨D,hu,hag,hk⟩:=apj hΘ hs x;have hn':¬f.name = "_" := by simpa using hn
  have p1:(part f.type xs f.offset).run P w=.ok (s.val x) w:=by simp[part,mj hu hag,amb ho,hx,Result.andThen]
  have p2:(Instr.checkKey em (d+1) f.type (s.val x)).run P w=.ok () w:=MapKept.run_checkKey hu hk em d;simp_all
 intro fl;induction fl with
 |nil=>simp_all
 | cons f fl ih=>
  intro fs k x n pos hm hn h hx;simp only[aa4]at hm;subst hm;simp only[adD,aas,acA]at hn;cases fl with
  |nil=>
   cases k<;>simp only[adU,dQ]at h<;>try cases h
   rename_i s;simp only[aas]at h;have h0:=hx 0;simp only[acU,jT,ay,Lf.cells,acK,adP]at h0;exact one hn.1 h.1 h.2 h0 (by simp_all)
  |cons f2 fl=>
   cases k<;>simp only[aa4,dQ]at h<;>try cases h
   rename_i a b;cases a<;>simp only[dQ]at h<;>try cases h
   rename_i s;rw[aas,aas]at h;have h0:=hx 0;simp only[acU,jT,ay,Lf.cells,acK,adP]at h0;refine one hn.1 h.1.1 h.1.2 h0 (ih (k:=b) (x:=x.2) (n:=n+0) (pos:=pos+1) rfl hn.2 h.2 λj=>?_);have:=hx (j+1);rw[show pos+(j+1)=pos+1+j by omega]at this;simpa[jT,ay,Lf.cells,TC.nh]using this
theorem CJ(n:Nat)(s:SC)(x:s.den)(h:s≠.fnc):Instr.sameBits n (s.val x) (s.val x)=true:=by
 cases s with
 |int k=>simp[SC.val,Instr.sameBits]
 |bool=>simp[SC.val,Instr.sameBits]
 |str=>
  grind[Instr.sameBits,MapKept.bytes_beq]
 |fnc=>grind
theorem Oq{η:Vn}{m:Nat}:∀{k:TC} {fs:List (TypeId×Nat)} {pos n:Nat} {x:k.den},dQ Θ fs k pos=true->∀v∈ay η (jT k x n),Instr.sameBits m v v=true:=by
 have ne:∀{t:TypeId} {s:SC},EL Θ t s=true->s≠.fnc:=by intro t s h e;subst e;unfold EL at h;grind
 intro k;induction k with
 |sc s=>
  intro fs pos n x h v hv;rcases fs with _|⟨⟨ft,off⟩,_|_⟩<;>simp only[dQ]at h<;>try cases h
  grind[jT,ay,Lf.cells,List.mem_singleton,CJ]
 |pair a b _ ih=>
  intro fs pos n x h v hv;rcases fs with _|⟨⟨ft,off⟩,_|⟨f2,fs⟩⟩<;>cases a<;>simp only[dQ]at h<;>try cases h
  grind[jT,ay,Lf.cells,CJ]
 |_=>
  grind[dQ]
theorem zo:∀{k:TC} {fs:List (TypeId×Nat)} {pos:Nat},dQ Θ fs k pos=true->k.ty.pureB=true:=by
 intro k;induction k with
 |sc s=>intros;rfl
 |pair a b _ ih=>
  intro fs pos h;rcases fs with _|⟨⟨ft,off⟩,_|⟨f2,fs⟩⟩<;>cases a<;>simp only[dQ]at h<;>try cases h
  grind[Ty.pureB]
 |_=>
  grind[dQ]
def GH(Θ:Tb)(Gq:TypeId->Bool)(kt:TypeId)(k:TC):Bool:=match Θ kt,k with
 |some ⟨.int k0,_,_,_,_⟩,.sc (.int k1)=>decide (k1=k0)
 |some ⟨.st fs,_,_,_,_⟩,.pair a b=>Gq kt&&dQ Θ fs (.pair a b) 0
 |_,_=>false
theorem QT(hΘ:Θ.ok P)(hG:∀t,Gq t=true->y6 P t){k v:TC}(h:GH Θ Gq kt k=true)(x:k.den)(xs:List (k.den×v.den)) :
  KeyRun P kt (oy k x) (λp=>k.eqD x p.1) (λp:k.den×v.den=>(oy k p.1,oy v p.2)) xs:=by
 unfold GH at h;split at h
 ·rename_i k0 _ _ _ _ k1 hi;obtain rfl:=abh h;exact aoL (g:=λp=>p.1) (hΘ kt _ hi).2.1 x (λ_ _=>rfl) (λ_ _=>rfl)
 ·rename_i fs _ _ _ _ a b hi;simp only[aas]at h;obtain⟨g1,g2,g3⟩:=hG kt h.1;obtain⟨Fd,hs,hm⟩:=(hΘ kt _ hi).2.1;have hf:P.fieldsOf kt=Fd:=by simp[Program.fieldsOf,hs]
  rw[hf]at g3;have hcell:∀y:(TC.pair a b).den,oy (.pair a b) y=.agg (ay G0 (jT (.pair a b) y 0)).toArray:=by intro y;rw[jt (.pair a b) y [] 0 (λj h hj=>by simp at hj) (by rw[yq _ (zo h.2)];grind)];simp only[oy];rw[oY _ (zo h.2) y _ (aP (TC.pair a b) [])]
  refine ZC hs (λw em=>?_) (λw p _=>?_) (λp _ hq=>?_) ?_
  ·rw[hcell];rw[show(10000:Nat)=9999+1 from rfl,Instr.checkKey];simp only[Sem.run_bind,run_underlying hs,Result.andThen_ok];rw[<-Array.forIn_toList];have:=amG (P:=P) hΘ (w:=w) (η:=G0) (xs:=(ay G0 (jT (.pair a b) x 0)).toArray) (em:=em) (d:=9998) hm g3 h.2 (x:=x) (n:=0) (λj=>by simp);simp_all
  ·simp only;rw[hcell,hcell];rw[run_equalIn_struct (P:=P) w 9999 kt _ _ (by grind) g2,hf];exact yr hΘ (η:=G0) (d:=9998) hm g3 (Mx (n:=0) h.2) (λj=>by simp) (λj=>by simp)
  ·simp only at hq|-;rw[OH hq]
  grind[Instr.sameBits,List.all_eq_true,List.getElem_of_mem,Oq,List.getElem_mem]
 ·cases h
theorem amZ:∀(t:TC),t.ty.pureB=true->∀(x:t.den) (y:t.ty.Refs),mH t x y=oy t x
 |.sc _,_,_,_=>rfl
 |.arr _ _,_,_,_=>rfl
 |.unit,_,_,_=>rfl
 |.pair a b,h,x,y=>by grind[mH,oy,oY]
 |.st a,h,x,y=>by simp only[mH,oy];rw[oY _ h x y a.ref0]
 |.slice _,h,_,_=>by cases h
 |.ext _,_,_,_=>rfl
 |.node,h,_,_=>by cases h
 |.mp _ _,h,_,_=>by cases h
theorem Lw{t:TC}{v:AV}{x:t.den}{l:List Lf}{K:List Nat}(h:qF [] t v=some (x,l,K))(hp:t.ty.pureB=true)(η:Vn):v.val η=oy t x:=by rw[(u7 (η:=η) h).1,amZ t hp]
theorem HH{k:TC}(h:GH Θ Gq kt k=true):k.ty.pureB=true:=by
 unfold GH at h;split at h
 ·rfl
 ·simp only[aas]at h;exact zo h.2
 ·cases h
def abw(Θ:Tb)(n N:Nat)(t:TypeId)(k:Out->Option R):Option R:=match Θ t with
 |some ⟨.map kt et,_,_,_,_⟩=>match Θ kt,Θ et with
  |some ik,some ie=>bif Nat.ble 2 N then k ⟨.lf (.mp n),[.mp ik.tc ie.tc N [] n],[]⟩else none
  |_,_=>none
 |_=>none
theorem akd{t:TypeId}(ho:o.op=.makeMap t none)(k:Out->Option R):au ex P o E F n (abw Θ n N t k) k:=by
 unfold abw;split
 ·split
  ·refine au.bif λhN=>au.of λ_ η ρ hE=>?_;refine(UY ho hN).map (λb=>⟨η.setH n ⟨some ⟨b,0,none⟩,0,0⟩,η.setH_agr n _⟩) (λb=>?_) λb=>?_
   ·simp[AV.val,Lf.val,Vn.setH_at,Hd.blk]
   ·simp[AF.ha,Vn.setH_at,Hd.blk,Ar]
  ·exact au.none
 ·exact au.none
def OZ(ex:Option Bool)(kc vt:TC)(x:kc.den)(xs:List (kc.den×vt.den))(ie:TInf)(k:Out->Option R):Option R:=match vt,xs,ie.zl with
 |.sc .bool,xs,[.c .bool b]=>bif ie.d.agg then none else k ⟨.lf (.c .bool ((dF kc (.sc .bool) x xs).getD b)),[],[]⟩
 |.sc .fnc,xs,_=>gbind ex (0:Nat) (dF kc (.sc .fnc) x xs) λf=>k ⟨.lf (.c .fnc f),[],[]⟩
 |_,_,_=>none
def V8(Θ:Tb)(Gq:TypeId->Bool)(ex:Option Bool)(t:TypeId)(h:Nat)(v:AV)(F:List AF)(k:Out->Option R):Option R:=match Θ t with
 | some ⟨.map kt et,_,_,_,_⟩=>match Θ kt,Θ et with
  |some ik,some ie=>match vP ik.tc ie.tc h F,qF [] ik.tc v with
   |some s,some (x,_,_)=>bif GH Θ Gq kt ik.tc then OZ ex ik.tc ie.tc x s.xs ie k else none
   |_,_=>none
  |_,_=>none
 |_=>none
theorem ZF{t et:TypeId}{kc vt:TC}{i:Nat}{x:kc.den}{xs:List (kc.den×vt.den)}{ie:TInf}(hF : .mp kc vt i xs h∈F)(hie:ie.ok P et)(ht:P.underlying t=some (.map kt et))(ho:o.op=.lookup t m y false)(hm:ev E m=some (.lf (.mp h)))
  (hy:∀(η:Vn) (ρ:dr),nQ η ρ E->aS ρ y=oy kc x) (K:KeyRun P kt (oy kc x) (λp=>kc.eqD x p.1) (λp:kc.den×vt.den=>(oy kc p.1,oy vt p.2)) xs) (k:Out->Option R):au ex P o E F n (OZ ex kc vt x xs ie k) k:=by
 unfold OZ;split
 ·rename_i xs b hz;cases hag:ie.d.agg;rotate_left
  ·exact au.none
  refine au.of λ_=>dB.pure λη ρ hE=>?_;obtain⟨j,hj⟩:=mV hF η;have hz':ie.zv=.bool b:=by simp[TInf.zv,hag,hz,ay,Lf.cells,SC.val]
  have h1:=hie.1;rw[hz']at h1;have:=adI (L:=F.map (AF.ha η)) j hj ho ht (by rw[aN hE hm];rfl) (hy η ρ hE) K h1;have e:(AV.lf (.c .bool ((dF kc (.sc .bool) x xs).getD b))).val η=((xs.find? λp=>kc.eqD x p.1).map λp:kc.den×(TC.sc .bool).den=>oy (.sc .bool) p.2).getD (.bool b):=by simp only[AV.val,Lf.val,dF];cases xs.find? λp=>kc.eqD x p.1<;>rfl
  grind
 ·rename_i xs;refine au.gbind λf hf=>au.of λhx=>dB.pure λη ρ hE=>?_
  obtain⟨j,hj⟩:=mV hF η;have hf:=hf hx;simp only[dF,acr]at hf;obtain⟨a0,h1,rfl⟩:=hf;exact ZE (L:=F.map (AF.ha η)) j hj ho ht (by rw[aN hE hm];rfl) (hy η ρ hE) K h1
 ·exact au.none
theorem aa3(hΘ:Θ.ok P)(hG:∀t,Gq t=true->y6 P t){t:TypeId}{v:AV}(ho:o.op=.lookup t m y false)(h1:ev E m=some (.lf (.mp h)))(h2:ev E y=some v)(k:Out->Option R) :
  au ex P o E F n (V8 Θ Gq ex t h v F k) k:=by
 unfold V8;split
 ·rename_i kt et _ _ _ _ ht;split
  ·rename_i ik ie hik hie;split
   ·rename_i s x _ _ hs hd;refine au.bif λhk=>?_
    exact ZF (jj hs) (hΘ et ie hie) (hΘ t _ ht).2.1 ho h1 (λη ρ hE=>by rw[aN hE h2];exact Lw hd (HH hk) η) (QT hΘ hG hk x s.xs) k
   ·exact au.none
  ·exact au.none
 ·exact au.none
def JO(Θ:Tb)(Gq:TypeId->Bool)(t:TypeId)(h:Nat)(v1 v2:AV)(F:List AF)(k:Out->Option R):Option R:=match Θ t with
 | some ⟨.map kt et,_,_,_,_⟩=>match Θ kt,Θ et with
  |some ik,some ie=>match vP ik.tc ie.tc h F,qF [] ik.tc v1,qF [] ie.tc v2 with
   |some s,some (x,_,_),some (y,_,_)=>bif GH Θ Gq kt ik.tc&&ie.tc.ty.pureB then k ⟨.lf (.v undef),[.mp ik.tc ie.tc s.i (dl ik.tc ie.tc x y s.xs) h],[s.i]⟩else none
   |_,_,_=>none
  |_,_=>none
 |_=>none
theorem NG(hΘ:Θ.ok P)(hG:∀t,Gq t=true->y6 P t){t:TypeId}{z:Operand}{v1 v2:AV}(ho:o.op=.mapUpdate t m y z\/o.op=.insert t m y z)(h1:ev E m=some (.lf (.mp h)))(h2:ev E y=some v1)(h3:ev E z=some v2)
  (k:Out->Option R):au ex P o E F n (JO Θ Gq t h v1 v2 F k) k:=by
 unfold JO;split
 ·rename_i kt et _ _ _ _ ht;split
  ·rename_i ik ie hik hie;split
   ·rename_i s x _ _ y' _ _ hs hd1 hd2;refine au.bif λhk=>au.of λ_ η ρ hE=>?_
    simp only[aas]at hk;obtain⟨j,hj⟩:=mV (jj hs) η;exact(YX (L:=F.map (AF.ha η)) (a0:=(x,y')) (q:=λp=>ik.tc.eqD x p.1) (f:=λp:ik.tc.den×ie.tc.den=>(oy ik.tc p.1,oy ie.tc p.2)) j hj ho (hΘ t _ ht).2.1 (by rw[aN hE h1];rfl) (by rw[aN hE h2];exact Lw hd1 (HH hk.1) η)
     (by rw[aN hE h3];exact Lw hd2 hk.2 η) (QT hΘ hG hk.1 x s.xs)).map (λ_=>⟨η,Vn.agr_refl n η⟩) (λ_=>rfl) (λ_=>rfl)
   ·exact au.none
  ·exact au.none
 ·exact au.none
def cpD(t:TC)(e:TypeId)(N:Nat)(F:List AF)(d:Nat):Option (Nat×Int×Int×Nat×List Nat×List t.den):=match nU d F with
 | some (h,sz,lo,hi)=>bif Nat.beq sz 1 then match gv t e N F (.sl h)with
   |some (ci,K,xs)=>some (h,lo,hi,ci,K,xs)
   |none=>none
  else none
 |none=>match gv t e N F (.sl d)with
  |some (ci,K,xs)=>some (d,0,xs.length,ci,K,xs)
  |none=>none
theorem anq{t:TC}{e:TypeId}{F:List AF}{lo hi:Int}{ci:Nat}{K:List Nat}{xs:List t.den}(hc:cpD t e N F d=some (h,lo,hi,ci,K,xs))(h1:t.ty.sz=1)(he:Nat.blt e 1048576=true) :
  gv t e N F (.sl h)=some (ci,K,xs)/\∀(η:Vn) (w:World) (c:bu),aq w c (F.map (AF.ha η))->nM (η.h d) (η.h h) 1 lo hi:=by
 unfold cpD at hc;split at hc
 ·rename_i h' sz lo' hi' hp;cases hb:Nat.beq sz 1
  ·grind
  ·rw[hb,f9]at hc;split at hc
   ·rename_i hs;simp only[no,aaE]at hc;obtain⟨rfl,rfl,rfl,rfl,rfl,rfl⟩:=hc;obtain rfl:=amb hb;exact⟨hs,λη w c hH=>hH _ (aaG.2 ⟨_,iw hp,rfl⟩)⟩
   ·cases hc
 ·split at hc
  ·rename_i hs;simp only[no,aaE]at hc;obtain⟨rfl,rfl,rfl,rfl,rfl,rfl⟩:=hc;refine⟨hs,λη w c hH=>?_⟩;have hown:=gb hs hH;rw[eH (gn he)]at hown;obtain⟨rs,hr,ho,_⟩:=hown;refine⟨afY _,?_,λhlt=>?_⟩
   ·rcases(ho.plain he).2 with⟨hv,hn⟩|⟨g,cap,cur,hv,_⟩
    ·simp only[Lf.hd,Hd.val,Value.slice.injEq]at hv;omega
    grind[Lf.hd]
   ·rcases(ho.plain he).2 with⟨hv,hn⟩|⟨g,cap,cur,hv,_⟩
    ·omega
    grind[Lf.hd,ep]
  ·cases hc
def cpS(t:TC)(F:List AF)(l:Lf):Option (List t.den×Bool):=match l with
 | .sl s=>match nU s F with
  | some (h,sz,lo,hi)=>bif Nat.beq sz 1 then match iI t F (.sl h)with
    |some s2=>some ((s2.xs.take hi.toNat).drop lo.toNat,decide (lo<=hi/\hi<=s2.xs.length))
    |none=>none
   else none
  |none=>match iI t F (.sl s)with
   |some s2=>some (s2.xs,true)
   |none=>none
 |l=>match iI t F l with
  |some s2=>some (s2.xs,true)
  |none=>none
theorem anQ{t:TC}{F:List AF}{l:Lf}{ys:List t.den}{g:Bool}(hc:cpS t F l=some (ys,g))(h1:t.ty.sz=1)(hg:g=true)(η:Vn):l.val η=(l.hd η).val/\∀(w:World) (c:bu),aq w c (F.map (AF.ha η))->Pq w t.ty ys (l.hd η):=by
 unfold cpS at hc;split at hc
 ·rename_i s;refine⟨rfl,λw c hH=>?_⟩;split at hc
  ·rename_i h sz lo hi hp;cases hb:Nat.beq sz 1
   ·grind
   ·rw[hb,f9]at hc;split at hc
    ·rename_i s2 hs;simp only[no,aaE]at hc;obtain⟨rfl,rfl⟩:=hc;obtain rfl:=amb hb;exact alX h1 (Ge (jk hs hH)) (hH _ (aaG.2 ⟨_,iw hp,rfl⟩)) (abh hg)
    ·cases hc
  ·split at hc
   ·rename_i s2 hs;simp only[no,aaE]at hc;obtain⟨rfl,rfl⟩:=hc;exact Ge (jk hs hH)
   ·cases hc
 ·split at hc
  ·rename_i s2 hs;simp only[no,aaE]at hc;obtain⟨rfl,rfl⟩:=hc;exact⟨(pH hs η).1,λw c hH=>Ge (jk hs hH)⟩
  ·cases hc
def T7(Θ:Tb)(ex:Option Bool)(N:Nat)(t:TypeId)(v1 v2:AV)(F:List AF)(k:Out->Option R):Option R:=match Θ t with
 | some ⟨.slice e,_,_,_,_⟩=>match Θ e,v1,v2 with
  |some ie,.lf (.sl d),.lf l2=>match cpD ie.tc e N F d,cpS ie.tc F l2 with
   | some (h,lo,hi,ci,K,xs),some (ys,g)=>bif Nat.beq ie.sz 1&&Nat.beq ie.tc.ty.sz 1&&ie.tc.ty.pureB&&Nat.ble 2 ci&&Nat.blt e 1048576 then
     gchk ex (decide (lo<=hi/\hi<=xs.length)&&g) (k ⟨f8 .i64 ((min (hi-lo).toNat ys.length:Nat):Int),[.own ie.tc e ci K (xs.take lo.toNat++ys.take (min (hi-lo).toNat ys.length)++xs.drop (lo.toNat+min (hi-lo).toNat ys.length)) h],[ci]⟩)else none
   |_,_=>none
  |_,_,_=>none
 |_=>none
theorem adM(hΘ:Θ.ok P){t:TypeId}{v1 v2:AV}(ho:o.op=.call { callee:=.builtin .copy,args:=#[x,y],argTypes:=#[t,t']})(h1:ev E x=some v1)(h2:ev E y=some v2)(k:Out->Option R) :
  au ex P o E F n (T7 Θ ex N t v1 v2 F k) k:=by
 unfold T7;split
 ·rename_i e _ _ _ _ ht;split
  ·rename_i ie d l2 he;split
   ·rename_i h lo hi ci K xs ys g hs1 hs2;refine au.bif λhc=>au.gchk λhr=>au.of λhx η ρ hE=>?_
    simp only[aas]at hc hr;obtain⟨⟨⟨⟨hsz,h1'⟩,hp⟩,hci⟩,hel⟩:=hc;have e1:=aN hE h1;have e2:=aN hE h2;simp only[AV.val]at e1 e2;obtain⟨g1,g2⟩:=anq hs1 (amb h1') hel;obtain⟨g3,g4⟩:=anQ hs2 (amb h1') (hr hx).2 η;rw[g3]at e2;have hH':∀w c,aq w c (F.map (AF.ha η))->aq w c (.own ie.tc.ty e ci K xs (η.h h)::F.map (AF.ha η)):=λw c hH=>by have h0:=gb g1 hH;rw[eH (gn hel)]at h0;exact aq.cons h0 hH
    have:=(alo (o:=o) (ρ:=ρ) (L:=.own ie.tc.ty e ci K xs (η.h h)::F.map (AF.ha η)) hp h1' 0 rfl (λw c hL=>g2 η w c λA hA=>hL A (aaw _ hA)) (λw c hL=>g4 w c λA hA=>hL A (aaw _ hA)) ho (hΘ t _ ht).2.1 (hΘ e ie he).1 hsz e1 e2 (hr hx).1 hci hel).from hH';refine this.map (λ_=>⟨η,η.agr_refl n⟩) (λ_=>rfl) λ_=>?_;grind[AF.ha,eH,gn]
   ·exact au.none
  ·exact au.none
 ·exact au.none
def FW(Θ:Tb)(E:SE)(ex:Option Bool)(n:Nat)(t:TypeId)(l:Lf)(lo hi:Option Operand)(F:List AF)(k:Out->Option R)(alt:Option R):Option R:=match Θ t,l,lo,hi with
 | some ⟨.slice e,_,_,_,_⟩,.sl h,some h0,none=>match Θ e with
  |some ie=>match gv ie.tc e 0 F (.sl h),ev E h0 with
   | some (ci,K,xs),some (.lf (.c (.int _) i))=>bif Nat.beq ie.sz 1&&Nat.beq ie.sz ie.tc.ty.sz&&Nat.blt e 1048576&&bE n h then
     gchk ex (decide (0<=i/\i<=(xs.length:Int)/\(xs.length:Int)<=xs.length)) (k ⟨.lf (.sl n),[.rep ie.tc (ci::K) ((xs.take (xs.length:Int).toNat).drop i.toNat) n,.prt n h 1 i xs.length],[]⟩)else alt
   |_,_=>alt
  |none=>alt
 |_,_,_,_=>alt
theorem WY(hΘ:Θ.ok P){t:TypeId}{l:Lf}{lo hi:Option Operand}(ho:o.op=.slice t x lo hi none)(h1:ev E x=some (.lf l))(k:Out->Option R){alt:Option R}(halt:au ex P o E F n alt k):au ex P o E F n (FW Θ E ex n t l lo hi F k alt) k:=by
 unfold FW;split
 ·rename_i e _ _ _ _ h h0 ht;split
  ·rename_i ie he;split
   ·rename_i ci K xs kk i hs hi;cases hc:(Nat.beq ie.sz 1&&Nat.beq ie.sz ie.tc.ty.sz&&Nat.blt e 1048576&&bE n h)
    ·exact halt
    ·simp only[f9];refine au.gchk λhb=>au.of λhx η ρ hE=>?_;simp only[aas]at hc;obtain⟨⟨⟨hs1,hsz⟩,hel⟩,hout⟩:=hc;have h2:=aN hE h1;simp only[AV.val,Lf.val]at h2;have:=(PQ (o:=o) (ρ:=ρ) (L:=.own ie.tc.ty e ci K xs (η.h h)::F.map (AF.ha η)) 0 rfl ho (hΘ t _ ht).2.1 (hΘ e ie he).1 (amb hsz) hs1 h2 (aN hE hi) (hb hx) hel).from (λw c hH=>aq.cons (by
      have:=gb hs hH;rwa [eH (gn hel)]at this) hH)
     refine this.map (λ_=>⟨η.setH n ((η.h h).cut i.toNat (xs.length:Int).toNat ie.sz),η.setH_agr n _⟩) (λ_=>?_) λ_=>?_
     ·simp[AV.val,Lf.val,Vn.setH_at]
     ·simp only[aa4,adU,AF.ha,Vn.setH_at];rw[(η.setH_agr n _ h hout).1]
   ·exact halt
  ·exact halt
 ·exact halt
def VW(Θ:Tb)(ex:Option Bool)(n N:Nat)(t t':TypeId)(v1 v2:AV)(F:List AF)(k:Out->Option R):Option R:=match Θ t,Θ t' with
 | some ⟨.slice e,_,_,_,_⟩,some ⟨.str,_,_,_,_⟩=>match Θ e,v1,v2 with
  |some ie,.lf l1,.lf (.c .str a)=>match gv (.sc (.int .u8)) e N F l1,ie.zl with
   | some (ci,K,xs),[.c (.int .u8) z]=>bif(show Int from z)==0 && !ie.d.agg&&Nat.beq ie.sz 1&&Nat.beq ie.by_ 1&&Nat.ble 2 ci&&Nat.blt e 1048576 then
     gchk ex (aH xs.length (show List UInt8 from a).length ie.by_) (k ⟨.lf (.sl n),[.own (.sc (.int .u8)) e ci K (xs++(show List UInt8 from a).map λb=>(b.toNat:Int)) n],[ci]⟩)else none
   |_,_=>none
  |_,_,_=>none
 |_,_=>none
theorem aaI(hΘ:Θ.ok P){t:TypeId}{v1 v2:AV}(ho:o.op=.call { callee:=.builtin .append,args:=#[x,y],argTypes:=#[t,t']})(h1:ev E x=some v1)(h2:ev E y=some v2)(k:Out->Option R) :
  au ex P o E F n (VW Θ ex n N t t' v1 v2 F k) k:=by
 unfold VW;split
 ·rename_i e _ _ _ _ _ _ _ _ ht ht';split
  ·rename_i ie l1 a he;split
   ·rename_i ci K xs z hs1 hz;refine au.bif λhc=>au.gchk λhr=>au.of λhx η ρ hE=>?_
    simp only[aas,acA,air]at hc;obtain⟨⟨⟨⟨⟨hz0,hag⟩,hsz⟩,hby⟩,hci⟩,hel⟩:=hc;have e1:=aN hE h1;have e2:=aN hE h2;simp only[AV.val]at e1 e2;rw[qO hs1 η]at e1;have hzv:ie.zv=.int .u8 0:=by grind[TInf.zv,ay,Lf.cells]
    have hti:=(hΘ e ie he).1;rw[hzv]at hti;have hH':∀w c,aq w c (F.map (AF.ha η))->aq w c (.own D5 e ci K xs (l1.hd η)::F.map (AF.ha η)):=λw c hH=>by have h0:=gb hs1 hH;grind[eH,gn,aq.cons]
    have hr':=hr hx;have:=(HZ (o:=o) (ρ:=ρ) (L:=.own D5 e ci K xs (l1.hd η)::F.map (AF.ha η)) 0 rfl ho (hΘ t _ ht).2.1 (hΘ t' _ ht').2.1 hti hsz hby e1 e2 hr' hci hel).from hH';refine this.map (λh'=>⟨η.setH n h',η.setH_agr n h'⟩) (λh' => ?_) λh' => ?_
    ·simp[AV.val,Lf.val,Vn.setH_at]
    grind[AF.ha,Vn.setH_at,eH,gn]
   ·exact au.none
  ·exact au.none
 ·exact au.none
end
end
set_option linter.deprecated false
section
variable [X:XTab] [G:GTab]
section
variable {R:Type} {P:Program} {o:Oper} {E:SE} {F:List AF} {n:Nat} {Θ:Tb} {ex:Option Bool}
def XI(Θ:Tb)(ex:Option Bool)(t:TypeId)(h:Nat)(F:List AF)(k:Out->Option R):Option R:=match Θ t with
 | some ⟨.arr m e,_,_,_,_⟩=>match Θ e with
  | some ie=>match ie.tc with
   |.sc s=>match iI (.sc s) F (.sl h)with
    |some q=>bif Nat.ble 1 m then gchk ex (decide (m<=q.xs.length)) (k (bk (.lf (.rp h (.sc s) 0 (.sc s) .here))))else none
    |none=>none
   |_=>none
  |none=>none
 |_=>none
theorem abc(hΘ:Θ.ok P){t:TypeId}(ho:o.op=.sliceToArrayPointer t x)(h1:ev E x=some (.lf (.sl h)))(k:Out->Option R):au ex P o E F n (XI Θ ex t h F k) k:=by
 unfold XI;split
 ·rename_i m e _ _ _ _ ht;split
  ·rename_i ie he;split
   ·rename_i s _;split
    ·rename_i q hq;refine au.bif λhm=>au.gchk λhb=>au.of λhx=>dB.pure λη ρ hE ev w c hev hL=>?_
     subst hev;have hm:=aaA hm;have hb:=abh (hb hx);have e1:=aN hE h1;simp only[AV.val,Lf.val]at e1;obtain⟨ys,hr,hn,hle,_,hc⟩:=jk hq hL;simp only[Lf.hd]at hn hc hle;rcases hc with⟨_,h0⟩|⟨b,off,_,_,_,ha,_⟩
     ·omega
     ·have hv:(Instr.arrayAt t (η.h h).val).run P w=.ok (.pointer (some ⟨b,off,none⟩)) w:=by
       simp[Instr.arrayAt,run_underlying (hΘ t _ ht).2.1,hn,ha,Result.andThen];omega
      simp[execOp,ho,e1,hv,Result.andThen,AV.val,Lf.val,ep,ha,Pa.off]
    ·exact au.none
   ·exact au.none
  ·exact au.none
 ·exact au.none
def F8(Θ:Tb)(ex:Option Bool)(t:TypeId)(h:Nat)(s:SC)(i:Int)(F:List AF)(k:Out->Option R):Option R:=match Θ t,iI (.sc s) F (.sl h)with
 |some ⟨.arr m e,sz,_,_,_⟩,some q=>bif Nat.beq sz m&&Nat.ble 1 m then gchk ex (decide (0<=i/\i+m<=q.xs.length)) (k (bk (.lf (.ar m s ((q.xs.drop i.toNat).take m)))))else none
 |_,_=>none
theorem WF(hΘ:Θ.ok P){t:TypeId}{s:SC}(ho:o.op=.load t x)(h1:ev E x=some (.lf (.rp h (.sc s) i (.sc s) .here)))(k:Out->Option R):au ex P o E F n (F8 Θ ex t h s i F k) k:=by
 unfold F8;split
 ·rename_i m e sz _ _ _ q ht hq;refine au.bif λhc=>au.gchk λhb=>au.of λhx=>dB.pure λη ρ hE ev w c hev hL=>?_
  subst hev;simp only[aas]at hc;have hm:=aaA hc.2;have hsz:=amb hc.1;obtain⟨hb0,hb1⟩:=abh (hb hx);have e1:=aN hE h1;simp only[AV.val,Lf.val,Pa.off,acU]at e1;obtain⟨g1,g2,_,_⟩:=hΘ t _ ht;obtain⟨inf,hi,_,hsz',_⟩:=TI.get g1;obtain⟨ys,hr,hn,hle,_,hcc⟩:=jk hq hL;simp only[Lf.hd]at hn hcc hle;rcases hcc with⟨_,h0⟩|⟨b,off,arr,tt,fz,ha,_,hbb,hfit,hcl⟩
  ·omega
  ·have hp:ep (η.h h) (i.toNat*1)=⟨b,off+i.toNat,none⟩:=by simp[ep,ha]
   rw[show(TC.sc s).ty.sz=1 from rfl]at e1 hcl hfit;rw[hp]at e1;rw[zB s hr.length,afD]at hcl;have hcs:(arr.toList.drop (off+i.toNat)).take m=((q.xs.drop i.toNat).take m).map s.val:=by rw[ahH,al4,<-hcl,ae2,aec,aey];congr 1;omega
   have hl:(((q.xs.drop i.toNat).take m).map s.val).length=inf.size:=by rw[hsz',show(TInf.sz _)=sz from rfl,hsz];simp;omega
   have hfill:(TC.arr m s).ty.fill ((q.xs.drop i.toNat).take m) ()=((q.xs.drop i.toNat).take m).map s.val:=by
    have hl':((q.xs.drop i.toNat).take m).length=m:=by simp;omega
    generalize(q.xs.drop i.toNat).take m=xs at hl';simp only[Ty.fill];apply ac7;intro j;by_cases hj:j<m
    ·simp[hj,hl']
    ·simp[hj,hl']
   simp[execOp,ho,e1,tX g2 rfl hi hbb (cs:=((q.xs.drop i.toNat).take m).map s.val) (off:=off+i.toNat) (by rw[hsz',<-hcs];rw[show(TInf.sz _)=sz from rfl,hsz]) hl,Result.andThen,AV.val,Lf.val,hfill]
 ·exact au.none
def cU(l:List UInt8):List Int:=l.map λb=>(b.toNat:Int)
def jq(m:Nat)(xs:List Int)(lo hi:Int)(l:List UInt8):List Int:=
 (fV m (0:Int) xs).take lo.toNat++(cU l).take (min (hi-lo).toNat l.length)++(fV m (0:Int) xs).drop (lo.toNat+min (hi-lo).toNat l.length)
theorem YK(w:World)(l:List UInt8)(k:Nat):(Builtin.firstCells 1 k (.string ⟨l.toArray⟩)).run P w=.ok (((cU l).take k).map λx=>Value.int .u8 x).toArray w:=by simp only[Builtin.firstCells,Sem.run_pure,Result.ok.injEq,alw];apply alh;rw[Array.toList_map,ByteArray.data_extract,Array.toList_extract];simp[cU,List.extract_eq_drop_take,ahH,Function.comp_def]
theorem LV{w:World}{t u e:TypeId}{b o n cap:Nat}{ad:Option Addr}{cur:List Value}{tt ty:TypeId}{l:List UInt8}(hu:P.underlying t=some (.slice e))(hs:(P.info? e).map (·.size)=some 1)(hb:w.heap[b]?=some (.cells cur.toArray tt (0,0)))
  (had:0<n->ad=some ⟨b,o,none⟩) (hfit:o+n<=cur.length):(Builtin.copy_ #[t,u] ty #[.slice ad n cap,.string ⟨l.toArray⟩]).run P w=.ok (.int .i64 ((min n l.length:Nat):Int)) (w.setRow b (cur.take o++((cU l).take (min n l.length)).map (λx=>Value.int .u8 x)++cur.drop (o+min n l.length)).toArray):=by
 have hsz:(⟨l.toArray⟩:ByteArray).size=l.length:=rfl;have hfc:=YK (P:=P) w l (min n l.length);cases hq:P.info? e with
 |none=>simp[hq]at hs
 | some i=>
  have hi:i.size=1:=by simpa[hq]using hs
  have hvs:(((cU l).take (min n l.length)).map λx=>Value.int .u8 x).length=min n l.length:=by simp[cU]
  generalize hv:((cU l).take (min n l.length)).map (λx=>Value.int .u8 x)=vs at *;have hmin:Nat.min l.length n=min n l.length:=Nat.min_comm _ _;by_cases hn:0<n
  ·rw[had hn];have hst:=run_storeCells_at P b o tt vs 0 cur.toArray w hb (by simp;omega) (λv hvv=>by rw[<-hv]at hvv;obtain⟨x,_,rfl⟩:=aaG.1 hvv;rfl);simp only[acU,List.toList_toArray,hvs]at hst;simp[Builtin.copy_,run_underlying hu,Builtin.lenOf,sizeOf,typeInfo,hq,hi,hsz,hmin,hfc,hst,Result.andThen,goInt]
  ·have h0:min n l.length=0:=by omega
   rw[h0]at hvs hfc hmin;obtain rfl:=List.length_eq_zero_iff.1 hvs;have hself:w.setRow b (cur.take o++[]++cur.drop (o+0)).toArray=w:=by have:=setRow_self w b cur.toArray tt (0,0) hb;simpa using this
   rw[h0,hself];cases ad<;>simp[Builtin.copy_,run_underlying hu,Builtin.lenOf,sizeOf,typeInfo,hq,hi,hsz,hmin,hfc,Result.andThen,goInt,storeCells]
def NH(Θ:Tb)(ex:Option Bool)(t:TypeId)(d:Nat)(l:List UInt8)(F:List AF)(k:Out->Option R):Option R:=match Θ t,Pl d F with
 | some ⟨.slice e,_,_,_,_⟩,some (b,off,lo,hi)=>match Θ e,kJ b F with
  |some ie,some (ci,cs)=>match ml cs off with
   |some (a,.ar m (.int .u8) xs::r)=>bif Nat.beq ie.sz 1 then gchk ex (decide (lo<=hi/\hi<=m)) (k ⟨f8 .i64 ((min (hi-lo).toNat l.length:Nat):Int),[.box ci b (a++.ar m (.int .u8) (jq m xs lo hi l)::r)],[ci]⟩)else none
   |_=>none
  |_,_=>none
 |_,_=>none
theorem Qc(m:Nat)(xs:List Int):(TC.arr m (.int .u8)).ty.fill xs ()=(fV m (0:Int) xs).map λx=>Value.int .u8 x:=by simp[TC.ty,Ty.fill,fV,Function.comp_def]
theorem acy{m:Nat}{xs:List Int}(h:xs.length=m):fV m (0:Int) xs=xs:=by
 apply ac7;intro j;unfold fV;by_cases hj:j<m
 ·simp[hj,h]
 ·simp[hj,h]
theorem ZU(hΘ:Θ.ok P){t:TypeId}{l:List UInt8}(ho:o.op=.call { callee:=.builtin .copy,args:=#[x,y],argTypes:=#[t,t']})(h1:ev E x=some (.lf (.sl d)))(h2:ev E y=some (.lf (.c .str l)))(k:Out->Option R) :
  au ex P o E F n (NH Θ ex t d l F k) k:=by
 unfold NH;split
 ·rename_i e _ _ _ _ b off lo hi ht hp;split
  ·rename_i ie ci cs he hbx;split
   ·rename_i a m xs r hcut;refine au.bif λhsz=>au.gchk λhb=>au.of λhx η ρ hE=>?_
    intro act ev w c next Q ha hL hn
    obtain⟨hlh,hhm⟩:=abh (hb hx);have e1:=aN hE h1;have e2:=aN hE h2;simp only[AV.val,Lf.val]at e1 e2;obtain⟨ea,la⟩:=jf hcut;have la:=la η;obtain⟨⟨ty,hbb⟩,hc⟩:=uT hbx hL;obtain⟨h0,hdn,hpt⟩:nM (η.h d) ⟨some ⟨η.b b,off,none⟩,0,0⟩ 1 lo hi:=hL _ (aaG.2 ⟨_,agb hp,rfl⟩);have hcells:ay η cs=ay η a++((fV m (0:Int) xs).map λx=>Value.int .u8 x)++ay η r:=by rw[ea,bd];simp only[ay,Lf.cells,aaW];exact aba (λu=>ay η a++(u++ay η r)) (Qc m xs)
    have hpl:(fV m (0:Int) xs).length=m:=by simp[fV]
    obtain⟨q,hq⟩:∃q,q=min (hi-lo).toNat l.length:=⟨_,rfl⟩
    have hbl:(cU l).length=l.length:=by simp[cU]
    have hti:=(hΘ e ie he).1;obtain⟨inf,hi',_,hsz',_⟩:=hti.get;have hn':(η.h d).n=(hi-lo).toNat:=by omega
    have hrun:=LV (P:=P) (w:=w) (t:=t) (u:=t') (e:=e) (b:=η.b b) (o:=off+lo.toNat) (n:=(η.h d).n) (cap:=(η.h d).cap) (ad:=(η.h d).a) (ty:=o.type) (l:=l) (hΘ t _ ht).2.1 (by rw[hi',alR,hsz',amb hsz]) hbb
     (λhpos=>by
      obtain⟨b',o',ha',hp'⟩:=hpt (by omega);simp[ep]at hp';rw[ha',<-hp'.1,<-hp'.2])
     (by rw[hcells];simp[la,hpl];omega)
    rw[hn',<-hq]at hrun;have hnew:(ay η cs).take (off+lo.toNat)++((cU l).take q).map (λx=>Value.int .u8 x)++(ay η cs).drop (off+lo.toNat+q)=ay η (a++.ar m (.int .u8) (jq m xs lo hi l)::r):=by
     have hcl:(jq m xs lo hi l).length=m:=by simp[jq,hpl,hbl];omega
     have hf:=Qc m (jq m xs lo hi l);rw[acy hcl]at hf;rw[bd];simp only[ay,Lf.cells];refine Eq.trans ?_ (aba (λu=>ay η a++(u++ay η r)) hf.symm);rw[hcells];unfold jq;rw[<-hq,aaW (ay η a),ads,acB,la,ab4 (by omega),acj (as:=ay η a) (by omega),
      show off+lo.toNat-off=lo.toNat by omega,show off+lo.toNat+q-off=lo.toNat+q by omega,agl (by simp[hpl];omega),List.drop_append_of_le_length (by simp[hpl];omega)]
     simp only[acw,ahH,al4,aaW,acG]
    rw[hnew]at hrun;have hex:(execOp ev o).run P w=.ok (.value (.int .i64 (q:Int))) (w.setRow (η.b b) (ay η (a++.ar m (.int .u8) (jq m xs lo hi l)::r)).toArray):=by subst ha;simp[execOp,ho,e1,e2,resolve,invoke,builtin,Hd.val,hn',hrun,Result.andThen,SC.val]
    rw[hex,hq];refine hn ⟨η,Vn.agr_refl n η⟩ _ c (ry hc) (aq.cons ⟨⟨ty,setRow_heap w _ _ _ ty (0,0) hbb⟩,hc⟩ (aq.nil _ _))
   ·exact au.none
  ·exact au.none
 ·exact au.none
def Ly(Θ:Tb)(ex:Option Bool)(t:TypeId)(h:Nat):(te:TC)->Int->(u:TC)->Pa te u->List AF->(Out->Option R)->Option R->Option R
 |.sc s,i,_,.here,F,k,alt=>match Θ t with
  |some ⟨.arr _ _,_,_,_,_⟩=>F8 Θ ex t h s i F k
  |_=>alt
 |_,_,_,_,_,_,alt=>alt
theorem Za(hΘ:Θ.ok P){t:TypeId}{te:TC}{u:TC}{p:Pa te u}(ho:o.op=.load t x)(h1:ev E x=some (.lf (.rp h te i u p)))(k:Out->Option R){alt:Option R}(ha:au ex P o E F n alt k):au ex P o E F n (Ly Θ ex t h te i u p F k alt) k:=by
 unfold Ly;split
 ·split
  ·exact WF hΘ ho h1 k
  ·exact ha
 ·exact ha
end
end
section
variable [X:XTab] [G:GTab]
def Pa.flat : {t u:TC}->Pa t u->Bool
 |_,_,.here=>true
 |_,_,.fst p=>p.flat
 |_,_,.snd p=>p.flat
 |_,_,.inn p=>p.flat
 |_,_,.nd _=>false
 |_,_,.el _=>false
theorem xP : {t u:TC}->(p:Pa t u)->p.flat=true->u.ty.pureB=true->(x:t.den)->(y:u.den)->(yo:t.ty.Refs)->(r:u.ty.Refs) ->
  ∃A M B,t.ty.fill x yo=A++M++B/\A.length=p.off/\M.length=u.ty.sz/\t.ty.fill (p.put x y) yo=A++u.ty.fill y r++B
 |t,_,.here,_,hp,x,y,yo,r=>⟨[],t.ty.fill x yo,[],by simp,rfl,Ty.fill_length _ _ _,by simp only[Pa.put,acG,abd];exact oY t.ty hp y yo r⟩
 |_,_,@Pa.fst a b u p,hf,hp,x,y,yo,r=>by
  obtain⟨A,M,B,h1,h2,h3,h4⟩:=xP p hf hp x.1 y yo.1 r;refine⟨A,M,B++b.ty.fill x.2 yo.2,?_,h2,h3,?_⟩
  ·show a.ty.fill x.1 yo.1++b.ty.fill x.2 yo.2=_;grind
  ·show a.ty.fill (p.put x.1 y) yo.1++b.ty.fill x.2 yo.2=_;grind
 |_,_,@Pa.snd a b u p,hf,hp,x,y,yo,r=>by
  obtain⟨A,M,B,h1,h2,h3,h4⟩:=xP p hf hp x.2 y yo.2 r;refine⟨a.ty.fill x.1 yo.1++A,M,B,?_,?_,h3,?_⟩
  ·show a.ty.fill x.1 yo.1++b.ty.fill x.2 yo.2=_;grind
  ·rw[aaL,Ty.fill_length,h2];rfl
  ·show a.ty.fill x.1 yo.1++b.ty.fill (p.put x.2 y) yo.2=_;grind
 |_,_,.inn p,hf,hp,x,y,yo,r=>xP p hf hp x y yo r
theorem BR{w:World}{S:Nat->Prop}{d:Nat->List Nat} : {t u:TC}->(p:Pa t u)->p.flat=true->u.ty.pureB=true->(x:t.den)->(y:u.den)->(ε:EI)->(π:List Nat)->(yo:t.ty.Refs)->bI w S d t.ty ε π x yo->bI w S d t.ty ε π (p.put x y) yo
 |_,_,.here,_,hp,_,y,ε,π,yo,_=>tK _ ε π y yo hp
 |_,_,.fst p,hf,hp,x,y,ε,π,yo,h=>⟨BR p hf hp x.1 y _ _ yo.1 h.1,h.2⟩
 |_,_,.snd p,hf,hp,x,y,ε,π,yo,h=>⟨h.1,BR p hf hp x.2 y _ _ yo.2 h.2⟩
 |_,_,.inn p,hf,hp,x,y,ε,π,yo,h=>BR p hf hp x y ε π yo h
section
variable {R:Type} {P:Program} {o:Oper} {E:SE} {F:List AF} {n:Nat} {Θ:Tb} {ex:Option Bool}
def GV(Θ:Tb)(ex:Option Bool)(t:TypeId)(h:Nat)(te:TC)(i:Int)(u:TC)(p:Pa te u)(v:AV)(F:List AF)(k:Out->Option R)(alt:Option R):Option R:=match Θ t,mG te h F,v.lvs with
 |some inf,some ⟨some (e,ci),K,xs⟩,some ls=>match fQ e&&p.flat&&u.ty.pureB,co F u ls with
  |true,some (y,_,_,[])=>bif Nat.beq inf.sz u.ty.sz then gbind ex te.dft (ac xs i) λx=>k ⟨.lf (.v undef),[.own te e ci K (xs.set i.toNat (p.put x y)) h],[ci]⟩else none
  |_,_=>alt
 |_,_,_=>alt
theorem U3(hΘ:Θ.ok P){t:TypeId}{z:Operand}{te:TC}{u:TC}{p:Pa te u}{v:AV}(ho:o.op=.store t x z)(h1:ev E x=some (.lf (.rp h te i u p)))(h2:ev E z=some v)(k:Out->Option R){alt:Option R}(halt:au ex P o E F n alt k) :
  au ex P o E F n (GV Θ ex t h te i u p v F k alt) k:=by
 unfold GV;split
 ·rename_i inf e ci K xs ls hi hs hl;split
  ·rename_i y l Kd hg hd;refine au.bif λhsz=>au.gbind λd hdv=>au.of λhx η ρ hE=>?_
   simp only[aas]at hg;obtain⟨⟨htr,hfl⟩,hp⟩:=hg;have hsz:=amb hsz;obtain⟨g1,_⟩:=hΘ t inf hi;obtain⟨i1,i2,i3⟩:=nD (hdv hx);have hm:(ee te.ty e ci K xs (η.h h))∈F.map (AF.ha η):=aaG.2 ⟨_,gj hs,rfl⟩;rw[jB htr]at hm;obtain⟨j,hj⟩:=List.getElem?_of_mem hm;have hcl:=(dX (η:=η) u hd).1;simp only[ay,abd]at hcl;have hlen:(ay η ls).length=u.ty.sz:=by rw[hcl];exact Ty.fill_length _ _ _
   have hoff:p.off+(ay η ls).length<=te.ty.sz:=by obtain⟨A,M,B,q1,q2,q3,_⟩:=xP p hfl hp d y (aP te []) (aP u []);have:=aba List.length q1;rw[Ty.fill_length]at this;grind
   have hp':aS ρ x=.pointer (some (ep (η.h h) (i.toNat*te.ty.sz+p.off))):=aN hE h1;refine(P1 (L:=F.map (AF.ha η)) j hj ho g1 hp' (aN hE h2) (v.lvs_cells hl η) (by grind) (aaB.2 (ou (AV.lvs_one hl))) hoff i2 (xn:=p.put d y) (λyo=>?_) (λw S dd ε π yo hT=>BR p hfl hp d y ε π yo hT)).map (λ_=>⟨η,Vn.agr_refl n η⟩) (λ_=>rfl) (λ_=>by simp[AF.ha,jB htr]);obtain⟨A,M,B,q1,q2,q3,q4⟩:=xP p hfl hp d y yo (aP u (aZ η l));rw[q4,q1,hcl,<-q2];grind
  ·exact halt
 ·exact halt
end
end
end Go.Sm
