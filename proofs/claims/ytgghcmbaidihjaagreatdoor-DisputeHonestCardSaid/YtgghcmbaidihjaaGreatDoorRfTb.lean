/- Laws for the row. No condition. -/
import Derived.Test.YtgghcmbaidihjaaGreatDoorRfHc
import Derived.RangeFuncSeq
import Derived.Test.YtgghcmbaidihjaaGreatDoorSimR
import Derived.Laws.CopyRow
namespace Go.Sm
set_option linter.unusedSectionVars false
section
variable [X:XTab] [G:GTab] [Yc:GCx]
def ahC(P:Program)(f:FuncId)(vs:List AV)(F:List AF)(n:Nat)(u:Out):Prop:=∀(η:Vn) (w:World) (c:aS),aj w c (F.map (AF.ha η)++eV) ->
 Calls P f (AV.vals η vs).toArray w (λe w'=>∃(y : { η':Vn//η.agr n η'}) (c':aS),e=.returned (u.av.val y.1)/\Stp u.κ w c w' c'/\aj w' c' (u.fs.map (AF.ha y.1)))
structure Inl where
 rw_:Bool
 run : {R:Type}->(ex:Option Bool)->(n N:Nat)->List AV->List AF->(Out->Option R)->Option R
def Inl.sound(P:Program)(f:FuncId)(J:Inl):Prop:=
 (∃fn cd,P.funcs[f]?=some fn/\fn.body=some cd/\(fn.name == "runtime.NumGoroutine")=false) /\
 ∀{R:Type} (ex:Option Bool) (n N:Nat) (vs:List AV) (F:List AF) (k:Out->Option R) (r:R),J.run ex n N vs F k=some r->∃u,k u=some r/\(fH ex->ahC P f vs F n u)
def aqn(P:Program)(vs:List AV)(F:List AF)(n:Nat)(u:Out):Prop:=∀(η:Vn) (w:World) (c:aS),aj w c (F.map (AF.ha η)++eV) ->
 YieldAt Fence.wide 0 P Yc.l (AV.vals η vs).toArray w (λe w'=>∃(y : { η':Vn//η.agr n η'}) (c':aS),e=.returned (u.av.val y.1)/\Stp u.κ w c w' c'/\aj w' c' (u.fs.map (AF.ha y.1)))
def Inl.yields(P:Program)(J:Inl):Prop:=∀{R:Type} (ex:Option Bool) (n N:Nat) (vs:List AV) (F:List AF) (k:Out->Option R) (r:R),J.run ex n N vs F k=some r->∃u,k u=some r/\(fH ex->aqn P vs F n u)
abbrev It:=FuncId->Option Inl
def It.ok(I:It)(P:Program):Prop:=∀f J,I f=some J->J.sound P f
section
variable {R:Type} {P:Program} {o:Oper} {E:SE} {F:List AF} {n:Nat} {ex:Option Bool}
theorem M1{η:Vn}:∀(a b:List AV),AV.vals η (a++b)=AV.vals η a++AV.vals η b
 |[],b=>rfl
 |v::r,b=>by simp only[acI,AV.vals,M1 r b]
theorem Cg{η:Vn}{v0:AV}{f:FuncId}{cap:List AV}(h:pE v0=some (f,cap)):v0.val η=.func (.func f) #[] (AV.vals η cap).toArray:=by unfold pE at h;split at h;all_goals first|(simp only[no,ZC]at h;rw[<-h.1,<-h.2];simp only[AV.val,Lf.val,Fl];done)|(simp only[no,ZC]at h;rw[<-h.1,<-h.2];rfl)|cases h
theorem Pm{J:Inl}{f:FuncId}(hJ:J.sound P f){N:Nat}{x0:Operand}{v0:AV}{xs:Array Operand}{ts:Array TypeId}{vs cap:List AV}(ho:o.op=.call { callee:=.value x0,args:=xs,argTypes:=ts})(h0:ev E x0=some v0)(hv0:pE v0=some (f,cap))(hvs:wY E xs.toList=some vs)(k:Out->Option R) :
  aq ex P o E F n (J.run ex n N (vs++cap) F k) k:=by
 intro r hr;obtain⟨⟨fn,cd,hf,hb,hname⟩,hs⟩:=hJ;obtain⟨u,hu,hx⟩:=hs ex n N _ F k r hr;refine⟨u,hu,λhe η ρ hE a ev w c next Q ha hL hk=>?_⟩;have hn':¬fn.name = "runtime.NumGoroutine" := by grind
 have hargs:xs.map (aJ ρ)++(AV.vals η cap).toArray=(AV.vals η (vs++cap)).toArray:=aj9 (by simp[DR hE hvs,M1]);have hcv:aJ ρ x0=.func (.func f) #[] (AV.vals η cap).toArray:=by rw[aH hE h0,Cg hv0]
 have hrun:(execOp ev o).run P w=.ok (.enter f (AV.vals η (vs++cap)).toArray) w:=by rw[<-hargs];simp[execOp,ho,resolve,ha,hcv,Deferred.ofValue,invoke,callFunc,hf,hb,hn',Result.andThen]
 rw[hrun,Oper.uponIn_enter];refine⟨λh=>(by cases h),callsIn_wide.2 ?_⟩;refine(hx he η w c hL).mono ?_;rintro e w' ⟨y,c',rfl,hst,hH⟩;grind
theorem akb{J:Inl}(hJ:J.yields P){N:Nat}{x0:Operand}{xs:Array Operand}{ts:Array TypeId}{vs:List AV}(ho:o.op=.call { callee:=.value x0,args:=xs,argTypes:=ts})(h0:ev E x0=some (.lf .yl))(hvs:wY E xs.toList=some vs)(k:Out->Option R) :
  aq ex P o E F n (J.run ex n N vs F k) k:=by
 intro r hr;obtain⟨u,hu,hx⟩:=hJ ex n N _ F k r hr;refine⟨u,hu,λhe η ρ hE a ev w c next Q ha hL hk=>?_⟩;have hargs:xs.map (aJ ρ)=(AV.vals η vs).toArray:=aj9 (by simp[DR hE hvs]);have hcv:aJ ρ x0=.func (.yield Yc.l) #[] #[]:=aH hE h0;obtain⟨fn,tmps,asg,body,hy,hR⟩:=hx he η w c hL;have hrun:(execOp ev o).run P w=.ok (.round Yc.l fn tmps asg body) w:=by rw[<-hargs]at hy;simp[execOp,ho,resolve,ha,hcv,Deferred.ofValue,invoke,hy,Result.andThen]
 rw[hrun,Oper.uponIn_round];refine⟨λh=>(by cases h),hR.mono ?_⟩;rintro e w' ⟨y,c',rfl,hst,hH⟩;grind
def Kr(Yh:Option Inl)(I:It)(Γ:Ct)(D:List DCtr)(E:SE)(ex:Option Bool)(n N:Nat)(v0:AV)(xs:List Operand)(F:List AF)(k:Out->Option R):Option R:=match v0 with
 | .lf (.fn f)=>match I f with
  |some J=>match wY E xs with
   |some vs=>J.run ex n N (vs++[]) F k
   |none=>none
  |none=>Dw Γ D E ex n N v0 xs F k
 | .lf (.clo f bs)=>match I f with
  |some J=>match wY E xs with
   |some vs=>J.run ex n N (vs++bs.map λb=>.lf (.bp b 0)) F k
   |none=>none
  |none=>Dw Γ D E ex n N v0 xs F k
 | .lf .yl=>match Yh with
  |some J=>match wY E xs with
   |some vs=>J.run ex n N vs F k
   |none=>none
  |none=>none
 |v0=>Dw Γ D E ex n N v0 xs F k
theorem XU{Yh:Option Inl}(hY:∀J,Yh=some J->J.yields P){I:It}(hI:I.ok P){Γ:Ct}(hΓ:Γ.ok P){D:List DCtr}(hD:∀C∈D,DCtr.sound P C){N:Nat}{v0:AV}{x0:Operand}{xs:Array Operand}{ts:Array TypeId}(ho:o.op=.call { callee:=.value x0,args:=xs,argTypes:=ts})(h0:ev E x0=some v0)(k:Out->Option R) :
  aq ex P o E F n (Kr Yh I Γ D E ex n N v0 xs.toList F k) k:=by
 unfold Kr;split
 ·rename_i f;split
  ·rename_i J hJ;split
   ·rename_i vs hvs;exact Pm (hI f J hJ) ho h0 rfl hvs k
   ·exact aq.none
  ·exact De hΓ hD ho h0 k
 ·rename_i f bs;split
  ·rename_i J hJ;split
   ·rename_i vs hvs;exact Pm (hI f J hJ) ho h0 rfl hvs k
   ·exact aq.none
  ·exact De hΓ hD ho h0 k
 ·cases Yh with
  |none=>exact aq.none
  |some J=>
   dsimp only;split
   ·rename_i vs hvs;exact akb (hY J rfl) ho h0 hvs k
   ·exact aq.none
 ·exact De hΓ hD ho h0 k
end
end
section
variable [X:XTab] [G:GTab] [Yc:GCx]
def TC.eqD:(t:TC)->t.den->t.den->Bool
 |.sc (.int _),a,b=>(show Int from a)==(show Int from b)
 |.sc .bool,a,b=>(show Bool from a)==(show Bool from b)
 |.sc .str,a,b=>(show List UInt8 from a)==(show List UInt8 from b)
 |.pair a b,x,y=>a.eqD x.1 y.1&&b.eqD x.2 y.2
 |_,_,_=>false
def cZ(k v:TC)(x:k.den)(xs:List (k.den×v.den)):Option v.den:=(xs.find? λp=>k.eqD x p.1).map (·.2)
def cF(k v:TC)(x:k.den)(y:v.den)(xs:List (k.den×v.den)):List (k.den×v.den):=yR (λp=>k.eqD x p.1) (x,y) xs
def DP(Θ:Tb)(t:TypeId)(s:SC):Bool:=match Θ t,s with
 |some ⟨.int k,_,_,_,_⟩,.int k'=>decide (k'=k)
 |some ⟨.bool,_,_,_,_⟩,.bool=>true
 |some ⟨.str,_,_,_,_⟩,.str=>true
 |_,_=>false
def dC(Θ:Tb):List (TypeId×Nat)->TC->Nat->Bool
 |[(ft,off)],.sc s,pos=>Nat.beq off pos&&DP Θ ft s
 |(ft,off)::f2::fs,.pair (.sc s) b,pos=>Nat.beq off pos&&DP Θ ft s&&dC Θ (f2::fs) b (pos+1)
 |_,_,_=>false
theorem Gb{Θ:Tb}{ft:TypeId}{off pos:Nat}{s:SC}{x y:s.den}{fs:List (TypeId×Nat)}{r r':List Lf}{e:Bool}(h1:Nat.beq off pos=true)(h2:DP Θ ft s=true)(hr:mW Θ fs r r' (pos+1)=some e):mW Θ ((ft,off)::fs) (.c s x::r) (.c s y::r') pos=some ((TC.sc s).eqD x y&&e):=by
 obtain rfl:=f9 h1;unfold DP at h2;split at h2
 ·grind[mW,TC.eqD]
 ·grind[mW,TC.eqD]
 ·grind[mW,TC.eqD]
 ·cases h2
theorem Ki{Θ:Tb}:∀{k:TC} {fs:List (TypeId×Nat)} {pos:Nat} {x y:k.den} {n:Nat},dC Θ fs k pos=true->mW Θ fs (iG k x n) (iG k y n) pos=some (k.eqD x y)
 |.sc s,[(ft,off)],pos,x,y,n,h=>by simp only[dC,Y5]at h;have:=Gb (Θ:=Θ) (x:=x) (y:=y) (fs:=[]) (r:=[]) (r':=[]) (e:=true) h.1 h.2 (by simp[mW]);rw[ahn]at this;exact this
 |.pair (.sc s) b,(ft,off)::f2::fs,pos,x,y,n,h=>by rw[dC,Y5,Y5]at h;exact Gb (x:=x.1) (y:=y.1) h.1.1 h.1.2 (Ki (k:=b) (x:=x.2) (y:=y.2) (n:=n+(TC.sc s).nh) h.2)
 |.sc s,[],_,_,_,_,h=>by simp[dC]at h
 |.sc s,_::_::_,_,_,_,_,h=>by simp[dC]at h
 |.pair (.sc s) b,[],_,_,_,_,h=>by simp[dC]at h
 |.pair (.sc s) b,[_],_,_,_,_,h=>by simp[dC]at h
 |.pair (.arr _ _) b,fs,_,_,_,_,h=>by rcases fs with _|⟨_,_|_⟩<;>simp[dC]at h
 |.pair .unit b,fs,_,_,_,_,h=>by rcases fs with _|⟨_,_|_⟩<;>simp[dC]at h
 |.pair (.pair _ _) b,fs,_,_,_,_,h=>by rcases fs with _|⟨_,_|_⟩<;>simp[dC]at h
 |.pair (.slice _) b,fs,_,_,_,_,h=>by rcases fs with _|⟨_,_|_⟩<;>simp[dC]at h
 |.pair (.st _) b,fs,_,_,_,_,h=>by rcases fs with _|⟨_,_|_⟩<;>simp[dC]at h
 |.pair (.ext _) b,fs,_,_,_,_,h=>by rcases fs with _|⟨_,_|_⟩<;>simp[dC]at h
 |.pair .node b,fs,_,_,_,_,h=>by rcases fs with _|⟨_,_|_⟩<;>simp[dC]at h
 |.pair (.mp _ _) b,fs,_,_,_,_,h=>by rcases fs with _|⟨_,_|_⟩<;>simp[dC]at h
 |.arr _ _,fs,_,_,_,_,h=>by rcases fs with _|⟨_,_|_⟩<;>simp[dC]at h
 |.unit,fs,_,_,_,_,h=>by rcases fs with _|⟨_,_|_⟩<;>simp[dC]at h
 |.slice _,fs,_,_,_,_,h=>by rcases fs with _|⟨_,_|_⟩<;>simp[dC]at h
 |.st _,fs,_,_,_,_,h=>by rcases fs with _|⟨_,_|_⟩<;>simp[dC]at h
 |.ext _,fs,_,_,_,_,h=>by rcases fs with _|⟨_,_|_⟩<;>simp[dC]at h
 |.node,fs,_,_,_,_,h=>by rcases fs with _|⟨_,_|_⟩<;>simp[dC]at h
 |.mp _ _,fs,_,_,_,_,h=>by rcases fs with _|⟨_,_|_⟩<;>simp[dC]at h
theorem MO:∀{k:TC} {x y:k.den},k.eqD x y=true->x=y
 |.sc (.int _),x,y,h=>by simpa[TC.eqD]using h
 |.sc .bool,x,y,h=>by simpa[TC.eqD]using h
 |.sc .str,x,y,h=>by simpa[TC.eqD]using h
 |.sc .fnc,_,_,h=>by cases h
 |.pair a b,x,y,h=>by simp only[TC.eqD,Y5]at h;exact Prod.ext (MO h.1) (MO h.2)
 |.arr _ _,_,_,h=>by cases h
 |.unit,_,_,h=>by cases h
 |.slice _,_,_,h=>by cases h
 |.st _,_,_,h=>by cases h
 |.ext _,_,_,h=>by cases h
 |.node,_,_,h=>by cases h
 |.mp _ _,_,_,h=>by cases h
section
variable {R:Type} {P:Program} {o:Oper} {E:SE} {F:List AF} {n:Nat} {Θ:Tb} {ex:Option Bool}
theorem apb(hΘ:Θ.ok P){t:TypeId}{s:SC}(h:DP Θ t s=true)(x:s.den):∃D,P.underlying t=some D/\jF D=false/\MapKept.IsKey D (s.val x):=by
 unfold DP at h;split at h
 ·rename_i k _ _ _ _ k' hi;have hfit:=(hΘ t _ hi).2.1;obtain rfl:=aaq h;exact⟨_,hfit,rfl,rfl⟩
 ·rename_i hi;exact⟨_,(hΘ t _ hi).2.1,rfl,trivial⟩
 ·rename_i hi;exact⟨_,(hΘ t _ hi).2.1,rfl,trivial⟩
 ·cases h
abbrev Un(em:Bool)(d:Nat)(xs:Array Value)(f:Field):Sem (ForInStep PUnit):=if f.name ≠ "_" then do
  let v<-part f.type xs f.offset
  Instr.checkKey em (d+1) f.type v
  pure (ForInStep.yield PUnit.unit)
 else pure (ForInStep.yield PUnit.unit)
theorem ajg(hΘ:Θ.ok P){w:World}{η:Vn}{xs:Array Value}{em:Bool}{d:Nat}:∀{fl:List Field} {fs:List (TypeId×Nat)} {k:TC} {x:k.den} {n pos:Nat},fl.map (λf=>(f.type,f.offset))=fs->fl.all (λf=>!(f.name == "_"))=true->dC Θ fs k pos=true ->
  (∀j,xs[pos+j]?=(au η (iG k x n))[j]?)->(forIn fl PUnit.unit λf (_:PUnit)=>(Un em d xs f)).run P w=.ok () w:=by
 have one:∀{f:Field} {fl:List Field} {s:SC} {x:s.den} {pos:Nat},(f.name == "_")=false->Nat.beq f.offset pos=true->DP Θ f.type s=true->xs[pos]?=some (s.val x) ->
   (forIn fl PUnit.unit λf (_:PUnit)=>(Un em d xs f)).run P w=.ok () w ->
   (forIn (f::fl) PUnit.unit λf (_:PUnit)=>(Un em d xs f)).run P w=.ok () w:=by
  intro f fl s x pos hn ho hs hx ih;obtain⟨D,hu,hag,hk⟩:=apb hΘ hs x;have hn':¬f.name = "_" := by simpa using hn
  have p1:(part f.type xs f.offset).run P w=.ok (s.val x) w:=by simp[part,j9 hu hag,f9 ho,hx,Result.andThen]
  have p2:(Instr.checkKey em (d+1) f.type (s.val x)).run P w=.ok () w:=MapKept.run_checkKey hu hk em d;simp_all
 intro fl;induction fl with
 |nil=>simp_all
 | cons f fl ih=>
  intro fs k x n pos hm hn h hx;simp only[aas]at hm;subst hm;simp only[acw,Y5,abc]at hn;cases fl with
  |nil=>
   cases k<;>simp only[ad5,dC]at h<;>try cases h
   rename_i s;simp only[Y5]at h;have h0:=hx 0;simp only[abj,iG,au,Lf.cells,acI,acM]at h0;exact one hn.1 h.1 h.2 h0 (by simp_all)
  |cons f2 fl=>
   cases k<;>simp only[aas,dC]at h<;>try cases h
   rename_i a b;cases a<;>simp only[dC]at h<;>try cases h
   rename_i s;rw[Y5,Y5]at h;have h0:=hx 0;simp only[abj,iG,au,Lf.cells,acI,acM]at h0;refine one hn.1 h.1.1 h.1.2 h0 (ih (k:=b) (x:=x.2) (n:=n+0) (pos:=pos+1) rfl hn.2 h.2 λj=>?_);have:=hx (j+1);rw[show pos+(j+1)=pos+1+j by omega]at this;simpa[iG,au,Lf.cells,TC.nh]using this
theorem Cc(n:Nat)(s:SC)(x:s.den)(h:s≠.fnc):Instr.sameBits n (s.val x) (s.val x)=true:=by
 cases s with
 |int k=>simp[SC.val,Instr.sameBits]
 |bool=>simp[SC.val,Instr.sameBits]
 |str=>
  grind[Instr.sameBits,MapKept.bytes_beq]
 |fnc=>grind
theorem NE{η:Vn}{m:Nat}:∀{k:TC} {fs:List (TypeId×Nat)} {pos n:Nat} {x:k.den},dC Θ fs k pos=true->∀v∈au η (iG k x n),Instr.sameBits m v v=true:=by
 have ne:∀{t:TypeId} {s:SC},DP Θ t s=true->s≠.fnc:=by intro t s h e;subst e;unfold DP at h;grind
 intro k;induction k with
 |sc s=>
  intro fs pos n x h v hv;rcases fs with _|⟨⟨ft,off⟩,_|_⟩<;>simp only[dC]at h<;>try cases h
  grind[iG,au,Lf.cells,List.mem_singleton,Cc]
 |pair a b _ ih=>
  intro fs pos n x h v hv;rcases fs with _|⟨⟨ft,off⟩,_|⟨f2,fs⟩⟩<;>cases a<;>simp only[dC]at h<;>try cases h
  grind[iG,au,Lf.cells,Cc]
 |_=>
  grind[dC]
theorem x8:∀{k:TC} {fs:List (TypeId×Nat)} {pos:Nat},dC Θ fs k pos=true->k.ty.pureB=true:=by
 intro k;induction k with
 |sc s=>intros;rfl
 |pair a b _ ih=>
  intro fs pos h;rcases fs with _|⟨⟨ft,off⟩,_|⟨f2,fs⟩⟩<;>cases a<;>simp only[dC]at h<;>try cases h
  grind[Ty.pureB]
 |_=>
  grind[dC]
def FJ(Θ:Tb)(Gq:TypeId->Bool)(kt:TypeId)(k:TC):Bool:=match Θ kt,k with
 |some ⟨.int k0,_,_,_,_⟩,.sc (.int k1)=>decide (k1=k0)
 |some ⟨.st fs,_,_,_,_⟩,.pair a b=>Gq kt&&dC Θ fs (.pair a b) 0
 |_,_=>false
theorem Pv(hΘ:Θ.ok P){Gq:TypeId->Bool}(hG:∀t,Gq t=true->yM P t){kt:TypeId}{k v:TC}(h:FJ Θ Gq kt k=true)(x:k.den)(xs:List (k.den×v.den)) :
  KeyRun P kt (mK k x) (λp=>k.eqD x p.1) (λp:k.den×v.den=>(mK k p.1,mK v p.2)) xs:=by
 unfold FJ at h;split at h
 ·rename_i k0 _ _ _ _ k1 hi;obtain rfl:=aaq h;exact aox (g:=λp=>p.1) (hΘ kt _ hi).2.1 x (λ_ _=>rfl) (λ_ _=>rfl)
 ·rename_i fs _ _ _ _ a b hi;simp only[Y5]at h;obtain⟨g1,g2,g3⟩:=hG kt h.1;obtain⟨Fd,hs,hm⟩:=(hΘ kt _ hi).2.1;have hf:P.fieldsOf kt=Fd:=by simp[Program.fieldsOf,hs]
  rw[hf]at g3;have hcell:∀y:(TC.pair a b).den,mK (.pair a b) y=.agg (au DF (iG (.pair a b) y 0)).toArray:=by intro y;rw[im (.pair a b) y [] 0 (λj h hj=>by simp at hj) (by rw[xG _ (x8 h.2)];grind)];simp only[mK];rw[nF _ (x8 h.2) y _ (aM (TC.pair a b) [])]
  refine Xx hs (λw em=>?_) (λw p _=>?_) (λp _ hq=>?_) ?_
  ·rw[hcell];rw[show(10000:Nat)=9999+1 from rfl,Instr.checkKey];simp only[Sem.run_bind,run_underlying hs,Result.andThen_ok];rw[<-Array.forIn_toList];have:=ajg (P:=P) hΘ (w:=w) (η:=DF) (xs:=(au DF (iG (.pair a b) x 0)).toArray) (em:=em) (d:=9998) hm g3 h.2 (x:=x) (n:=0) (λj=>by simp);simp_all
  ·simp only;rw[hcell,hcell];rw[run_equalIn_struct (P:=P) w 9999 kt _ _ (by grind) g2,hf];exact xr hΘ (η:=DF) (d:=9998) hm g3 (Ki (n:=0) h.2) (λj=>by simp) (λj=>by simp)
  ·simp only at hq|-;rw[MO hq]
  grind[Instr.sameBits,List.all_eq_true,List.getElem_of_mem,NE,List.getElem_mem]
 ·cases h
theorem alN:∀(t:TC),t.ty.pureB=true->∀(x:t.den) (y:t.ty.Refs),kS t x y=mK t x
 |.sc _,_,_,_=>rfl
 |.arr _ _,_,_,_=>rfl
 |.unit,_,_,_=>rfl
 |.pair a b,h,x,y=>by grind[kS,mK,nF]
 |.st a,h,x,y=>by simp only[kS,mK];rw[nF _ h x y a.ref0]
 |.slice _,h,_,_=>by cases h
 |.ext _,_,_,_=>rfl
 |.node,h,_,_=>by cases h
 |.mp _ _,h,_,_=>by cases h
theorem LO{t:TC}{v:AV}{x:t.den}{l:List Lf}{K:List Nat}(h:oX [] t v=some (x,l,K))(hp:t.ty.pureB=true)(η:Vn):v.val η=mK t x:=by rw[(ue (η:=η) h).1,alN t hp]
theorem G4{Gq:TypeId->Bool}{kt:TypeId}{k:TC}(h:FJ Θ Gq kt k=true):k.ty.pureB=true:=by
 unfold FJ at h;split at h
 ·rfl
 ·simp only[Y5]at h;exact x8 h.2
 ·cases h
def acC(Θ:Tb)(n N:Nat)(t:TypeId)(k:Out->Option R):Option R:=match Θ t with
 |some ⟨.map kt et,_,_,_,_⟩=>match Θ kt,Θ et with
  |some ik,some ie=>bif Nat.ble 2 N then k ⟨.lf (.mp n),[.mp ik.tc ie.tc N [] n],[]⟩else none
  |_,_=>none
 |_=>none
theorem ajx{N:Nat}{t:TypeId}(ho:o.op=.makeMap t none)(k:Out->Option R):aq ex P o E F n (acC Θ n N t k) k:=by
 unfold acC;split
 ·split
  ·refine aq.bif λhN=>aq.of λ_ η ρ hE=>?_;refine(Wg ho hN).map (λb=>⟨η.setH n ⟨some ⟨b,0,none⟩,0,0⟩,η.setH_agr n _⟩) (λb=>?_) λb=>?_
   ·simp[AV.val,Lf.val,Vn.setH_at,Hd.blk]
   ·simp[AF.ha,Vn.setH_at,Hd.blk,A4]
  ·exact aq.none
 ·exact aq.none
def Nl(ex:Option Bool)(kc vt:TC)(x:kc.den)(xs:List (kc.den×vt.den))(ie:TInf)(k:Out->Option R):Option R:=match vt,xs,ie.zl with
 |.sc .bool,xs,[.c .bool b]=>bif ie.d.agg then none else k ⟨.lf (.c .bool ((cZ kc (.sc .bool) x xs).getD b)),[],[]⟩
 |.sc .fnc,xs,_=>gbind ex (0:Nat) (cZ kc (.sc .fnc) x xs) λf=>k ⟨.lf (.c .fnc f),[],[]⟩
 |_,_,_=>none
def TE(Θ:Tb)(Gq:TypeId->Bool)(ex:Option Bool)(t:TypeId)(h:Nat)(v:AV)(F:List AF)(k:Out->Option R):Option R:=match Θ t with
 | some ⟨.map kt et,_,_,_,_⟩=>match Θ kt,Θ et with
  |some ik,some ie=>match uP ik.tc ie.tc h F,oX [] ik.tc v with
   |some s,some (x,_,_)=>bif FJ Θ Gq kt ik.tc then Nl ex ik.tc ie.tc x s.xs ie k else none
   |_,_=>none
  |_,_=>none
 |_=>none
theorem XE{t kt et:TypeId}{m y:Operand}{h:Nat}{kc vt:TC}{i:Nat}{x:kc.den}{xs:List (kc.den×vt.den)}{ie:TInf}(hF : .mp kc vt i xs h∈F)(hie:ie.ok P et)(ht:P.underlying t=some (.map kt et))(ho:o.op=.lookup t m y false)(hm:ev E m=some (.lf (.mp h)))
  (hy:∀(η:Vn) (ρ:cV),kU η ρ E->aJ ρ y=mK kc x) (K:KeyRun P kt (mK kc x) (λp=>kc.eqD x p.1) (λp:kc.den×vt.den=>(mK kc p.1,mK vt p.2)) xs) (k:Out->Option R):aq ex P o E F n (Nl ex kc vt x xs ie k) k:=by
 unfold Nl;split
 ·rename_i xs b hz;cases hag:ie.d.agg;rotate_left
  ·exact aq.none
  refine aq.of λ_=>dc.pure λη ρ hE=>?_;obtain⟨j,hj⟩:=lh hF η;have hz':ie.zv=.bool b:=by simp[TInf.zv,hag,hz,au,Lf.cells,SC.val]
  have h1:=hie.1;rw[hz']at h1;have:=Zi (L:=F.map (AF.ha η)) j hj ho ht (by rw[aH hE hm];rfl) (hy η ρ hE) K h1;have e:(AV.lf (.c .bool ((cZ kc (.sc .bool) x xs).getD b))).val η=((xs.find? λp=>kc.eqD x p.1).map λp:kc.den×(TC.sc .bool).den=>mK (.sc .bool) p.2).getD (.bool b):=by simp only[AV.val,Lf.val,cZ];cases xs.find? λp=>kc.eqD x p.1<;>rfl
  grind
 ·rename_i xs;refine aq.gbind λf hf=>aq.of λhx=>dc.pure λη ρ hE=>?_
  obtain⟨j,hj⟩:=lh hF η;have hf:=hf hx;simp only[cZ,aa8]at hf;obtain⟨a0,h1,rfl⟩:=hf;exact XS (L:=F.map (AF.ha η)) j hj ho ht (by rw[aH hE hm];rfl) (hy η ρ hE) K h1
 ·exact aq.none
theorem ab1(hΘ:Θ.ok P){Gq:TypeId->Bool}(hG:∀t,Gq t=true->yM P t){t:TypeId}{m y:Operand}{h:Nat}{v:AV}(ho:o.op=.lookup t m y false)(h1:ev E m=some (.lf (.mp h)))(h2:ev E y=some v)(k:Out->Option R) :
  aq ex P o E F n (TE Θ Gq ex t h v F k) k:=by
 unfold TE;split
 ·rename_i kt et _ _ _ _ ht;split
  ·rename_i ik ie hik hie;split
   ·rename_i s x _ _ hs hd;refine aq.bif λhk=>?_
    exact XE (gF hs) (hΘ et ie hie) (hΘ t _ ht).2.1 ho h1 (λη ρ hE=>by rw[aH hE h2];exact LO hd (G4 hk) η) (Pv hΘ hG hk x s.xs) k
   ·exact aq.none
  ·exact aq.none
 ·exact aq.none
def Iy(Θ:Tb)(Gq:TypeId->Bool)(t:TypeId)(h:Nat)(v1 v2:AV)(F:List AF)(k:Out->Option R):Option R:=match Θ t with
 | some ⟨.map kt et,_,_,_,_⟩=>match Θ kt,Θ et with
  |some ik,some ie=>match uP ik.tc ie.tc h F,oX [] ik.tc v1,oX [] ie.tc v2 with
   |some s,some (x,_,_),some (y,_,_)=>bif FJ Θ Gq kt ik.tc&&ie.tc.ty.pureB then k ⟨.lf (.v undef),[.mp ik.tc ie.tc s.i (cF ik.tc ie.tc x y s.xs) h],[s.i]⟩else none
   |_,_,_=>none
  |_,_=>none
 |_=>none
theorem Kt(hΘ:Θ.ok P){Gq:TypeId->Bool}(hG:∀t,Gq t=true->yM P t){t:TypeId}{m y z:Operand}{h:Nat}{v1 v2:AV}(ho:o.op=.mapUpdate t m y z\/o.op=.insert t m y z)(h1:ev E m=some (.lf (.mp h)))(h2:ev E y=some v1)(h3:ev E z=some v2)
  (k:Out->Option R):aq ex P o E F n (Iy Θ Gq t h v1 v2 F k) k:=by
 unfold Iy;split
 ·rename_i kt et _ _ _ _ ht;split
  ·rename_i ik ie hik hie;split
   ·rename_i s x _ _ y' _ _ hs hd1 hd2;refine aq.bif λhk=>aq.of λ_ η ρ hE=>?_
    simp only[Y5]at hk;obtain⟨j,hj⟩:=lh (gF hs) η;exact(Xw (L:=F.map (AF.ha η)) (a0:=(x,y')) (q:=λp=>ik.tc.eqD x p.1) (f:=λp:ik.tc.den×ie.tc.den=>(mK ik.tc p.1,mK ie.tc p.2)) j hj ho (hΘ t _ ht).2.1 (by rw[aH hE h1];rfl) (by rw[aH hE h2];exact LO hd1 (G4 hk.1) η)
     (by rw[aH hE h3];exact LO hd2 hk.2 η) (Pv hΘ hG hk.1 x s.xs)).map (λ_=>⟨η,Vn.agr_refl n η⟩) (λ_=>rfl) (λ_=>rfl)
   ·exact aq.none
  ·exact aq.none
 ·exact aq.none
def V7(Θ:Tb)(ex:Option Bool)(n N:Nat)(t t':TypeId)(v1 v2:AV)(F:List AF)(k:Out->Option R):Option R:=match Θ t,Θ t' with
 | some ⟨.slice e,_,_,_,_⟩,some ⟨.int _,_,_,_,_⟩=>match Θ e,v1,v2 with
  |some ie,.lf l1,.lf (.c (.int .i64) a)=>match fy ie.tc e N F l1,bR [] ie.tc ie.zl with
   | some (ci,K,xs),some (z,_,_,[])=>bif Nat.beq ie.sz ie.tc.ty.sz&&Nat.ble 1 ie.sz&&ie.tc.ty.pureB&&Nat.ble 2 ci&&Nat.blt e 1048576 then
     gchk ex (decide (0<=(show Int from a)/\(xs.length+(show Int from a).toNat)*ie.by_<=140737488355328/\xs.length+(show Int from a).toNat<=maxLen)) (k ⟨.lf (.sl n),[.own ie.tc e ci K (xs++List.replicate (show Int from a).toNat z) n],[ci]⟩)else none
   |_,_=>none
  |_,_,_=>none
 |_,_=>none
theorem ac7(hΘ:Θ.ok P){N:Nat}{t t':TypeId}{x y:Operand}{v1 v2:AV}(ho:o.op=.call { callee:=.builtin .append,args:=#[x,y],argTypes:=#[t,t']})(h1:ev E x=some v1)(h2:ev E y=some v2)(k:Out->Option R) :
  aq ex P o E F n (V7 Θ ex n N t t' v1 v2 F k) k:=by
 unfold V7;split
 ·rename_i e _ _ _ _ ku _ _ _ _ ht ht';split
  ·rename_i ie l1 a he;split
   ·rename_i ci K xs z l Kz hs1 hz;refine aq.bif λhc=>aq.gchk λhr=>aq.of λhx η ρ hE=>?_
    simp only[Y5]at hc;obtain⟨⟨⟨⟨hsz,h0⟩,hp⟩,hci⟩,hel⟩:=hc;have e1:=aH hE h1;have e2:=aH hE h2;simp only[AV.val]at e1 e2;rw[nH hs1 η]at e1;obtain⟨g1,_,g3,g4⟩:=hΘ e ie he;have hcell:=(dA (η:=η) ie.tc hz).1;simp only[au,Z2]at hcell;have hH':∀w c,aj w c (F.map (AF.ha η))->aj w c (.own ie.tc.ty e ci K xs (l1.hd η)::F.map (AF.ha η)):=λw c hH=>by have h0:=eC hs1 hH;grind[dx,eU,aj.cons]
    have hr':=hr hx;have:=(OT (o:=o) (ρ:=ρ) (L:=.own ie.tc.ty e ci K xs (l1.hd η)::F.map (AF.ha η)) (v:=z) (r:=aM ie.tc (aT η l)) hp 0 rfl ho (hΘ t _ ht).2.1 (hΘ t' _ ht').2.1 g1 (f9 hsz) h0 (by grind) e1 e2 hr' hci hel).from hH';refine this.map (λh'=>⟨η.setH n h',η.setH_agr n h'⟩) (λh' => ?_) λh' => ?_
    ·simp[AV.val,Lf.val,Vn.setH_at]
    grind[AF.ha,Vn.setH_at,dx,eU]
   ·exact aq.none
  ·exact aq.none
 ·exact aq.none
def cpD(t:TC)(e:TypeId)(N:Nat)(F:List AF)(d:Nat):Option (Nat×Int×Int×Nat×List Nat×List t.den):=match ld d F with
 | some (h,sz,lo,hi)=>bif Nat.beq sz 1 then match fy t e N F (.sl h)with
   |some (ci,K,xs)=>some (h,lo,hi,ci,K,xs)
   |none=>none
  else none
 |none=>match fy t e N F (.sl d)with
  |some (ci,K,xs)=>some (d,0,xs.length,ci,K,xs)
  |none=>none
theorem ao0{t:TC}{e:TypeId}{N:Nat}{F:List AF}{d h:Nat}{lo hi:Int}{ci:Nat}{K:List Nat}{xs:List t.den}(hc:cpD t e N F d=some (h,lo,hi,ci,K,xs))(h1:t.ty.sz=1)(he:Nat.blt e 1048576=true) :
  fy t e N F (.sl h)=some (ci,K,xs)/\∀(η:Vn) (w:World) (c:aS),aj w c (F.map (AF.ha η))->kQ (η.h d) (η.h h) 1 lo hi:=by
 unfold cpD at hc;split at hc
 ·rename_i h' sz lo' hi' hp;cases hb:Nat.beq sz 1
  ·grind
  ·rw[hb,Ze]at hc;split at hc
   ·rename_i hs;simp only[no,ZC]at hc;obtain⟨rfl,rfl,rfl,rfl,rfl,rfl⟩:=hc;obtain rfl:=f9 hb;exact⟨hs,λη w c hH=>hH _ (ZA.2 ⟨_,f5 hp,rfl⟩)⟩
   ·cases hc
 ·split at hc
  ·rename_i hs;simp only[no,ZC]at hc;obtain⟨rfl,rfl,rfl,rfl,rfl,rfl⟩:=hc;refine⟨hs,λη w c hH=>?_⟩;have hown:=eC hs hH;rw[dx (eU he)]at hown;obtain⟨rs,hr,ho,_⟩:=hown;refine⟨acH _,?_,λhlt=>?_⟩
   ·rcases(ho.plain he).2 with⟨hv,hn⟩|⟨g,cap,cur,hv,_⟩
    ·simp only[Lf.hd,Hd.val,Value.slice.injEq]at hv;omega
    grind[Lf.hd]
   ·rcases(ho.plain he).2 with⟨hv,hn⟩|⟨g,cap,cur,hv,_⟩
    ·omega
    grind[Lf.hd,dR]
  ·cases hc
def cpS(t:TC)(F:List AF)(l:Lf):Option (List t.den×Bool):=match l with
 | .sl s=>match ld s F with
  | some (h,sz,lo,hi)=>bif Nat.beq sz 1 then match gH t F (.sl h)with
    |some s2=>some ((s2.xs.take hi.toNat).drop lo.toNat,decide (lo<=hi/\hi<=s2.xs.length))
    |none=>none
   else none
  |none=>match gH t F (.sl s)with
   |some s2=>some (s2.xs,true)
   |none=>none
 |l=>match gH t F l with
  |some s2=>some (s2.xs,true)
  |none=>none
theorem anE{t:TC}{F:List AF}{l:Lf}{ys:List t.den}{g:Bool}(hc:cpS t F l=some (ys,g))(h1:t.ty.sz=1)(hg:g=true)(η:Vn):l.val η=(l.hd η).val/\∀(w:World) (c:aS),aj w c (F.map (AF.ha η))->L6 w t.ty ys (l.hd η):=by
 unfold cpS at hc;split at hc
 ·rename_i s;refine⟨rfl,λw c hH=>?_⟩;split at hc
  ·rename_i h sz lo hi hp;cases hb:Nat.beq sz 1
   ·grind
   ·rw[hb,Ze]at hc;split at hc
    ·rename_i s2 hs;simp only[no,ZC]at hc;obtain⟨rfl,rfl⟩:=hc;obtain rfl:=f9 hb;exact akq h1 (E1 (gE hs hH)) (hH _ (ZA.2 ⟨_,f5 hp,rfl⟩)) (aaq hg)
    ·cases hc
  ·split at hc
   ·rename_i s2 hs;simp only[no,ZC]at hc;obtain⟨rfl,rfl⟩:=hc;exact E1 (gE hs hH)
   ·cases hc
 ·split at hc
  ·rename_i s2 hs;simp only[no,ZC]at hc;obtain⟨rfl,rfl⟩:=hc;exact⟨(oe hs η).1,λw c hH=>E1 (gE hs hH)⟩
  ·cases hc
def Vz(Θ:Tb)(ex:Option Bool)(N:Nat)(t:TypeId)(v1 v2:AV)(F:List AF)(k:Out->Option R):Option R:=match Θ t with
 | some ⟨.slice e,_,_,_,_⟩=>match Θ e,v1,v2 with
  |some ie,.lf (.sl d),.lf l2=>match cpD ie.tc e N F d,cpS ie.tc F l2 with
   | some (h,lo,hi,ci,K,xs),some (ys,g)=>bif Nat.beq ie.sz 1&&Nat.beq ie.tc.ty.sz 1&&ie.tc.ty.pureB&&Nat.ble 2 ci&&Nat.blt e 1048576 then
     gchk ex (decide (lo<=hi/\hi<=xs.length)&&g) (k ⟨fL .i64 ((min (hi-lo).toNat ys.length:Nat):Int),[.own ie.tc e ci K (xs.take lo.toNat++ys.take (min (hi-lo).toNat ys.length)++xs.drop (lo.toNat+min (hi-lo).toNat ys.length)) h],[ci]⟩)else none
   |_,_=>none
  |_,_,_=>none
 |_=>none
theorem aeN(hΘ:Θ.ok P){N:Nat}{t t':TypeId}{x y:Operand}{v1 v2:AV}(ho:o.op=.call { callee:=.builtin .copy,args:=#[x,y],argTypes:=#[t,t']})(h1:ev E x=some v1)(h2:ev E y=some v2)(k:Out->Option R) :
  aq ex P o E F n (Vz Θ ex N t v1 v2 F k) k:=by
 unfold Vz;split
 ·rename_i e _ _ _ _ ht;split
  ·rename_i ie d l2 he;split
   ·rename_i h lo hi ci K xs ys g hs1 hs2;refine aq.bif λhc=>aq.gchk λhr=>aq.of λhx η ρ hE=>?_
    simp only[Y5]at hc hr;obtain⟨⟨⟨⟨hsz,h1'⟩,hp⟩,hci⟩,hel⟩:=hc;have e1:=aH hE h1;have e2:=aH hE h2;simp only[AV.val]at e1 e2;obtain⟨g1,g2⟩:=ao0 hs1 (f9 h1') hel;obtain⟨g3,g4⟩:=anE hs2 (f9 h1') (hr hx).2 η;rw[g3]at e2;have hH':∀w c,aj w c (F.map (AF.ha η))->aj w c (.own ie.tc.ty e ci K xs (η.h h)::F.map (AF.ha η)):=λw c hH=>by have h0:=eC g1 hH;rw[dx (eU hel)]at h0;exact aj.cons h0 hH
    have:=(akN (o:=o) (ρ:=ρ) (L:=.own ie.tc.ty e ci K xs (η.h h)::F.map (AF.ha η)) hp h1' 0 rfl (λw c hL=>g2 η w c λA hA=>hL A (Zf _ hA)) (λw c hL=>g4 w c λA hA=>hL A (Zf _ hA)) ho (hΘ t _ ht).2.1 (hΘ e ie he).1 hsz e1 e2 (hr hx).1 hci hel).from hH';refine this.map (λ_=>⟨η,η.agr_refl n⟩) (λ_=>rfl) λ_=>?_;grind[AF.ha,dx,eU]
   ·exact aq.none
  ·exact aq.none
 ·exact aq.none
def EM(Θ:Tb)(E:SE)(ex:Option Bool)(n:Nat)(t:TypeId)(l:Lf)(lo hi:Option Operand)(F:List AF)(k:Out->Option R)(alt:Option R):Option R:=match Θ t,l,lo,hi with
 | some ⟨.slice e,_,_,_,_⟩,.sl h,some h0,none=>match Θ e with
  |some ie=>match fy ie.tc e 0 F (.sl h),ev E h0 with
   | some (ci,K,xs),some (.lf (.c (.int _) i))=>bif Nat.beq ie.sz 1&&Nat.beq ie.sz ie.tc.ty.sz&&Nat.blt e 1048576&&out n h then
     gchk ex (decide (0<=i/\i<=(xs.length:Int)/\(xs.length:Int)<=xs.length)) (k ⟨.lf (.sl n),[.rep ie.tc (ci::K) ((xs.take (xs.length:Int).toNat).drop i.toNat) n,.prt n h 1 i xs.length],[]⟩)else alt
   |_,_=>alt
  |none=>alt
 |_,_,_,_=>alt
theorem SM(hΘ:Θ.ok P){t:TypeId}{x:Operand}{l:Lf}{lo hi:Option Operand}(ho:o.op=.slice t x lo hi none)(h1:ev E x=some (.lf l))(k:Out->Option R){alt:Option R}(halt:aq ex P o E F n alt k):aq ex P o E F n (EM Θ E ex n t l lo hi F k alt) k:=by
 unfold EM;split
 ·rename_i e _ _ _ _ h h0 ht;split
  ·rename_i ie he;split
   ·rename_i ci K xs kk i hs hi;cases hc:(Nat.beq ie.sz 1&&Nat.beq ie.sz ie.tc.ty.sz&&Nat.blt e 1048576&&out n h)
    ·exact halt
    ·simp only[Ze];refine aq.gchk λhb=>aq.of λhx η ρ hE=>?_;simp only[Y5]at hc;obtain⟨⟨⟨hs1,hsz⟩,hel⟩,hout⟩:=hc;have h2:=aH hE h1;simp only[AV.val,Lf.val]at h2;have:=(Pc (o:=o) (ρ:=ρ) (L:=.own ie.tc.ty e ci K xs (η.h h)::F.map (AF.ha η)) 0 rfl ho (hΘ t _ ht).2.1 (hΘ e ie he).1 (f9 hsz) hs1 h2 (aH hE hi) (hb hx) hel).from (λw c hH=>aj.cons (by
      have:=eC hs hH;rwa [dx (eU hel)]at this) hH)
     refine this.map (λ_=>⟨η.setH n ((η.h h).cut i.toNat (xs.length:Int).toNat ie.sz),η.setH_agr n _⟩) (λ_=>?_) λ_=>?_
     ·simp[AV.val,Lf.val,Vn.setH_at]
     ·simp only[aas,ad5,AF.ha,Vn.setH_at];rw[(η.setH_agr n _ h hout).1]
   ·exact halt
  ·exact halt
 ·exact halt
def RN(Θ:Tb)(ex:Option Bool)(n N:Nat)(t t':TypeId)(v1 v2:AV)(F:List AF)(k:Out->Option R):Option R:=match Θ t,Θ t' with
 | some ⟨.slice e,_,_,_,_⟩,some ⟨.str,_,_,_,_⟩=>match Θ e,v1,v2 with
  |some ie,.lf l1,.lf (.c .str a)=>match fy (.sc (.int .u8)) e N F l1,ie.zl with
   | some (ci,K,xs),[.c (.int .u8) z]=>bif(show Int from z)==0 && !ie.d.agg&&Nat.beq ie.sz 1&&Nat.beq ie.by_ 1&&Nat.ble 2 ci&&Nat.blt e 1048576 then
     gchk ex (aP xs.length (show List UInt8 from a).length ie.by_) (k ⟨.lf (.sl n),[.own (.sc (.int .u8)) e ci K (xs++(show List UInt8 from a).map λb=>(b.toNat:Int)) n],[ci]⟩)else none
   |_,_=>none
  |_,_,_=>none
 |_,_=>none
theorem aaj(hΘ:Θ.ok P){N:Nat}{t t':TypeId}{x y:Operand}{v1 v2:AV}(ho:o.op=.call { callee:=.builtin .append,args:=#[x,y],argTypes:=#[t,t']})(h1:ev E x=some v1)(h2:ev E y=some v2)(k:Out->Option R) :
  aq ex P o E F n (RN Θ ex n N t t' v1 v2 F k) k:=by
 unfold RN;split
 ·rename_i e _ _ _ _ _ _ _ _ ht ht';split
  ·rename_i ie l1 a he;split
   ·rename_i ci K xs z hs1 hz;refine aq.bif λhc=>aq.gchk λhr=>aq.of λhx η ρ hE=>?_
    simp only[Y5,abc,ajk]at hc;obtain⟨⟨⟨⟨⟨hz0,hag⟩,hsz⟩,hby⟩,hci⟩,hel⟩:=hc;have e1:=aH hE h1;have e2:=aH hE h2;simp only[AV.val]at e1 e2;rw[nH hs1 η]at e1;have hzv:ie.zv=.int .u8 0:=by grind[TInf.zv,au,Lf.cells]
    have hti:=(hΘ e ie he).1;rw[hzv]at hti;have hH':∀w c,aj w c (F.map (AF.ha η))->aj w c (.own Ew e ci K xs (l1.hd η)::F.map (AF.ha η)):=λw c hH=>by have h0:=eC hs1 hH;grind[dx,eU,aj.cons]
    have hr':=hr hx;have:=(Hf (o:=o) (ρ:=ρ) (L:=.own Ew e ci K xs (l1.hd η)::F.map (AF.ha η)) 0 rfl ho (hΘ t _ ht).2.1 (hΘ t' _ ht').2.1 hti hsz hby e1 e2 hr' hci hel).from hH';refine this.map (λh'=>⟨η.setH n h',η.setH_agr n h'⟩) (λh' => ?_) λh' => ?_
    ·simp[AV.val,Lf.val,Vn.setH_at]
    grind[AF.ha,Vn.setH_at,dx,eU]
   ·exact aq.none
  ·exact aq.none
 ·exact aq.none
end
end
set_option linter.deprecated false
section
variable [X:XTab] [G:GTab] [Yc:GCx]
section
variable {R:Type} {P:Program} {o:Oper} {E:SE} {F:List AF} {n:Nat} {Θ:Tb} {ex:Option Bool}
def SU(Θ:Tb)(ex:Option Bool)(t:TypeId)(h:Nat)(F:List AF)(k:Out->Option R):Option R:=match Θ t with
 | some ⟨.arr m e,_,_,_,_⟩=>match Θ e with
  | some ie=>match ie.tc with
   |.sc s=>match gH (.sc s) F (.sl h)with
    |some q=>bif Nat.ble 1 m then gchk ex (decide (m<=q.xs.length)) (k (bc (.lf (.rp h (.sc s) 0 (.sc s) .here))))else none
    |none=>none
   |_=>none
  |none=>none
 |_=>none
theorem ZS(hΘ:Θ.ok P){t:TypeId}{x:Operand}{h:Nat}(ho:o.op=.sliceToArrayPointer t x)(h1:ev E x=some (.lf (.sl h)))(k:Out->Option R):aq ex P o E F n (SU Θ ex t h F k) k:=by
 unfold SU;split
 ·rename_i m e _ _ _ _ ht;split
  ·rename_i ie he;split
   ·rename_i s _;split
    ·rename_i q hq;refine aq.bif λhm=>aq.gchk λhb=>aq.of λhx=>dc.pure λη ρ hE ev w c hev hL=>?_
     subst hev;have hm:=Zh hm;have hb:=aaq (hb hx);have e1:=aH hE h1;simp only[AV.val,Lf.val]at e1;obtain⟨ys,hr,hn,hle,_,hc⟩:=gE hq hL;simp only[Lf.hd]at hn hc hle;rcases hc with⟨_,h0⟩|⟨b,off,_,_,_,ha,_⟩
     ·omega
     ·have hv:(Instr.arrayAt t (η.h h).val).run P w=.ok (.pointer (some ⟨b,off,none⟩)) w:=by
       simp[Instr.arrayAt,run_underlying (hΘ t _ ht).2.1,hn,ha,Result.andThen];omega
      simp[execOp,ho,e1,hv,Result.andThen,AV.val,Lf.val,dR,ha,Pa.off]
    ·exact aq.none
   ·exact aq.none
  ·exact aq.none
 ·exact aq.none
def FG(Θ:Tb)(ex:Option Bool)(t:TypeId)(h:Nat)(s:SC)(i:Int)(F:List AF)(k:Out->Option R):Option R:=match Θ t,gH (.sc s) F (.sl h)with
 |some ⟨.arr m e,sz,_,_,_⟩,some q=>bif Nat.beq sz m&&Nat.ble 1 m then gchk ex (decide (0<=i/\i+m<=q.xs.length)) (k (bc (.lf (.ar m s ((q.xs.drop i.toNat).take m)))))else none
 |_,_=>none
theorem SY(hΘ:Θ.ok P){t:TypeId}{x:Operand}{h:Nat}{s:SC}{i:Int}(ho:o.op=.load t x)(h1:ev E x=some (.lf (.rp h (.sc s) i (.sc s) .here)))(k:Out->Option R):aq ex P o E F n (FG Θ ex t h s i F k) k:=by
 unfold FG;split
 ·rename_i m e sz _ _ _ q ht hq;refine aq.bif λhc=>aq.gchk λhb=>aq.of λhx=>dc.pure λη ρ hE ev w c hev hL=>?_
  subst hev;simp only[Y5]at hc;have hm:=Zh hc.2;have hsz:=f9 hc.1;obtain⟨hb0,hb1⟩:=aaq (hb hx);have e1:=aH hE h1;simp only[AV.val,Lf.val,Pa.off,abj]at e1;obtain⟨g1,g2,_,_⟩:=hΘ t _ ht;obtain⟨inf,hi,_,hsz',_⟩:=TI.get g1;obtain⟨ys,hr,hn,hle,_,hcc⟩:=gE hq hL;simp only[Lf.hd]at hn hcc hle;rcases hcc with⟨_,h0⟩|⟨b,off,arr,tt,fz,ha,_,hbb,hfit,hcl⟩
  ·omega
  ·have hp:dR (η.h h) (i.toNat*1)=⟨b,off+i.toNat,none⟩:=by simp[dR,ha]
   rw[show(TC.sc s).ty.sz=1 from rfl]at e1 hcl hfit;rw[hp]at e1;rw[yS s hr.length,aep]at hcl;have hcs:(arr.toList.drop (off+i.toNat)).take m=((q.xs.drop i.toNat).take m).map s.val:=by rw[ajI,amC,<-hcl,ad0,adg,ail];congr 1;omega
   have hl:(((q.xs.drop i.toNat).take m).map s.val).length=inf.size:=by rw[hsz',show(TInf.sz _)=sz from rfl,hsz];simp;omega
   have hfill:(TC.arr m s).ty.fill ((q.xs.drop i.toNat).take m) ()=((q.xs.drop i.toNat).take m).map s.val:=by
    have hl':((q.xs.drop i.toNat).take m).length=m:=by simp;omega
    generalize(q.xs.drop i.toNat).take m=xs at hl';simp only[Ty.fill];apply ace;intro j;by_cases hj:j<m
    ·simp[hj,hl']
    ·simp[hj,hl']
   simp[execOp,ho,e1,sF g2 rfl hi hbb (cs:=((q.xs.drop i.toNat).take m).map s.val) (off:=off+i.toNat) (by rw[hsz',<-hcs];rw[show(TInf.sz _)=sz from rfl,hsz]) hl,Result.andThen,AV.val,Lf.val,hfill]
 ·exact aq.none
def da(l:List UInt8):List Int:=l.map λb=>(b.toNat:Int)
def io(m:Nat)(xs:List Int)(lo hi:Int)(l:List UInt8):List Int:=
 (dJ m (0:Int) xs).take lo.toNat++(da l).take (min (hi-lo).toNat l.length)++(dJ m (0:Int) xs).drop (lo.toNat+min (hi-lo).toNat l.length)
theorem XA(w:World)(l:List UInt8)(k:Nat):(Builtin.firstCells 1 k (.string ⟨l.toArray⟩)).run P w=.ok (((da l).take k).map λx=>Value.int .u8 x).toArray w:=by simp only[Builtin.firstCells,Sem.run_pure,Result.ok.injEq,alE];apply aj9;rw[Array.toList_map,ByteArray.data_extract,Array.toList_extract];simp[da,List.extract_eq_drop_take,ajI,Function.comp_def]
theorem MT{w:World}{t u e:TypeId}{b o n cap:Nat}{ad:Option Addr}{cur:List Value}{tt ty:TypeId}{l:List UInt8}(hu:P.underlying t=some (.slice e))(hs:(P.info? e).map (·.size)=some 1)(hb:w.heap[b]?=some (.cells cur.toArray tt (0,0)))
  (had:0<n->ad=some ⟨b,o,none⟩) (hfit:o+n<=cur.length):(Builtin.copy_ #[t,u] ty #[.slice ad n cap,.string ⟨l.toArray⟩]).run P w=.ok (.int .i64 ((min n l.length:Nat):Int)) (w.setRow b (cur.take o++((da l).take (min n l.length)).map (λx=>Value.int .u8 x)++cur.drop (o+min n l.length)).toArray):=by
 have hsz:(⟨l.toArray⟩:ByteArray).size=l.length:=rfl;have hfc:=XA (P:=P) w l (min n l.length);cases hq:P.info? e with
 |none=>simp[hq]at hs
 | some i=>
  have hi:i.size=1:=by simpa[hq]using hs
  have hvs:(((da l).take (min n l.length)).map λx=>Value.int .u8 x).length=min n l.length:=by simp[da]
  generalize hv:((da l).take (min n l.length)).map (λx=>Value.int .u8 x)=vs at *;have hmin:Nat.min l.length n=min n l.length:=Nat.min_comm _ _;by_cases hn:0<n
  ·rw[had hn];have hst:=run_storeCells_at P b o tt vs 0 cur.toArray w hb (by simp;omega) (λv hvv=>by rw[<-hv]at hvv;obtain⟨x,_,rfl⟩:=ZA.1 hvv;rfl);simp only[abj,List.toList_toArray,hvs]at hst;simp[Builtin.copy_,run_underlying hu,Builtin.lenOf,sizeOf,typeInfo,hq,hi,hsz,hmin,hfc,hst,Result.andThen,goInt]
  ·have h0:min n l.length=0:=by omega
   rw[h0]at hvs hfc hmin;obtain rfl:=List.length_eq_zero_iff.1 hvs;have hself:w.setRow b (cur.take o++[]++cur.drop (o+0)).toArray=w:=by have:=setRow_self w b cur.toArray tt (0,0) hb;simpa using this
   rw[h0,hself];cases ad<;>simp[Builtin.copy_,run_underlying hu,Builtin.lenOf,sizeOf,typeInfo,hq,hi,hsz,hmin,hfc,Result.andThen,goInt,storeCells]
def LF(Θ:Tb)(ex:Option Bool)(t:TypeId)(d:Nat)(l:List UInt8)(F:List AF)(k:Out->Option R):Option R:=match Θ t,Np d F with
 | some ⟨.slice e,_,_,_,_⟩,some (b,off,lo,hi)=>match Θ e,iw b F with
  |some ie,some (ci,cs)=>match j6 cs off with
   |some (a,.ar m (.int .u8) xs::r)=>bif Nat.beq ie.sz 1 then gchk ex (decide (lo<=hi/\hi<=m)) (k ⟨fL .i64 ((min (hi-lo).toNat l.length:Nat):Int),[.box ci b (a++.ar m (.int .u8) (io m xs lo hi l)::r)],[ci]⟩)else none
   |_=>none
  |_,_=>none
 |_,_=>none
theorem QG(m:Nat)(xs:List Int):(TC.arr m (.int .u8)).ty.fill xs ()=(dJ m (0:Int) xs).map λx=>Value.int .u8 x:=by simp[TC.ty,Ty.fill,dJ,Function.comp_def]
theorem aaz{m:Nat}{xs:List Int}(h:xs.length=m):dJ m (0:Int) xs=xs:=by
 apply ace;intro j;unfold dJ;by_cases hj:j<m
 ·simp[hj,h]
 ·simp[hj,h]
theorem WE(hΘ:Θ.ok P){t t':TypeId}{x y:Operand}{d:Nat}{l:List UInt8}(ho:o.op=.call { callee:=.builtin .copy,args:=#[x,y],argTypes:=#[t,t']})(h1:ev E x=some (.lf (.sl d)))(h2:ev E y=some (.lf (.c .str l)))(k:Out->Option R) :
  aq ex P o E F n (LF Θ ex t d l F k) k:=by
 unfold LF;split
 ·rename_i e _ _ _ _ b off lo hi ht hp;split
  ·rename_i ie ci cs he hbx;split
   ·rename_i a m xs r hcut;refine aq.bif λhsz=>aq.gchk λhb=>aq.of λhx η ρ hE=>?_
    intro act ev w c next Q ha hL hn
    obtain⟨hlh,hhm⟩:=aaq (hb hx);have e1:=aH hE h1;have e2:=aH hE h2;simp only[AV.val,Lf.val]at e1 e2;obtain⟨ea,la⟩:=g9 hcut;have la:=la η;obtain⟨⟨ty,hbb⟩,hc⟩:=tR hbx hL;obtain⟨h0,hdn,hpt⟩:kQ (η.h d) ⟨some ⟨η.b b,off,none⟩,0,0⟩ 1 lo hi:=hL _ (ZA.2 ⟨_,ae6 hp,rfl⟩);have hcells:au η cs=au η a++((dJ m (0:Int) xs).map λx=>Value.int .u8 x)++au η r:=by rw[ea,aY];simp only[au,Lf.cells,aaf];exact aae (λu=>au η a++(u++au η r)) (QG m xs)
    have hpl:(dJ m (0:Int) xs).length=m:=by simp[dJ]
    obtain⟨q,hq⟩:∃q,q=min (hi-lo).toNat l.length:=⟨_,rfl⟩
    have hbl:(da l).length=l.length:=by simp[da]
    have hti:=(hΘ e ie he).1;obtain⟨inf,hi',_,hsz',_⟩:=hti.get;have hn':(η.h d).n=(hi-lo).toNat:=by omega
    have hrun:=MT (P:=P) (w:=w) (t:=t) (u:=t') (e:=e) (b:=η.b b) (o:=off+lo.toNat) (n:=(η.h d).n) (cap:=(η.h d).cap) (ad:=(η.h d).a) (ty:=o.type) (l:=l) (hΘ t _ ht).2.1 (by rw[hi',al3,hsz',f9 hsz]) hbb
     (λhpos=>by
      obtain⟨b',o',ha',hp'⟩:=hpt (by omega);simp[dR]at hp';rw[ha',<-hp'.1,<-hp'.2])
     (by rw[hcells];simp[la,hpl];omega)
    rw[hn',<-hq]at hrun;have hnew:(au η cs).take (off+lo.toNat)++((da l).take q).map (λx=>Value.int .u8 x)++(au η cs).drop (off+lo.toNat+q)=au η (a++.ar m (.int .u8) (io m xs lo hi l)::r):=by
     have hcl:(io m xs lo hi l).length=m:=by simp[io,hpl,hbl];omega
     have hf:=QG m (io m xs lo hi l);rw[aaz hcl]at hf;rw[aY];simp only[au,Lf.cells];refine Eq.trans ?_ (aae (λu=>au η a++(u++au η r)) hf.symm);rw[hcells];unfold io;rw[<-hq,aaf (au η a),acE,abe,la,aaU (by omega),aa6 (as:=au η a) (by omega),
      show off+lo.toNat-off=lo.toNat by omega,show off+lo.toNat+q-off=lo.toNat+q by omega,ahB (by simp[hpl];omega),List.drop_append_of_le_length (by simp[hpl];omega)]
     simp only[abz,ajI,amC,aaf,abx]
    rw[hnew]at hrun;have hex:(execOp ev o).run P w=.ok (.value (.int .i64 (q:Int))) (w.setRow (η.b b) (au η (a++.ar m (.int .u8) (io m xs lo hi l)::r)).toArray):=by subst ha;simp[execOp,ho,e1,e2,resolve,invoke,builtin,Hd.val,hn',hrun,Result.andThen,SC.val]
    rw[hex,hq];refine hn ⟨η,Vn.agr_refl n η⟩ _ c (qI hc) (aj.cons ⟨⟨ty,setRow_heap w _ _ _ ty (0,0) hbb⟩,hc⟩ (aj.nil _ _))
   ·exact aq.none
  ·exact aq.none
 ·exact aq.none
def LP(Θ:Tb)(ex:Option Bool)(t:TypeId)(h:Nat):(te:TC)->Int->(u:TC)->Pa te u->List AF->(Out->Option R)->Option R->Option R
 |.sc s,i,_,.here,F,k,alt=>match Θ t with
  |some ⟨.arr _ _,_,_,_,_⟩=>FG Θ ex t h s i F k
  |_=>alt
 |_,_,_,_,_,_,alt=>alt
theorem Yd(hΘ:Θ.ok P){t:TypeId}{x:Operand}{h:Nat}{te:TC}{i:Int}{u:TC}{p:Pa te u}(ho:o.op=.load t x)(h1:ev E x=some (.lf (.rp h te i u p)))(k:Out->Option R){alt:Option R}(ha:aq ex P o E F n alt k):aq ex P o E F n (LP Θ ex t h te i u p F k alt) k:=by
 unfold LP;split
 ·split
  ·exact SY hΘ ho h1 k
  ·exact ha
 ·exact ha
end
end
section
variable [X:XTab] [G:GTab] [Yc:GCx]
section
variable {R:Type} {P:Program} {o:Oper} {E:SE} {F:List AF} {n:Nat} {Θ:Tb} {ex:Option Bool}
def lv(m:Nat):List Lf->Option (List Int)
 |[]=>bif Nat.beq m 0 then some []else none
 |[.ar k s xs]=>if h:s=.int .u8 then(bif Nat.beq k m then some (uA h xs)else none)else none
 |_=>none
def Zz(m:Nat)(xs:List Int):List Lf:=match m with
 |0=>[]
 |m+1=>[.ar (m+1) (.int .u8) xs]
theorem QU{m:Nat}{η:Vn}:∀{ls:List Lf} {xs:List Int},lv m ls=some xs->au η ls=E4 m xs
 |[],xs,h=>by
  simp only[lv]at h;cases hb:Nat.beq m 0
  ·simp[hb]at h
  ·obtain rfl:=f9 hb;rfl
 | [.ar k s x],xs,h=>by
  simp only[lv]at h;split at h
  ·rename_i hs;subst hs;cases hb:Nat.beq k m
   ·simp[hb]at h
   ·obtain rfl:=f9 hb;simp only[hb,Ze,uA,no]at h;subst h;simp only[au,Lf.cells,Z2];rfl
  ·cases h
 |.c _ _::_,_,h=>by simp[lv]at h
 |.sl _::_,_,h=>by simp[lv]at h
 |.nl::_,_,h=>by simp[lv]at h
 |.bp _ _::_,_,h=>by simp[lv]at h
 |.bq _ _ _ _ _::_,_,h=>by simp[lv]at h
 |.rp _ _ _ _ _::_,_,h=>by simp[lv]at h
 |.xt _ _::_,_,h=>by simp[lv]at h
 |.fn _::_,_,h=>by simp[lv]at h
 |.yl::_,_,h=>by simp[lv]at h
 |.clo _ _::_,_,h=>by simp[lv]at h
 |.gp _ _ _ _ _::_,_,h=>by simp[lv]at h
 |.ars _ _::_,_,h=>by simp[lv]at h
 |.mp _::_,_,h=>by simp[lv]at h
 |.v _::_,_,h=>by simp[lv]at h
 |.ar _ _ _::_::_,_,h=>by simp[lv]at h
theorem QS{m:Nat}{η:Vn}{xs:List Int}:au η (Zz m xs)=E4 m xs:=by
 cases m with
 |zero=>rfl
 |succ m=>
  simp only[Zz,au,Lf.cells,Z2];rfl
def adP:AV->Option (List Lf)
 |.ag ls=>some ls
 |.lf (.ar n s x)=>some [.ar n s x]
 |_=>none
theorem aeF{v:AV}{ls:List Lf}(h:adP v=some ls)(η:Vn):v.val η=.agg (au η ls).toArray:=by
 unfold adP at h;split at h
 ·simp only[no]at h;subst h;rfl
 ·simp only[no]at h;subst h;simp[AV.val,Lf.val,au,Lf.cells]
 ·cases h
def adc(Θ:Tb)(t:TypeId)(v:AV)(k:Out->Option R):Option R:=match Θ t,X.ik t,adP v with
 |some ⟨.st _,_,_,_,_⟩,some m,some ls=>match lv (X.il t) ls with
  |some xs=>k (bc (.lf (.xt m (X.imk m t xs))))
  |none=>none
 |_,_,_=>none
theorem akT(hΘ:Θ.ok P){t:TypeId}{x:Operand}{v:AV}(ho:o.op=.makeInterface t x)(h1:ev E x=some v)(k:Out->Option R):aq ex P o E F n (adc Θ t v k) k:=by
 unfold adc;split
 ·rename_i m ls ht hk hv;split
  ·rename_i xs hp;refine aq.of λhx=>dc.pure λη ρ hE=>?_
   have e1:=aH hE h1;rw[aeF hv,QU hp]at e1;obtain⟨_,⟨Fd,g2,_⟩,_,_⟩:=hΘ t _ ht;simp only[AV.val,Lf.val,X.iok t m xs hk];exact aks ho g2 rfl e1
  ·exact aq.none
 ·exact aq.none
def acf(Θ:Tb)(t:TypeId)(v:AV)(k:Out->Option R):Option R:=match v,Θ t,X.ik t with
 |.lf (.xt m d),some ⟨.st _,_,_,zl,_⟩,some m'=>bif Nat.beq m m' then match lv (X.il t) zl with
  |some []=>k (bc (.tu [.ag (Zz (X.il t) ((X.iget m t d).getD [])),.lf (.c .bool (X.iget m t d).isSome)]))
  |_=>none
  else none
 |_,_,_=>none
theorem akH(hΘ:Θ.ok P){t0 t:TypeId}{x:Operand}{v:AV}(ho:o.op=.typeAssert x t0 t true)(h1:ev E x=some v)(k:Out->Option R):aq ex P o E F n (acf Θ t v k) k:=by
 unfold acf;split
 ·rename_i m d fs sz b zl tc m' ht hk;refine aq.bif λhm=>?_
  obtain rfl:=f9 hm;split
  ·rename_i hp;refine aq.of λhx=>dc.pure λη ρ hE=>?_
   have e1:=aH hE h1;simp only[AV.val,Lf.val]at e1;obtain⟨g1,⟨Fd,g2,_⟩,g3,g4⟩:=hΘ t _ ht;have hg:=X.gok t m d hk;cases hq:X.iget m t d with
   |some xs=>
    rw[hg.1 xs hq]at e1;have:=Kc (L:=F.map (AF.ha η)) (xt:=t0) ho g2 rfl e1;simpa[AV.val,AV.vals,Lf.val,QS]using this
   |none=>
    obtain⟨t',u,hv,hne⟩:=hg.2 hq;rw[hv]at e1;have:=Pb (L:=F.map (AF.ha η)) (xt:=t0) ho g2 rfl g1 (Bool.eq_false_iff.2 λhb=>hne (f9 hb)) e1;simpa[AV.val,AV.vals,Lf.val,QS,TInf.zv,TD.agg,QU hp]using this
  ·exact aq.none
 ·exact aq.none
end
end
section
variable [X:XTab] [G:GTab] [Yc:GCx]
def Pa.flat : {t u:TC}->Pa t u->Bool
 |_,_,.here=>true
 |_,_,.fst p=>p.flat
 |_,_,.snd p=>p.flat
 |_,_,.inn p=>p.flat
 |_,_,.nd _=>false
 |_,_,.el _=>false
theorem xB : {t u:TC}->(p:Pa t u)->p.flat=true->u.ty.pureB=true->(x:t.den)->(y:u.den)->(yo:t.ty.Refs)->(r:u.ty.Refs) ->
  ∃A M B,t.ty.fill x yo=A++M++B/\A.length=p.off/\M.length=u.ty.sz/\t.ty.fill (p.put x y) yo=A++u.ty.fill y r++B
 |t,_,.here,_,hp,x,y,yo,r=>⟨[],t.ty.fill x yo,[],by simp,rfl,Ty.fill_length _ _ _,by simp only[Pa.put,abx,Z2];exact nF t.ty hp y yo r⟩
 |_,_,@Pa.fst a b u p,hf,hp,x,y,yo,r=>by
  obtain⟨A,M,B,h1,h2,h3,h4⟩:=xB p hf hp x.1 y yo.1 r;refine⟨A,M,B++b.ty.fill x.2 yo.2,?_,h2,h3,?_⟩
  ·show a.ty.fill x.1 yo.1++b.ty.fill x.2 yo.2=_;grind
  ·show a.ty.fill (p.put x.1 y) yo.1++b.ty.fill x.2 yo.2=_;grind
 |_,_,@Pa.snd a b u p,hf,hp,x,y,yo,r=>by
  obtain⟨A,M,B,h1,h2,h3,h4⟩:=xB p hf hp x.2 y yo.2 r;refine⟨a.ty.fill x.1 yo.1++A,M,B,?_,?_,h3,?_⟩
  ·show a.ty.fill x.1 yo.1++b.ty.fill x.2 yo.2=_;grind
  ·rw[ZD,Ty.fill_length,h2];rfl
  ·show a.ty.fill x.1 yo.1++b.ty.fill (p.put x.2 y) yo.2=_;grind
 |_,_,.inn p,hf,hp,x,y,yo,r=>xB p hf hp x y yo r
theorem Bq{w:World}{S:Nat->Prop}{d:Nat->List Nat} : {t u:TC}->(p:Pa t u)->p.flat=true->u.ty.pureB=true->(x:t.den)->(y:u.den)->(ε:EI)->(π:List Nat)->(yo:t.ty.Refs)->bz w S d t.ty ε π x yo->bz w S d t.ty ε π (p.put x y) yo
 |_,_,.here,_,hp,_,y,ε,π,yo,_=>sD _ ε π y yo hp
 |_,_,.fst p,hf,hp,x,y,ε,π,yo,h=>⟨Bq p hf hp x.1 y _ _ yo.1 h.1,h.2⟩
 |_,_,.snd p,hf,hp,x,y,ε,π,yo,h=>⟨h.1,Bq p hf hp x.2 y _ _ yo.2 h.2⟩
 |_,_,.inn p,hf,hp,x,y,ε,π,yo,h=>Bq p hf hp x y ε π yo h
section
variable {R:Type} {P:Program} {o:Oper} {E:SE} {F:List AF} {n:Nat} {Θ:Tb} {ex:Option Bool}
def FO(Θ:Tb)(ex:Option Bool)(t:TypeId)(h:Nat)(te:TC)(i:Int)(u:TC)(p:Pa te u)(v:AV)(F:List AF)(k:Out->Option R)(alt:Option R):Option R:=match Θ t,jQ te h F,v.lvs with
 |some inf,some ⟨some (e,ci),K,xs⟩,some ls=>match eM e&&p.flat&&u.ty.pureB,bR F u ls with
  |true,some (y,_,_,[])=>bif Nat.beq inf.sz u.ty.sz then gbind ex te.dft (ae xs i) λx=>k ⟨.lf (.v undef),[.own te e ci K (xs.set i.toNat (p.put x y)) h],[ci]⟩else none
  |_,_=>alt
 |_,_,_=>alt
theorem Rs(hΘ:Θ.ok P){t:TypeId}{x z:Operand}{h:Nat}{te:TC}{i:Int}{u:TC}{p:Pa te u}{v:AV}(ho:o.op=.store t x z)(h1:ev E x=some (.lf (.rp h te i u p)))(h2:ev E z=some v)(k:Out->Option R){alt:Option R}(halt:aq ex P o E F n alt k) :
  aq ex P o E F n (FO Θ ex t h te i u p v F k alt) k:=by
 unfold FO;split
 ·rename_i inf e ci K xs ls hi hs hl;split
  ·rename_i y l Kd hg hd;refine aq.bif λhsz=>aq.gbind λd hdv=>aq.of λhx η ρ hE=>?_
   simp only[Y5]at hg;obtain⟨⟨htr,hfl⟩,hp⟩:=hg;have hsz:=f9 hsz;obtain⟨g1,_⟩:=hΘ t inf hi;obtain⟨i1,i2,i3⟩:=lZ (hdv hx);have hm:(dS te.ty e ci K xs (η.h h))∈F.map (AF.ha η):=ZA.2 ⟨_,fB hs,rfl⟩;rw[gZ htr]at hm;obtain⟨j,hj⟩:=List.getElem?_of_mem hm;have hcl:=(dA (η:=η) u hd).1;simp only[au,Z2]at hcl;have hlen:(au η ls).length=u.ty.sz:=by rw[hcl];exact Ty.fill_length _ _ _
   have hoff:p.off+(au η ls).length<=te.ty.sz:=by obtain⟨A,M,B,q1,q2,q3,_⟩:=xB p hfl hp d y (aM te []) (aM u []);have:=aae List.length q1;rw[Ty.fill_length]at this;grind
   have hp':aJ ρ x=.pointer (some (dR (η.h h) (i.toNat*te.ty.sz+p.off))):=aH hE h1;refine(OZ (L:=F.map (AF.ha η)) j hj ho g1 hp' (aH hE h2) (v.lvs_cells hl η) (by grind) (Zy.2 (mB (AV.lvs_one hl))) hoff i2 (xn:=p.put d y) (λyo=>?_) (λw S dd ε π yo hT=>Bq p hfl hp d y ε π yo hT)).map (λ_=>⟨η,Vn.agr_refl n η⟩) (λ_=>rfl) (λ_=>by simp[AF.ha,gZ htr]);obtain⟨A,M,B,q1,q2,q3,q4⟩:=xB p hfl hp d y yo (aM u (aT η l));rw[q4,q1,hcl,<-q2];grind
  ·exact halt
 ·exact halt
end
end
end Go.Sm
