/- Laws for the row. No condition. -/
import Derived.Test.YtgghcmbaidihjaaGreatDoorRfHc
import Derived.RangeFuncSeq
import Derived.Test.YtgghcmbaidihjaaGreatDoorSimR
import Derived.Laws.CopyRow
namespace Go.Sm
set_option linter.unusedSectionVars false
variable {t t' kt:TypeId} {x y x0:Operand} {N h d:Nat} {Gq:TypeId->Bool} {xs:Array Operand} {ts:Array TypeId}
section
variable [X:XTab] [G:GTab] [Yc:GCx]
def aog(P:Program)(f:FuncId)(vs:List AV)(F:List AF)(n:Nat)(u:Out):Prop:=∀(a:Vn) (w:World) (c:aS),ao w c (F.map (AF.ha a)++fH) ->
 Calls P f (AV.vals a vs).toArray w (λe w'=>∃(y : { η':Vn//a.agr n η'}) (c':aS),e=.returned (u.av.val y.1)/\Stp u.κ w c w' c'/\ao w' c' (u.fs.map (AF.ha y.1)))
structure Inl where
 rw_:Bool
 run : {R:Type}->(ex:Option Bool)->(n N:Nat)->List AV->List AF->(Out->Option R)->Option R
def Inl.sound(P:Program)(f:FuncId)(J:Inl):Prop:=
 (∃fn a,P.funcs[f]?=some fn/\fn.body=some a/\(fn.name == "runtime.NumGoroutine")=false) /\
 ∀{R:Type} (ex:Option Bool) (n N:Nat) (vs:List AV) (F:List AF) (k:Out->Option R) (r:R),J.run ex n N vs F k=some r->∃u,k u=some r/\(ga ex->aog P f vs F n u)
def axe(P:Program)(vs:List AV)(F:List AF)(n:Nat)(u:Out):Prop:=∀(a:Vn) (w:World) (c:aS),ao w c (F.map (AF.ha a)++fH) ->
 YieldAt Fence.wide 0 P Yc.l (AV.vals a vs).toArray w (λe w'=>∃(y : { η':Vn//a.agr n η'}) (c':aS),e=.returned (u.av.val y.1)/\Stp u.κ w c w' c'/\ao w' c' (u.fs.map (AF.ha y.1)))
def Inl.yields(P:Program)(J:Inl):Prop:=∀{R:Type} (ex:Option Bool) (n N:Nat) (vs:List AV) (F:List AF) (k:Out->Option R) (r:R),J.run ex n N vs F k=some r->∃u,k u=some r/\(ga ex->axe P vs F n u)
abbrev It:=FuncId->Option Inl
def It.ok(I:It)(P:Program):Prop:=∀f J,I f=some J->J.sound P f
section
variable {R:Type} {P:Program} {o:Oper} {E:SE} {F:List AF} {n:Nat} {ex:Option Bool}
theorem Q9{c:Vn}:∀(a b:List AV),AV.vals c (a++b)=AV.vals c a++AV.vals c b
 |[],b=>rfl
 |v::r,b=>by simp only[afO,AV.vals,Q9 r b]
theorem Ed{a:Vn}{v0:AV}{f:FuncId}{cap:List AV}(h:rF v0=some (f,cap)):v0.val a=.func (.func f) #[] (AV.vals a cap).toArray:=by unfold rF at h;split at h;all_goals first|(simp only[no,acW]at h;rw[<-h.1,<-h.2];simp only[AV.val,Lf.val,Il];done)|(simp only[no,acW]at h;rw[<-h.1,<-h.2];rfl)|cases h
theorem UJ{J:Inl}{f:FuncId}(z:J.sound P f){v0:AV}{vs cap:List AV}(D:o.op=.call { callee:=.value x0,args:=xs,argTypes:=ts})(v:ev E x0=some v0)(p:rF v0=some (f,cap))(q:zm E xs.toList=some vs)(k:Out->Option R) :
  aq ex P o E F n (J.run ex n N (vs++cap) F k) k:=by
 intro r H;obtain⟨⟨fn,M,hf,B,m⟩,hs⟩:=z;obtain⟨u,K,L⟩:=hs ex n N _ F k r H;refine⟨u,K,λC i ρ s a ev w c next Q ha A S=>?_⟩;have l:¬fn.name = "runtime.NumGoroutine" := by grind
 have b:xs.map (aL ρ)++(AV.vals i cap).toArray=(AV.vals i (vs++cap)).toArray:=akd (by simp[Fw s q,Q9]);have j:aL ρ x0=.func (.func f) #[] (AV.vals i cap).toArray:=by rw[aK s v,Ed p]
 have g:(execOp ev o).run P w=.ok (.enter f (AV.vals i (vs++cap)).toArray) w:=by rw[<-b];simp[execOp,D,resolve,ha,j,Deferred.ofValue,invoke,callFunc,hf,B,l,Result.andThen]
 rw[g,Oper.uponIn_enter];refine⟨λh=>(by cases h),callsIn_wide.2 ?_⟩;refine(L C i w c A).mono ?_;rintro e w' ⟨y,c',rfl,I,O⟩;grind
theorem aqg{J:Inl}(v:J.yields P){vs:List AV}(C:o.op=.call { callee:=.value x0,args:=xs,argTypes:=ts})(s:ev E x0=some (.lf .yl))(l:zm E xs.toList=some vs)(k:Out->Option R) :
  aq ex P o E F n (J.run ex n N vs F k) k:=by
 intro r D;obtain⟨u,I,K⟩:=v ex n N _ F k r D;refine⟨u,I,λB q ρ m a ev w c next Q ha z M=>?_⟩;have b:xs.map (aL ρ)=(AV.vals q vs).toArray:=akd (by simp[Fw m l]);have j:aL ρ x0=.func (.yield Yc.l) #[] #[]:=aK m s;obtain⟨fn,tmps,i,f,p,A⟩:=K B q w c z;have g:(execOp ev o).run P w=.ok (.round Yc.l fn tmps i f) w:=by rw[<-b]at p;simp[execOp,C,resolve,ha,j,Deferred.ofValue,invoke,p,Result.andThen]
 rw[g,Oper.uponIn_round];refine⟨λh=>(by cases h),A.mono ?_⟩;rintro e w' ⟨y,c',rfl,H,L⟩;grind
def RN(a:Option Inl)(I:It)(Γ:Ct)(D:List DCtr)(E:SE)(ex:Option Bool)(n N:Nat)(v0:AV)(xs:List Operand)(F:List AF)(k:Out->Option R):Option R:=match v0 with
 | .lf (.fn f)=>match I f with
  |some J=>match zm E xs with
   |some vs=>J.run ex n N (vs++[]) F k
   |none=>none
  |none=>G3 Γ D E ex n N v0 xs F k
 | .lf (.clo f bs)=>match I f with
  |some J=>match zm E xs with
   |some vs=>J.run ex n N (vs++bs.map λb=>.lf (.bp b 0)) F k
   |none=>none
  |none=>G3 Γ D E ex n N v0 xs F k
 | .lf .yl=>match a with
  |some J=>match zm E xs with
   |some vs=>J.run ex n N vs F k
   |none=>none
  |none=>none
 |v0=>G3 Γ D E ex n N v0 xs F k
theorem ada{g:Option Inl}(m:∀J,g=some J->J.yields P){I:It}(l:I.ok P){Γ:Ct}(b:Γ.ok P){D:List DCtr}(i:∀C∈D,DCtr.sound P C){v0:AV}(e:o.op=.call { callee:=.value x0,args:=xs,argTypes:=ts})(c:ev E x0=some v0)(k:Out->Option R) :
  aq ex P o E F n (RN g I Γ D E ex n N v0 xs.toList F k) k:=by
 unfold RN;split
 ·rename_i f;split
  ·rename_i J j;split
   ·rename_i vs a;exact UJ (l f J j) e c rfl a k
   ·exact aq.none
  ·exact EN b i e c k
 ·rename_i f bs;split
  ·rename_i J j;split
   ·rename_i vs a;exact UJ (l f J j) e c rfl a k
   ·exact aq.none
  ·exact EN b i e c k
 ·cases g with
  |none=>exact aq.none
  |some J=>
   dsimp only;split
   ·rename_i vs a;exact aqg (m J rfl) e c a k
   ·exact aq.none
 ·exact EN b i e c k
end
end
section
variable [X:XTab] [G:GTab] [Yc:GCx]
def TC.eqD:(t:TC)->t.den->t.den->Bool
 |.sc (.int _),a,b=>(show Int from a)==(show Int from b)
 |.sc .bool,a,b=>(show Bool from a)==(show Bool from b)
 |.sc .str,a,b=>(show List UInt8 from a)==(show List UInt8 from b)
 |.pair a b,x,y=>a.eqD x.1 y.1&&b.eqD x.2 y.2
 |_,_,_=>false
def dt(k v:TC)(x:k.den)(xs:List (k.den×v.den)):Option v.den:=(xs.find? λp=>k.eqD x p.1).map (·.2)
def cP(k v:TC)(x:k.den)(y:v.den)(xs:List (k.den×v.den)):List (k.den×v.den):=AW (λp=>k.eqD x p.1) (x,y) xs
def Gn(Θ:Tb)(t:TypeId)(s:SC):Bool:=match Θ t,s with
 |some ⟨.int k,_,_,_,_⟩,.int a=>decide (a=k)
 |some ⟨.bool,_,_,_,_⟩,.bool=>true
 |some ⟨.str,_,_,_,_⟩,.str=>true
 |_,_=>false
def dS(Θ:Tb):List (TypeId×Nat)->TC->Nat->Bool
 |[(a,off)],.sc s,pos=>Nat.beq off pos&&Gn Θ a s
 |(a,off)::c::fs,.pair (.sc s) b,pos=>Nat.beq off pos&&Gn Θ a s&&dS Θ (c::fs) b (pos+1)
 |_,_,_=>false
theorem I9{Θ:Tb}{b:TypeId}{off pos:Nat}{s:SC}{x y:s.den}{fs:List (TypeId×Nat)}{r r':List Lf}{e:Bool}(c:Nat.beq off pos=true)(a:Gn Θ b s=true)(f:pA Θ fs r r' (pos+1)=some e):pA Θ ((b,off)::fs) (.c s x::r) (.c s y::r') pos=some ((TC.sc s).eqD x y&&e):=by
 obtain rfl:=f9 c;unfold Gn at a;split at a
 ·grind[pA,TC.eqD]
 ·grind[pA,TC.eqD]
 ·grind[pA,TC.eqD]
 ·cases a
theorem Nu{Θ:Tb}:∀{k:TC} {fs:List (TypeId×Nat)} {pos:Nat} {x y:k.den} {n:Nat},dS Θ fs k pos=true->pA Θ fs (jK k x n) (jK k y n) pos=some (k.eqD x y)
 |.sc s,[(a,off)],pos,x,y,n,h=>by simp only[dS,abF]at h;have:=I9 (Θ:=Θ) (x:=x) (y:=y) (fs:=[]) (r:=[]) (r':=[]) (e:=true) h.1 h.2 (by simp[pA]);rw[aii]at this;exact this
 |.pair (.sc s) b,(a,off)::c::fs,pos,x,y,n,h=>by rw[dS,abF,abF]at h;exact I9 (x:=x.1) (y:=y.1) h.1.1 h.1.2 (Nu (k:=b) (x:=x.2) (y:=y.2) (n:=n+(TC.sc s).nh) h.2)
 |.sc s,[],_,_,_,_,h=>by simp[dS]at h
 |.sc s,_::_::_,_,_,_,_,h=>by simp[dS]at h
 |.pair (.sc s) b,[],_,_,_,_,h=>by simp[dS]at h
 |.pair (.sc s) b,[_],_,_,_,_,h=>by simp[dS]at h
 |.pair (.arr _ _) b,fs,_,_,_,_,h=>by rcases fs with _|⟨_,_|_⟩<;>simp[dS]at h
 |.pair .unit b,fs,_,_,_,_,h=>by rcases fs with _|⟨_,_|_⟩<;>simp[dS]at h
 |.pair (.pair _ _) b,fs,_,_,_,_,h=>by rcases fs with _|⟨_,_|_⟩<;>simp[dS]at h
 |.pair (.slice _) b,fs,_,_,_,_,h=>by rcases fs with _|⟨_,_|_⟩<;>simp[dS]at h
 |.pair (.st _) b,fs,_,_,_,_,h=>by rcases fs with _|⟨_,_|_⟩<;>simp[dS]at h
 |.pair (.ext _) b,fs,_,_,_,_,h=>by rcases fs with _|⟨_,_|_⟩<;>simp[dS]at h
 |.pair .node b,fs,_,_,_,_,h=>by rcases fs with _|⟨_,_|_⟩<;>simp[dS]at h
 |.pair (.mp _ _) b,fs,_,_,_,_,h=>by rcases fs with _|⟨_,_|_⟩<;>simp[dS]at h
 |.arr _ _,fs,_,_,_,_,h=>by rcases fs with _|⟨_,_|_⟩<;>simp[dS]at h
 |.unit,fs,_,_,_,_,h=>by rcases fs with _|⟨_,_|_⟩<;>simp[dS]at h
 |.slice _,fs,_,_,_,_,h=>by rcases fs with _|⟨_,_|_⟩<;>simp[dS]at h
 |.st _,fs,_,_,_,_,h=>by rcases fs with _|⟨_,_|_⟩<;>simp[dS]at h
 |.ext _,fs,_,_,_,_,h=>by rcases fs with _|⟨_,_|_⟩<;>simp[dS]at h
 |.node,fs,_,_,_,_,h=>by rcases fs with _|⟨_,_|_⟩<;>simp[dS]at h
 |.mp _ _,fs,_,_,_,_,h=>by rcases fs with _|⟨_,_|_⟩<;>simp[dS]at h
theorem Nr:∀{k:TC} {x y:k.den},k.eqD x y=true->x=y
 |.sc (.int _),x,y,h=>by simpa[TC.eqD]using h
 |.sc .bool,x,y,h=>by simpa[TC.eqD]using h
 |.sc .str,x,y,h=>by simpa[TC.eqD]using h
 |.sc .fnc,_,_,h=>by cases h
 |.pair a b,x,y,h=>by simp only[TC.eqD,abF]at h;exact Prod.ext (Nr h.1) (Nr h.2)
 |.arr _ _,_,_,h=>by cases h
 |.unit,_,_,h=>by cases h
 |.slice _,_,_,h=>by cases h
 |.st _,_,_,h=>by cases h
 |.ext _,_,_,h=>by cases h
 |.node,_,_,h=>by cases h
 |.mp _ _,_,_,h=>by cases h
section
variable {R:Type} {P:Program} {o:Oper} {E:SE} {F:List AF} {n:Nat} {Θ:Tb} {ex:Option Bool}
theorem atz(a:Θ.ok P){s:SC}(h:Gn Θ t s=true)(x:s.den):∃D,P.underlying t=some D/\kR D=false/\MapKept.IsKey D (s.val x):=by
 unfold Gn at h;split at h
 ·rename_i k _ _ _ _ c hi;have b:=(a t _ hi).2.1;obtain rfl:=aex h;exact⟨_,b,rfl,rfl⟩
 ·rename_i hi;exact⟨_,(a t _ hi).2.1,rfl,trivial⟩
 ·rename_i hi;exact⟨_,(a t _ hi).2.1,rfl,trivial⟩
 ·cases h
abbrev aaM(em:Bool)(d:Nat)(xs:Array Value)(f:Field):Sem (ForInStep PUnit):=if f.name ≠ "_" then do
  let v<-part f.type xs f.offset
  Instr.checkKey em (d+1) f.type v
  pure (ForInStep.yield PUnit.unit)
 else pure (ForInStep.yield PUnit.unit)
theorem asN(l:Θ.ok P){w:World}{η:Vn}{xs:Array Value}{em:Bool}:∀{fl:List Field} {fs:List (TypeId×Nat)} {k:TC} {x:k.den} {n pos:Nat},fl.map (λf=>(f.type,f.offset))=fs->fl.all (λf=>!(f.name == "_"))=true->dS Θ fs k pos=true ->
  (∀j,xs[pos+j]?=(aw η (jK k x n))[j]?)->(forIn fl PUnit.unit λf (_:PUnit)=>(aaM em d xs f)).run P w=.ok () w:=by
 have one:∀{f:Field} {fl:List Field} {s:SC} {x:s.den} {pos:Nat},(f.name == "_")=false->Nat.beq f.offset pos=true->Gn Θ f.type s=true->xs[pos]?=some (s.val x) ->
   (forIn fl PUnit.unit λf (_:PUnit)=>(aaM em d xs f)).run P w=.ok () w ->
   (forIn (f::fl) PUnit.unit λf (_:PUnit)=>(aaM em d xs f)).run P w=.ok () w:=by
  intro f fl s x pos c v hs g q;obtain⟨D,p,i,r⟩:=atz l hs x;have u:¬f.name = "_" := by simpa using c
  have A:(part f.type xs f.offset).run P w=.ok (s.val x) w:=by simp[part,l7 p i,f9 v,g,Result.andThen]
  have B:(Instr.checkKey em (d+1) f.type (s.val x)).run P w=.ok () w:=MapKept.run_checkKey p r em d;simp_all
 intro fl;induction fl with
 |nil=>simp_all
 | cons f fl q=>
  intro fs k x n pos m c h g;simp only[aev]at m;subst m;simp only[afR,abF,afm]at c;cases fl with
  |nil=>
   cases k<;>simp only[ahd,dS]at h<;>try cases h
   rename_i s;simp only[abF]at h;have e:=g 0;simp only[afu,jK,aw,Lf.cells,afO,agE]at e;exact one c.1 h.1 h.2 e (by simp_all)
  |cons z fl=>
   cases k<;>simp only[aev,dS]at h<;>try cases h
   rename_i a b;cases a<;>simp only[dS]at h<;>try cases h
   rename_i s;rw[abF,abF]at h;have e:=g 0;simp only[afu,jK,aw,Lf.cells,afO,agE]at e;refine one c.1 h.1.1 h.1.2 e (q (k:=b) (x:=x.2) (n:=n+0) (pos:=pos+1) rfl c.2 h.2 λj=>?_);have:=g (j+1);rw[show pos+(j+1)=pos+1+j by omega]at this;simpa[jK,aw,Lf.cells,TC.nh]using this
theorem Ej(n:Nat)(s:SC)(x:s.den)(h:s≠.fnc):Instr.sameBits n (s.val x) (s.val x)=true:=by
 cases s with
 |int k=>simp[SC.val,Instr.sameBits]
 |bool=>simp[SC.val,Instr.sameBits]
 |str=>
  grind[Instr.sameBits,MapKept.bytes_beq]
 |fnc=>grind
theorem Qx{g:Vn}{m:Nat}:∀{k:TC} {fs:List (TypeId×Nat)} {pos n:Nat} {x:k.den},dS Θ fs k pos=true->∀v∈aw g (jK k x n),Instr.sameBits m v v=true:=by
 have ne:∀{t:TypeId} {s:SC},Gn Θ t s=true->s≠.fnc:=by intro t s h e;subst e;unfold Gn at h;grind
 intro k;induction k with
 |sc s=>
  intro fs pos n x h v f;rcases fs with _|⟨⟨c,off⟩,_|_⟩<;>simp only[dS]at h<;>try cases h
  grind[jK,aw,Lf.cells,List.mem_singleton,Ej]
 |pair a b _ j=>
  intro fs pos n x h v f;rcases fs with _|⟨⟨c,off⟩,_|⟨i,fs⟩⟩<;>cases a<;>simp only[dS]at h<;>try cases h
  grind[jK,aw,Lf.cells,Ej]
 |_=>
  grind[dS]
theorem AP:∀{k:TC} {fs:List (TypeId×Nat)} {pos:Nat},dS Θ fs k pos=true->k.ty.pureB=true:=by
 intro k;induction k with
 |sc s=>intros;rfl
 |pair a b _ f=>
  intro fs pos h;rcases fs with _|⟨⟨e,off⟩,_|⟨c,fs⟩⟩<;>cases a<;>simp only[dS]at h<;>try cases h
  grind[Ty.pureB]
 |_=>
  grind[dS]
def HV(Θ:Tb)(Gq:TypeId->Bool)(kt:TypeId)(k:TC):Bool:=match Θ kt,k with
 |some ⟨.int c,_,_,_,_⟩,.sc (.int e)=>decide (e=c)
 |some ⟨.st fs,_,_,_,_⟩,.pair a b=>Gq kt&&dS Θ fs (.pair a b) 0
 |_,_=>false
theorem Uk(e:Θ.ok P)(q:∀t,Gq t=true->AU P t){k v:TC}(h:HV Θ Gq kt k=true)(x:k.den)(xs:List (k.den×v.den)) :
  KeyRun P kt (om k x) (λp=>k.eqD x p.1) (λp:k.den×v.den=>(om k p.1,om v p.2)) xs:=by
 unfold HV at h;split at h
 ·rename_i u _ _ _ _ z hi;obtain rfl:=aex h;exact avp (g:=λp=>p.1) (e kt _ hi).2.1 x (λ_ _=>rfl) (λ_ _=>rfl)
 ·rename_i fs _ _ _ _ a b hi;simp only[abF]at h;obtain⟨s,m,f⟩:=q kt h.1;obtain⟨l,hs,i⟩:=(e kt _ hi).2.1;have hf:P.fieldsOf kt=l:=by simp[Program.fieldsOf,hs]
  rw[hf]at f;have c:∀y:(TC.pair a b).den,om (.pair a b) y=.agg (aw FD (jK (.pair a b) y 0)).toArray:=by intro y;rw[jf (.pair a b) y [] 0 (λj h r=>by simp at r) (by rw[zu _ (AP h.2)];grind)];simp only[om];rw[pq _ (AP h.2) y _ (aO (TC.pair a b) [])]
  refine ab8 hs (λw em=>?_) (λw p _=>?_) (λp _ hq=>?_) ?_
  ·rw[c];rw[show(10000:Nat)=9999+1 from rfl,Instr.checkKey];simp only[Sem.run_bind,run_underlying hs,Result.andThen_ok];rw[<-Array.forIn_toList];have:=asN (P:=P) e (w:=w) (η:=FD) (xs:=(aw FD (jK (.pair a b) x 0)).toArray) (em:=em) (d:=9998) i f h.2 (x:=x) (n:=0) (λj=>by simp);simp_all
  ·simp only;rw[c,c];rw[run_equalIn_struct (P:=P) w 9999 kt _ _ (by grind) m,hf];exact zw e (η:=FD) (d:=9998) i f (Nu (n:=0) h.2) (λj=>by simp) (λj=>by simp)
  ·simp only at hq|-;rw[Nr hq]
  grind[Instr.sameBits,List.all_eq_true,List.getElem_of_mem,Qx,List.getElem_mem]
 ·cases h
theorem arb:∀(t:TC),t.ty.pureB=true->∀(x:t.den) (y:t.ty.Refs),mz t x y=om t x
 |.sc _,_,_,_=>rfl
 |.arr _ _,_,_,_=>rfl
 |.unit,_,_,_=>rfl
 |.pair a b,h,x,y=>by grind[mz,om,pq]
 |.st a,h,x,y=>by simp only[mz,om];rw[pq _ h x y a.ref0]
 |.slice _,h,_,_=>by cases h
 |.ext _,_,_,_=>rfl
 |.node,h,_,_=>by cases h
 |.mp _ _,h,_,_=>by cases h
theorem QM{t:TC}{v:AV}{x:t.den}{l:List Lf}{K:List Nat}(h:rf [] t v=some (x,l,K))(a:t.ty.pureB=true)(η:Vn):v.val η=om t x:=by rw[(wz (η:=η) h).1,arb t a]
theorem IL{k:TC}(h:HV Θ Gq kt k=true):k.ty.pureB=true:=by
 unfold HV at h;split at h
 ·rfl
 ·simp only[abF]at h;exact AP h.2
 ·cases h
def agQ(Θ:Tb)(n N:Nat)(t:TypeId)(k:Out->Option R):Option R:=match Θ t with
 |some ⟨.map kt a,_,_,_,_⟩=>match Θ kt,Θ a with
  |some ik,some b=>bif Nat.ble 2 N then k ⟨.lf (.mp n),[.mp ik.tc b.tc N [] n],[]⟩else none
  |_,_=>none
 |_=>none
theorem aqW(e:o.op=.makeMap t none)(k:Out->Option R):aq ex P o E F n (agQ Θ n N t k) k:=by
 unfold agQ;split
 ·split
  ·refine aq.bif λc=>aq.of λ_ a ρ f=>?_;refine(XF e c).map (λb=>⟨a.setH n ⟨some ⟨b,0,none⟩,0,0⟩,a.setH_agr n _⟩) (λb=>?_) λb=>?_
   ·simp[AV.val,Lf.val,Vn.setH_at,Hd.blk]
   ·simp[AF.ha,Vn.setH_at,Hd.blk,Cn]
  ·exact aq.none
 ·exact aq.none
def QU(ex:Option Bool)(a e:TC)(x:a.den)(xs:List (a.den×e.den))(c:TInf)(k:Out->Option R):Option R:=match e,xs,c.zl with
 |.sc .bool,xs,[.c .bool b]=>bif c.d.agg then none else k ⟨.lf (.c .bool ((dt a (.sc .bool) x xs).getD b)),[],[]⟩
 |.sc .fnc,xs,_=>gbind ex (0:Nat) (dt a (.sc .fnc) x xs) λf=>k ⟨.lf (.c .fnc f),[],[]⟩
 |_,_,_=>none
def Wd(Θ:Tb)(Gq:TypeId->Bool)(ex:Option Bool)(t:TypeId)(h:Nat)(v:AV)(F:List AF)(k:Out->Option R):Option R:=match Θ t with
 | some ⟨.map kt b,_,_,_,_⟩=>match Θ kt,Θ b with
  |some ik,some a=>match xd ik.tc a.tc h F,rf [] ik.tc v with
   |some s,some (x,_,_)=>bif HV Θ Gq kt ik.tc then QU ex ik.tc a.tc x s.xs a k else none
   |_,_=>none
  |_,_=>none
 |_=>none
theorem abR{z:TypeId}{m:Operand}{a l:TC}{i:Nat}{x:a.den}{xs:List (a.den×l.den)}{r:TInf}(A : .mp a l i xs h∈F)(u:r.ok P z)(D:P.underlying t=some (.map kt z))(C:o.op=.lookup t m y false)(B:ev E m=some (.lf (.mp h)))
  (H:∀(c:Vn) (ρ:dm),mH c ρ E->aL ρ y=om a x) (K:KeyRun P kt (om a x) (λp=>a.eqD x p.1) (λp:a.den×l.den=>(om a p.1,om l p.2)) xs) (k:Out->Option R):aq ex P o E F n (QU ex a l x xs r k) k:=by
 unfold QU;split
 ·rename_i xs b J;cases s:r.d.agg;rotate_left
  ·exact aq.none
  refine aq.of λ_=>dl.pure λc ρ g=>?_;obtain⟨j,v⟩:=mN A c;have w:r.zv=.bool b:=by simp[TInf.zv,s,J,aw,Lf.cells,SC.val]
  have q:=u.1;rw[w]at q;have:=aeb (L:=F.map (AF.ha c)) j v C D (by rw[aK g B];rfl) (H c ρ g) K q;have e:(AV.lf (.c .bool ((dt a (.sc .bool) x xs).getD b))).val c=((xs.find? λp=>a.eqD x p.1).map λp:a.den×(TC.sc .bool).den=>om (.sc .bool) p.2).getD (.bool b):=by simp only[AV.val,Lf.val,dt];cases xs.find? λp=>a.eqD x p.1<;>rfl
  grind
 ·rename_i xs;refine aq.gbind λf hf=>aq.of λI=>dl.pure λc ρ g=>?_
  obtain⟨j,v⟩:=mN A c;have hf:=hf I;simp only[dt,afe]at hf;obtain⟨a0,q,rfl⟩:=hf;exact abK (L:=F.map (AF.ha c)) j v C D (by rw[aK g B];rfl) (H c ρ g) K q
 ·exact aq.none
theorem ak0(a:Θ.ok P)(j:∀t,Gq t=true->AU P t){m:Operand}{v:AV}(p:o.op=.lookup t m y false)(f:ev E m=some (.lf (.mp h)))(g:ev E y=some v)(k:Out->Option R) :
  aq ex P o E F n (Wd Θ Gq ex t h v F k) k:=by
 unfold Wd;split
 ·rename_i kt e _ _ _ _ q;split
  ·rename_i ik r l b;split
   ·rename_i s x _ _ hs hd;refine aq.bif λc=>?_
    exact abR (ir hs) (a e r b) (a t _ q).2.1 p f (λu ρ i=>by rw[aK i g];exact QM hd (IL c) u) (Uk a j c x s.xs) k
   ·exact aq.none
  ·exact aq.none
 ·exact aq.none
def LP(Θ:Tb)(Gq:TypeId->Bool)(t:TypeId)(h:Nat)(v1 c:AV)(F:List AF)(k:Out->Option R):Option R:=match Θ t with
 | some ⟨.map kt b,_,_,_,_⟩=>match Θ kt,Θ b with
  |some ik,some a=>match xd ik.tc a.tc h F,rf [] ik.tc v1,rf [] a.tc c with
   |some s,some (x,_,_),some (y,_,_)=>bif HV Θ Gq kt ik.tc&&a.tc.ty.pureB then k ⟨.lf (.v undef),[.mp ik.tc a.tc s.i (cP ik.tc a.tc x y s.xs) h],[s.i]⟩else none
   |_,_,_=>none
  |_,_=>none
 |_=>none
theorem O7(b:Θ.ok P)(A:∀t,Gq t=true->AU P t){m z:Operand}{v1 r:AV}(H:o.op=.mapUpdate t m y z\/o.op=.insert t m y z)(u:ev E m=some (.lf (.mp h)))(v:ev E y=some v1)(w:ev E z=some r)
  (k:Out->Option R):aq ex P o E F n (LP Θ Gq t h v1 r F k) k:=by
 unfold LP;split
 ·rename_i kt K _ _ _ _ I;split
  ·rename_i ik l C B;split
   ·rename_i s x _ _ J _ _ hs g i;refine aq.bif λc=>aq.of λ_ a ρ e=>?_
    simp only[abF]at c;obtain⟨j,D⟩:=mN (ir hs) a;exact(acE (L:=F.map (AF.ha a)) (a0:=(x,J)) (q:=λp=>ik.tc.eqD x p.1) (f:=λp:ik.tc.den×l.tc.den=>(om ik.tc p.1,om l.tc p.2)) j D H (b t _ I).2.1 (by rw[aK e u];rfl) (by rw[aK e v];exact QM g (IL c.1) a)
     (by rw[aK e w];exact QM i c.2 a) (Uk b A c.1 x s.xs)).map (λ_=>⟨a,Vn.agr_refl n a⟩) (λ_=>rfl) (λ_=>rfl)
   ·exact aq.none
  ·exact aq.none
 ·exact aq.none
def Yo(Θ:Tb)(ex:Option Bool)(n N:Nat)(t t':TypeId)(v1 f:AV)(F:List AF)(k:Out->Option R):Option R:=match Θ t,Θ t' with
 | some ⟨.slice e,_,_,_,_⟩,some ⟨.int _,_,_,_,_⟩=>match Θ e,v1,f with
  |some b,.lf c,.lf (.c (.int .i64) a)=>match fY b.tc e N F c,bV [] b.tc b.zl with
   | some (ci,K,xs),some (z,_,_,[])=>bif Nat.beq b.sz b.tc.ty.sz&&Nat.ble 1 b.sz&&b.tc.ty.pureB&&Nat.ble 2 ci&&Nat.blt e 1048576 then
     gchk ex (decide (0<=(show Int from a)/\(xs.length+(show Int from a).toNat)*b.by_<=140737488355328/\xs.length+(show Int from a).toNat<=maxLen)) (k ⟨.lf (.sl n),[.own b.tc e ci K (xs++List.replicate (show Int from a).toNat z) n],[ci]⟩)else none
   |_,_=>none
  |_,_,_=>none
 |_,_=>none
theorem akX(f:Θ.ok P){v1 J:AV}(U:o.op=.call { callee:=.builtin .append,args:=#[x,y],argTypes:=#[t,t']})(O:ev E x=some v1)(Q:ev E y=some J)(k:Out->Option R) :
  aq ex P o E F n (Yo Θ ex n N t t' v1 J F k) k:=by
 unfold Yo;split
 ·rename_i e _ _ _ _ ku _ _ _ _ Y A;split
  ·rename_i i I a T;split
   ·rename_i ci K xs z l Kz g hz;refine aq.bif λH=>aq.gchk λW=>aq.of λZ η ρ D=>?_
    simp only[abF]at H;obtain⟨⟨⟨⟨u,C⟩,V⟩,p⟩,q⟩:=H;have j:=aK D O;have B:=aK D Q;simp only[AV.val]at j B;rw[pM g η]at j;obtain⟨M,_,g3,g4⟩:=f e i T;have b:=(dO (η:=η) i.tc hz).1;simp only[aw,ad0]at b;have m:∀w c,ao w c (F.map (AF.ha η))->ao w c (.own i.tc.ty e ci K xs (I.hd η)::F.map (AF.ha η)):=λw c S=>by have C:=eO g S;grind[dK,fF,ao.cons]
    have s:=W Z;have:=(S9 (o:=o) (ρ:=ρ) (L:=.own i.tc.ty e ci K xs (I.hd η)::F.map (AF.ha η)) (v:=z) (r:=aO i.tc (aT η l)) V 0 rfl U (f t _ Y).2.1 (f t' _ A).2.1 M (f9 u) C (by grind) j B s p q).from m;refine this.map (λh'=>⟨η.setH n h',η.setH_agr n h'⟩) (λh' => ?_) λh' => ?_
    ·simp[AV.val,Lf.val,Vn.setH_at]
    grind[AF.ha,Vn.setH_at,dK,fF]
   ·exact aq.none
  ·exact aq.none
 ·exact aq.none
def cpD(t:TC)(e:TypeId)(N:Nat)(F:List AF)(d:Nat):Option (Nat×Int×Int×Nat×List Nat×List t.den):=match mY d F with
 | some (h,sz,lo,hi)=>bif Nat.beq sz 1 then match fY t e N F (.sl h)with
   |some (ci,K,xs)=>some (h,lo,hi,ci,K,xs)
   |none=>none
  else none
 |none=>match fY t e N F (.sl d)with
  |some (ci,K,xs)=>some (d,0,xs.length,ci,K,xs)
  |none=>none
theorem awS{t:TC}{e:TypeId}{F:List AF}{lo hi:Int}{ci:Nat}{K:List Nat}{xs:List t.den}(a:cpD t e N F d=some (h,lo,hi,ci,K,xs))(z:t.ty.sz=1)(l:Nat.blt e 1048576=true) :
  fY t e N F (.sl h)=some (ci,K,xs)/\∀(f:Vn) (w:World) (c:aS),ao w c (F.map (AF.ha f))->lm (f.h d) (f.h h) 1 lo hi:=by
 unfold cpD at a;split at a
 ·rename_i h' sz v q u;cases m:Nat.beq sz 1
  ·grind
  ·rw[m,abv]at a;split at a
   ·rename_i hs;simp only[no,acW]at a;obtain⟨rfl,rfl,rfl,rfl,rfl,rfl⟩:=a;obtain rfl:=f9 m;exact⟨hs,λf w c k=>k _ (acG.2 ⟨_,gD u,rfl⟩)⟩
   ·cases a
 ·split at a
  ·rename_i hs;simp only[no,acW]at a;obtain⟨rfl,rfl,rfl,rfl,rfl,rfl⟩:=a;refine⟨hs,λf w c k=>?_⟩;have b:=eO hs k;rw[dK (fF l)]at b;obtain⟨rs,A,p,_⟩:=b;refine⟨af3 _,?_,λr=>?_⟩
   ·rcases(p.plain l).2 with⟨i,s⟩|⟨g,cap,j,i,_⟩
    ·simp only[Lf.hd,Hd.val,Value.slice.injEq]at i;omega
    grind[Lf.hd]
   ·rcases(p.plain l).2 with⟨i,s⟩|⟨g,cap,j,i,_⟩
    ·omega
    grind[Lf.hd,di]
  ·cases a
def cpS(t:TC)(F:List AF)(l:Lf):Option (List t.den×Bool):=match l with
 | .sl s=>match mY s F with
  | some (h,sz,lo,hi)=>bif Nat.beq sz 1 then match iB t F (.sl h)with
    |some a=>some ((a.xs.take hi.toNat).drop lo.toNat,decide (lo<=hi/\hi<=a.xs.length))
    |none=>none
   else none
  |none=>match iB t F (.sl s)with
   |some a=>some (a.xs,true)
   |none=>none
 |l=>match iB t F l with
  |some a=>some (a.xs,true)
  |none=>none
theorem au8{t:TC}{F:List AF}{l:Lf}{ys:List t.den}{g:Bool}(a:cpS t F l=some (ys,g))(j:t.ty.sz=1)(k:g=true)(e:Vn):l.val e=(l.hd e).val/\∀(w:World) (c:aS),ao w c (F.map (AF.ha e))->Oa w t.ty ys (l.hd e):=by
 unfold cpS at a;split at a
 ·rename_i s;refine⟨rfl,λw c b=>?_⟩;split at a
  ·rename_i h sz lo hi m;cases f:Nat.beq sz 1
   ·grind
   ·rw[f,abv]at a;split at a
    ·rename_i i hs;simp only[no,acW]at a;obtain⟨rfl,rfl⟩:=a;obtain rfl:=f9 f;exact arR j (Iu (iq hs b)) (b _ (acG.2 ⟨_,gD m,rfl⟩)) (aex k)
    ·cases a
  ·split at a
   ·rename_i i hs;simp only[no,acW]at a;obtain⟨rfl,rfl⟩:=a;exact Iu (iq hs b)
   ·cases a
 ·split at a
  ·rename_i i hs;simp only[no,acW]at a;obtain⟨rfl,rfl⟩:=a;exact⟨(qh hs e).1,λw c b=>Iu (iq hs b)⟩
  ·cases a
def XO(Θ:Tb)(ex:Option Bool)(N:Nat)(t:TypeId)(v1 c:AV)(F:List AF)(k:Out->Option R):Option R:=match Θ t with
 | some ⟨.slice e,_,_,_,_⟩=>match Θ e,v1,c with
  |some a,.lf (.sl d),.lf b=>match cpD a.tc e N F d,cpS a.tc F b with
   | some (h,lo,hi,ci,K,xs),some (ys,g)=>bif Nat.beq a.sz 1&&Nat.beq a.tc.ty.sz 1&&a.tc.ty.pureB&&Nat.ble 2 ci&&Nat.blt e 1048576 then
     gchk ex (decide (lo<=hi/\hi<=xs.length)&&g) (k ⟨fP .i64 ((min (hi-lo).toNat ys.length:Nat):Int),[.own a.tc e ci K (xs.take lo.toNat++ys.take (min (hi-lo).toNat ys.length)++xs.drop (lo.toNat+min (hi-lo).toNat ys.length)) h],[ci]⟩)else none
   |_,_=>none
  |_,_,_=>none
 |_=>none
theorem akj(i:Θ.ok P){v1 M:AV}(Y:o.op=.call { callee:=.builtin .copy,args:=#[x,y],argTypes:=#[t,t']})(U:ev E x=some v1)(V:ev E y=some M)(k:Out->Option R) :
  aq ex P o E F n (XO Θ ex N t v1 M F k) k:=by
 unfold XO;split
 ·rename_i e _ _ _ _ ht;split
  ·rename_i z d l2 W;split
   ·rename_i h lo hi ci K xs ys g s u;refine aq.bif λI=>aq.gchk λr=>aq.of λJ a ρ D=>?_
    simp only[abF]at I r;obtain⟨⟨⟨⟨v,b⟩,Z⟩,q⟩,f⟩:=I;have B:=aK D U;have j:=aK D V;simp only[AV.val]at B j;obtain⟨O,Q⟩:=awS s (f9 b) f;obtain⟨S,T⟩:=au8 u (f9 b) (r J).2 a;rw[S]at j;have m:∀w c,ao w c (F.map (AF.ha a))->ao w c (.own z.tc.ty e ci K xs (a.h h)::F.map (AF.ha a)):=λw c H=>by have C:=eO O H;rw[dK (fF f)]at C;exact ao.cons C H
    have:=(arm (o:=o) (ρ:=ρ) (L:=.own z.tc.ty e ci K xs (a.h h)::F.map (AF.ha a)) Z b 0 rfl (λw c p=>Q a w c λA l=>p A (abJ _ l)) (λw c p=>T w c λA l=>p A (abJ _ l)) Y (i t _ ht).2.1 (i e z W).1 v B j (r J).1 q f).from m;refine this.map (λ_=>⟨a,a.agr_refl n⟩) (λ_=>rfl) λ_=>?_;grind[AF.ha,dK,fF]
   ·exact aq.none
  ·exact aq.none
 ·exact aq.none
def Hi(Θ:Tb)(E:SE)(ex:Option Bool)(n:Nat)(t:TypeId)(l:Lf)(lo hi:Option Operand)(F:List AF)(k:Out->Option R)(alt:Option R):Option R:=match Θ t,l,lo,hi with
 | some ⟨.slice e,_,_,_,_⟩,.sl h,some b,none=>match Θ e with
  |some a=>match fY a.tc e 0 F (.sl h),ev E b with
   | some (ci,K,xs),some (.lf (.c (.int _) i))=>bif Nat.beq a.sz 1&&Nat.beq a.sz a.tc.ty.sz&&Nat.blt e 1048576&&out n h then
     gchk ex (decide (0<=i/\i<=(xs.length:Int)/\(xs.length:Int)<=xs.length)) (k ⟨.lf (.sl n),[.rep a.tc (ci::K) ((xs.take (xs.length:Int).toNat).drop i.toNat) n,.prt n h 1 i xs.length],[]⟩)else alt
   |_,_=>alt
  |none=>alt
 |_,_,_,_=>alt
theorem Yr(j:Θ.ok P){l:Lf}{lo hi:Option Operand}(B:o.op=.slice t x lo hi none)(v:ev E x=some (.lf l))(k:Out->Option R){alt:Option R}(halt:aq ex P o E F n alt k):aq ex P o E F n (Hi Θ E ex n t l lo hi F k alt) k:=by
 unfold Hi;split
 ·rename_i e _ _ _ _ h H C;split
  ·rename_i a A;split
   ·rename_i ci K xs I i hs hi;cases u:(Nat.beq a.sz 1&&Nat.beq a.sz a.tc.ty.sz&&Nat.blt e 1048576&&out n h)
    ·exact halt
    ·simp only[abv];refine aq.gchk λz=>aq.of λD b ρ r=>?_;simp only[abF]at u;obtain⟨⟨⟨m,p⟩,f⟩,g⟩:=u;have q:=aK r v;simp only[AV.val,Lf.val]at q;have:=(S7 (o:=o) (ρ:=ρ) (L:=.own a.tc.ty e ci K xs (b.h h)::F.map (AF.ha b)) 0 rfl B (j t _ C).2.1 (j e a A).1 (f9 p) m q (aK r hi) (z D) f).from (λw c s=>ao.cons (by
      have:=eO hs s;rwa [dK (fF f)]at this) s)
     refine this.map (λ_=>⟨b.setH n ((b.h h).cut i.toNat (xs.length:Int).toNat a.sz),b.setH_agr n _⟩) (λ_=>?_) λ_=>?_
     ·simp[AV.val,Lf.val,Vn.setH_at]
     ·simp only[aev,ahd,AF.ha,Vn.setH_at];rw[(b.setH_agr n _ h g).1]
   ·exact halt
  ·exact halt
 ·exact halt
def Yn(Θ:Tb)(ex:Option Bool)(n N:Nat)(t t':TypeId)(v1 g:AV)(F:List AF)(k:Out->Option R):Option R:=match Θ t,Θ t' with
 | some ⟨.slice e,_,_,_,_⟩,some ⟨.str,_,_,_,_⟩=>match Θ e,v1,g with
  |some c,.lf f,.lf (.c .str a)=>match fY (.sc (.int .u8)) e N F f,c.zl with
   | some (ci,K,xs),[.c (.int .u8) z]=>bif(show Int from z)==0 && !c.d.agg&&Nat.beq c.sz 1&&Nat.beq c.by_ 1&&Nat.ble 2 ci&&Nat.blt e 1048576 then
     gchk ex (aN xs.length (show List UInt8 from a).length c.by_) (k ⟨.lf (.sl n),[.own (.sc (.int .u8)) e ci K (xs++(show List UInt8 from a).map λb=>(b.toNat:Int)) n],[ci]⟩)else none
   |_,_=>none
  |_,_,_=>none
 |_,_=>none
theorem ae8(f:Θ.ok P){v1 I:AV}(T:o.op=.call { callee:=.builtin .append,args:=#[x,y],argTypes:=#[t,t']})(J:ev E x=some v1)(M:ev E y=some I)(k:Out->Option R) :
  aq ex P o E F n (Yn Θ ex n N t t' v1 I F k) k:=by
 unfold Yn;split
 ·rename_i e _ _ _ _ _ _ _ _ V u;split
  ·rename_i D H a S;split
   ·rename_i ci K xs z g hz;refine aq.bif λC=>aq.gchk λU=>aq.of λW b ρ B=>?_
    simp only[abF,afm,aix]at C;obtain⟨⟨⟨⟨⟨Y,Q⟩,s⟩,m⟩,p⟩,q⟩:=C;have j:=aK B J;have A:=aK B M;simp only[AV.val]at j A;rw[pM g b]at j;have v:D.zv=.int .u8 0:=by grind[TInf.zv,aw,Lf.cells]
    have i:=(f e D S).1;rw[v]at i;have l:∀w c,ao w c (F.map (AF.ha b))->ao w c (.own GA e ci K xs (H.hd b)::F.map (AF.ha b)):=λw c O=>by have Z:=eO g O;grind[dK,fF,ao.cons]
    have r:=U W;have:=(JQ (o:=o) (ρ:=ρ) (L:=.own GA e ci K xs (H.hd b)::F.map (AF.ha b)) 0 rfl T (f t _ V).2.1 (f t' _ u).2.1 i s m j A r p q).from l;refine this.map (λh'=>⟨b.setH n h',b.setH_agr n h'⟩) (λh' => ?_) λh' => ?_
    ·simp[AV.val,Lf.val,Vn.setH_at]
    grind[AF.ha,Vn.setH_at,dK,fF]
   ·exact aq.none
  ·exact aq.none
 ·exact aq.none
end
end
set_option linter.deprecated false
section
variable [X:XTab] [G:GTab] [Yc:GCx]
section
variable {R:Type} {P:Program} {o:Oper} {E:SE} {F:List AF} {n:Nat} {Θ:Tb} {ex:Option Bool}
def ZO(Θ:Tb)(ex:Option Bool)(t:TypeId)(h:Nat)(F:List AF)(k:Out->Option R):Option R:=match Θ t with
 | some ⟨.arr m e,_,_,_,_⟩=>match Θ e with
  | some a=>match a.tc with
   |.sc s=>match iB (.sc s) F (.sl h)with
    |some q=>bif Nat.ble 1 m then gchk ex (decide (m<=q.xs.length)) (k (be (.lf (.rp h (.sc s) 0 (.sc s) .here))))else none
    |none=>none
   |_=>none
  |none=>none
 |_=>none
theorem ajT(g:Θ.ok P)(A:o.op=.sliceToArrayPointer t x)(u:ev E x=some (.lf (.sl h)))(k:Out->Option R):aq ex P o E F n (ZO Θ ex t h F k) k:=by
 unfold ZO;split
 ·rename_i m e _ _ _ _ B;split
  ·rename_i L J;split
   ·rename_i s _;split
    ·rename_i q hq;refine aq.bif λp=>aq.gchk λj=>aq.of λD=>dl.pure λH ρ v ev w c a z=>?_
     subst a;have p:=abM p;have j:=aex (j D);have i:=aK v u;simp only[AV.val,Lf.val]at i;obtain⟨ys,K,r,f,_,l⟩:=iq hq z;simp only[Lf.hd]at r l f;rcases l with⟨_,I⟩|⟨b,off,_,_,_,ha,_⟩
     ·omega
     ·have C:(Instr.arrayAt t (H.h h).val).run P w=.ok (.pointer (some ⟨b,off,none⟩)) w:=by
       simp[Instr.arrayAt,run_underlying (g t _ B).2.1,r,ha,Result.andThen];omega
      simp[execOp,A,i,C,Result.andThen,AV.val,Lf.val,di,ha,Pa.off]
    ·exact aq.none
   ·exact aq.none
  ·exact aq.none
 ·exact aq.none
def HS(Θ:Tb)(ex:Option Bool)(t:TypeId)(h:Nat)(s:SC)(i:Int)(F:List AF)(k:Out->Option R):Option R:=match Θ t,iB (.sc s) F (.sl h)with
 |some ⟨.arr m e,sz,_,_,_⟩,some q=>bif Nat.beq sz m&&Nat.ble 1 m then gchk ex (decide (0<=i/\i+m<=q.xs.length)) (k (be (.lf (.ar m s ((q.xs.drop i.toNat).take m)))))else none
 |_,_=>none
theorem XY(H:Θ.ok P){s:SC}{i:Int}(W:o.op=.load t x)(M:ev E x=some (.lf (.rp h (.sc s) i (.sc s) .here)))(k:Out->Option R):aq ex P o E F n (HS Θ ex t h s i F k) k:=by
 unfold HS;split
 ·rename_i m e sz _ _ _ q ht hq;refine aq.bif λA=>aq.gchk λS=>aq.of λhx=>dl.pure λη ρ O ev w c C Q=>?_
  subst C;simp only[abF]at A;have hm:=abM A.2;have u:=f9 A.1;obtain⟨T,U⟩:=aex (S hx);have v:=aK O M;simp only[AV.val,Lf.val,Pa.off,afu]at v;obtain⟨K,L,_,_⟩:=H t _ ht;obtain⟨I,hi,_,a,_⟩:=TI.get K;obtain⟨ys,Z,V,D,_,p⟩:=iq hq Q;simp only[Lf.hd]at V p D;rcases p with⟨_,h0⟩|⟨b,off,arr,tt,fz,ha,_,z,r,f⟩
  ·omega
  ·have Y:di (η.h h) (i.toNat*1)=⟨b,off+i.toNat,none⟩:=by simp[di,ha]
   rw[show(TC.sc s).ty.sz=1 from rfl]at v f r;rw[Y]at v;rw[vX s Z.length,ahv]at f;have B:(arr.toList.drop (off+i.toNat)).take m=((q.xs.drop i.toNat).take m).map s.val:=by rw[ajZ,aq2,<-f,agI,agG,ahK];congr 1;omega
   have hl:(((q.xs.drop i.toNat).take m).map s.val).length=I.size:=by rw[a,show(TInf.sz _)=sz from rfl,u];simp;omega
   have g:(TC.arr m s).ty.fill ((q.xs.drop i.toNat).take m) ()=((q.xs.drop i.toNat).take m).map s.val:=by
    have l:((q.xs.drop i.toNat).take m).length=m:=by simp;omega
    generalize(q.xs.drop i.toNat).take m=xs at l;simp only[Ty.fill];apply afQ;intro j;by_cases J:j<m
    ·simp[J,l]
    ·simp[J,l]
   simp[execOp,W,v,uQ L rfl hi z (cs:=((q.xs.drop i.toNat).take m).map s.val) (off:=off+i.toNat) (by rw[a,<-B];rw[show(TInf.sz _)=sz from rfl,u]) hl,Result.andThen,AV.val,Lf.val,g]
 ·exact aq.none
def cQ(l:List UInt8):List Int:=l.map λb=>(b.toNat:Int)
def jj(m:Nat)(xs:List Int)(lo hi:Int)(l:List UInt8):List Int:=
 (cT m (0:Int) xs).take lo.toNat++(cQ l).take (min (hi-lo).toNat l.length)++(cT m (0:Int) xs).drop (lo.toNat+min (hi-lo).toNat l.length)
theorem acp(w:World)(l:List UInt8)(k:Nat):(Builtin.firstCells 1 k (.string ⟨l.toArray⟩)).run P w=.ok (((cQ l).take k).map λx=>Value.int .u8 x).toArray w:=by simp only[Builtin.firstCells,Sem.run_pure,Result.ok.injEq,aqi];apply akd;rw[Array.toList_map,ByteArray.data_extract,Array.toList_extract];simp[cQ,List.extract_eq_drop_take,ajZ,Function.comp_def]
theorem P8{w:World}{u e:TypeId}{b o n cap:Nat}{ad:Option Addr}{a:List Value}{tt ty:TypeId}{l:List UInt8}(A:P.underlying t=some (.slice e))(hs:(P.info? e).map (·.size)=some 1)(s:w.heap[b]?=some (.cells a.toArray tt (0,0)))
  (q:0<n->ad=some ⟨b,o,none⟩) (z:o+n<=a.length):(Builtin.copy_ #[t,u] ty #[.slice ad n cap,.string ⟨l.toArray⟩]).run P w=.ok (.int .i64 ((min n l.length:Nat):Int)) (w.setRow b (a.take o++((cQ l).take (min n l.length)).map (λx=>Value.int .u8 x)++a.drop (o+min n l.length)).toArray):=by
 have m:(⟨l.toArray⟩:ByteArray).size=l.length:=rfl;have f:=acp (P:=P) w l (min n l.length);cases hq:P.info? e with
 |none=>simp[hq]at hs
 | some i=>
  have hi:i.size=1:=by simpa[hq]using hs
  have j:(((cQ l).take (min n l.length)).map λx=>Value.int .u8 x).length=min n l.length:=by simp[cQ]
  generalize C:((cQ l).take (min n l.length)).map (λx=>Value.int .u8 x)=vs at *;have c:Nat.min l.length n=min n l.length:=Nat.min_comm _ _;by_cases B:0<n
  ·rw[q B];have k:=run_storeCells_at P b o tt vs 0 a.toArray w s (by simp;omega) (λv p=>by rw[<-C]at p;obtain⟨x,_,rfl⟩:=acG.1 p;rfl);simp only[afu,List.toList_toArray,j]at k;simp[Builtin.copy_,run_underlying A,Builtin.lenOf,sizeOf,typeInfo,hq,hi,m,c,f,k,Result.andThen,goInt]
  ·have r:min n l.length=0:=by omega
   rw[r]at j f c;obtain rfl:=List.length_eq_zero_iff.1 j;have g:w.setRow b (a.take o++[]++a.drop (o+0)).toArray=w:=by have:=setRow_self w b a.toArray tt (0,0) s;simpa using this
   rw[r,g];cases ad<;>simp[Builtin.copy_,run_underlying A,Builtin.lenOf,sizeOf,typeInfo,hq,hi,m,c,f,Result.andThen,goInt,storeCells]
def Ro(Θ:Tb)(ex:Option Bool)(t:TypeId)(d:Nat)(l:List UInt8)(F:List AF)(k:Out->Option R):Option R:=match Θ t,Hy d F with
 | some ⟨.slice e,_,_,_,_⟩,some (b,off,lo,hi)=>match Θ e,i6 b F with
  |some c,some (ci,cs)=>match lj cs off with
   |some (a,.ar m (.int .u8) xs::r)=>bif Nat.beq c.sz 1 then gchk ex (decide (lo<=hi/\hi<=m)) (k ⟨fP .i64 ((min (hi-lo).toNat l.length:Nat):Int),[.box ci b (a++.ar m (.int .u8) (jj m xs lo hi l)::r)],[ci]⟩)else none
   |_=>none
  |_,_=>none
 |_,_=>none
theorem Vf(m:Nat)(xs:List Int):(TC.arr m (.int .u8)).ty.fill xs ()=(cT m (0:Int) xs).map λx=>Value.int .u8 x:=by simp[TC.ty,Ty.fill,cT,Function.comp_def]
theorem ajd{m:Nat}{xs:List Int}(h:xs.length=m):cT m (0:Int) xs=xs:=by
 apply afQ;intro j;unfold cT;by_cases a:j<m
 ·simp[a,h]
 ·simp[a,h]
theorem abC(C:Θ.ok P){l:List UInt8}(ho:o.op=.call { callee:=.builtin .copy,args:=#[x,y],argTypes:=#[t,t']})(h1:ev E x=some (.lf (.sl d)))(h2:ev E y=some (.lf (.c .str l)))(k:Out->Option R) :
  aq ex P o E F n (Ro Θ ex t d l F k) k:=by
 unfold Ro;split
 ·rename_i e _ _ _ _ b off lo hi ht hp;split
  ·rename_i ie ci cs he J;split
   ·rename_i a m xs r v;refine aq.bif λS=>aq.gchk λhb=>aq.of λhx f ρ W=>?_
    intro act ev w c next Q ha Y hn
    obtain⟨hlh,hhm⟩:=aex (hb hx);have U:=aK W h1;have V:=aK W h2;simp only[AV.val,Lf.val]at U V;obtain⟨ea,D⟩:=hU v;have D:=D f;obtain⟨⟨ty,s⟩,Z⟩:=sn J Y;obtain⟨h0,hdn,O⟩:lm (f.h d) ⟨some ⟨f.b b,off,none⟩,0,0⟩ 1 lo hi:=Y _ (acG.2 ⟨_,NV hp,rfl⟩);have g:aw f cs=aw f a++((cT m (0:Int) xs).map λx=>Value.int .u8 x)++aw f r:=by rw[ea,ba];simp only[aw,Lf.cells,aeh];exact aei (λu=>aw f a++(u++aw f r)) (Vf m xs)
    have j:(cT m (0:Int) xs).length=m:=by simp[cT]
    obtain⟨q,hq⟩:∃q,q=min (hi-lo).toNat l.length:=⟨_,rfl⟩
    have I:(cQ l).length=l.length:=by simp[cQ]
    have T:=(C e ie he).1;obtain⟨inf,M,_,B,_⟩:=T.get;have z:(f.h d).n=(hi-lo).toNat:=by omega
    have i:=P8 (P:=P) (w:=w) (t:=t) (u:=t') (e:=e) (b:=f.b b) (o:=off+lo.toNat) (n:=(f.h d).n) (cap:=(f.h d).cap) (ad:=(f.h d).a) (ty:=o.type) (l:=l) (C t _ ht).2.1 (by rw[M,aqJ,B,f9 S]) s
     (λhpos=>by
      obtain⟨b',o',H,p⟩:=O (by omega);simp[di]at p;rw[H,<-p.1,<-p.2])
     (by rw[g];simp[D,j];omega)
    rw[z,<-hq]at i;have A:(aw f cs).take (off+lo.toNat)++((cQ l).take q).map (λx=>Value.int .u8 x)++(aw f cs).drop (off+lo.toNat+q)=aw f (a++.ar m (.int .u8) (jj m xs lo hi l)::r):=by
     have K:(jj m xs lo hi l).length=m:=by simp[jj,j,I];omega
     have hf:=Vf m (jj m xs lo hi l);rw[ajd K]at hf;rw[ba];simp only[aw,Lf.cells];refine Eq.trans ?_ (aei (λu=>aw f a++(u++aw f r)) hf.symm);rw[g];unfold jj;rw[<-hq,aeh (aw f a),af4,afr,D,aeQ (by omega),afc (as:=aw f a) (by omega),
      show off+lo.toNat-off=lo.toNat by omega,show off+lo.toNat+q-off=lo.toNat+q by omega,ajy (by simp[j];omega),List.drop_append_of_le_length (by simp[j];omega)]
     simp only[afo,ajZ,aq2,aeh,ae4]
    rw[A]at i;have L:(execOp ev o).run P w=.ok (.value (.int .i64 (q:Int))) (w.setRow (f.b b) (aw f (a++.ar m (.int .u8) (jj m xs lo hi l)::r)).toArray):=by subst ha;simp[execOp,ho,U,V,resolve,invoke,builtin,Hd.val,z,i,Result.andThen,SC.val]
    rw[L,hq];refine hn ⟨f,Vn.agr_refl n f⟩ _ c (sB Z) (ao.cons ⟨⟨ty,setRow_heap w _ _ _ ty (0,0) s⟩,Z⟩ (ao.nil _ _))
   ·exact aq.none
  ·exact aq.none
 ·exact aq.none
def Pj(Θ:Tb)(ex:Option Bool)(t:TypeId)(h:Nat):(te:TC)->Int->(u:TC)->Pa te u->List AF->(Out->Option R)->Option R->Option R
 |.sc s,i,_,.here,F,k,alt=>match Θ t with
  |some ⟨.arr _ _,_,_,_,_⟩=>HS Θ ex t h s i F k
  |_=>alt
 |_,_,_,_,_,_,alt=>alt
theorem adb(a:Θ.ok P){te:TC}{i:Int}{u:TC}{p:Pa te u}(c:o.op=.load t x)(b:ev E x=some (.lf (.rp h te i u p)))(k:Out->Option R){alt:Option R}(ha:aq ex P o E F n alt k):aq ex P o E F n (Pj Θ ex t h te i u p F k alt) k:=by
 unfold Pj;split
 ·split
  ·exact XY a c b k
  ·exact ha
 ·exact ha
end
end
section
variable [X:XTab] [G:GTab] [Yc:GCx]
section
variable {R:Type} {P:Program} {o:Oper} {E:SE} {F:List AF} {n:Nat} {Θ:Tb} {ex:Option Bool}
def mQ(m:Nat):List Lf->Option (List Int)
 |[]=>bif Nat.beq m 0 then some []else none
 |[.ar k s xs]=>if h:s=.int .u8 then(bif Nat.beq k m then some (wR h xs)else none)else none
 |_=>none
def ae9(m:Nat)(xs:List Int):List Lf:=match m with
 |0=>[]
 |m+1=>[.ar (m+1) (.int .u8) xs]
theorem T0{m:Nat}{b:Vn}:∀{ls:List Lf} {xs:List Int},mQ m ls=some xs->aw b ls=HF m xs
 |[],xs,h=>by
  simp only[mQ]at h;cases a:Nat.beq m 0
  ·simp[a]at h
  ·obtain rfl:=f9 a;rfl
 | [.ar k s x],xs,h=>by
  simp only[mQ]at h;split at h
  ·rename_i hs;subst hs;cases a:Nat.beq k m
   ·simp[a]at h
   ·obtain rfl:=f9 a;simp only[a,abv,wR,no]at h;subst h;simp only[aw,Lf.cells,ad0];rfl
  ·cases h
 |.c _ _::_,_,h=>by simp[mQ]at h
 |.sl _::_,_,h=>by simp[mQ]at h
 |.nl::_,_,h=>by simp[mQ]at h
 |.bp _ _::_,_,h=>by simp[mQ]at h
 |.bq _ _ _ _ _::_,_,h=>by simp[mQ]at h
 |.rp _ _ _ _ _::_,_,h=>by simp[mQ]at h
 |.xt _ _::_,_,h=>by simp[mQ]at h
 |.fn _::_,_,h=>by simp[mQ]at h
 |.yl::_,_,h=>by simp[mQ]at h
 |.clo _ _::_,_,h=>by simp[mQ]at h
 |.gp _ _ _ _ _::_,_,h=>by simp[mQ]at h
 |.ars _ _::_,_,h=>by simp[mQ]at h
 |.mp _::_,_,h=>by simp[mQ]at h
 |.v _::_,_,h=>by simp[mQ]at h
 |.ar _ _ _::_::_,_,h=>by simp[mQ]at h
theorem TN{m:Nat}{a:Vn}{xs:List Int}:aw a (ae9 m xs)=HF m xs:=by
 cases m with
 |zero=>rfl
 |succ m=>
  simp only[ae9,aw,Lf.cells,ad0];rfl
def air:AV->Option (List Lf)
 |.ag ls=>some ls
 |.lf (.ar n s x)=>some [.ar n s x]
 |_=>none
theorem ad4{v:AV}{ls:List Lf}(h:air v=some ls)(a:Vn):v.val a=.agg (aw a ls).toArray:=by
 unfold air at h;split at h
 ·simp only[no]at h;subst h;rfl
 ·simp only[no]at h;subst h;simp[AV.val,Lf.val,aw,Lf.cells]
 ·cases h
def ahe(Θ:Tb)(t:TypeId)(v:AV)(k:Out->Option R):Option R:=match Θ t,X.ik t,air v with
 |some ⟨.st _,_,_,_,_⟩,some m,some ls=>match mQ (X.il t) ls with
  |some xs=>k (be (.lf (.xt m (X.imk m t xs))))
  |none=>none
 |_,_,_=>none
theorem arM(a:Θ.ok P){v:AV}(i:o.op=.makeInterface t x)(e:ev E x=some v)(k:Out->Option R):aq ex P o E F n (ahe Θ t v k) k:=by
 unfold ahe;split
 ·rename_i m ls l g p;split
  ·rename_i xs j;refine aq.of λr=>dl.pure λs ρ f=>?_
   have b:=aK f e;rw[ad4 p,T0 j]at b;obtain⟨_,⟨q,c,_⟩,_,_⟩:=a t _ l;simp only[AV.val,Lf.val,X.iok t m xs g];exact asa i c rfl b
  ·exact aq.none
 ·exact aq.none
def aja(Θ:Tb)(t:TypeId)(v:AV)(k:Out->Option R):Option R:=match v,Θ t,X.ik t with
 |.lf (.xt m d),some ⟨.st _,_,_,zl,_⟩,some a=>bif Nat.beq m a then match mQ (X.il t) zl with
  |some []=>k (be (.tu [.ag (ae9 (X.il t) ((X.iget m t d).getD [])),.lf (.c .bool (X.iget m t d).isSome)]))
  |_=>none
  else none
 |_,_,_=>none
theorem aqq(e:Θ.ok P){t0:TypeId}{v:AV}(i:o.op=.typeAssert x t0 t true)(p:ev E x=some v)(k:Out->Option R):aq ex P o E F n (aja Θ t v k) k:=by
 unfold aja;split
 ·rename_i m d fs sz b zl tc J A s;refine aq.bif λw=>?_
  obtain rfl:=f9 w;split
  ·rename_i z;refine aq.of λI=>dl.pure λj ρ q=>?_
   have a:=aK q p;simp only[AV.val,Lf.val]at a;obtain⟨l,⟨C,f,_⟩,D,H⟩:=e t _ A;have g:=X.gok t m d s;cases hq:X.iget m t d with
   |some xs=>
    rw[g.1 xs hq]at a;have:=Qt (L:=F.map (AF.ha j)) (xt:=t0) i f rfl a;simpa[AV.val,AV.vals,Lf.val,TN]using this
   |none=>
    obtain⟨t',u,B,c⟩:=g.2 hq;rw[B]at a;have:=Tj (L:=F.map (AF.ha j)) (xt:=t0) i f rfl l (ap9.2 λr=>c (f9 r)) a;simpa[AV.val,AV.vals,Lf.val,TN,TInf.zv,TD.agg,T0 z]using this
  ·exact aq.none
 ·exact aq.none
end
end
end Go.Sm
