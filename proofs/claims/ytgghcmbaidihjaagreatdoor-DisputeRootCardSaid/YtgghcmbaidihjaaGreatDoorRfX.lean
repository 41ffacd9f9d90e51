/- Laws for the row. No condition. -/
import Derived.ProofKit
import Derived.SizedLaws
import Derived.LaidLaws
import Derived.Test.YtgghcmbaidihjaaGreatDoorJoinT
import Derived.RangeFuncIn
import Derived.RangeFuncRecord
import Derived.RangeFuncLeaves
import Derived.RangeFuncBound
namespace Go.Sm
open Go.ChangeShapes Go.WideShapes Go.ChangeAt Go.RowKit Go.WideElems
set_option linter.unusedSectionVars false
variable {w:World} {B:Nat}
section
variable [X:XTab] [G:GTab] [Yc:GCx]
section
variable {P:Program} {H:Type} {enc:TypeId×Value->H} {W:World} {Θ:Tb}
theorem awB{v:Value}(h:∀cs,v≠.agg cs):v.cells.toList=[v]:=by cases v<;>first|rfl|grind
theorem A4{r:Reach}{b0:Nat}{t:TypeId}{v:Value}(a:(∃F,P.underlying t=some (.struct F))\/∃n e,P.underlying t=some (.array n e))(h:Value.okWide P W r b0 t v):∃cs,v=.agg cs:=by grind[Value.okWide]
theorem ak7{Θ:Tb}{n:Nat}{t:TypeId}{tc:TC}(h:Bj Θ n t tc=true):∃i,Θ t=some i/\((∃s,tc=.sc s/\Bb i.d s=true)\/(∃m s d e,tc=.arr m s/\i.d=.arr d e)\/(∃te e,tc=.slice te/\i.d=.slice e)\/∃fs,i.d=.st fs/\((∃a b,tc=.pair a b)\/∃a,tc=.st a)):=by
 cases n with
 |zero=>simp[Bj]at h
 | succ n=>
  simp only[Bj]at h;split at h
  ·rename_i i hi;refine⟨i,hi,?_⟩;split at h
   ·grind
   ·grind
   ·rename_i fs hd;refine .inr (.inr (.inr ⟨_,hd,?_⟩));simp only[abF]at h;have c:=h.1;unfold stB at c;split at c
    ·grind
    ·rename_i f _ _ _ _ _ _;unfold qu at c;grind
    ·cases c
   ·grind
   ·cases h
  ·cases h
theorem ag9(A:Θ.ok P){r:Reach}{b0 n:Nat}{t:TypeId}{tc:TC}{v:Value}{d:DataW H}{ps:List MemPlace}(D:Bj Θ n t tc=true)(f:Value.okWide P W r b0 t v)
  (h:DataW.Trod enc P W 0 (λ_=>true) true t v d ps):∃(x:tc.den) (y:tc.ty.Refs),v=mz tc x y/\bH W yX tc.ty x y/\Bz tc x:=by
 obtain⟨q,hf⟩:=h;have j:=QP A n t tc q _ _ D hf;obtain⟨i,hi,I⟩:=ak7 D;have c:=(A t i hi).2.1;have agg:(∃cs,v=.agg cs)->∀{l:List Value},v.cells.toList=l->v=.agg l.toArray:=λC l hl=>by obtain⟨cs,rfl⟩:=C;rw[<-hl];rfl
 have one:(∀cs,v≠.agg cs)->∀{u},v.cells.toList=[u]->v=u:=λC u z=>by rw[awB C]at z;grind
 rcases I with⟨s,rfl,hs⟩|⟨m,s,J,e,rfl,hd⟩|⟨te,e,rfl,hd⟩|⟨fs,hd,⟨a,b,rfl⟩|⟨a,rfl⟩⟩
 ·obtain⟨x,y,g,o,p⟩:=j;refine⟨x,y,one ?_ g,o,p⟩;generalize i.d=d at hs c;cases s with
  |int k=>
   cases d<;>simp only[Bb,agD]at hs<;>try cases hs
   obtain⟨k,rfl⟩:=okWide_int (show P.underlying t=some (.int _)from c) f;grind
  |bool=>
   cases d<;>simp only[Bb]at hs<;>try cases hs
   obtain⟨k,rfl⟩:=okWide_bool (show P.underlying t=some .bool from c) f;grind
  |str=>
   cases d<;>simp only[Bb]at hs<;>try cases hs
   obtain⟨k,rfl⟩:=okWide_string (show P.underlying t=some .string from c) f;grind
  |fnc=>cases d<;>simp only[Bb]at hs<;>cases hs
 ·obtain⟨x,y,g,o,p⟩:=j;rw[hd]at c;exact⟨x,y,agg (A4 (.inr ⟨J,e,c⟩) f) g,o,p⟩
 ·obtain⟨x,y,g,o,p⟩:=j;rw[hd]at c;obtain⟨a,len,cap,rfl⟩:=okWide_slice c f;exact⟨x,y,one (λ_ E=>by cases E) g,o,p⟩
 ·obtain⟨x,y,g,o,p⟩:=j;rw[hd]at c;obtain⟨F,z,_⟩:=c;exact⟨x,y,agg (A4 (.inl ⟨F,z⟩) f) g,o,p⟩
 ·obtain⟨x,y,g,o,p⟩:=j;rw[hd]at c;obtain⟨F,z,_⟩:=c;exact⟨x,y,agg (A4 (.inl ⟨F,z⟩) f) g,o,p⟩
theorem xg:(t:TC)->(y:t.ty.Refs)->(l:List Hd)->aO t (cF t y++l)=y
 |.sc _,_,_=>rfl
 |.arr _ _,_,_=>rfl
 |.unit,_,_=>rfl
 |.pair a b,y,l=>by
  simp only[aO,cF,aeh];rw[xg a y.1];have:List.drop a.nh (cF a y.1++(cF b y.2++l))=cF b y.2++l:=by rw[<-dh a y.1,List.drop_left]
  rw[this,xg b y.2]
 |.slice _,_,_=>rfl
 |.st t,y,l=>xg t y l
 |.ext _,_,_=>rfl
 |.node,_,_=>rfl
 |.mp _ _,_,_=>rfl
def WfP:(tcs:List TC)->j7 (tcs.map PC.d)->Prop
 |[],_=>True
 |[t],x=>Bz t x
 |t::a::r,x=>Bz t x.1/\WfP (a::r) x.2
def Sw(Θ:Tb)(n:Nat):List TypeId->List TC->Bool
 |[],[]=>true
 |t::ts,tc::tcs=>Bj Θ n t tc&&Sw Θ n ts tcs
 |_,_=>false
theorem Ps(k:Θ.ok P){r:Reach}{b0 n:Nat}:∀{ts:List TypeId} {tcs:List TC} {vs:List Value} {ds:List (DataW H)} {ps:List MemPlace} (q:Nat),Sw Θ n ts tcs=true->(∀(j:Nat) t v,ts[j]?=some t->vs[j]?=some v->Value.okWide P W r b0 t v) ->
  DataW.TrodAll enc P W 0 (λ_=>true) true ts vs ds ps->∃(x:j7 (tcs.map PC.d)) (l:List Hd),l.length=rU (tcs.map PC.d)/\vs=mF (tcs.map PC.d) x l/\ao W (qS yX) (pe (tcs.map PC.d) x l q)/\WfP tcs x
 |[],[],vs,ds,ps,q,_,_,h=>by cases vs<;>cases ds<;>simp only[DataW.TrodAll]at h;exact⟨(),[],rfl,rfl,ao.nil _ _,trivial⟩
 |[],_::_,_,_,_,_,f,_,_=>by simp[Sw]at f
 |_::_,[],_,_,_,_,f,_,_=>by simp[Sw]at f
 | t::ts,tc::tcs,vs,ds,ps,q,f,z,h=>by
  obtain⟨v,s,d,m,p,Q,rfl,rfl,rfl,I,g⟩:=trodAll_cons h;simp only[Sw,abF]at f;obtain⟨x,y,M,J,A⟩:=ag9 k f.1 (z 0 t v rfl rfl) I;have i:bH W (λb=>qS yX b∈[1]) tc.ty x y:=bH.keep (λb _ _=>⟨afH b,rfl⟩) tc.ty x y J;match ts,tcs,f.2,g with
  |[],[],_,g=>
   cases s<;>cases m<;>simp only[DataW.TrodAll]at g;have e:aO tc (cF tc y)=y:=by simpa using xg tc y []
   refine⟨x,cF tc y,?_,?_,?_,A⟩
   ·show _=tc.nh+0;rw[dh];rfl
   ·show [v]=[mz tc x (aO tc (cF tc y))];rw[e,M]
   ·show ao W _ (facts tc.ty [1] x (aO tc (cF tc y)));rw[e];exact qY _ _ _ i
  |N::ts,c::tcs,o,g=>
   obtain⟨u,a,C,O,D,E⟩:=Ps k (ts:=N::ts) (tcs:=c::tcs) (q+0) o (λj t v K L=>z (j+1) t v (by simpa using K) (by grind)) g;have e:aO tc (cF tc y++a)=y:=xg tc y a;have F:(cF tc y++a).drop tc.nh=a:=by rw[<-dh tc y,List.drop_left]
   refine⟨(x,u),cF tc y++a,?_,?_,?_,⟨A,E⟩⟩
   ·show(cF tc y++a).length=tc.nh+rU ((c::tcs).map PC.d);rw[acA,dh,C]
   ·show _=mz tc x (aO tc (cF tc y++a))::mF ((c::tcs).map PC.d) u ((cF tc y++a).drop tc.nh);grind
   ·show ao W _ (facts tc.ty [1] x (aO tc (cF tc y++a))++pe ((c::tcs).map PC.d) u ((cF tc y++a).drop tc.nh) (q+0));rw[e,F];exact(qY _ _ _ i).append D
theorem Tw{w0:World}{S:Nat->Prop}{Y:Type}{val:Y->Value}{facts:Y->List HA}{e:Ending}{w':World}(h:vT w0 (qS S) val facts e w'):(∃y,e=.returned (val y))/\Below w0.heap.size w0 { w' with tape:=w0.tape}:=by obtain⟨y,c',f,a,c,b,_,_⟩:=h;exact⟨⟨y,f⟩,a.1,rfl,a.2,c,λk g=>(b k g (by rcases ar0 S k with h|h<;>omega)).1⟩
theorem Bc{f:World}(hl:laidOutB P=true)(g:Below W.heap.size W f):∀{ts:List TypeId} {vs:List Value} {ds:List (DataW H)} {ps:List MemPlace},ts.all (λt=>P.readableRec t&&decide (t<P.types.size))=true ->
  DataW.TrodAll enc P W 0 (λ_=>true) true ts vs ds ps->(∀x∈ps,x.block<W.heap.size)->DataW.TrodAll enc P f 0 (λb=>decide (b<W.heap.size)) true ts vs ds ps
 |[],vs,ds,ps,_,h,_=>by cases vs<;>cases ds<;>simp_all[DataW.TrodAll]
 | t::ts,vs,ds,ps,a,h,c=>by
  obtain⟨v,l,d,i,p,q,rfl,rfl,rfl,j,k⟩:=trodAll_cons h;simp only[afR,abF,agD]at a;exact⟨p,q,Below.trod hl a.1.1 a.1.2 j g λx e=>c x (ad2 _ e),
   Bc hl g (by grind) k λx e=>c x (adF _ e),rfl⟩
def yG(Θ:Tb)(B:TypeId->DataW Unit->Option (List Value)):List (TypeId×Nat)->List (DataW Unit)->Nat->Option (List Value×Nat)
 |[],[],pos=>some ([],pos)
 | f::fs,d::ds,pos=>bif Nat.beq f.2 pos then(match Θ f.1 with
  |some i=>match B f.1 d,yG Θ B fs ds (pos+i.sz)with
   |some a,some b=>some (a++b.1,b.2)
   |_,_=>none
  |none=>none)else none
 |_,_,_=>none
def EK(Θ:Tb):Nat->TypeId->DataW Unit->Option (List Value)
 |0,_,_=>none
 | n+1,t,d=>match Θ t with
  |none=>none
  | some i=>match i.d,d with
   |.int k,.lit (.int a m)=>bif Bb (.int k) (.int a)then some [.int a m]else none
   |.bool,.lit (.bool b)=>some [.bool b]
   |.str,.lit (.string s)=>some [.string ⟨s.toArray⟩]
   | .arr m e,.agg ds=>match Θ e with
    |some c=>match yG Θ (EK Θ n) ((List.range m).map λj=>(e,j*c.sz)) ds 0 with
     |some r=>bif Nat.beq r.2 i.sz then some r.1 else none
     |none=>none
    |none=>none
   |.st fs,.agg ds=>match yG Θ (EK Θ n) fs ds 0 with
    |some r=>bif Nat.beq r.2 i.sz then some r.1 else none
    |none=>none
   |_,_=>none
theorem yq(a:Θ.ok P){t:TypeId}{i:TInf}(h:Θ t=some i):P.cellsOf t=i.sz:=
 nN a (by simp only[AY,h];simp_all)
theorem Ex(c:Θ.ok P){B:TypeId->DataW Unit->Option (List Value)}{T:TypeId->List Value->DataW Unit->Prop}(l:∀t d a cs,B t d=some a->T t cs d->cs=a){cs:List Value} :
  ∀(fs:List (TypeId×Nat)) (ds:List (DataW Unit)) (pos:Nat) (r:List Value×Nat),yG Θ B fs ds pos=some r->(∀(j:Nat) f d,fs[j]?=some f->ds[j]?=some d->T f.1 ((cs.drop f.2).take (P.cellsOf f.1)) d)->pos<=r.2/\(cs.drop pos).take (r.2-pos)=r.1
 |[],[],pos,r,h,_=>by simp only[yG,no]at h;subst h;simp
 |[],_::_,_,_,h,_=>by simp[yG]at h
 |_::_,[],_,_,h,_=>by simp[yG]at h
 | f::fs,d::ds,pos,r,h,m=>by
  simp only[yG]at h;cases e:Nat.beq f.2 pos
  ·simp[e]at h
  ·have p:=f9 e;simp only[e,abv]at h;split at h
   ·rename_i i hi;split at h
    ·rename_i a b ha g;obtain⟨q,o⟩:=Ex c l fs ds (pos+i.sz) b g λj n d' hf hd=>m (j+1) n d' (by simpa using hf) (by simpa using hd)
     have k:=l _ _ _ _ ha (m 0 f d rfl rfl);rw[yq c hi,p]at k;simp only[no]at h;subst h;refine⟨by grind,?_⟩;show(cs.drop pos).take (b.2-pos)=a++b.1;rw[show b.2-pos=i.sz+(b.2-(pos+i.sz))by omega,aq7,k,agG,o]
    ·cases h
   ·cases h
theorem Ql{α:Type}{f:α->Option (DataW Unit×List MemPlace)}{l:List α}{xs:List (DataW Unit×List MemPlace)}(h:l.mapM f=some xs):xs.length=l.length/\∀(j:Nat) a d,l[j]?=some a->(xs.map (·.1))[j]?=some d->∃p,f a=some (d,p):=by obtain⟨b,c⟩:=rz h;grind
theorem Uy(o:Θ.ok P){en:TypeId×Value->Unit}{held:Bool}:∀(n:Nat) (t:TypeId) (d:DataW Unit) (a cs:List Value) ,EK Θ n t d=some a->(∃l p,DataW.trod en P W 0 (λ_=>true) held l t cs=some (d,p))->cs=a
 |0,_,_,_,_,h,_=>by simp[EK]at h
 | n+1,t,d,a,cs,h,⟨l,p,c⟩=>by
  have E:=Uy o (en:=en) (held:=held) n;cases l with
  |zero=>simp[DataW.trod]at c
  |succ l=>
  simp only[EK]at h;split at h
  ·cases h
  ·rename_i i hi;have g:=(o t i hi).2.1;split at h
   ·rename_i k M m hd;rw[hd]at g;have u:P.underlying t=some (.int k):=g;cases C:Bb (.int k) (.int M)<;>simp only[C,abv,ab7]at h
    ·cases h
    ·simp only[Bb,agD]at C;subst C;cases h;unfold DataW.trod at c;rw[u]at c;match cs,c with
     |[.int R z],c=>
      simp only at c;split at c
      ·grind
      ·cases c
   ·rename_i b hd;rw[hd]at g;have u:P.underlying t=some .bool:=g;cases h;unfold DataW.trod at c;rw[u]at c;match cs,c with
    |[.bool O],c=>cases c;rfl
   ·rename_i s hd;rw[hd]at g;have u:P.underlying t=some .string:=g;cases h;unfold DataW.trod at c;rw[u]at c;match cs,c with
    |[.string z],c=>
     simp only at c;split at c
     ·cases c;rfl
     ·cases c
   ·rename_i m e ds hd;rw[hd]at g;have u:P.underlying t=some (.array m e):=g;split at h
    ·rename_i Q L;split at h
     ·rename_i r D;cases x:Nat.beq r.2 i.sz<;>simp only[x,abv,ab7]at h
      ·cases h
      ·cases h;have x:=f9 x;unfold DataW.trod at c;rw[u]at c;simp only at c;split at c
       ·rename_i q;rw[yq o hi]at q;simp only[afe,acW,DataW.agg.injEq]at c;obtain⟨xs,v,A,_⟩:=c;obtain⟨F,I⟩:=Ql v;obtain⟨_,J⟩:=Ex o (T:=λt cs d=>∃l p,DataW.trod en P W 0 (λ_=>true) held l t cs=some (d,p)) (λt d a cs ha y=>E t d a cs ha y) (cs:=cs) _ ds 0 r D λj f d hf hd=>by
         grind[Option.map_eq_some_iff,List.getElem?_range,yq]
        grind
       ·cases c
     ·cases h
    ·cases h
   ·rename_i fs ds hd;rw[hd]at g;obtain⟨N,u,K⟩:=g;split at h
    ·rename_i r D;cases x:Nat.beq r.2 i.sz<;>simp only[x,abv,ab7]at h
     ·cases h
     ·cases h;have x:=f9 x;unfold DataW.trod at c;rw[u]at c;simp only at c;split at c
      ·rename_i q;rw[yq o hi]at q;simp only[afe,acW,DataW.agg.injEq]at c;obtain⟨xs,v,A,_⟩:=c;obtain⟨F,I⟩:=Ql v;obtain⟨_,J⟩:=Ex o (T:=λt cs d=>∃l p,DataW.trod en P W 0 (λ_=>true) held l t cs=some (d,p)) (λt d a cs ha y=>E t d a cs ha y) (cs:=cs) fs ds 0 r D λj f d hf hd=>by
        grind
       grind
      ·cases c
    ·cases h
   ·cases h
theorem VL{w:World}:∀{l:List (String×DataW Unit)} {ps:List MemPlace} {j:Nat} {n:String} {d:DataW Unit},DataW.LaidVars P w l ps->l[j]?=some (n,d) ->
  ∃g t cs a p,P.globalNamed n=some g/\(P.globals[g]?).map (·.type)=some t/\w.var? P n=some cs/\DataW.trod (λ_=>()) P w 0 (λ_=>true) false a t cs.toList=some (d,p)
 |[],_,_,_,_,_,h=>by simp at h
 |(n,d)::r,ps,0,c,d',b,h=>by obtain⟨g,t,cs,a,p,q,e,f,i,k,_,_⟩:=b;grind
 |(n,d)::r,ps,j+1,c,d',b,h=>by obtain⟨g,t,cs,a,p,q,_,_,_,_,hq,_⟩:=b;exact VL hq (by simpa using h)
theorem adJ{n:String}{g:Nat}{cs:Array Value}(b:P.globalNamed n=some g)(h:w.var? P n=some cs):∃ty a,w.heap[g]?=some (.cells cs ty a):=by unfold World.var? at h;grind
theorem yv(c:Θ.ok P){l:List (String×DataW Unit)}{j k g:Nat}{t:TypeId}{n:String}{d:DataW Unit}{cs:List Value}(h:laidMet P l W)(s:l[j]?=some (n,d))(e:P.globalNamed n=some g)(u:(P.globals[g]?).map (·.type)=some t)
  (r:EK Θ k t d=some cs):∃ty b,W.heap[g]?=some (.cells cs.toArray ty b):=by
 obtain⟨ps,v,_⟩:=h;obtain⟨x,y,cs',a,p,f,i,m,o⟩:=VL v s;obtain rfl:=aj3 (e.symm.trans f);obtain rfl:=aj3 (u.symm.trans i);have:=Uy c k t d cs cs'.toList r ⟨a,p,o⟩;obtain⟨ty,b,q⟩:=adJ e m;exact⟨ty,b,by rw[q,<-this]⟩
end
end
theorem RL{H:Type}{enc:TypeId×Value->H}{a:Assume}{C:Checked}{os:Os}{f:FuncId}{fn:Func}{s:ChangeSpec}{k:List PathCond}{sK fresh d h:Bool}{L:World->Array Value->Prop}
  (D:∀(w w':World) (args:Array Value),w.heap=w'.heap->L w args->L w' args)
  (own:ownKnob C.prog.godebug=none) (l:os.Started) (n:C.prog.inits.idxOf? f=none) (u:C.prog.funcs[f]?=some fn)
  (m:∃(w:World) (b:Tape) (i:Input),w.os=os/\(w.forCall b i).Shaped C.prog/\i.vars=[]/\Input.okWide C.prog (w.forCall b i) .any w.heap.size f i /\
   ((s.pre enc C.prog fn k sK (w.forCall b i).memory i.args/\L (w.forCall b i).memory i.args)/\sizedMet enc C.prog fn (OpenSpec.ofChange s) sK (w.forCall b i).memory i.args)/\a.holds C.prog (lone (Frame.enter C.prog f i.args .normal) [] (w.forCall b i)))
  (g:∀(W:World) (base:Nat) (args:Array Value) (ds gs:List (DataW H)) (c:List MemPlace),
   (∀(j:Nat) t v,fn.params[j]?=some t->args[j]?=some v->Value.okWide C.prog W .any base t v) ->
   DataW.Whole enc C.prog fn.params.toList s.vars sK W args.toList ds gs c->L W args->W.ShapedOpen C.prog ->
   (DataW.weightsEach C.prog (fn.params.toList++s.plain.varTypes C.prog) (ds++gs)).all (· <= reachBytes)=true ->
   Calls C.prog f args W λe z=>∃v,e=.returned v/\s.post enc C.prog fn sK fresh d h W args v z) :
  ReturnsInHanded a C os f .any (λw args=>(s.pre enc C.prog fn k sK w args/\L w args)/\sizedMet enc C.prog fn (OpenSpec.ofChange s) sK w args) (s.post enc C.prog fn sK fresh d h):=by
 refine returnsInHanded_of_calls own l n m ?_;intro w b i _ vQ _ x p _;obtain⟨_,_,_,r,o,_,_,_,_,q⟩:=x;obtain rfl:r=fn:=aj3 (o.symm.trans u);obtain⟨⟨⟨ds,gs,c,A,_⟩,I⟩,J⟩:=p;have y:=DataW.Whole.of_heap (w':=w.forCall b i) (by rfl) A;refine(g (w.forCall b i) w.heap.size i.args ds gs c q y (D _ _ _ (by rfl) I) vQ (J.weights A)).mono λe z ⟨v,E,F⟩=>?_;subst E;exact ChangeSpec.post_blind F
section
variable [X:XTab] [G:GTab]
def Lf.ny:Lf->Bool
 |.yl=>false
 |_=>true
def AV.ny:AV->Bool
 |.lf l=>l.ny
 |.ag ls=>ls.all Lf.ny
 |.tu _=>false
def AF.ny:AF->Bool
 |.box _ _ cs=>cs.all Lf.ny
 |.hol _ _ _ _ _ _ cs=>cs.all Lf.ny
 |.ag _=>false
 |_=>true
section
variable {Y Z:GCx} {η:Vn}
theorem Lf.ny_cells:(l:Lf)->l.ny=true->Lf.cells (Yc:=Y) η l=Lf.cells (Yc:=Z) η l:=by intro l h;cases l<;>first|rfl|cases h
theorem Lf.ny_val:(l:Lf)->l.ny=true->Lf.val (Yc:=Y) η l=Lf.val (Yc:=Z) η l:=by intro l h;cases l<;>first|rfl|cases h
theorem yF:(ls:List Lf)->ls.all Lf.ny=true->aw (Yc:=Y) η ls=aw (Yc:=Z) η ls
 |[],_=>rfl
 |l::r,h=>by simp only[afR,abF]at h;simp only[aw,Lf.ny_cells (Y:=Y) (Z:=Z) l h.1,yF r h.2]
theorem AV.ny_val:(v:AV)->v.ny=true->AV.val (Yc:=Y) η v=AV.val (Yc:=Z) η v
 |.lf l,h=>by simp only[AV.val];exact Lf.ny_val l h
 |.ag ls,h=>by simp only[AV.val];rw[yF (Y:=Y) (Z:=Z) ls h]
theorem HW:(vs:List AV)->vs.all AV.ny=true->AV.vals (Yc:=Y) η vs=AV.vals (Yc:=Z) η vs
 |[],_=>rfl
 |v::r,h=>by simp only[afR,abF]at h;simp only[AV.vals,AV.ny_val (Y:=Y) (Z:=Z) v h.1,HW r h.2]
theorem AF.ny_ha:(f:AF)->f.ny=true->AF.ha (Yc:=Y) η f=AF.ha (Yc:=Z) η f:=by
 intro f h;cases f with
 |box i b cs=>simp only[AF.ha,yF (Y:=Y) (Z:=Z) cs h]
 |hol t e i xs g k cs=>simp only[AF.ha,yF (Y:=Y) (Z:=Z) cs h]
 |ag B=>cases h
 |_=>rfl
end
end
section
variable [X:XTab] [G:GTab] [Yc:GCx] [Itr]
def nmB(B:Nat)(v:AV):Bool:=v.okR B []
theorem Si{η β:Vn}(h:∀m,m<B->η.b m=β.b m/\η.h m=β.h m):CL B [] η β:=λm c=>by
 have b:Nat.blt m B=true:=by simpa[okR,bU]using c
 have a:m<B:=abM b;have:=h m a;simp only[oe,b,abv];exact⟨this.2,this.1⟩
theorem acf{η β:Vn}(h:∀m,m<B->η.b m=β.b m/\η.h m=β.h m){v:AV}(a:nmB B v=true):v.val η=v.val β:=by exact(AV.rn_val (Si (η:=η) (β:=η) λ_ _=>⟨rfl,rfl⟩) v a).symm.trans (AV.rn_val (Si h) v a)
def AF.nz(f:AF):Bool:=f.ny&&f.uses.all λk=>Nat.ble 1 k
def aaD(ps:List Tmp)(vs:List AV)(E:SE):Option SE:=match ps,vs with
 |[p,q],[u,v]=>bif Nat.beq p q then none else some ((p,u)::(q,v)::E)
 |_,_=>none
theorem adk{ps:List Tmp}{vs:List AV}{E b:SE}(h:aaD ps vs E=some b):∃p q u v,ps=[p,q]/\vs=[u,v]/\Nat.beq p q=false/\(p,u)::(q,v)::E=b:=by
 unfold aaD at h;split at h
 ·rename_i p q u v;cases a:Nat.beq p q
  ·rw[a]at h;exact⟨p,q,u,v,rfl,rfl,a,by simpa using h⟩
  ·rw[a]at h;cases h
 ·cases h
def atx(B:Nat):AF->Bool
 |.ag a=>Nat.beq B a
 |_=>false
def vk(C:Cx)(B nt:Nat)(E:SE)(ps:List Tmp)(f c:Code)(h i:An):Inl:=⟨true,λ{R} ex n N vs F k=>match ex,aaD ps vs E with
 | none,some d =>
  let e:=HR (d.map (·.2)) (F.filter AF.nz)
  let a:=FO (d.map (·.2)) e
  let g:=mB ((e.flatMap AF.uses).filter λk=>!(bU k a))
  let b:=e.map (AF.recol (mu (fZ a 2) g))
  let K:SS->Option R:=λS=>bif(S.F++live S.d b).all AF.nz then(GF n N a g b [.lf (.c .bool true)] S).bind k else none
  bif Nat.ble 2 N&&Nat.ble B n&&ps.all (λp=>Nat.blt p nt)&&vs.all AV.ny&&E.all (λp=>nmB B p.2)&&F.any (atx B)&&b.all AF.nz then
   mI (C.at n) nt f R h [] b ⟨d,[],n,256,[]⟩ ⟨λS=>bif(S.F++live S.d b).all AF.nz then mI (C.at n) nt c R i [] b S ⟨K,λ_=>none,λ_ _=>none⟩else none,λ_=>none,λ_ _=>none⟩else none
 |_,_=>none⟩
theorem ar9{c:aS}{l:Nat}(o:Obj)(d:c l=0):Stp [0] w c (w.putObj l o) c:=by refine⟨by simp,λb _ _=>rfl,λb _ f=>World.putObj_heap_other λe=>f (by simp[e,d]),λb a h=>?_,⟨rfl,rfl⟩⟩;have h:=h (by simpa using a);simp at h;omega
theorem acU{c:aS}{l:Nat}(o:Obj)(g:c l=0){η:Vn}{F:List AF}(e:F.all AF.nz=true)(h:ao w c (F.map (AF.ha η))):ao (w.putObj l o) c (F.map (AF.ha η)):=by intro A a;obtain⟨f,hf,rfl⟩:=acG.1 a;have d:=acr.1 e f hf;simp only[AF.nz,abF]at d;refine HA.stp (ar9 o g) _ (λk b=>?_) (h _ a);rw[AF.ha_uses]at b;have:=abM (acr.1 d.2 k b);simp;omega
theorem avA{c:aS}{l:Nat}{r:Loop}(o:Obj)(hl:w.heap[l]?=some (.loop r))(h:ao w c (G.gl.map GEnt.ha)):ao (w.putObj l o) c (G.gl.map GEnt.ha):=by intro A b;have j:=h A b;obtain⟨e,_,rfl⟩:=acG.1 b;obtain⟨⟨ty,d,a⟩,f,g⟩:=j;refine⟨⟨ty,d,?_⟩,f,g⟩;rw[World.putObj_heap_other λi=>by rw[i,hl]at a;simp at a];exact a
end
section
variable [X:XTab] [G:GTab] {Y:GCx} [Yc:GCx] [Itr]
theorem aat{P:Program}{C:Cx}(hC:C.ok P)(hm:P.follows .mixedOrders=true)(h0:Yc.ex=[]){rec:Loop}(hY:HA.lp Y.l (.loop rec)∈Y.ex)(hst:rec.state=.ready)(hpd:rec.pending=none){nt:Nat}{E:SE}(hsz:rec.tmps.size=nt)
  (hE:∀t v,bP E t=some v->rec.tmps.getD t undef=v.val Y.β) (aa ab:An):Inl.yields (Yc:=Y) P (vk C B nt E rec.params.toList rec.assign rec.body aa ab):=by
 intro R ex n N vs F k r e;cases ex with
 |some b=>simp[vk]at e
 |none=>
 simp only[vk]at e;cases U:aaD rec.params.toList vs E with
 |none=>rw[U]at e;cases e
 |some E' =>
 rw[U]at e;simp only at e;generalize hF0:HR (E'.map (·.2)) (F.filter AF.nz)=F0 at e;generalize hκ:FO (E'.map (·.2)) F0=I at e;generalize hKa:mB ((F0.flatMap AF.uses).filter λk=>!(bU k I))=Ka at e;generalize hF1:F0.map (AF.recol (mu (fZ I 2) Ka))=F1 at e;cases hc:(Nat.ble 2 N&&Nat.ble B n&&rec.params.toList.all (λp=>Nat.blt p nt)&&vs.all AV.ny&&E.all (λp=>nmB B p.2)&&F.any (atx B)&&F1.all AF.nz)
 ·rw[hc]at e;cases e
 rw[hc]at e;simp only[abv]at e;simp only[abF]at hc;obtain⟨⟨⟨⟨⟨⟨hN,hB⟩,hps⟩,hvny⟩,hEB⟩,hag⟩,hnz1⟩:=hc;have hN:=abM hN;have hB:=abM hB;letI:Rd:=⟨some Y.l,[]⟩
 obtain⟨e1,S1,j,G1⟩:=iv (Cx.at_ok hC n) hm rec.assign e;cases e1 with
 |ret=>cases j
 |exit i=>cases j
 |goto l=>cases j
 |panic ch=>cases j
 |outgrown=>cases j
 |normal=>
 simp only[Kn.ap]at j;cases hz1:(S1.F++live S1.d F1).all AF.nz
 ·rw[hz1]at j;cases j
 rw[hz1]at j;simp only[abv]at j;obtain⟨e2,S2,o,G2⟩:=iv (Cx.at_ok hC n) hm rec.body j;cases e2 with
 |ret=>cases o
 |exit i=>cases o
 |goto l=>cases o
 |panic ch=>cases o
 |outgrown=>cases o
 |normal=>
 simp only[Kn.ap]at o;cases O:(S2.F++live S2.d F1).all AF.nz
 ·rw[O]at o;cases o
 rw[O]at o;simp only[abv]at o;obtain⟨u,hu,hk⟩:=bind_some o;refine⟨u,hk,λ_ η w c hH=>?_⟩;have y:∀m,m<B->η.b m=Y.β.b m/\η.h m=Y.β.h m:=by
  obtain⟨f,hf,hfa⟩:=aiF.1 hag;cases f with
  |ag B' =>
   have:B=B':=f9 hfa;subst this;exact hH _ (ad2 _ (acG.2 ⟨_,hf,rfl⟩))
  |_=>cases hfa
 have hyz:∀{G:List AF} {η:Vn},G.all AF.nz=true->G.map (AF.ha (Yc:=Y) η)=G.map (AF.ha (Yc:=Yc) η):=λ{G η} hg=>afA λf hf=>AF.ny_ha f ((abF _ _).mp (acr.1 hg f hf)).1;have hval:∀η:Vn,AV.vals (Yc:=Y) η vs=AV.vals (Yc:=Yc) η vs:=λη=>HW vs hvny;subst hF1;refine VM (Yc:=Y) (F:=F0) (Rn:=λη w R=>(∀m,m<B->η.b m=Y.β.b m/\η.h m=Y.β.h m)->YieldAt Fence.wide 0 P Y.l (AV.vals (Yc:=Y) η vs).toArray w R) hN (acr.2 λp hp=>?_) (λh h' hg=>(h hg).mono h') ?_ hu η w c (λA d=>?_) y
 ·have h1:p.1∈I:=by rw[<-xM I 2];grind
  rw[<-hκ]at h1;exact(ae2.1 (xU h1)).2
 ·intro η w J K y;generalize hF1:F0.map (AF.recol (mu (fZ I 2) Ka))=F1 at *;have hrec:w.heap[Y.l]?=some (.loop rec)/\J Y.l=0:=K _ (adF _ (adF _ hY));obtain⟨hl,hc0⟩:=hrec;have hlt:Y.l<w.heap.size:=(aeJ.1 hl).1;rw[hyz hnz1]at K;have hgl:ao w J (G.gl.map GEnt.ha):=λA d=>K A (adF _ (ad2 _ d));have s:(fH:List HA)=G.gl.map GEnt.ha:=by rw[fH,h0,ad0]
  have hL0:∀(w:World) (J:aS),L0ok (HA.old w J::fH):=λw J=>⟨λA d=>by
   rcases aen.1 d with rfl|d
   ·intro k hk;simp[HA.uses]at hk;omega
   ·exact FW d,λA d=>abJ _ d⟩
  obtain⟨p,q,u1,v1,S,rfl,hpq,rfl⟩:=adk U;have z:rec.params = #[p,q]:=akd S;rw[hval];refine⟨rec.fn,_,rec.assign,rec.body,run_yield hl (by simp[z,AV.vals]),roundIn_of_wpIn trivial ?_⟩;have htm:(rec.params.zip (AV.vals η [u1,v1]).toArray).foldl (λtmps (x:Tmp×Value)=>tmps.setIfInBounds x.1 x.2) rec.tmps=(rec.tmps.setIfInBounds p (u1.val η)).setIfInBounds q (v1.val η):=by simp[z,AV.vals]
  rw[htm];generalize T:(rec.tmps.setIfInBounds p (u1.val η)).setIfInBounds q (v1.val η)=tm;simp only[S,afR,List.all_nil,aii,abF]at hps;have hp1:p<nt:=abM hps.1;have hq1:q<nt:=abM hps.2;have hpq':p≠q:=afY hpq;have hget:∀t,tm.getD t undef=if t=q then v1.val η else if t=p then u1.val η else rec.tmps.getD t undef:=λt=>by rw[<-T];simp only[agZ,ane,Array.size_setIfInBounds,hsz];grind
  have hI1:gj n nt (HA.old w J::fH) η [] F1 ⟨(p,u1)::(q,v1)::E,[],n,256,[]⟩ { tmps:=tm,defers:=[]} w:=by
   refine⟨η,J,λt=>tm.getD t undef,⟨rfl,by rw[<-T];simpa using hsz,λ_=>rfl⟩,λt v a=>?_,?_,?_,λ_ _=>⟨rfl,rfl⟩⟩
   ·rw[ad0]at a;show tm.getD t undef=_;rw[hget];simp only[bP]at a;cases L:Nat.beq t p
    ·rw[L]at a;have hne:t≠p:=afY L;cases M:Nat.beq t q
     ·rw[M]at a;have hne2:t≠q:=afY M;rw[if_neg hne2,if_neg hne,hE t v a];exact(acf y (acr.1 hEB _ (nG a))).symm
     ·rw[M]at a;have:=f9 M;simp only[abv,ab7,no]at a;rw[if_pos this,a]
    ·rw[L]at a;have:=f9 L;subst this;simp only[abv,no]at a;rw[if_neg hpq',if_pos rfl,a]
   ·simp only[ae4,Az];exactλA d=>K A (ad2 _ d)
   ·refine ao.cons ⟨ad3 _,λ_ _ _=>⟨rfl,rfl⟩,λb V h=>h V,gU.refl _⟩ ?_;rw[s];exact hgl
  refine G1 (hL0 w J) hI1 λa1 w1 hI1' => ?_;obtain⟨η1,c2,ρ1,hr1,hE1,hF1',hL1,hβ1⟩:=hI1';obtain⟨o1,o2,o3,o4⟩:HA.holds w1 c2 (.old w J):=hL1 _ adT;have hl1:w1.heap[Y.l]?=some (.loop rec):=by rw[(o2 _ hlt (by omega)).1,hl]
  have hc2:c2 Y.l=0:=by rw[(o2 _ hlt (by omega)).2,hc0]
  have hgl1:ao w1 c2 (G.gl.map GEnt.ha):=λA d=>hL1 A (abJ _ (by rw[s];exact d));refine⟨_,run_beginRound hl1 hst,?_⟩;generalize g:w1.putObj Y.l (.loop { rec with state:=.busy})=w2;have hlt1:Y.l<w1.heap.size:=(aeJ.1 hl1).1;have hl2:w2.heap[Y.l]?=some (.loop { rec with state:=.busy}):=by rw[<-g];exact World.putObj_heap_same hlt1
  have hsz2:w2.heap.size=w1.heap.size:=by rw[<-g];simp
  have hI2:gj n nt (HA.old w2 c2::fH) η [] F1 S1 a1 w2:=by
   refine⟨η1,c2,ρ1,hr1,hE1,?_,?_,hβ1⟩
   ·rw[<-g];exact acU _ hc2 hz1 hF1'
   ·refine ao.cons ⟨ad3 _,λ_ _ _=>⟨rfl,rfl⟩,λb V h=>h V,gU.refl _⟩ ?_;rw[s,<-g];exact avA _ hl1 hgl1
  refine G2 (hL0 w2 c2) hI2 λa3 w3 hI3=>?_;obtain⟨η3,c3,ρ3,hr3,hE3,hF3,hL3,hβ3⟩:=hI3;obtain⟨p1,p2,p3,p4⟩:HA.holds w3 c3 (.old w2 c2):=hL3 _ adT;have Q:Y.l<w2.heap.size:=by omega
  have hl3:w3.heap[Y.l]?=some (.loop { rec with state:=.busy}):=by rw[(p2 _ Q (by omega)).1,hl2]
  have hc3:c3 Y.l=0:=by rw[(p2 _ Q (by omega)).2,hc2]
  refine⟨_,_,run_endRound none hl3,η3,c3,rfl,hβ3,?_,?_⟩
  ·refine⟨by simp;omega,λb V hcb=>?_,λb V h=>?_,o4.trans (gU.trans (by rw[<-g];exact⟨rfl,rfl⟩) p4)⟩
   ·have q1:=o2 b V hcb;have q2:=p2 b (by omega) (by omega);refine⟨?_,q2.2.trans q1.2⟩;by_cases hbl:b=Y.l
    ·subst hbl;rw[World.putObj_heap_same (by omega),hl];cases rec;simp_all
    ·rw[World.putObj_heap_other hbl,q2.1,<-g,World.putObj_heap_other hbl,q1.1]
   ·exact p3 b (by simpa using V) λh'=>o3 b (by omega) h
  ·rw[hyz O];exact acU _ hc3 O hF3
 ·rcases aef.1 d with d|d
  ·obtain⟨f,hf,rfl⟩:=acG.1 d;rw[<-hF0]at hf;exact hH _ (ad2 _ (acG.2 ⟨f,(ae2.1 (VH hf)).1,rfl⟩))
  ·exact hH _ (adF _ d)
end
section
variable [X:XTab] [G:GTab] [Yc:GCx] [Itr]
def rfS{R:Type}(C:Cx)(nt:Nat)(g:Operand)(ps:List Tmp)(c a:Code)(tl:List Nat)(e h:An)(b:SE)(d:List AF)(S:SS)(K:SS->Option R):Option R:=match ev (S.E++b) g with
 | some v0=>match rF v0 with
  | some (f,cap)=>match C.T f with
   | some T=>bif lT S.nn (S.E++b) (S.F++live S.d d)&&Nat.ble C.B S.nn&&cap.all AV.ny then
     (T (vk C S.nn nt (AQ (S.E++b) tl) ps c a e h)).run none S.nn S.nc (.lf .yl::cap) (.ag S.nn::(S.F++live S.d d).filter AF.nz) λu=>bif u.κ.all (Nat.ble 2)then K ⟨S.E,u.fs.filter AF.nz++GB (0::u.κ) S.F,S.nn+64,S.nc+768,(0::u.κ)++S.d⟩else none
    else none
   |none=>none
  |none=>none
 |none=>none
def mkD(b:Nat):Deferred:={ target:=.collected b,args:=#[]}
def ayy(b:Nat)(w0:World)(c0:aS)(a:World)(c:aS):Prop:=
 w0.heap.size<=a.heap.size/\(∀x,x<w0.heap.size->c0 x<=1->a.heap[x]?=w0.heap[x]?/\c x=c0 x)/\(∀x,x<a.heap.size->(x<w0.heap.size->2<=c0 x)->2<=c x\/x=b)/\gU w0 a
def O4(B nt:Nat)(w0:World)(c0:aS)(β:Vn)(e:SE)(f:List AF)(S:SS)(a:Act)(w:World):Prop:=
 Yc.ex=[]/\∃(b:Nat) (c:World) (d:aS),ayy b w0 c0 c d/\w0.heap.size<=b/\b<c.heap.size/\(letI:Rd:=⟨none,[mkD b]⟩;gj B nt (HA.old c d::HA.lp b (.deferred (some []))::fH) β e f S a w)
theorem AF.nold{η:Vn}(f:AF):(f.ha η).nold=true:=by
 cases f with
 |own t e i K xs h=>
  simp only[AF.ha];cases a:fk e
  ·rw[dK a];rfl
  ·rw[iT a];rfl
 |_=>rfl
theorem zt{κ:List Nat}{w':World}{c c':aS}{η:Vn}(hs:Stq κ w c w' c'){f:AF}(hf:gF κ f=false)(h:(f.ha η).holds w c):(f.ha η).holds w' c' :=
 HA.stq hs _ f.nold (λk a=>sC hf k (by rwa [AF.ha_uses]at a)) h
theorem Po{f:AF}(h:f.nz=true):gF [0] f=false:=by
 simp only[AF.nz,abF]at h;cases a:gF [0] f
 ·rfl
 ·simp only[gF,aq3,List.any_nil,Bool.or_false]at a;have:=abM (acr.1 h.2 0 (mem_iff.1 a));omega
theorem axF{P:Program}{C:Cx}(hC:C.ok P)(hm:P.follows .mixedOrders=true){nt:Nat}{R:Type}{g:Operand}{ps:Array Tmp}{asg body:Code}{tl:List Nat}{aa ab:An}{KE:SE}{KF:List AF}{S:SS}{K:SS->Option R}{r:R}
  (h:rfS C nt g ps.toList asg body tl aa ab KE KF S K=some r) {w0:World} {c0:aS} {β:Vn} {a:Act}  (hI:letI:Rd:=⟨none,[]⟩;gj C.B nt (HA.old w0 c0::fH) β KE KF S a w) {Q:Exit->Act->World->Prop}
  (hQ:∀S',K S'=some r->∀a w,O4 C.B nt w0 c0 β KE KF S' a w->Q .normal a w):(Code.rangeFunc g ps asg body).wpIn Fence.wide 0 P Q a w:=by
 unfold rfS at h;split at h;rotate_left
 ·cases h
 rename_i v0 hv0;split at h;rotate_left
 ·cases h
 rename_i f cap hcal;split at h;rotate_left
 ·cases h
 rename_i T hT;obtain⟨h0,hT⟩:=hC.T f T hT;cases hc:(lT S.nn (S.E++KE) (S.F++live S.d KF)&&Nat.ble C.B S.nn&&cap.all AV.ny)
 ·rw[hc]at h;cases h
 rw[hc]at h;simp only[abv]at h;simp only[abF]at hc;obtain⟨⟨D,hB⟩,hcny⟩:=hc;obtain⟨η,c,ρ,ha,hE,hF,hL,hβ⟩:=hI;refine wpIn_rangeFunc λfn _=>?_;let lr:Loop:={ state:=.ready,pending:=none,fn:=fn,tmps:=a.tmps,params:=ps,assign:=asg,body:=body,defers:=w.heap.size}
 let b:=w.heap.size
 let F:=(w.alloc (.deferred (some []))).alloc (.loop lr)
 let Yw:ULift.{0} GCx:=⟨⟨b+1,[.lp (b+1) (.loop lr),.lp b (.deferred (some []))],λA j k hk=>by
   simp at j;rcases j with rfl|rfl<;>simp[HA.uses]at hk<;>omega,λA j w c c' z hc=>by
   simp at j;rcases j with rfl|rfl<;>exact⟨z.1,hc _ z.2⟩,η⟩⟩
 have hs:=hT Yw.down _ (aat (Y:=Yw.down) (Yc:=Yc) hC hm h0 (rec:=lr) (B:=S.nn) (nt:=nt) (E:=AQ (S.E++KE) tl) (adT) rfl rfl ha.size (λt v hl=>by show a.tmps.getD t undef=v.val η;rw[ha.val];exact hE t v (uP hl)) aa ab);obtain⟨⟨fnn,cd,hf,hb,hname⟩,hs⟩:=hs;obtain⟨u,hu,s⟩:=hs none S.nn S.nc _ _ _ r h;cases hk2:u.κ.all (Nat.ble 2)
 ·rw[hk2]at hu;cases hu
 rw[hk2]at hu;simp only[abv]at hu;have hn':¬fnn.name = "runtime.NumGoroutine" := by grind
 have hcv:a.eval g=.func (.func f) #[] (AV.vals η cap).toArray:=by rw[ha.eval,aK hE hv0,Ed hcal]
 have hrun:∃d,(resolve a.eval (rangeCall g (b+1)) 0).run P F=.ok d F/\(invoke d.target d.args).run P F=.ok (.enter f (#[.func (.yield (b+1)) #[] #[]]++(AV.vals η cap).toArray)) F:=by
  have he:∀v,a.eval (.const v)=v:=λv=>by rw[ha.eval];rfl
  refine⟨_,by simp[resolve,hcv,Deferred.ofValue];rfl,?_⟩;simp[invoke,callFunc,hf,hb,hn',Result.andThen,he]
 obtain⟨d,hd,hinv⟩:=hrun;refine⟨b+1,[mkD b],F,d,F,f,_,F,run_enterLoop_outer fn a.tmps ps asg body,hd,λ_ _=>trivial,hinv,λh=>(by cases h),?_⟩;let M:aS:=λx=>bif Nat.ble b x then 0 else c x
 have p:∀x,x<b->M x=c x:=λx s=>by
  have:Nat.ble b x=false:=by
   cases hb:Nat.ble b x
   ·rfl
   ·have:=abM hb;omega
  simp[M,this]
 have q:∀x,b<=x->M x=0:=λx s=>by simp[M,aeo s]
 have al:∀(W:World) (o:Obj) (k:Nat),k<W.heap.size->(W.alloc o).heap[k]?=W.heap[k]?:=λW o k hk=>by show(W.heap.push o)[k]?=_;simp[Array.getElem?_push,Nat.ne_of_lt hk]
 have hw1s:F.heap.size=b+2:=by simp[F,b,World.size_alloc]
 have hw1:∀x,x<b->F.heap[x]?=w.heap[x]?:=λx s=>by rw[al _ _ _ (by rw[World.size_alloc];omega),al _ _ _ s]
 have hw1b:F.heap[b]?=some (.deferred (some [])):=by rw[al _ _ _ (by rw[World.size_alloc];omega)];exact World.alloc_heap_new w _
 have hw1l:F.heap[b+1]?=some (.loop lr):=by have:=World.alloc_heap_new (w.alloc (.deferred (some []))) (.loop lr);rwa [World.size_alloc]at this
 have q0:Stq [0] w c F M:=⟨λx s _=>p x s,λx s _=>hw1 x s⟩
 have hGLH:(fH:List HA)=G.gl.map GEnt.ha:=by rw[fH,h0,ad0]
 have hgl0:ao F M (G.gl.map GEnt.ha):=λA j=>by have z:=hL A (abJ _ (by rw[hGLH];exact j));obtain⟨e,_,rfl⟩:=acG.1 j;obtain⟨⟨ty,fz,g1⟩,g2,g3⟩:=z;have L:e.g<b:=(aeJ.1 g1).1;exact⟨⟨ty,fz,(hw1 _ L).trans g1⟩,by rw[p _ L];exact g2,g3⟩
 have O:=s trivial η F M (λA j=>by
  rcases aef.1 j with j|j
  ·obtain⟨f,hf,rfl⟩:=acG.1 j;rcases aen.1 hf with rfl|hf
   ·exactλ_ _=>⟨rfl,rfl⟩
   ·obtain⟨hf,hz⟩:=ae2.1 hf;rw[AF.ny_ha (Y:=Yw.down) (Z:=Yc) f ((abF _ _).mp hz).1];exact zt q0 (Po hz) (hF _ (acG.2 ⟨f,hf,rfl⟩))
  ·rcases aef.1 j with j|j
   ·exact hgl0 A j
   ·have j:A∈[HA.lp (b+1) (.loop lr),HA.lp b (.deferred (some []))]:=j;simp at j;rcases j with rfl|rfl
    ·exact⟨hw1l,q _ (by omega)⟩
    ·exact⟨hw1b,q _ (by omega)⟩)
 have hargs:(AV.vals (Yc:=Yw.down) η (.lf .yl::cap)).toArray = #[.func (.yield (b+1)) #[] #[]]++(AV.vals η cap).toArray:=by have hv:AV.vals (Yc:=Yw.down) η cap=AV.vals η cap:=HW cap hcny;show(Value.func (.yield (b+1)) #[] #[]::AV.vals (Yc:=Yw.down) η cap).toArray=_;rw[hv];simp
 rw[hargs]at O;refine callsIn_wide.2 (O.mono ?_);rintro e w' ⟨y,c',rfl,l,hH⟩;have J:∀k,k<=1->k∉u.κ:=λk hk hm=>by have:=abM (acr.1 hk2 k hm);omega
 have hb':w'.heap[b]?=some (.deferred (some []))/\c' b=0:=by
  have I:M b∉u.κ:=by rw[q b (ad3 _)];exact J 0 (by omega)
  exact⟨(l.same b (by omega) I).trans hw1b,(l.col b (by omega) I).trans (q b (ad3 _))⟩
 have hl':w'.heap[b+1]?=some (.loop lr)/\c' (b+1)=0:=by
  have I:M (b+1)∉u.κ:=by rw[q _ (by omega)];exact J 0 (by omega)
  exact⟨(l.same _ (by omega) I).trans hw1l,(l.col _ (by omega) I).trans (q _ (by omega))⟩
 have hsz':=l.size;let c4:aS:=λx=>bif Nat.beq x (b+1)then 2 else c' x
 have N:∀x,x≠b+1->c4 x=c' x:=λx s=>by
  have:Nat.beq x (b+1)=false:=by
   cases hb:Nat.beq x (b+1)
   ·rfl
   ·exact absurd (f9 hb) s
  simp[c4,this]
 have hst4:Stq [0] w' c' (w'.putObj (b+1) (.loop { lr with state:=.exhausted})) c4:=by have ne:∀x,c' x∉[0]->x≠b+1:=λx I he=>I (by simp[he,hl'.2]);exact⟨λx _ I=>N x (ne x I),λx _ I=>World.putObj_heap_other (ne x I)⟩
 refine⟨none,_,run_endLoop hl'.1 (by simp[lr]),?_⟩;show Q .normal { a with defers:=[mkD b]++a.defers} _;obtain⟨o1,o2,o3,o4⟩:HA.holds w c (.old w0 c0):=hL _ adT;generalize hw4:w'.putObj (b+1) (.loop { lr with state:=.exhausted})=w4 at *;have hw4s:w4.heap.size=w'.heap.size:=by rw[<-hw4];simp
 have U:∀x,x≠b+1->w4.heap[x]?=w'.heap[x]?:=λx s=>by rw[<-hw4];exact World.putObj_heap_other s
 have e4:gU w' w4:=by rw[<-hw4];exact⟨rfl,rfl⟩
 have lowN:∀m,Nat.blt m S.nn=true->out S.nn m=true:=λm hm=>by simp[out,hm]
 simp only[lT,abF]at D;have hfr:∀f∈S.F++live S.d KF,f.free S.nn=true:=λf hf=>by have:=AF.okN_free (n:=S.nn) (cl:=[]) (i:=0) (by simp) f (acr.1 D.2 f hf);grind
 have keep:∀f∈S.F++live S.d KF,gF (0::u.κ) f=false->(f.ha y.1).holds w4 c4:=λf hf z=>by
  have h1:gF [0] f=false/\gF u.κ f=false:=by simp only[gF,aq3,List.any_nil,Bool.or_false,afJ]at z|-;exact z
  rw[AF.ha_agr y.2 f (hfr f hf)];exact zt hst4 h1.1 (zt l.q h1.2 (zt q0 h1.1 (hF _ (acG.2 ⟨f,hf,rfl⟩))))
 refine hQ _ hu _ _ ⟨h0,b,w4,c4,⟨by omega,λx s hcx=>?_,λx s hx' => ?_,?_⟩,o1,by omega,y.1,c4,ρ,⟨by simp[ha.defers],ha.size,ha.val⟩,λt v hl=>?_,?_,?_,λm hm=>?_⟩
 ·have V:x<b:=ajq s o1;have q1:=o2 x s hcx;have I:M x∉u.κ:=by rw[p x V,q1.2];exact J _ hcx
  exact⟨by rw[U x (by omega),l.same x (by omega) I,hw1 x V,q1.1],by rw[N x (by omega),l.col x (by omega) I,p x V,q1.2]⟩
 ·by_cases V:x=b
  ·exact .inr V
  by_cases hxl:x=b+1
  ·subst hxl;exact .inl (by simp[c4])
  rw[N x hxl];refine .inl ?_;by_cases L:x<b
  ·have h2:=o3 x L hx';by_cases hk:M x∈u.κ
   ·exact l.two x (by omega) λ_=>⟨hk,by rw[p x L];exact h2⟩
   ·rw[l.col x (by omega) hk,p x L];exact h2
  ·exact l.two x (by omega) λh=>by omega
 ·exact o4.trans (gU.trans ⟨rfl,rfl⟩ (l.env.trans e4))
 ·have hv:=AV.okN_free (n:=S.nn) (cl:=[]) (i:=0) (by simp) v (acr.1 D.1 _ (nG hl));rw[AV.val_agr y.2 v (by simpa using hv)];exact hE t v hl
 ·intro A j;obtain⟨f,hf,rfl⟩:=acG.1 j;rcases aef.1 hf with hf|hf
  ·rcases aef.1 hf with hf|hf
   ·obtain⟨hf,hz⟩:=ae2.1 hf;have:=hH _ (acG.2 ⟨f,hf,rfl⟩);rw[AF.ny_ha (Y:=Yw.down) (Z:=Yc) f ((abF _ _).mp hz).1]at this;exact zt hst4 (Po hz) this
   ·obtain⟨hf,z⟩:=ae2.1 hf;exact keep f (ad2 _ hf) (by simpa using z)
  ·obtain⟨hf,z⟩:=ae2.1 hf;simp only[afm]at z;rw[uj,afJ]at z;exact keep f (adF _ (ae2.2 ⟨hf,by simp[z.2]⟩)) z.1
 ·refine ao.cons ⟨ad3 _,λ_ _ _=>⟨rfl,rfl⟩,λb hb h=>h hb,gU.refl _⟩ (ao.cons ⟨(U b (by omega)).trans hb'.1,(N b (by omega)).trans hb'.2⟩ ?_);rw[hGLH];intro A j;have z:=HA.stq l.q A (by obtain⟨e,_,rfl⟩:=acG.1 j;rfl) (λk hk=>by
   obtain⟨e,_,rfl⟩:=acG.1 j;have:k=0\/k=1:=by simpa[GEnt.ha,HA.uses]using hk
   exact J k (by omega)) (hgl0 A j)
  obtain⟨e,_,rfl⟩:=acG.1 j;obtain⟨⟨ty,fz,g1⟩,g2,g3⟩:=z;have hne:e.g≠b+1:=λhe=>by rw[he,hl'.1]at g1;simp at g1
  exact⟨⟨ty,fz,(U _ hne).trans g1⟩,by rw[N _ hne];exact g2,g3⟩
 ·have:=y.2 m (lowN m (aeo (by have:=abM hB;omega)));grind
end
end Go.Sm
