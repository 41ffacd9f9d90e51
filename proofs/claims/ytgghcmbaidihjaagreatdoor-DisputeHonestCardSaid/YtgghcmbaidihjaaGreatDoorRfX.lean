/- Laws for the row. No condition. -/
import Derived.ProofKit
import Derived.SizedLaws
import Derived.LaidLaws
import Derived.Test.YtgghcmbaidihjaaGreatDoorJoinT
import Derived.RangeFuncIn
import Derived.RangeFuncRecord
import Derived.RangeFuncLeaves
import Derived.RangeFuncBound
namespace Go.Sm
open Go.ChangeShapes Go.WideShapes Go.ChangeAt Go.RowKit Go.WideElems
set_option linter.unusedSectionVars false
section
variable [X:XTab] [G:GTab] [Yc:GCx]
section
variable {P:Program} {H:Type} {enc:TypeId×Value->H} {W:World} {Θ:Tb}
theorem amZ{v:Value}(h:∀cs,v≠.agg cs):v.cells.toList=[v]:=by cases v<;>first|rfl|grind
theorem yC{r:Reach}{b0:Nat}{t:TypeId}{v:Value}(ht:(∃F,P.underlying t=some (.struct F))\/∃n e,P.underlying t=some (.array n e))(h:Value.okWide P W r b0 t v):∃cs,v=.agg cs:=by grind[Value.okWide]
theorem abC{Θ:Tb}{n:Nat}{t:TypeId}{tc:TC}(h:y6 Θ n t tc=true):∃i,Θ t=some i/\((∃s,tc=.sc s/\yY i.d s=true)\/(∃m s m' e,tc=.arr m s/\i.d=.arr m' e)\/(∃te e,tc=.slice te/\i.d=.slice e)\/∃fs,i.d=.st fs/\((∃a b,tc=.pair a b)\/∃a,tc=.st a)):=by
 cases n with
 |zero=>simp[y6]at h
 | succ n=>
  simp only[y6]at h;split at h
  ·rename_i i hi;refine⟨i,hi,?_⟩;split at h
   ·grind
   ·grind
   ·rename_i fs hd;refine .inr (.inr (.inr ⟨_,hd,?_⟩));simp only[Y5]at h;have h1:=h.1;unfold stB at h1;split at h1
    ·grind
    ·rename_i tc' _ _ _ _ _ _;unfold ou at h1;grind
    ·cases h1
   ·grind
   ·cases h
  ·cases h
theorem abX(hΘ:Θ.ok P){r:Reach}{b0 n:Nat}{t:TypeId}{tc:TC}{v:Value}{d:DataW H}{ps:List MemPlace}(hm:y6 Θ n t tc=true)(hval:Value.okWide P W r b0 t v)
  (h:DataW.Trod enc P W 0 (λ_=>true) true t v d ps):∃(x:tc.den) (y:tc.ty.Refs),v=kS tc x y/\bD W wL tc.ty x y/\Bd tc x:=by
 obtain⟨fuel,hf⟩:=h;have hrd:=N2 hΘ n t tc fuel _ _ hm hf;obtain⟨i,hi,hk⟩:=abC hm;have hfit:=(hΘ t i hi).2.1;have agg:(∃cs,v=.agg cs)->∀{l:List Value},v.cells.toList=l->v=.agg l.toArray:=λhv l hl=>by obtain⟨cs,rfl⟩:=hv;rw[<-hl];rfl
 have one:(∀cs,v≠.agg cs)->∀{u},v.cells.toList=[u]->v=u:=λhv u hu=>by rw[amZ hv]at hu;grind
 rcases hk with⟨s,rfl,hs⟩|⟨m,s,m',e,rfl,hd⟩|⟨te,e,rfl,hd⟩|⟨fs,hd,⟨a,b,rfl⟩|⟨a,rfl⟩⟩
 ·obtain⟨x,y,hcs,hr,hw⟩:=hrd;refine⟨x,y,one ?_ hcs,hr,hw⟩;generalize i.d=d at hs hfit;cases s with
  |int k=>
   cases d<;>simp only[yY,acK]at hs<;>try cases hs
   obtain⟨k,rfl⟩:=okWide_int (show P.underlying t=some (.int _)from hfit) hval;grind
  |bool=>
   cases d<;>simp only[yY]at hs<;>try cases hs
   obtain⟨k,rfl⟩:=okWide_bool (show P.underlying t=some .bool from hfit) hval;grind
  |str=>
   cases d<;>simp only[yY]at hs<;>try cases hs
   obtain⟨k,rfl⟩:=okWide_string (show P.underlying t=some .string from hfit) hval;grind
  |fnc=>cases d<;>simp only[yY]at hs<;>cases hs
 ·obtain⟨x,y,hcs,hr,hw⟩:=hrd;rw[hd]at hfit;exact⟨x,y,agg (yC (.inr ⟨m',e,hfit⟩) hval) hcs,hr,hw⟩
 ·obtain⟨x,y,hcs,hr,hw⟩:=hrd;rw[hd]at hfit;obtain⟨a,len,cap,rfl⟩:=okWide_slice hfit hval;exact⟨x,y,one (λ_ hh=>by cases hh) hcs,hr,hw⟩
 ·obtain⟨x,y,hcs,hr,hw⟩:=hrd;rw[hd]at hfit;obtain⟨F,hu,_⟩:=hfit;exact⟨x,y,agg (yC (.inl ⟨F,hu⟩) hval) hcs,hr,hw⟩
 ·obtain⟨x,y,hcs,hr,hw⟩:=hrd;rw[hd]at hfit;obtain⟨F,hu,_⟩:=hfit;exact⟨x,y,agg (yC (.inl ⟨F,hu⟩) hval) hcs,hr,hw⟩
theorem vb:(t:TC)->(y:t.ty.Refs)->(l:List Hd)->aM t (cz t y++l)=y
 |.sc _,_,_=>rfl
 |.arr _ _,_,_=>rfl
 |.unit,_,_=>rfl
 |.pair a b,y,l=>by
  simp only[aM,cz,aaf];rw[vb a y.1];have:List.drop a.nh (cz a y.1++(cz b y.2++l))=cz b y.2++l:=by rw[<-cU a y.1,List.drop_left]
  rw[this,vb b y.2]
 |.slice _,_,_=>rfl
 |.st t,y,l=>vb t y l
 |.ext _,_,_=>rfl
 |.node,_,_=>rfl
 |.mp _ _,_,_=>rfl
def WfP:(tcs:List TC)->ja (tcs.map PC.d)->Prop
 |[],_=>True
 |[t],x=>Bd t x
 |t::t'::r,x=>Bd t x.1/\WfP (t'::r) x.2
def MM(Θ:Tb)(n:Nat):List TypeId->List TC->Bool
 |[],[]=>true
 |t::ts,tc::tcs=>y6 Θ n t tc&&MM Θ n ts tcs
 |_,_=>false
theorem LT(hΘ:Θ.ok P){r:Reach}{b0 n:Nat}:∀{ts:List TypeId} {tcs:List TC} {vs:List Value} {ds:List (DataW H)} {ps:List MemPlace} (q:Nat),MM Θ n ts tcs=true->(∀(j:Nat) t v,ts[j]?=some t->vs[j]?=some v->Value.okWide P W r b0 t v) ->
  DataW.TrodAll enc P W 0 (λ_=>true) true ts vs ds ps->∃(x:ja (tcs.map PC.d)) (l:List Hd),l.length=qE (tcs.map PC.d)/\vs=kX (tcs.map PC.d) x l/\aj W (ph wL) (nA (tcs.map PC.d) x l q)/\WfP tcs x
 |[],[],vs,ds,ps,q,_,_,h=>by cases vs<;>cases ds<;>simp only[DataW.TrodAll]at h;exact⟨(),[],rfl,rfl,aj.nil _ _,trivial⟩
 |[],_::_,_,_,_,_,hm,_,_=>by simp[MM]at hm
 |_::_,[],_,_,_,_,hm,_,_=>by simp[MM]at hm
 | t::ts,tc::tcs,vs,ds,ps,q,hm,hv,h=>by
  obtain⟨v,vs',d,ds',p,p',rfl,rfl,rfl,h1,h2⟩:=trodAll_cons h;simp only[MM,Y5]at hm;obtain⟨x,y,hx,hr,hw⟩:=abX hΘ hm.1 (hv 0 t v rfl rfl) h1;have hr1:bD W (λb=>ph wL b∈[1]) tc.ty x y:=bD.keep (λb _ _=>⟨adm b,rfl⟩) tc.ty x y hr;match ts,tcs,hm.2,h2 with
  |[],[],_,h2=>
   cases vs'<;>cases ds'<;>simp only[DataW.TrodAll]at h2;have e:aM tc (cz tc y)=y:=by simpa using vb tc y []
   refine⟨x,cz tc y,?_,?_,?_,hw⟩
   ·show _=tc.nh+0;rw[cU];rfl
   ·show [v]=[kS tc x (aM tc (cz tc y))];rw[e,hx]
   ·show aj W _ (facts tc.ty [1] x (aM tc (cz tc y)));rw[e];exact pd _ _ _ hr1
  |t'::ts,tc'::tcs,hm2,h2=>
   obtain⟨x2,l2,e1,e2,e3,e4⟩:=LT hΘ (ts:=t'::ts) (tcs:=tc'::tcs) (q+0) hm2 (λj t v ht hv'=>hv (j+1) t v (by simpa using ht) (by grind)) h2;have e:aM tc (cz tc y++l2)=y:=vb tc y l2;have ed:(cz tc y++l2).drop tc.nh=l2:=by rw[<-cU tc y,List.drop_left]
   refine⟨(x,x2),cz tc y++l2,?_,?_,?_,⟨hw,e4⟩⟩
   ·show(cz tc y++l2).length=tc.nh+qE ((tc'::tcs).map PC.d);rw[ZD,cU,e1]
   ·show _=kS tc x (aM tc (cz tc y++l2))::kX ((tc'::tcs).map PC.d) x2 ((cz tc y++l2).drop tc.nh);grind
   ·show aj W _ (facts tc.ty [1] x (aM tc (cz tc y++l2))++nA ((tc'::tcs).map PC.d) x2 ((cz tc y++l2).drop tc.nh) (q+0));rw[e,ed];exact(pd _ _ _ hr1).append e3
theorem OU{w0:World}{S:Nat->Prop}{Y:Type}{val:Y->Value}{facts:Y->List HA}{e:Ending}{w':World}(h:tS w0 (ph S) val facts e w'):(∃y,e=.returned (val y))/\Below w0.heap.size w0 { w' with tape:=w0.tape}:=by obtain⟨y,c',he,henv,hsz,hold,_,_⟩:=h;exact⟨⟨y,he⟩,henv.1,rfl,henv.2,hsz,λk hk=>(hold k hk (by rcases ajz S k with h|h<;>omega)).1⟩
theorem za{W':World}(hl:laidOutB P=true)(hB:Below W.heap.size W W'):∀{ts:List TypeId} {vs:List Value} {ds:List (DataW H)} {ps:List MemPlace},ts.all (λt=>P.readableRec t&&decide (t<P.types.size))=true ->
  DataW.TrodAll enc P W 0 (λ_=>true) true ts vs ds ps->(∀x∈ps,x.block<W.heap.size)->DataW.TrodAll enc P W' 0 (λb=>decide (b<W.heap.size)) true ts vs ds ps
 |[],vs,ds,ps,_,h,_=>by cases vs<;>cases ds<;>simp_all[DataW.TrodAll]
 | t::ts,vs,ds,ps,hts,h,hlt=>by
  obtain⟨v,vs',d,ds',p,q,rfl,rfl,rfl,h1,h2⟩:=trodAll_cons h;simp only[acw,Y5,acK]at hts;exact⟨p,q,Below.trod hl hts.1.1 hts.1.2 h1 hB λx hx=>hlt x (ZW _ hx),
   za hl hB (by grind) h2 λx hx=>hlt x (Z7 _ hx),rfl⟩
def vO(Θ:Tb)(B:TypeId->DataW Unit->Option (List Value)):List (TypeId×Nat)->List (DataW Unit)->Nat->Option (List Value×Nat)
 |[],[],pos=>some ([],pos)
 | f::fs,d::ds,pos=>bif Nat.beq f.2 pos then(match Θ f.1 with
  |some i=>match B f.1 d,vO Θ B fs ds (pos+i.sz)with
   |some a,some b=>some (a++b.1,b.2)
   |_,_=>none
  |none=>none)else none
 |_,_,_=>none
def CX(Θ:Tb):Nat->TypeId->DataW Unit->Option (List Value)
 |0,_,_=>none
 | n+1,t,d=>match Θ t with
  |none=>none
  | some i=>match i.d,d with
   |.int k,.lit (.int k' m)=>bif yY (.int k) (.int k')then some [.int k' m]else none
   |.bool,.lit (.bool b)=>some [.bool b]
   |.str,.lit (.string s)=>some [.string ⟨s.toArray⟩]
   | .arr m e,.agg ds=>match Θ e with
    |some ie=>match vO Θ (CX Θ n) ((List.range m).map λj=>(e,j*ie.sz)) ds 0 with
     |some r=>bif Nat.beq r.2 i.sz then some r.1 else none
     |none=>none
    |none=>none
   |.st fs,.agg ds=>match vO Θ (CX Θ n) fs ds 0 with
    |some r=>bif Nat.beq r.2 i.sz then some r.1 else none
    |none=>none
   |_,_=>none
theorem vq(hΘ:Θ.ok P){t:TypeId}{i:TInf}(h:Θ t=some i):P.cellsOf t=i.sz:=
 lV hΘ (by simp only[yT,h];simp_all)
theorem CD(hΘ:Θ.ok P){B:TypeId->DataW Unit->Option (List Value)}{T:TypeId->List Value->DataW Unit->Prop}(hB:∀t d a cs,B t d=some a->T t cs d->cs=a){cs:List Value} :
  ∀(fs:List (TypeId×Nat)) (ds:List (DataW Unit)) (pos:Nat) (r:List Value×Nat),vO Θ B fs ds pos=some r->(∀(j:Nat) f d,fs[j]?=some f->ds[j]?=some d->T f.1 ((cs.drop f.2).take (P.cellsOf f.1)) d)->pos<=r.2/\(cs.drop pos).take (r.2-pos)=r.1
 |[],[],pos,r,h,_=>by simp only[vO,no]at h;subst h;simp
 |[],_::_,_,_,h,_=>by simp[vO]at h
 |_::_,[],_,_,h,_=>by simp[vO]at h
 | f::fs,d::ds,pos,r,h,hT=>by
  simp only[vO]at h;cases hb:Nat.beq f.2 pos
  ·simp[hb]at h
  ·have hp:=f9 hb;simp only[hb,Ze]at h;split at h
   ·rename_i i hi;split at h
    ·rename_i a b ha hbr;obtain⟨h1,h2⟩:=CD hΘ hB fs ds (pos+i.sz) b hbr λj f' d' hf hd=>hT (j+1) f' d' (by simpa using hf) (by simpa using hd)
     have h3:=hB _ _ _ _ ha (hT 0 f d rfl rfl);rw[vq hΘ hi,hp]at h3;simp only[no]at h;subst h;refine⟨by grind,?_⟩;show(cs.drop pos).take (b.2-pos)=a++b.1;rw[show b.2-pos=i.sz+(b.2-(pos+i.sz))by omega,amK,h3,adg,h2]
    ·cases h
   ·cases h
theorem OI{α:Type}{f:α->Option (DataW Unit×List MemPlace)}{l:List α}{xs:List (DataW Unit×List MemPlace)}(h:l.mapM f=some xs):xs.length=l.length/\∀(j:Nat) a d,l[j]?=some a->(xs.map (·.1))[j]?=some d->∃p,f a=some (d,p):=by obtain⟨h1,h2⟩:=pz h;grind
theorem Qn(hΘ:Θ.ok P){en:TypeId×Value->Unit}{held:Bool}:∀(n:Nat) (t:TypeId) (d:DataW Unit) (a cs:List Value) ,CX Θ n t d=some a->(∃fuel p,DataW.trod en P W 0 (λ_=>true) held fuel t cs=some (d,p))->cs=a
 |0,_,_,_,_,h,_=>by simp[CX]at h
 | n+1,t,d,a,cs,h,⟨fuel,p,ht⟩=>by
  have ih:=Qn hΘ (en:=en) (held:=held) n;cases fuel with
  |zero=>simp[DataW.trod]at ht
  |succ fuel=>
  simp only[CX]at h;split at h
  ·cases h
  ·rename_i i hi;have hfit:=(hΘ t i hi).2.1;split at h
   ·rename_i k k' m hd;rw[hd]at hfit;have hu:P.underlying t=some (.int k):=hfit;cases hk:yY (.int k) (.int k')<;>simp only[hk,Ze,Zr]at h
    ·cases h
    ·simp only[yY,acK]at hk;subst hk;cases h;unfold DataW.trod at ht;rw[hu]at ht;match cs,ht with
     |[.int k2 z],ht=>
      simp only at ht;split at ht
      ·grind
      ·cases ht
   ·rename_i b hd;rw[hd]at hfit;have hu:P.underlying t=some .bool:=hfit;cases h;unfold DataW.trod at ht;rw[hu]at ht;match cs,ht with
    |[.bool b'],ht=>cases ht;rfl
   ·rename_i s hd;rw[hd]at hfit;have hu:P.underlying t=some .string:=hfit;cases h;unfold DataW.trod at ht;rw[hu]at ht;match cs,ht with
    |[.string z],ht=>
     simp only at ht;split at ht
     ·cases ht;rfl
     ·cases ht
   ·rename_i m e ds hd;rw[hd]at hfit;have hu:P.underlying t=some (.array m e):=hfit;split at h
    ·rename_i ie hie;split at h
     ·rename_i r hr;cases hz:Nat.beq r.2 i.sz<;>simp only[hz,Ze,Zr]at h
      ·cases h
      ·cases h;have hz:=f9 hz;unfold DataW.trod at ht;rw[hu]at ht;simp only at ht;split at ht
       ·rename_i hlen;rw[vq hΘ hi]at hlen;simp only[aa8,ZC,DataW.agg.injEq]at ht;obtain⟨xs,hxs,hds,_⟩:=ht;obtain⟨h1,h2⟩:=OI hxs;obtain⟨_,h3⟩:=CD hΘ (T:=λt cs d=>∃fuel p,DataW.trod en P W 0 (λ_=>true) held fuel t cs=some (d,p)) (λt d a cs ha hT=>ih t d a cs ha hT) (cs:=cs) _ ds 0 r hr λj f d hf hd=>by
         grind[Option.map_eq_some_iff,List.getElem?_range,vq]
        grind
       ·cases ht
     ·cases h
    ·cases h
   ·rename_i fs ds hd;rw[hd]at hfit;obtain⟨Fd,hu,hfs⟩:=hfit;split at h
    ·rename_i r hr;cases hz:Nat.beq r.2 i.sz<;>simp only[hz,Ze,Zr]at h
     ·cases h
     ·cases h;have hz:=f9 hz;unfold DataW.trod at ht;rw[hu]at ht;simp only at ht;split at ht
      ·rename_i hlen;rw[vq hΘ hi]at hlen;simp only[aa8,ZC,DataW.agg.injEq]at ht;obtain⟨xs,hxs,hds,_⟩:=ht;obtain⟨h1,h2⟩:=OI hxs;obtain⟨_,h3⟩:=CD hΘ (T:=λt cs d=>∃fuel p,DataW.trod en P W 0 (λ_=>true) held fuel t cs=some (d,p)) (λt d a cs ha hT=>ih t d a cs ha hT) (cs:=cs) fs ds 0 r hr λj f d hf hd=>by
        grind
       grind
      ·cases ht
    ·cases h
   ·cases h
theorem Pq{w:World}:∀{l:List (String×DataW Unit)} {ps:List MemPlace} {j:Nat} {n:String} {d:DataW Unit},DataW.LaidVars P w l ps->l[j]?=some (n,d) ->
  ∃g t cs fuel p,P.globalNamed n=some g/\(P.globals[g]?).map (·.type)=some t/\w.var? P n=some cs/\DataW.trod (λ_=>()) P w 0 (λ_=>true) false fuel t cs.toList=some (d,p)
 |[],_,_,_,_,_,h=>by simp at h
 |(n,d)::r,ps,0,n',d',hv,h=>by obtain⟨g,t,cs,fuel,p,q,h1,h2,h3,h4,_,_⟩:=hv;grind
 |(n,d)::r,ps,j+1,n',d',hv,h=>by obtain⟨g,t,cs,fuel,p,q,_,_,_,_,hq,_⟩:=hv;exact Pq hq (by simpa using h)
theorem WV{w:World}{n:String}{g:Nat}{cs:Array Value}(hg:P.globalNamed n=some g)(h:w.var? P n=some cs):∃ty fz,w.heap[g]?=some (.cells cs ty fz):=by unfold World.var? at h;grind
theorem Bg(hΘ:Θ.ok P){l:List (String×DataW Unit)}{j k g:Nat}{t:TypeId}{n:String}{d:DataW Unit}{cs:List Value}(h:laidMet P l W)(hj:l[j]?=some (n,d))(hg:P.globalNamed n=some g)(ht:(P.globals[g]?).map (·.type)=some t)
  (hb:CX Θ k t d=some cs):∃ty fz,W.heap[g]?=some (.cells cs.toArray ty fz):=by
 obtain⟨ps,hv,_⟩:=h;obtain⟨g',t',cs',fuel,p,h1,h2,h3,h4⟩:=Pq hv hj;obtain rfl:=ajQ (hg.symm.trans h1);obtain rfl:=ajQ (ht.symm.trans h2);have:=Qn hΘ k t d cs cs'.toList hb ⟨fuel,p,h4⟩;obtain⟨ty,fz,h5⟩:=WV hg h3;exact⟨ty,fz,by rw[h5,<-this]⟩
end
end
theorem K8{H:Type}{enc:TypeId×Value->H}{a:Assume}{C:Checked}{os:Os}{f:FuncId}{fn:Func}{s:ChangeSpec}{conds:List PathCond}{qH fresh handsOn again:Bool}{L:World->Array Value->Prop}
  (hX:∀(w w':World) (args:Array Value),w.heap=w'.heap->L w args->L w' args)
  (own:ownKnob C.prog.godebug=none) (started:os.Started) (noInit:C.prog.inits.idxOf? f=none) (hfn:C.prog.funcs[f]?=some fn)
  (witness:∃(w:World) (tape:Tape) (i:Input),w.os=os/\(w.forCall tape i).Shaped C.prog/\i.vars=[]/\Input.okWide C.prog (w.forCall tape i) .any w.heap.size f i /\
   ((s.pre enc C.prog fn conds qH (w.forCall tape i).memory i.args/\L (w.forCall tape i).memory i.args)/\sizedMet enc C.prog fn (OpenSpec.ofChange s) qH (w.forCall tape i).memory i.args)/\a.holds C.prog (lone (Frame.enter C.prog f i.args .normal) [] (w.forCall tape i)))
  (contract:∀(W:World) (base:Nat) (args:Array Value) (ds gs:List (DataW H)) (before:List MemPlace),
   (∀(j:Nat) t v,fn.params[j]?=some t->args[j]?=some v->Value.okWide C.prog W .any base t v) ->
   DataW.Whole enc C.prog fn.params.toList s.vars qH W args.toList ds gs before->L W args->W.ShapedOpen C.prog ->
   (DataW.weightsEach C.prog (fn.params.toList++s.plain.varTypes C.prog) (ds++gs)).all (· <= reachBytes)=true ->
   Calls C.prog f args W λe W'=>∃v,e=.returned v/\s.post enc C.prog fn qH fresh handsOn again W args v W') :
  ReturnsInHanded a C os f .any (λw args=>(s.pre enc C.prog fn conds qH w args/\L w args)/\sizedMet enc C.prog fn (OpenSpec.ofChange s) qH w args) (s.post enc C.prog fn qH fresh handsOn again):=by
 refine returnsInHanded_of_calls own started noInit witness ?_;intro w tape i _ hsh _ hok hpre _;obtain⟨_,_,_,fn',hfn',_,_,_,_,hval⟩:=hok;obtain rfl:fn'=fn:=ajQ (hfn'.symm.trans hfn);obtain⟨⟨⟨ds,gs,before,hw,_⟩,hx⟩,hz⟩:=hpre;have hw':=DataW.Whole.of_heap (w':=w.forCall tape i) (by rfl) hw;refine(contract (w.forCall tape i) w.heap.size i.args ds gs before hval hw' (hX _ _ _ (by rfl) hx) hsh (hz.weights hw)).mono λe W' ⟨v,he,hp⟩=>?_;subst he;exact ChangeSpec.post_blind hp
section
variable [X:XTab] [G:GTab]
def Lf.ny:Lf->Bool
 |.yl=>false
 |_=>true
def AV.ny:AV->Bool
 |.lf l=>l.ny
 |.ag ls=>ls.all Lf.ny
 |.tu _=>false
def AF.ny:AF->Bool
 |.box _ _ cs=>cs.all Lf.ny
 |.hol _ _ _ _ _ _ cs=>cs.all Lf.ny
 |.ag _=>false
 |_=>true
section
variable {Y Z:GCx} {η:Vn}
theorem Lf.ny_cells:(l:Lf)->l.ny=true->Lf.cells (Yc:=Y) η l=Lf.cells (Yc:=Z) η l:=by intro l h;cases l<;>first|rfl|cases h
theorem Lf.ny_val:(l:Lf)->l.ny=true->Lf.val (Yc:=Y) η l=Lf.val (Yc:=Z) η l:=by intro l h;cases l<;>first|rfl|cases h
theorem vR:(ls:List Lf)->ls.all Lf.ny=true->au (Yc:=Y) η ls=au (Yc:=Z) η ls
 |[],_=>rfl
 |l::r,h=>by simp only[acw,Y5]at h;simp only[au,Lf.ny_cells (Y:=Y) (Z:=Z) l h.1,vR r h.2]
theorem AV.ny_val:(v:AV)->v.ny=true->AV.val (Yc:=Y) η v=AV.val (Yc:=Z) η v
 |.lf l,h=>by simp only[AV.val];exact Lf.ny_val l h
 |.ag ls,h=>by simp only[AV.val];rw[vR (Y:=Y) (Z:=Z) ls h]
theorem EU:(vs:List AV)->vs.all AV.ny=true->AV.vals (Yc:=Y) η vs=AV.vals (Yc:=Z) η vs
 |[],_=>rfl
 |v::r,h=>by simp only[acw,Y5]at h;simp only[AV.vals,AV.ny_val (Y:=Y) (Z:=Z) v h.1,EU r h.2]
theorem AF.ny_ha:(f:AF)->f.ny=true->AF.ha (Yc:=Y) η f=AF.ha (Yc:=Z) η f:=by
 intro f h;cases f with
 |box i b cs=>simp only[AF.ha,vR (Y:=Y) (Z:=Z) cs h]
 |hol t e i xs g k cs=>simp only[AF.ha,vR (Y:=Y) (Z:=Z) cs h]
 |ag B=>cases h
 |_=>rfl
end
end
section
variable [X:XTab] [G:GTab] [Yc:GCx] [Itr]
def nmB(B:Nat)(v:AV):Bool:=v.okR B []
theorem M3{B:Nat}{η β:Vn}(h:∀m,m<B->η.b m=β.b m/\η.h m=β.h m):A7 B [] η β:=λm hm=>by
 have hb:Nat.blt m B=true:=by simpa[okR,bQ]using hm
 have hlt:m<B:=Zh hb;have:=h m hlt;simp only[mn,hb,Ze];exact⟨this.2,this.1⟩
theorem Ym{B:Nat}{η β:Vn}(h:∀m,m<B->η.b m=β.b m/\η.h m=β.h m){v:AV}(hv:nmB B v=true):v.val η=v.val β:=by exact(AV.rn_val (M3 (η:=η) (β:=η) λ_ _=>⟨rfl,rfl⟩) v hv).symm.trans (AV.rn_val (M3 h) v hv)
def AF.nz(f:AF):Bool:=f.ny&&f.uses.all λk=>Nat.ble 1 k
def V2(ps:List Tmp)(vs:List AV)(E:SE):Option SE:=match ps,vs with
 |[p,q],[u,v]=>bif Nat.beq p q then none else some ((p,u)::(q,v)::E)
 |_,_=>none
theorem Yb{ps:List Tmp}{vs:List AV}{E E':SE}(h:V2 ps vs E=some E'):∃p q u v,ps=[p,q]/\vs=[u,v]/\Nat.beq p q=false/\(p,u)::(q,v)::E=E':=by
 unfold V2 at h;split at h
 ·rename_i p q u v;cases hb:Nat.beq p q
  ·rw[hb]at h;exact⟨p,q,u,v,rfl,rfl,hb,by simpa using h⟩
  ·rw[hb]at h;cases h
 ·cases h
def am1(B:Nat):AF->Bool
 |.ag B'=>Nat.beq B B'
 |_=>false
def uU(C:Cx)(B nt:Nat)(E:SE)(ps:List Tmp)(asg body:Code)(aa ab:An):Inl:=⟨true,λ{R} ex n N vs F k=>match ex,V2 ps vs E with
 | none,some E' =>
  let F0:=FN (E'.map (·.2)) (F.filter AF.nz)
  let κs:=DZ (E'.map (·.2)) F0
  let Ka:=kP ((F0.flatMap AF.uses).filter λk=>!(bQ k κs))
  let F1:=F0.map (AF.recol (mu (fC κs 2) Ka))
  let K:SS->Option R:=λS=>bif(S.F++live S.d F1).all AF.nz then(EB n N κs Ka F1 [.lf (.c .bool true)] S).bind k else none
  bif Nat.ble 2 N&&Nat.ble B n&&ps.all (λp=>Nat.blt p nt)&&vs.all AV.ny&&E.all (λp=>nmB B p.2)&&F.any (am1 B)&&F1.all AF.nz then
   lG (C.at n) nt asg R aa [] F1 ⟨E',[],n,256,[]⟩ ⟨λS=>bif(S.F++live S.d F1).all AF.nz then lG (C.at n) nt body R ab [] F1 S ⟨K,λ_=>none,λ_ _=>none⟩else none,λ_=>none,λ_ _=>none⟩else none
 |_,_=>none⟩
theorem akp{w:World}{c:aS}{l:Nat}(o:Obj)(hc:c l=0):Stp [0] w c (w.putObj l o) c:=by refine⟨by simp,λb _ _=>rfl,λb _ hn=>World.putObj_heap_other λhe=>hn (by simp[he,hc]),λb hb h=>?_,⟨rfl,rfl⟩⟩;have h:=h (by simpa using hb);simp at h;omega
theorem XO{w:World}{c:aS}{l:Nat}(o:Obj)(hc:c l=0){η:Vn}{F:List AF}(hF:F.all AF.nz=true)(h:aj w c (F.map (AF.ha η))):aj (w.putObj l o) c (F.map (AF.ha η)):=by intro A hA;obtain⟨f,hf,rfl⟩:=ZA.1 hA;have hz:=Zy.1 hF f hf;simp only[AF.nz,Y5]at hz;refine HA.stp (akp o hc) _ (λk hk=>?_) (h _ hA);rw[AF.ha_uses]at hk;have:=Zh (Zy.1 hz.2 k hk);simp;omega
theorem anV{w:World}{c:aS}{l:Nat}{r:Loop}(o:Obj)(hl:w.heap[l]?=some (.loop r))(h:aj w c (G.gl.map GEnt.ha)):aj (w.putObj l o) c (G.gl.map GEnt.ha):=by intro A hA;have hh:=h A hA;obtain⟨e,_,rfl⟩:=ZA.1 hA;obtain⟨⟨ty,fz,h1⟩,h2,h3⟩:=hh;refine⟨⟨ty,fz,?_⟩,h2,h3⟩;rw[World.putObj_heap_other λhe=>by rw[he,hl]at h1;simp at h1];exact h1
end
section
variable [X:XTab] [G:GTab] {Y:GCx} [Yc:GCx] [Itr]
theorem UL{P:Program}{C:Cx}(hC:C.ok P)(hm:P.follows .mixedOrders=true)(h0:Yc.ex=[]){rec:Loop}(hY:HA.lp Y.l (.loop rec)∈Y.ex)(hst:rec.state=.ready)(hpd:rec.pending=none){B nt:Nat}{E:SE}(hsz:rec.tmps.size=nt)
  (hE:∀t v,bN E t=some v->rec.tmps.getD t undef=v.val Y.β) (aa ab:An):Inl.yields (Yc:=Y) P (uU C B nt E rec.params.toList rec.assign rec.body aa ab):=by
 intro R ex n N vs F k r hr;cases ex with
 |some b=>simp[uU]at hr
 |none=>
 simp only[uU]at hr;cases hE':V2 rec.params.toList vs E with
 |none=>rw[hE']at hr;cases hr
 |some E' =>
 rw[hE']at hr;simp only at hr;generalize hF0:FN (E'.map (·.2)) (F.filter AF.nz)=F0 at hr;generalize hκ:DZ (E'.map (·.2)) F0=κs at hr;generalize hKa:kP ((F0.flatMap AF.uses).filter λk=>!(bQ k κs))=Ka at hr;generalize hF1:F0.map (AF.recol (mu (fC κs 2) Ka))=F1 at hr;cases hc:(Nat.ble 2 N&&Nat.ble B n&&rec.params.toList.all (λp=>Nat.blt p nt)&&vs.all AV.ny&&E.all (λp=>nmB B p.2)&&F.any (am1 B)&&F1.all AF.nz)
 ·rw[hc]at hr;cases hr
 rw[hc]at hr;simp only[Ze]at hr;simp only[Y5]at hc;obtain⟨⟨⟨⟨⟨⟨hN,hB⟩,hps⟩,hvny⟩,hEB⟩,hag⟩,hnz1⟩:=hc;have hN:=Zh hN;have hB:=Zh hB;letI:Rd:=⟨some Y.l,[]⟩
 obtain⟨e1,S1,g1,G1⟩:=ic (Cx.at_ok hC n) hm rec.assign hr;cases e1 with
 |ret=>cases g1
 |exit i=>cases g1
 |goto l=>cases g1
 |panic ch=>cases g1
 |outgrown=>cases g1
 |normal=>
 simp only[Kn.ap]at g1;cases hz1:(S1.F++live S1.d F1).all AF.nz
 ·rw[hz1]at g1;cases g1
 rw[hz1]at g1;simp only[Ze]at g1;obtain⟨e2,S2,g2,G2⟩:=ic (Cx.at_ok hC n) hm rec.body g1;cases e2 with
 |ret=>cases g2
 |exit i=>cases g2
 |goto l=>cases g2
 |panic ch=>cases g2
 |outgrown=>cases g2
 |normal=>
 simp only[Kn.ap]at g2;cases hz2:(S2.F++live S2.d F1).all AF.nz
 ·rw[hz2]at g2;cases g2
 rw[hz2]at g2;simp only[Ze]at g2;obtain⟨u,hu,hk⟩:=bind_some g2;refine⟨u,hk,λ_ η w c hH=>?_⟩;have hagr:∀m,m<B->η.b m=Y.β.b m/\η.h m=Y.β.h m:=by
  obtain⟨f,hf,hfa⟩:=aeL.1 hag;cases f with
  |ag B' =>
   have:B=B':=f9 hfa;subst this;exact hH _ (ZW _ (ZA.2 ⟨_,hf,rfl⟩))
  |_=>cases hfa
 have hyz:∀{G:List AF} {η:Vn},G.all AF.nz=true->G.map (AF.ha (Yc:=Y) η)=G.map (AF.ha (Yc:=Yc) η):=λ{G η} hg=>abw λf hf=>AF.ny_ha f ((Y5 _ _).mp (Zy.1 hg f hf)).1;have hval:∀η:Vn,AV.vals (Yc:=Y) η vs=AV.vals (Yc:=Yc) η vs:=λη=>EU vs hvny;subst hF1;refine P8 (Yc:=Y) (F:=F0) (Rn:=λη w R=>(∀m,m<B->η.b m=Y.β.b m/\η.h m=Y.β.h m)->YieldAt Fence.wide 0 P Y.l (AV.vals (Yc:=Y) η vs).toArray w R) hN (Zy.2 λp hp=>?_) (λh h' hg=>(h hg).mono h') ?_ hu η w c (λA hA=>?_) hagr
 ·have h1:p.1∈κs:=by rw[<-wj κs 2];grind
  rw[<-hκ]at h1;exact(aa0.1 (wc h1)).2
 ·intro η w c1 hH1 hagr;generalize hF1:F0.map (AF.recol (mu (fC κs 2) Ka))=F1 at *;have hrec:w.heap[Y.l]?=some (.loop rec)/\c1 Y.l=0:=hH1 _ (Z7 _ (Z7 _ hY));obtain⟨hl,hc0⟩:=hrec;have hlt:Y.l<w.heap.size:=(aaA.1 hl).1;rw[hyz hnz1]at hH1;have hgl:aj w c1 (G.gl.map GEnt.ha):=λA hA=>hH1 A (Z7 _ (ZW _ hA));have hGLH:(eV:List HA)=G.gl.map GEnt.ha:=by rw[eV,h0,Z2]
  have hL0:∀(w:World) (c1:aS),L0ok (HA.old w c1::eV):=λw c1=>⟨λA hA=>by
   rcases aaa.1 hA with rfl|hA
   ·intro k hk;simp[HA.uses]at hk;omega
   ·exact DX hA,λA hA=>Zf _ hA⟩
  obtain⟨p,q,u1,v1,hpar,rfl,hpq,rfl⟩:=Yb hE';have hpar':rec.params = #[p,q]:=aj9 hpar;rw[hval];refine⟨rec.fn,_,rec.assign,rec.body,run_yield hl (by simp[hpar',AV.vals]),roundIn_of_wpIn trivial ?_⟩;have htm:(rec.params.zip (AV.vals η [u1,v1]).toArray).foldl (λtmps (x:Tmp×Value)=>tmps.setIfInBounds x.1 x.2) rec.tmps=(rec.tmps.setIfInBounds p (u1.val η)).setIfInBounds q (v1.val η):=by simp[hpar',AV.vals]
  rw[htm];generalize htm':(rec.tmps.setIfInBounds p (u1.val η)).setIfInBounds q (v1.val η)=tm;simp only[hpar,acw,List.all_nil,ahn,Y5]at hps;have hp1:p<nt:=Zh hps.1;have hq1:q<nt:=Zh hps.2;have hpq':p≠q:=acx hpq;have hget:∀t,tm.getD t undef=if t=q then v1.val η else if t=p then u1.val η else rec.tmps.getD t undef:=λt=>by rw[<-htm'];simp only[ac1,alf,Array.size_setIfInBounds,hsz];grind
  have hI1:fX n nt (HA.old w c1::eV) η [] F1 ⟨(p,u1)::(q,v1)::E,[],n,256,[]⟩ { tmps:=tm,defers:=[]} w:=by
   refine⟨η,c1,λt=>tm.getD t undef,⟨rfl,by rw[<-htm'];simpa using hsz,λ_=>rfl⟩,λt v hlk=>?_,?_,?_,λ_ _=>⟨rfl,rfl⟩⟩
   ·rw[Z2]at hlk;show tm.getD t undef=_;rw[hget];simp only[bN]at hlk;cases htp:Nat.beq t p
    ·rw[htp]at hlk;have hne:t≠p:=acx htp;cases htq:Nat.beq t q
     ·rw[htq]at hlk;have hne2:t≠q:=acx htq;rw[if_neg hne2,if_neg hne,hE t v hlk];exact(Ym hagr (Zy.1 hEB _ (lL hlk))).symm
     ·rw[htq]at hlk;have:=f9 htq;simp only[Ze,Zr,no]at hlk;rw[if_pos this,hlk]
    ·rw[htp]at hlk;have:=f9 htp;subst this;simp only[Ze,no]at hlk;rw[if_neg hpq',if_pos rfl,hlk]
   ·simp only[abx,xT];exactλA hA=>hH1 A (ZW _ hA)
   ·refine aj.cons ⟨Z0 _,λ_ _ _=>⟨rfl,rfl⟩,λb hb h=>h hb,gv.refl _⟩ ?_;rw[hGLH];exact hgl
  refine G1 (hL0 w c1) hI1 λa1 w1 hI1' => ?_;obtain⟨η1,c2,ρ1,hr1,hE1,hF1',hL1,hβ1⟩:=hI1';obtain⟨o1,o2,o3,o4⟩:HA.holds w1 c2 (.old w c1):=hL1 _ ZO;have hl1:w1.heap[Y.l]?=some (.loop rec):=by rw[(o2 _ hlt (by omega)).1,hl]
  have hc2:c2 Y.l=0:=by rw[(o2 _ hlt (by omega)).2,hc0]
  have hgl1:aj w1 c2 (G.gl.map GEnt.ha):=λA hA=>hL1 A (Zf _ (by rw[hGLH];exact hA));refine⟨_,run_beginRound hl1 hst,?_⟩;generalize hw2:w1.putObj Y.l (.loop { rec with state:=.busy})=w2;have hlt1:Y.l<w1.heap.size:=(aaA.1 hl1).1;have hl2:w2.heap[Y.l]?=some (.loop { rec with state:=.busy}):=by rw[<-hw2];exact World.putObj_heap_same hlt1
  have hsz2:w2.heap.size=w1.heap.size:=by rw[<-hw2];simp
  have hI2:fX n nt (HA.old w2 c2::eV) η [] F1 S1 a1 w2:=by
   refine⟨η1,c2,ρ1,hr1,hE1,?_,?_,hβ1⟩
   ·rw[<-hw2];exact XO _ hc2 hz1 hF1'
   ·refine aj.cons ⟨Z0 _,λ_ _ _=>⟨rfl,rfl⟩,λb hb h=>h hb,gv.refl _⟩ ?_;rw[hGLH,<-hw2];exact anV _ hl1 hgl1
  refine G2 (hL0 w2 c2) hI2 λa3 w3 hI3=>?_;obtain⟨η3,c3,ρ3,hr3,hE3,hF3,hL3,hβ3⟩:=hI3;obtain⟨p1,p2,p3,p4⟩:HA.holds w3 c3 (.old w2 c2):=hL3 _ ZO;have hlt2:Y.l<w2.heap.size:=by omega
  have hl3:w3.heap[Y.l]?=some (.loop { rec with state:=.busy}):=by rw[(p2 _ hlt2 (by omega)).1,hl2]
  have hc3:c3 Y.l=0:=by rw[(p2 _ hlt2 (by omega)).2,hc2]
  refine⟨_,_,run_endRound none hl3,η3,c3,rfl,hβ3,?_,?_⟩
  ·refine⟨by simp;omega,λb hb hcb=>?_,λb hb h=>?_,o4.trans (gv.trans (by rw[<-hw2];exact⟨rfl,rfl⟩) p4)⟩
   ·have q1:=o2 b hb hcb;have q2:=p2 b (by omega) (by omega);refine⟨?_,q2.2.trans q1.2⟩;by_cases hbl:b=Y.l
    ·subst hbl;rw[World.putObj_heap_same (by omega),hl];cases rec;simp_all
    ·rw[World.putObj_heap_other hbl,q2.1,<-hw2,World.putObj_heap_other hbl,q1.1]
   ·exact p3 b (by simpa using hb) λh'=>o3 b (by omega) h
  ·rw[hyz hz2];exact XO _ hc3 hz2 hF3
 ·rcases aad.1 hA with hA|hA
  ·obtain⟨f,hf,rfl⟩:=ZA.1 hA;rw[<-hF0]at hf;exact hH _ (ZW _ (ZA.2 ⟨f,(aa0.1 (Px hf)).1,rfl⟩))
  ·exact hH _ (Z7 _ hA)
end
section
variable [X:XTab] [G:GTab] [Yc:GCx] [Itr]
def rfS{R:Type}(C:Cx)(nt:Nat)(g:Operand)(ps:List Tmp)(asg body:Code)(tl:List Nat)(aa ab:An)(KE:SE)(KF:List AF)(S:SS)(K:SS->Option R):Option R:=match ev (S.E++KE) g with
 | some v0=>match pE v0 with
  | some (f,cap)=>match C.T f with
   | some T=>bif j7 S.nn (S.E++KE) (S.F++live S.d KF)&&Nat.ble C.B S.nn&&cap.all AV.ny then
     (T (uU C S.nn nt (yu (S.E++KE) tl) ps asg body aa ab)).run none S.nn S.nc (.lf .yl::cap) (.ag S.nn::(S.F++live S.d KF).filter AF.nz) λu=>bif u.κ.all (Nat.ble 2)then K ⟨S.E,u.fs.filter AF.nz++Eb (0::u.κ) S.F,S.nn+64,S.nc+768,(0::u.κ)++S.d⟩else none
    else none
   |none=>none
  |none=>none
 |none=>none
def XY(b:Nat):Deferred:={ target:=.collected b,args:=#[]}
def aq8(b:Nat)(w0:World)(c0:aS)(w1:World)(c1:aS):Prop:=
 w0.heap.size<=w1.heap.size/\(∀x,x<w0.heap.size->c0 x<=1->w1.heap[x]?=w0.heap[x]?/\c1 x=c0 x)/\(∀x,x<w1.heap.size->(x<w0.heap.size->2<=c0 x)->2<=c1 x\/x=b)/\gv w0 w1
def K9(B nt:Nat)(w0:World)(c0:aS)(β:Vn)(KE:SE)(KF:List AF)(S:SS)(a:Act)(w:World):Prop:=
 Yc.ex=[]/\∃(b:Nat) (w1:World) (c1:aS),aq8 b w0 c0 w1 c1/\w0.heap.size<=b/\b<w1.heap.size/\(letI:Rd:=⟨none,[XY b]⟩;fX B nt (HA.old w1 c1::HA.lp b (.deferred (some []))::eV) β KE KF S a w)
theorem AF.nold{η:Vn}(f:AF):(f.ha η).nold=true:=by
 cases f with
 |own t e i K xs h=>
  simp only[AF.ha];cases ht:eM e
  ·rw[dx ht];rfl
  ·rw[gZ ht];rfl
 |_=>rfl
theorem xE{κ:List Nat}{w w':World}{c c':aS}{η:Vn}(hs:Stq κ w c w' c'){f:AF}(hf:fY κ f=false)(h:(f.ha η).holds w c):(f.ha η).holds w' c' :=
 HA.stq hs _ f.nold (λk hk=>qf hf k (by rwa [AF.ha_uses]at hk)) h
theorem Lt{f:AF}(h:f.nz=true):fY [0] f=false:=by
 simp only[AF.nz,Y5]at h;cases hh:fY [0] f
 ·rfl
 ·simp only[fY,amG,List.any_nil,Bool.or_false]at hh;have:=Zh (Zy.1 h.2 0 (mem_iff.1 hh));omega
theorem apR{P:Program}{C:Cx}(hC:C.ok P)(hm:P.follows .mixedOrders=true){nt:Nat}{R:Type}{g:Operand}{ps:Array Tmp}{asg body:Code}{tl:List Nat}{aa ab:An}{KE:SE}{KF:List AF}{S:SS}{K:SS->Option R}{r:R}
  (h:rfS C nt g ps.toList asg body tl aa ab KE KF S K=some r) {w0:World} {c0:aS} {β:Vn} {a:Act} {w:World} (hI:letI:Rd:=⟨none,[]⟩;fX C.B nt (HA.old w0 c0::eV) β KE KF S a w) {Q:Exit->Act->World->Prop}
  (hQ:∀S',K S'=some r->∀a w,K9 C.B nt w0 c0 β KE KF S' a w->Q .normal a w):(Code.rangeFunc g ps asg body).wpIn Fence.wide 0 P Q a w:=by
 unfold rfS at h;split at h;rotate_left
 ·cases h
 rename_i v0 hv0;split at h;rotate_left
 ·cases h
 rename_i f cap hcal;split at h;rotate_left
 ·cases h
 rename_i T hT;obtain⟨h0,hT⟩:=hC.T f T hT;cases hc:(j7 S.nn (S.E++KE) (S.F++live S.d KF)&&Nat.ble C.B S.nn&&cap.all AV.ny)
 ·rw[hc]at h;cases h
 rw[hc]at h;simp only[Ze]at h;simp only[Y5]at hc;obtain⟨⟨hfree,hB⟩,hcny⟩:=hc;obtain⟨η,c,ρ,ha,hE,hF,hL,hβ⟩:=hI;refine wpIn_rangeFunc λfn _=>?_;let lr:Loop:={ state:=.ready,pending:=none,fn:=fn,tmps:=a.tmps,params:=ps,assign:=asg,body:=body,defers:=w.heap.size}
 let b:=w.heap.size
 let w1:=(w.alloc (.deferred (some []))).alloc (.loop lr)
 let Yw:ULift.{0} GCx:=⟨⟨b+1,[.lp (b+1) (.loop lr),.lp b (.deferred (some []))],λA hA k hk=>by
   simp at hA;rcases hA with rfl|rfl<;>simp[HA.uses]at hk<;>omega,λA hA w c c' hh hc=>by
   simp at hA;rcases hA with rfl|rfl<;>exact⟨hh.1,hc _ hh.2⟩,η⟩⟩
 have hs:=hT Yw.down _ (UL (Y:=Yw.down) (Yc:=Yc) hC hm h0 (rec:=lr) (B:=S.nn) (nt:=nt) (E:=yu (S.E++KE) tl) (ZO) rfl rfl ha.size (λt v hl=>by show a.tmps.getD t undef=v.val η;rw[ha.val];exact hE t v (sM hl)) aa ab);obtain⟨⟨fnn,cd,hf,hb,hname⟩,hs⟩:=hs;obtain⟨u,hu,hx⟩:=hs none S.nn S.nc _ _ _ r h;cases hk2:u.κ.all (Nat.ble 2)
 ·rw[hk2]at hu;cases hu
 rw[hk2]at hu;simp only[Ze]at hu;have hn':¬fnn.name = "runtime.NumGoroutine" := by grind
 have hcv:a.eval g=.func (.func f) #[] (AV.vals η cap).toArray:=by rw[ha.eval,aH hE hv0,Cg hcal]
 have hrun:∃d,(resolve a.eval (rangeCall g (b+1)) 0).run P w1=.ok d w1/\(invoke d.target d.args).run P w1=.ok (.enter f (#[.func (.yield (b+1)) #[] #[]]++(AV.vals η cap).toArray)) w1:=by
  have he:∀v,a.eval (.const v)=v:=λv=>by rw[ha.eval];rfl
  refine⟨_,by simp[resolve,hcv,Deferred.ofValue];rfl,?_⟩;simp[invoke,callFunc,hf,hb,hn',Result.andThen,he]
 obtain⟨d,hd,hinv⟩:=hrun;refine⟨b+1,[XY b],w1,d,w1,f,_,w1,run_enterLoop_outer fn a.tmps ps asg body,hd,λ_ _=>trivial,hinv,λh=>(by cases h),?_⟩;let c1:aS:=λx=>bif Nat.ble b x then 0 else c x
 have hlow:∀x,x<b->c1 x=c x:=λx hx=>by
  have:Nat.ble b x=false:=by
   cases hb:Nat.ble b x
   ·rfl
   ·have:=Zh hb;omega
  simp[c1,this]
 have hnew:∀x,b<=x->c1 x=0:=λx hx=>by simp[c1,aah hx]
 have al:∀(W:World) (o:Obj) (k:Nat),k<W.heap.size->(W.alloc o).heap[k]?=W.heap[k]?:=λW o k hk=>by show(W.heap.push o)[k]?=_;simp[Array.getElem?_push,Nat.ne_of_lt hk]
 have hw1s:w1.heap.size=b+2:=by simp[w1,b,World.size_alloc]
 have hw1:∀x,x<b->w1.heap[x]?=w.heap[x]?:=λx hx=>by rw[al _ _ _ (by rw[World.size_alloc];omega),al _ _ _ hx]
 have hw1b:w1.heap[b]?=some (.deferred (some [])):=by rw[al _ _ _ (by rw[World.size_alloc];omega)];exact World.alloc_heap_new w _
 have hw1l:w1.heap[b+1]?=some (.loop lr):=by have:=World.alloc_heap_new (w.alloc (.deferred (some []))) (.loop lr);rwa [World.size_alloc]at this
 have q0:Stq [0] w c w1 c1:=⟨λx hx _=>hlow x hx,λx hx _=>hw1 x hx⟩
 have hGLH:(eV:List HA)=G.gl.map GEnt.ha:=by rw[eV,h0,Z2]
 have hgl0:aj w1 c1 (G.gl.map GEnt.ha):=λA hA=>by have hh:=hL A (Zf _ (by rw[hGLH];exact hA));obtain⟨e,_,rfl⟩:=ZA.1 hA;obtain⟨⟨ty,fz,g1⟩,g2,g3⟩:=hh;have hlt:e.g<b:=(aaA.1 g1).1;exact⟨⟨ty,fz,(hw1 _ hlt).trans g1⟩,by rw[hlow _ hlt];exact g2,g3⟩
 have hcall:=hx trivial η w1 c1 (λA hA=>by
  rcases aad.1 hA with hA|hA
  ·obtain⟨f,hf,rfl⟩:=ZA.1 hA;rcases aaa.1 hf with rfl|hf
   ·exactλ_ _=>⟨rfl,rfl⟩
   ·obtain⟨hf,hz⟩:=aa0.1 hf;rw[AF.ny_ha (Y:=Yw.down) (Z:=Yc) f ((Y5 _ _).mp hz).1];exact xE q0 (Lt hz) (hF _ (ZA.2 ⟨f,hf,rfl⟩))
  ·rcases aad.1 hA with hA|hA
   ·exact hgl0 A hA
   ·have hA:A∈[HA.lp (b+1) (.loop lr),HA.lp b (.deferred (some []))]:=hA;simp at hA;rcases hA with rfl|rfl
    ·exact⟨hw1l,hnew _ (by omega)⟩
    ·exact⟨hw1b,hnew _ (by omega)⟩)
 have hargs:(AV.vals (Yc:=Yw.down) η (.lf .yl::cap)).toArray = #[.func (.yield (b+1)) #[] #[]]++(AV.vals η cap).toArray:=by have hv:AV.vals (Yc:=Yw.down) η cap=AV.vals η cap:=EU cap hcny;show(Value.func (.yield (b+1)) #[] #[]::AV.vals (Yc:=Yw.down) η cap).toArray=_;rw[hv];simp
 rw[hargs]at hcall;refine callsIn_wide.2 (hcall.mono ?_);rintro e w' ⟨y,c',rfl,hst,hH⟩;have hκ0:∀k,k<=1->k∉u.κ:=λk hk hm=>by have:=Zh (Zy.1 hk2 k hm);omega
 have hb':w'.heap[b]?=some (.deferred (some []))/\c' b=0:=by
  have hn:c1 b∉u.κ:=by rw[hnew b (Z0 _)];exact hκ0 0 (by omega)
  exact⟨(hst.same b (by omega) hn).trans hw1b,(hst.col b (by omega) hn).trans (hnew b (Z0 _))⟩
 have hl':w'.heap[b+1]?=some (.loop lr)/\c' (b+1)=0:=by
  have hn:c1 (b+1)∉u.κ:=by rw[hnew _ (by omega)];exact hκ0 0 (by omega)
  exact⟨(hst.same _ (by omega) hn).trans hw1l,(hst.col _ (by omega) hn).trans (hnew _ (by omega))⟩
 have hsz':=hst.size;let c4:aS:=λx=>bif Nat.beq x (b+1)then 2 else c' x
 have hc4:∀x,x≠b+1->c4 x=c' x:=λx hx=>by
  have:Nat.beq x (b+1)=false:=by
   cases hb:Nat.beq x (b+1)
   ·rfl
   ·exact absurd (f9 hb) hx
  simp[c4,this]
 have hst4:Stq [0] w' c' (w'.putObj (b+1) (.loop { lr with state:=.exhausted})) c4:=by have ne:∀x,c' x∉[0]->x≠b+1:=λx hn he=>hn (by simp[he,hl'.2]);exact⟨λx _ hn=>hc4 x (ne x hn),λx _ hn=>World.putObj_heap_other (ne x hn)⟩
 refine⟨none,_,run_endLoop hl'.1 (by simp[lr]),?_⟩;show Q .normal { a with defers:=[XY b]++a.defers} _;obtain⟨o1,o2,o3,o4⟩:HA.holds w c (.old w0 c0):=hL _ ZO;generalize hw4:w'.putObj (b+1) (.loop { lr with state:=.exhausted})=w4 at *;have hw4s:w4.heap.size=w'.heap.size:=by rw[<-hw4];simp
 have hw4x:∀x,x≠b+1->w4.heap[x]?=w'.heap[x]?:=λx hx=>by rw[<-hw4];exact World.putObj_heap_other hx
 have e4:gv w' w4:=by rw[<-hw4];exact⟨rfl,rfl⟩
 have lowN:∀m,Nat.blt m S.nn=true->out S.nn m=true:=λm hm=>by simp[out,hm]
 simp only[j7,Y5]at hfree;have hfr:∀f∈S.F++live S.d KF,f.free S.nn=true:=λf hf=>by have:=AF.okN_free (n:=S.nn) (cl:=[]) (i:=0) (by simp) f (Zy.1 hfree.2 f hf);grind
 have keep:∀f∈S.F++live S.d KF,fY (0::u.κ) f=false->(f.ha y.1).holds w4 c4:=λf hf hh=>by
  have h1:fY [0] f=false/\fY u.κ f=false:=by simp only[fY,amG,List.any_nil,Bool.or_false,abW]at hh|-;exact hh
  rw[AF.ha_agr y.2 f (hfr f hf)];exact xE hst4 h1.1 (xE hst.q h1.2 (xE q0 h1.1 (hF _ (ZA.2 ⟨f,hf,rfl⟩))))
 refine hQ _ hu _ _ ⟨h0,b,w4,c4,⟨by omega,λx hx hcx=>?_,λx hx hx' => ?_,?_⟩,o1,by omega,y.1,c4,ρ,⟨by simp[ha.defers],ha.size,ha.val⟩,λt v hl=>?_,?_,?_,λm hm=>?_⟩
 ·have hxb:x<b:=ajS hx o1;have q1:=o2 x hx hcx;have hn:c1 x∉u.κ:=by rw[hlow x hxb,q1.2];exact hκ0 _ hcx
  exact⟨by rw[hw4x x (by omega),hst.same x (by omega) hn,hw1 x hxb,q1.1],by rw[hc4 x (by omega),hst.col x (by omega) hn,hlow x hxb,q1.2]⟩
 ·by_cases hxb:x=b
  ·exact .inr hxb
  by_cases hxl:x=b+1
  ·subst hxl;exact .inl (by simp[c4])
  rw[hc4 x hxl];refine .inl ?_;by_cases hlt:x<b
  ·have h2:=o3 x hlt hx';by_cases hk:c1 x∈u.κ
   ·exact hst.two x (by omega) λ_=>⟨hk,by rw[hlow x hlt];exact h2⟩
   ·rw[hst.col x (by omega) hk,hlow x hlt];exact h2
  ·exact hst.two x (by omega) λh=>by omega
 ·exact o4.trans (gv.trans ⟨rfl,rfl⟩ (hst.env.trans e4))
 ·have hv:=AV.okN_free (n:=S.nn) (cl:=[]) (i:=0) (by simp) v (Zy.1 hfree.1 _ (lL hl));rw[AV.val_agr y.2 v (by simpa using hv)];exact hE t v hl
 ·intro A hA;obtain⟨f,hf,rfl⟩:=ZA.1 hA;rcases aad.1 hf with hf|hf
  ·rcases aad.1 hf with hf|hf
   ·obtain⟨hf,hz⟩:=aa0.1 hf;have:=hH _ (ZA.2 ⟨f,hf,rfl⟩);rw[AF.ny_ha (Y:=Yw.down) (Z:=Yc) f ((Y5 _ _).mp hz).1]at this;exact xE hst4 (Lt hz) this
   ·obtain⟨hf,hh⟩:=aa0.1 hf;exact keep f (ZW _ hf) (by simpa using hh)
  ·obtain⟨hf,hh⟩:=aa0.1 hf;simp only[abc]at hh;rw[rV,abW]at hh;exact keep f (Z7 _ (aa0.2 ⟨hf,by simp[hh.2]⟩)) hh.1
 ·refine aj.cons ⟨Z0 _,λ_ _ _=>⟨rfl,rfl⟩,λb hb h=>h hb,gv.refl _⟩ (aj.cons ⟨(hw4x b (by omega)).trans hb'.1,(hc4 b (by omega)).trans hb'.2⟩ ?_);rw[hGLH];intro A hA;have hh:=HA.stq hst.q A (by obtain⟨e,_,rfl⟩:=ZA.1 hA;rfl) (λk hk=>by
   obtain⟨e,_,rfl⟩:=ZA.1 hA;have:k=0\/k=1:=by simpa[GEnt.ha,HA.uses]using hk
   exact hκ0 k (by omega)) (hgl0 A hA)
  obtain⟨e,_,rfl⟩:=ZA.1 hA;obtain⟨⟨ty,fz,g1⟩,g2,g3⟩:=hh;have hne:e.g≠b+1:=λhe=>by rw[he,hl'.1]at g1;simp at g1
  exact⟨⟨ty,fz,(hw4x _ hne).trans g1⟩,by rw[hc4 _ hne];exact g2,g3⟩
 ·have:=y.2 m (lowN m (aah (by have:=Zh hB;omega)));grind
end
end Go.Sm
