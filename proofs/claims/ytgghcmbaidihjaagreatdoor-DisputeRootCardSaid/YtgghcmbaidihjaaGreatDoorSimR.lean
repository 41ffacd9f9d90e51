/- Laws for the row. No condition. -/
import Derived.Laws.IdiomCopy
import Derived.Test.YtgghcmbaidihjaaGreatDoorSimG
import Derived.WalkSpells
import Derived.WideMake
import Derived.Lib.AppendStr
import Derived.Laws.Runes
namespace Go.Sm
variable {K σ π:List Nat} {t e0 t' kt u e' et ty:TypeId} {x y:Operand} {w:World} {sz by_ i off ci j X g:Nat} {z:Value} {S S' S2:Nat->Prop} {cs new vs xs:List Value} {α A:Type} {d:TypeDesc} {lo hi:Int} {khi:IntKind} {P:Program}
def di(h:Hd)(off:Nat):Addr:=match h.a with
 |some a=>⟨a.block,a.off+off,none⟩
 |none=>⟨0,off,none⟩
theorem zF(h:Hd)(x y:Nat)(b o:Nat)(a:di h x=⟨b,o,none⟩):di h (x+y)=⟨b,o+y,none⟩:=by unfold di at a|-;grind
section
variable {P:Program} {ρ:dm} {L:List HA} {o:Oper} {N:Nat}
def awt(w:World)(c:aS)(t:Ty)(K:List Nat)(x:t.den)(p:Addr):Prop:=∃y b off arr ty a,p=⟨b,off,none⟩/\w.heap[b]?=some (.cells arr ty a)/\off+t.sz<=arr.size /\
 (arr.toList.drop off).take t.sz=t.fill x y/\bH w (λb=>c b∈K) t x y
def El(L:List HA)(t:Ty)(K:List Nat)(v:t.den)(h:Hd)(x:Nat):Prop:=∀w c,ao w c L->awt w c t K v (di h x)
theorem Qw{ty:Ty}{xs:List ty.den}{h:Hd}{i:Int}{v:ty.den}(j:Nat)(C:L[j]?=some (.rep ty K xs h))(hs:ty.sz=sz)(F:ae xs i=some v) :
  El L ty K v h (i.toNat*sz):=λw c q=>by
 subst hs;obtain⟨ys,E,M,D,J,B⟩:=q.at C;obtain⟨H,e,k⟩:=kK F;obtain⟨y,G,l⟩:=E.get e;rcases B with⟨f,m⟩|⟨b,off,arr,tt,p,f,I,r,n,a⟩
 ·omega
 ·refine⟨y,b,off+i.toNat*ty.sz,arr,tt,p,by simp[di,f],r,?_,?_,l⟩
  ·have:(i.toNat+1)*ty.sz<=h.cap*ty.sz:=aeL _ (by omega);grind
  ·rw[<-qD ty e G,<-a,agI,agG,ahK,afn];have:(i.toNat+1)*ty.sz<=xs.length*ty.sz:=aeL _ k;grind
theorem avZ{ty:Ty}{e:TypeId}{xs:List ty.den}{h:Hd}{i:Int}{v:ty.den}(j:Nat)(G:L[j]?=some (.own ty e ci K xs h))(hs:ty.sz=sz)(M:ae xs i=some v) :
  El L ty K v h (i.toNat*sz):=λw c D=>by
 subst hs;obtain⟨ys,J,b,q⟩:=D.at G;obtain⟨Q,a,m⟩:=kK M;obtain⟨y,O,n⟩:=J.get a;have B:=b.1;rcases b.2 with⟨_,H⟩|⟨g,cap,k,tt,C,p,F,_,I,E,r,f⟩
 ·omega
 ·have l:h.a=some ⟨g,0,none⟩:=by
   grind
  refine⟨y,g,i.toNat*ty.sz,k,tt,C,by simp[di,l],F,?_,?_,n⟩
  ·have:(i.toNat+1)*ty.sz<=cap*ty.sz:=aeL _ (by omega);grind
  ·rw[<-qD ty a O,<-f,agI,ahK,afn];have:(i.toNat+1)*ty.sz<=xs.length*ty.sz:=aeL _ m;grind
theorem NP{t u:Ty}{v:t.den}{f:u.den}{h:Hd}{x fo:Nat}(a:Pth t u)(l:El L t K v h x)(C:a.get v=f)(q:a.off=fo):El L u K f h (x+fo):=λw c m=>by subst C q;obtain⟨y,b,off,arr,tt,k,r,n,p,e,B⟩:=l w c m;have hl:=a.le;refine⟨a.refs y,b,off+a.off,arr,tt,k,zF h x _ b off r,n,by omega,?_,a.rep v y B⟩;rw[<-a.cells v y,<-e,agI,agG,ahK,afn (by omega)]
theorem at6{n:Nat}{d:α}{f:α->Value}{hf:∀x,(f x).oneCell'=true}{xs:List α}{h:Hd}{x:Nat}{i:Int}(m:El L (.arr n α d f hf) K xs h x)(k:decide (0<=i/\i<n)=true) :
  El L (.one α f hf) K (xs.getD i.toNat d) h (x+i.toNat):=λw c p=>by
 obtain⟨y,b,off,arr,ty,e,C,q,B,r,D⟩:=m w c p;have v:0<=i/\i<n:=aex k;have a:i.toNat<n:=by omega
 refine⟨(),b,off+i.toNat,arr,ty,e,zF h x _ b off C,q,by grind,?_,trivial⟩;have l:((arr.toList.drop off).take n)[i.toNat]?=some (f (xs.getD i.toNat d)):=by grind[Ty.fill]
 simp only[ajr,if_pos a,afS]at l;rw[show(Ty.one α f hf).sz=1 from rfl,List.take_one];simp only[Ty.fill];simp_all
theorem axV{e:TypeId}{B:Operand}{k:IntKind}{i:Int}{ty:Ty}{xs:List ty.den}{h:Hd}{v:ty.den}(j:Nat)(G:L[j]?=some (.rep ty K xs h))(J:o.op=.indexAddr t x B)
  (M:P.underlying t=some (.slice e)) (hi:TI P e sz by_ z) (Q:aL ρ x=h.val) (n:aL ρ B=.int k i) (O:ae xs i=some v) :
  aZ P ρ o L (.pointer (some (di h (i.toNat*sz)))):=λev w c F D=>by
 subst F;have a:=hi;clear hi;obtain⟨R,hi,_,rfl,_⟩:=a.get;obtain⟨ys,Z,Y,H,W,E⟩:=D.at G;obtain⟨C,r,I⟩:=kK O;rcases E with⟨f,p⟩|⟨b,off,arr,tt,T,f,U,V,q,l⟩
 ·omega
 ·have m:0<=i/\i<(h.n:Int):=⟨C,by omega⟩
  simp[execOp,J,Q,n,Instr.indexAt,asIntOf,run_underlying M,sizeOf,typeInfo,hi,f,m,eT,Result.andThen,di]
theorem xQ{f:α->Value}{hf:∀x,(f x).oneCell'=true}{h:Hd}{v:α}(m:El L (.one α f hf) K v h X)(q:o.op=.load t x)
  (B:P.underlying t=some d) (hd:kR d=false) (C:aL ρ x=.pointer (some (di h X))):aZ P ρ o L (f v):=λev w c p k=>
 by
 obtain⟨y,b,off,arr,ty,l,r,n,e,a,D⟩:=m w c k;exact Zs (L:=.elem (.one α f hf) [c b] v (di h X)::L) 0 rfl q B hd C ev w c p (ao.cons ⟨y,b,off,arr,ty,l,r,by simp,n,e,a,trivial⟩ k)
theorem Bl{ty:Ty}{h:Hd}{xs:List ty.den}(f:El L (.slice ty) K xs h X)(p:o.op=.load t x)
  (v:P.underlying t=some d) (hd:kR d=false) (e:aL ρ x=.pointer (some (di h X))):cN P ρ o L [] Hd.val (λh=>[.rep ty K xs h]):=xz λev w c ha k=>by
 obtain⟨y,b,off,arr,tt,B,q,l,n,a,r⟩:=f w c k;rw[q]at e;have m:w.cell? ⟨b,off,none⟩=some (Hd.val y):=by rw[mT l];have:=aei (·[0]?) a;simpa[Ty.fill,ajr]using this
 exact⟨y,by simp[execOp,p,ha,e,yB v hd m],ao.cons r (ao.nil _ _)⟩
theorem fe{ty:Ty}{h:Hd}{v:ty.den}(f:El L ty K v h X)(p:o.op=.load t x)
  (B:P.underlying t=some d) (hd:kR d=true) (hi:TI P t sz by_ z) (hs:sz=ty.sz) (e:aL ρ x=.pointer (some (di h X))) :
  cN P ρ o L [] (λy:ty.Refs=>.agg (ty.fill v y).toArray) (λy=>facts ty K v y):=xz λev w c ha k=>by
 have a:=hi;clear hi;obtain⟨i,hi,_,rfl,_⟩:=a.get;obtain⟨y,b,off,arr,tt,C,q,l,n,m,r⟩:=f w c k;rw[q]at e;refine⟨y,?_,qY ty v y r⟩;simp[execOp,p,ha,e,uQ B hd hi l (off:=off) (cs:=ty.fill v y) (by grind) (by grind)]
def pY(L:List HA)(K:List Nat)(t:Ty)(v:t.den)(off:Nat)(new:List Value)(a:t.den):Prop:=∀w c,ao w c L->∀r,bH w (λb=>c b∈K) t v r ->
 ∃r',bH w (λb=>c b∈K) t a r'/\off+new.length<=t.sz/\(t.fill v r).take off++new++(t.fill v r).drop (off+new.length)=t.fill a r'/\∀u∈new,u.oneCell'=true
def bR{α:Type}(n:Nat)(d:α)(xs:List α)(i:Nat)(x:α):List α:=(List.range n).map λj=>if j=i then x else xs.getD j d
theorem aro{n:Nat}{d:α}{f:α->Value}{hf:∀x,(f x).oneCell'=true}{v:List α}{x:α}{i:Int}(a:decide (0<=i/\i<n)=true) :
  pY L K (.arr n α d f hf) v i.toNat [f x] (bR n d v i.toNat x):=λ_ _ _ _ _=>by
 have c:0<=i/\i<n:=aex a;have e:i.toNat<n:=by omega
 refine⟨(),trivial,by grind,?_,by grind⟩;apply afQ;intro j;simp only[Ty.fill,bR,aeH,afW,ahw];simp only[akU,acA,afi,afN,aks,aeH,afW];rw[afn (by omega)];by_cases b:j<i.toNat
 ·grind
 ·by_cases h:j=i.toNat
  ·grind
  ·simp only[b,show¬j<i.toNat+(0+1)by omega,aeU,afS,show i.toNat+1+(j-(i.toNat+(0+1)))=j by omega];grind
theorem aqe{a b:Ty}{v:a.den×b.den}{x:a.den}(hs:pY L K a v.1 off new x):pY L K (.pair a b) v off new (x,v.2):=λw c k r e=>by obtain⟨r',f,l,m,h⟩:=hs w c k r.1 e.1;refine⟨(r',r.2),⟨f,e.2⟩,by grind,?_,h⟩;have hl:=a.fill_length v.1 r.1;simp only[Ty.fill];grind
theorem asC{a b:Ty}{v:a.den×b.den}{e:Nat}{x:b.den}(hs:pY L K b v.2 off new x)(p:a.sz+off=e):pY L K (.pair a b) v e new (v.1,x):=λw c n r f=>by
 subst p;obtain⟨r',h,q,k,m⟩:=hs w c n r.2 f.2;refine⟨(r.1,r'),⟨f.1,h⟩,by grind,?_,m⟩;have hl:=a.fill_length v.1 r.1;simp only[Ty.fill];rw[<-k,af4,afr,aeQ (l:=a.fill v.1 r.1) (by omega),afc (as:=a.fill v.1 r.1) (by omega),show a.sz+off-(a.fill v.1 r.1).length=off by omega,
  show a.sz+off+new.length-(a.fill v.1 r.1).length=off+new.length by omega]
 simp
theorem auc{v:Nd}{n:List Value}{z:Ty.nodeT.den}(h:pY L K Ty.nodeT v.tup off n z):pY L K .node v off n (Nd.of z):=λw c b r e=>by obtain⟨r',k,l,a,f⟩:=h w c b ((),(),(),r) ⟨trivial,trivial,trivial,pL.1 e⟩;exact⟨r'.2.2.2,pL.2 k.2.2.2,l,a,f⟩
theorem Ea(t:Ty):∀{xs:List t.den} {ys:List t.Refs} {i:Nat} {x k:t.den} {y m:t.Refs} {off:Nat} {new:List Value},xs.length=ys.length->xs[i]?=some x->ys[i]?=some y ->
  off+new.length<=t.sz->(t.fill x y).take off++new++(t.fill x y).drop (off+new.length)=t.fill k m ->
  (cellsOf t xs ys).take (i*t.sz+off)++new++(cellsOf t xs ys).drop (i*t.sz+off+new.length)=cellsOf t (xs.set i k) (ys.set i m)
 |a::xs,b::ys,0,x,k,y,m,off,new,hl,c,h,n,hf=>by simp at c h;subst c h;have f:=t.fill_length a b;simp only[List.set_cons_zero,cellsOf,<-hf];grind
 | a::xs,b::ys,i+1,x,k,y,m,off,new,hl,c,h,n,hf=>by
  simp at c h;have f:=t.fill_length a b;have p:=Ea t (xs:=xs) (ys:=ys) (i:=i) (by simpa using hl) c h n hf;simp only[List.set_cons_succ,cellsOf,<-p];have e:(i+1)*t.sz=(t.fill a b).length+i*t.sz:=by grind
  rw[e,ajn,af4,afr,aeQ (l:=t.fill a b) (by omega),afc (as:=t.fill a b) (by omega),ai4,
   show(t.fill a b).length+(i*t.sz+off)+new.length-(t.fill a b).length=i*t.sz+off+new.length by omega]
  simp
 |[],_,_,_,_,_,_,_,_,_,c,_,_,_=>by simp at c
 |_::_,[],_,_,_,_,_,_,_,hl,_,_,_,_=>by simp at hl
theorem Cq(g:Nat)(t:TypeId)(b:Nat×Nat):∀(vs:List Value) (o:Nat) (a:Array Value) (w:World),w.heap[g]?=some (.cells a t b)->o+vs.length<=a.size ->
  w.setCells g o vs=w.setRow g (a.toList.take o++vs++a.toList.drop (o+vs.length)).toArray
 |[],o,a,w,c,_=>by
  have e:(a.toList.take o++[]++a.toList.drop (o+([]:List Value).length)).toArray=a:=by simp
  rw[e,setRow_self w g a t b c];rfl
 |v::r,o,a,w,c,hl=>by simp only[aeH]at hl;show(w.setCell ⟨g,o,none⟩ v).setCells g (o+1) r=_;rw[setCell_eq_setRow w g o a t b v c,Cq g t b r (o+1) _ _ (setRow_heap w g a _ t b c) (by simp;omega),setRow_setRow];congr 2;have f:=list_seg_step a.toList o v r (by simp;omega);grind
theorem my(P:Program)(g o:Nat)(t:TypeId)(b:Nat×Nat)(vs:List Value)(a:Array Value)(w:World)(f:w.heap[g]?=some (.cells a t b))(c:b=(0,0)\/a.size<=b.1)(hl:o+vs.length<=a.size)(e:∀v∈vs,v.oneCell'=true) :
  (storeCells ⟨g,o,none⟩ vs 0).run P w=.ok () (w.setRow g (a.toList.take o++vs++a.toList.drop (o+vs.length)).toArray):=by
 grind[World.cell?,World.frozen?,Bool.and_eq_false_iff,decide_eq_false_iff_not,run_storeCells_cells,Cq]
theorem Oj{e:TypeId}{ty:Ty}{xs:List ty.den}{h:Hd}{i:Int}{v v':ty.den}{G:Nat}{val:Value}(j:Nat)(hj:L[j]?=some (.own ty e ci K xs h))
  (ho:o.op=.store t x y) (hi:TI P t sz by_ z) (hx:aL ρ x=.pointer (some (di h X))) (hX:X=i.toNat*G+off) (H:G=ty.sz) (hv:ae xs i=some v) (hy:aL ρ y=val) (T:val.cells=new.toArray) (hl:Nat.beq new.length sz=true)
  (hs:pY L K ty v off new v') (hK:K.all (λk=>!(Nat.beq k ci))=true):cN P ρ o L [ci] (λ_:Unit=>undef) (λ_=>[.own ty e ci K (xs.set i.toNat v') h]):=by
 intro a ev w c next Q ha hL hn
 have E:=hi;clear hi;obtain⟨inf,hi,_,rfl,_⟩:=E.get;subst H hX;obtain⟨ys,U,q,n⟩:=hL.at hj;obtain⟨h0,p,hlt⟩:=kK hv;obtain⟨y',hy',hry⟩:=U.get p;obtain⟨r',hr',I,B,C⟩:=hs w c hL y' hry;rcases q.2 with⟨_,hn0⟩|⟨g,cap,f,tt,V,F,hg,l,hnc,Y,hcur,D⟩
 ·omega
 have hha:h.a=some ⟨g,0,none⟩:=by grind
 have J:di h (i.toNat*ty.sz+off)=⟨g,i.toNat*ty.sz+off,none⟩:=by simp[di,hha]
 have W:c g=ci:=n g (by rw[F];rfl);have hlen:=q.1;have h1:(i.toNat+1)*ty.sz<=xs.length*ty.sz:=aeL _ hlt;rw[ago,akz]at h1;have h2:xs.length*ty.sz<=cap*ty.sz:=aeL _ hnc;have hst:=my P g (i.toNat*ty.sz+off) tt V new f w hg (l.imp (λh=>h.2) (λh=>h.2)) (by omega) C;have O:(execOp ev o).run P w=.ok .skip (w.setRow g (f.toList.take (i.toNat*ty.sz+off)++new++f.toList.drop (i.toNat*ty.sz+off+new.length)).toArray):=by simp[execOp,ho,ha,hx,J,hy,Instr.storeAt,Instr.sureAddr,storeVar,T,sizeOf,typeInfo,hi,f9 hl,hst,Result.andThen]
 rw[O];have M:=setRow_heap w g f (f.toList.take (i.toNat*ty.sz+off)++new++f.toList.drop (i.toNat*ty.sz+off+new.length)).toArray tt V hg;have r:=sB (w:=w) (c:=c) (b:=g) (i:=ci) (cs:=(f.toList.take (i.toNat*ty.sz+off)++new++f.toList.drop (i.toNat*ty.sz+off+new.length)).toArray) W;have hno:∀k∈K,k∉[ci]:=λk hk hm=>by have:=acr.1 hK k hk;simp_all
 have R:=(U.set i.toNat hr').mono (bH.keep (r.keeps hno) ty);have hcl:=cO ty U.length;have Z:=Ea ty U.length p hy' I B;refine hn () _ c r (ao.cons ⟨ys.set i.toNat r',R,⟨by grind,.inr ⟨g,cap,_,tt,V,by grind,M,l.imp id (λh=>⟨h.1,?_⟩),by grind,Y,?_,?_⟩⟩,n⟩ (ao.nil _ _))
 ·grind
 ·grind
 ·have hcl2:f.toList.length=cap*ty.sz:=by grind
  rw[afa,<-Z,<-D];apply afQ;intro m;simp only[akU,ajr,afS,afi,acA,agk];rw[afn (show i.toNat*ty.sz+off<=f.toList.length by omega),afn (show xs.length*ty.sz<=f.toList.length by omega),afn (show i.toNat*ty.sz+off<=xs.length*ty.sz by omega)];grind
theorem nQ{k:IntKind}{i:Int}{y:Nat}{code:BoundsCode}(a:0<=i)(b:i<=y):(Instr.sliceBound (.int k i) y code).run P w=.ok i.toNat w:=by simp[Instr.sliceBound,asIntOf,a,b,Result.andThen]
def Hd.cut(h:Hd)(lo hi sz:Nat):Hd:=⟨if h.cap=lo then h.a else h.a.map (·.add (lo*sz)),hi-lo,h.cap-lo⟩
theorem Ad{e:TypeId}{lo hi:Option Operand}{klo:IntKind}{i j:Int}{ty:Ty}{xs:List ty.den}{h:Hd}(k:Nat)(Z:L[k]?=some (.rep ty K xs h))(ho:o.op=.slice t x lo hi none)
  (O:P.underlying t=some (.slice e)) (v:TI P e sz by_ z) (hs:sz=ty.sz) (hx:aL ρ x=h.val) (f:lo.elim (i=0) (λq=>aL ρ q=.int klo i)) (p:hi.elim (j=xs.length) (λq=>aL ρ q=.int khi j))
  (U:decide (0<=i/\i<=j/\j<=xs.length)=true) :
  cN P ρ o L [] (λ_:Unit=>(h.cut i.toNat j.toNat sz).val) (λ_=>[.rep ty K ((xs.take j.toNat).drop i.toNat) (h.cut i.toNat j.toNat sz)]):=xz λev w c W T=>by
 have m:=v;clear v;obtain⟨B,D,_,rfl,_⟩:=m.get;obtain⟨h0,Y,hj⟩:=aex U;obtain⟨ys,M,J,hle,hm,V⟩:=T.at Z;refine⟨(),?_,ao.cons ⟨(ys.take j.toNat).drop i.toNat,(M.take _).drop _,?_⟩ (ao.nil _ _)⟩
 ·have R:(Instr.sliceBounds true h.n h.cap (lo.map (aL ρ)) (hi.map (aL ρ)) none).run P w=.ok (i.toNat,j.toNat,h.cap) w:=by
   have Q:∀q,hi=some q->(Instr.sliceBound (aL ρ q) h.cap .sliceAcap).run P w=.ok j.toNat w:=λq hq=>by grind[nQ]
   have E:∀q,lo=some q->(Instr.sliceBound (aL ρ q) j.toNat .sliceB).run P w=.ok i.toNat w:=λq hq=>by grind[nQ]
   cases hi with
   |none=>
    simp at p;subst p;cases lo with
    |none=>simp at f;subst f;simp[Instr.sliceBounds,J]
    |some q=>have:=E q rfl;simp only[ac6]at this;simp[Instr.sliceBounds,J,this,Result.andThen]
   |some q' =>
    have G:=Q q' rfl;cases lo with
    |none=>simp at f;subst f;simp[Instr.sliceBounds,G,Result.andThen]
    |some q=>simp[Instr.sliceBounds,G,E q rfl,Result.andThen]
  have:(Instr.slice t h.val (lo.map (aL ρ)) (hi.map (aL ρ)) none).run P w=.ok (h.cut i.toNat j.toNat B.size).val w:=by simp[Instr.slice,run_underlying O,R,sizeOf,typeInfo,D,Hd.cut,Result.andThen]
  simp[execOp,ho,W,hx,Instr.sliceAt,run_underlying O,this,Result.andThen]
 ·refine⟨by simp[Hd.cut];omega,by simp[Hd.cut];omega,by simp[Hd.cut];omega,?_⟩;rcases V with⟨l,a⟩|⟨b,off,arr,tt,F,l,H,n,I,C⟩
  ·exact .inl ⟨trivial,by simp[Hd.cut,a]⟩
  ·right;by_cases a:h.cap=i.toNat
   ·refine⟨b,off,arr,tt,F,by simp[Hd.cut,a,l],H,n,by simp[Hd.cut,a];omega,?_⟩;have r:j.toNat=i.toNat:=by omega
    have e:(xs.take j.toNat).drop i.toNat=[]:=by rw[r];simp
    have e':(ys.take j.toNat).drop i.toNat=[]:=by rw[r];simp
    rw[e,e'];simp[cellsOf]
   ·have hm2:h.cap*ty.sz=i.toNat*ty.sz+(h.cap-i.toNat)*ty.sz:=by rw[<-ago];congr 1;omega
    refine⟨b,off+i.toNat*B.size,arr,tt,F,by simp[Hd.cut,a,l,eT],H,n,?_,?_⟩
    ·simp only[Hd.cut];rw[hs];omega
    ·have hl:=M.length;grind[Nat.mul_le_mul_right,rQ,jl,List.drop_take,List.drop_drop,Nat.min_eq_left,Nat.sub_mul]
end
abbrev ly(k:IntKind)(a b:Int):Int:=k.wrap (a*2 ^ (min b.toNat k.bits))
abbrev dD(k:IntKind)(a b:Int):Int:=a.fdiv (2 ^ (min b.toNat k.bits))
def bc(op:BinOp)(k:IntKind)(x y:Int):Int:=match op with
 |.and=>k.wrap (BitVec.ofInt k.bits x &&& BitVec.ofInt k.bits y).toNat
 |.or=>k.wrap (BitVec.ofInt k.bits x ||| BitVec.ofInt k.bits y).toNat
 |.xor=>k.wrap (BitVec.ofInt k.bits x ^^^ BitVec.ofInt k.bits y).toNat
 |.andNot=>k.wrap (BitVec.ofInt k.bits x &&& ~~~(BitVec.ofInt k.bits y)).toNat
 |_=>0
section
variable {P:Program} {ρ:dm} {L:List HA} {o:Oper} {N:Nat}
theorem aw3{k m:IntKind}{a b:Int}(f:o.op=.binOp .shl t x y t')(h:aL ρ x=.int k a)(l:aL ρ y=.int m b)(n:decide (0<=b)=true) :
  aZ P ρ o L (.int k (ly k a b)):=λev w c e _=>by
 have:¬b<0:=by grind
 subst e;simp[execOp,f,h,l,cL,binOp,Op.shift,this,Result.andThen]
theorem axR{op:BinOp}{k:IntKind}{a b:Int}(h:o.op=.binOp op t x y t')(e:op=.and\/op=.or\/op=.xor\/op=.andNot)(l:aL ρ x=.int k a)(m:aL ρ y=.int k b) :
  aZ P ρ o L (.int k (bc op k a b)):=λev w c f _=>by
 subst f;rcases e with rfl|rfl|rfl|rfl<;>simp[execOp,h,l,m,cL,binOp,Op.intBits,bc,Result.andThen]
theorem axO{k m:IntKind}{a b:Int}(f:o.op=.binOp .shr t x y t')(h:aL ρ x=.int k a)(l:aL ρ y=.int m b)(n:decide (0<=b)=true) :
  aZ P ρ o L (.int k (dD k a b)):=λev w c e _=>by
 have:¬b<0:=by grind
 subst e;simp[execOp,f,h,l,cL,binOp,Op.shift,this,Result.andThen]
theorem SZ{k:IntKind}{s:List UInt8}{i:Int}{b:UInt8}(m:o.op=.index t x y)(n:P.underlying t=some .string)(q:aL ρ x=.string ⟨s.toArray⟩)(r:aL ρ y=.int k i)(p:ae s i=some b) :
  aZ P ρ o L (.int .u8 (b.toNat:Int)):=λev w c f _=>by
 subst f;obtain⟨v,h,a⟩:=kK p;have C:(⟨s.toArray⟩:ByteArray)[i.toNat]?=some b:=by
  have e:i.toNat<(⟨s.toArray⟩:ByteArray).size:=by simpa[ByteArray.size]using a
  rw[getElem?_pos (⟨s.toArray⟩:ByteArray) i.toNat e];have B:=(aeI.1 h).2;show some (s.toArray[i.toNat]'(by grind))=some b;grind
 have l:(if 0<=i then(⟨s.toArray⟩:ByteArray)[i.toNat]? else none)=some b:=by grind
 simp only[execOp,m,q,r,Instr.index,asIntOf,Sem.run_bind,Sem.run_pure,Result.andThen_ok,run_underlying n];rw[l];rfl
theorem Tc{e:TypeId}{k:IntKind}{n:Nat}{m:α}{f:α->Value}{hf:∀x,(f x).oneCell'=true}{v:List α}{i:Int}(r:o.op=.index t x y)(B:P.underlying t=some (.array n e))
  (q:P.underlying e=some d) (hd:kR d=false) (hi:TI P e 1 by_ z) (C:aL ρ x=.agg ((Ty.arr n α m f hf).fill v ()).toArray) (D:aL ρ y=.int k i) (p:decide (0<=i/\i<n)=true):aZ P ρ o L (f (v.getD i.toNat m)):=λev w c b _=>by
 subst b;have a:=hi;clear hi;obtain⟨E,hi,_,hs,_⟩:=a.get;have h:0<=i/\i<n:=aex p;have l:i.toNat<n:=by omega
 simp[execOp,r,C,D,Instr.index,asIntOf,run_underlying B,h,sizeOf,typeInfo,hi,hs,part,l7 q hd,Ty.fill,l,Result.andThen]
theorem W2{a b:Bool}(l:o.op=.binOp .eql t x y t')(f:P.underlying t=some .bool)(m:aL ρ x=.bool a)(n:aL ρ y=.bool b):aZ P ρ o L (.bool (a==b)):=λev w c e _=>by
 subst e;have k:(eqGuard .eql t x y (.bool a) (.bool b)).run P w=.ok () w:=rfl;have h:(binOp .eql t (.bool a) (.bool b)).run P w=.ok (.bool (a==b)) w:=by simp only[binOp];simp[run_equal_bool w t a b f]
 grind[execOp,Sem.run_bind,Result.andThen_ok,Sem.run_pure]
theorem YX{a b:Bool}(l:o.op=.binOp .neq t x y t')(f:P.underlying t=some .bool)(m:aL ρ x=.bool a)(n:aL ρ y=.bool b):aZ P ρ o L (.bool (a != b)):=λev w c e _=>by
 subst e;have k:(eqGuard .neq t x y (.bool a) (.bool b)).run P w=.ok () w:=rfl;have h:(binOp .neq t (.bool a) (.bool b)).run P w=.ok (.bool (a != b)) w:=by simp only[binOp];simp[run_equal_bool w t a b f,bne]
 grind[execOp,Sem.run_bind,Result.andThen_ok,Sem.run_pure]
def Hd.isNil(h:Hd):Bool:=h.a.isNone
theorem T7{e:TypeId}{h:Hd}(f:o.op=.binOp .eql t x y t')(k:P.underlying t=some (.slice e))(l:aL ρ x=h.val)(m:aL ρ y=.slice none 0 0):aZ P ρ o L (.bool h.isNil):=λev w c a _=>by subst a;have b:(eqGuard .eql t x y h.val (.slice none 0 0)).run P w=.ok () w:=rfl;simp[execOp,f,l,m,b,Lib.run_eql_slice_nil w t e h.a h.n h.cap 0 0 k,Hd.isNil,Result.andThen]
theorem Sh{e:TypeId}{h:Hd}(f:o.op=.binOp .neq t x y t')(k:P.underlying t=some (.slice e))(l:aL ρ x=h.val)(m:aL ρ y=.slice none 0 0):aZ P ρ o L (.bool (!h.isNil)):=λev w c a _=>by subst a;have b:(eqGuard .neq t x y h.val (.slice none 0 0)).run P w=.ok () w:=rfl;simp[execOp,f,l,m,b,run_neq_slice_nil_any w t e h.a h.n h.cap 0 0 k,Hd.isNil,Result.andThen]
theorem AC(ty:Ty)(x:ty.den)(y:ty.Refs):∀n:Nat,cellsOf ty (List.replicate n x) (List.replicate n y)=(madeCells (ty.fill x y).toArray (n*ty.sz)).toList
 |0=>by simp[cellsOf,madeCells]
 |n+1=>by
  have b:=AC ty x y n;have hl:=ty.fill_length x y;rw[ajN,ajN,eF ty (by simp),b];simp only[madeCells,Array.toList_map,Array.toList_range,cellsOf,ad0];rw[show(n+1)*ty.sz=n*ty.sz+ty.sz by grind,List.range_add,afo];congr 1;apply afQ;intro j;simp only[ag1,afX,ahF];by_cases a:j<ty.sz
  ·simp[a,hl,Nat.mod_eq_of_lt a]
  grind
theorem vF{α β:Type}{R:α->β->Prop}{x:α}{y:β}(h:R x y):∀n:Nat,cf R (List.replicate n x) (List.replicate n y)
 |0=>trivial
 |n+1=>by rw[ag5,ag5];exact⟨h,vF h n⟩
theorem BD{e:TypeId}{B q:IntKind}{l:Int}{ty:Ty}{v:ty.den}{r:ty.Refs}(O:o.op=.makeSlice t x y)(T:P.underlying t=some (.slice e))(hi:TI P e sz by_ z)(hs:sz=ty.sz)
  (W:z.cells=(ty.fill v r).toArray) (hf:pU L (facts ty K v r)) (U:aL ρ x=.int B l) (V:aL ρ y=.int q l) (F:decide (0<=l/\l*by_<=281474976710656/\l<=maxLen)=true) (E:Nat.ble 2 N=true) :
  cN P ρ o L [] Hd.val (λh=>[.own ty e N K (List.replicate l.toNat v) h]):=by
 intro a ev w c next Q ha D J
 have f:=hi;clear hi;obtain⟨b,hi,p,rfl,rfl⟩:=f.get;obtain⟨C,G,m⟩:=aex F;have M:=run_make (P:=P) w t e b z T hi p B q l l C (af3 _) (by grind) (by simp[maxLen]at m;omega);have n:(execOp ev o).run P w=.ok (.value (.slice (some ⟨w.heap.size,0,none⟩) l.toNat l.toNat)) (w.alloc (.cells (madeCells z.cells (l.toNat*b.size)) e)):=by simp[execOp,O,ha,U,V,M,Result.andThen]
 rw[n];have k:=tR (w:=w) (c:=c) E (.cells (madeCells z.cells (l.toNat*b.size)) e);have H:cellsOf ty (List.replicate l.toNat v) (List.replicate l.toNat r)=(madeCells z.cells (l.toNat*b.size)).toList:=by rw[AC,W,hs]
 have R:=bH.keep (k.keeps (K:=K) (by simp)) ty v r (z9 ty v r (hf.heap D));refine J ⟨some ⟨w.heap.size,0,none⟩,l.toNat,l.toNat⟩ _ _ k (ao.cons ⟨List.replicate l.toNat r,?_,⟨?_,.inr ⟨w.heap.size,l.toNat,madeCells z.cells (l.toNat*b.size),e,(0,0),by simp,heap_alloc_new w _,.inl ⟨rfl,rfl⟩,by simp,by omega,?_,?_⟩⟩,λg I=>?_⟩ (ao.nil _ _))
 ·exact vF R l.toNat
 ·rw[H];simp[size_madeCells,hs]
 ·rw[size_madeCells,hs]
 ·grind[List.take_of_length_le,size_madeCells]
 ·simp[Value.ownBlock]at I;grind
theorem RP{e:TypeId}{j:Int}{ty:Ty}{xs:List ty.den}{h:Hd}(k:Nat)(C:L[k]?=some (.own ty e' ci K xs h))(H:o.op=.slice t x none (some y) none)
  (I:P.underlying t=some (.slice e)) (v:TI P e sz by_ z) (hs:sz=ty.sz) (J:aL ρ x=h.val) (r:aL ρ y=.int khi j) (F:decide (0<=j/\j<=xs.length)=true) :
  cN P ρ o L [] (λ_:Unit=>(h.cut 0 j.toNat sz).val) (λ_=>[.own ty e' ci K (xs.take j.toNat) (h.cut 0 j.toNat sz)]):=λa ev w c next Q ha q G=>by
 obtain⟨O,Z⟩:=aex F;refine Ad (L:=.rep ty (ci::K) xs h::L) (i:=0) (klo:=.i64) 0 rfl H I v hs J rfl r (by grind) a ev w c next Q ha (ao.cons (Dt (q.at C)) q) λy w' c' m _=>G () w' c' m ?_
 refine ao.cons ?_ (ao.nil _ _);obtain⟨ys,D,b,f⟩:(HA.own ty e' ci K xs h).holds w' c':=ao.at (q.stp0 m) C;have l:=D.length;refine⟨ys.take j.toNat,D.take _,?_,λg Y=>?_⟩
 ·refine⟨by rw[cO ty (by simp[l])],?_⟩;rcases b.2 with⟨p,B⟩|⟨g,cap,n,tt,E,p,R,B,T,U,V,W⟩
  ·grind[Hd.cut]
  grind[Hd.cut,Value.slice.injEq,eT,jl,List.length_take,Nat.min_eq_left,Nat.mul_le_mul_right]
 ·refine f g ?_;rcases b.2 with⟨p,B⟩|⟨M,cap,n,tt,E,p,_⟩
  ·grind[Hd.cut,Value.ownBlock]
  grind[Value.ownBlock,Hd.cut,Value.slice.injEq,Option.some.injEq,eT]
def lm(v u:Hd)(sz:Nat)(lo hi:Int):Prop:=0<=lo/\(v.n:Int)=hi-lo/\(lo<hi->∃b o,v.a=some ⟨b,o,none⟩/\di u (lo.toNat*sz)=⟨b,o,none⟩)
theorem Dl{e:TypeId}{q:Operand}{k:IntKind}{i:Int}{v u:Hd}(F:∀w c,ao w c L->lm v u sz lo hi)(E:o.op=.indexAddr t x q)
  (G:P.underlying t=some (.slice e)) (a:TI P e sz by_ z) (I:aL ρ x=v.val) (m:aL ρ q=.int k i) (C:decide (0<=i/\i<hi-lo)=true) :
  aZ P ρ o L (.pointer (some (di u ((lo+i).toNat*sz)))):=λev w c D B=>by
 subst D;have f:=a;clear a;obtain⟨h,a,_,rfl,_⟩:=f.get;obtain⟨M,O,n⟩:=F w c B;obtain⟨b0,J⟩:=aex C;obtain⟨b,p,ha,H⟩:=n (by omega);have l:0<=i/\i<(v.n:Int):=⟨b0,by omega⟩
 have r:(lo+i).toNat*h.size=lo.toNat*h.size+i.toNat*h.size:=by rw[<-ago];congr 1;omega
 rw[r,zF u _ _ b p H];simp[execOp,E,I,m,Instr.indexAt,asIntOf,run_underlying G,sizeOf,typeInfo,a,ha,l,eT,Result.andThen]
theorem ahU{a b:α}(h:some a=some b):a=b:=by cases h;rfl
end
def li(π:List Nat)(σ:List Nat):Prop:=∃l,σ=l++π
theorem eQ(π:List Nat):li π π:=⟨[],rfl⟩
theorem Eu(h:li π σ):li π (j::σ):=by obtain⟨l,rfl⟩:=h;exact⟨j::l,rfl⟩
theorem QE{k:Nat}(a:li (j::π) σ)(b:li (k::π) σ):j=k:=by
 obtain⟨l,rfl⟩:=a;obtain⟨m,c⟩:=b;have e:(l++[j])++π=(m++[k])++π:=by simpa using c
 have f:=List.append_cancel_right e;simp_all
theorem uU(h:li (j::π) σ):σ≠π:=by obtain⟨l,rfl⟩:=h;intro e;have:=aei List.length e;grind
theorem bD.ren{w:World}{S S':Nat->Prop}{d d':Nat->List Nat}{f:List Nat->List Nat}{π0:List Nat}(hf:∀σ k,li π0 σ->f (k::σ)=k::f σ)
  (n:∀b,S b->li π0 (d b)->S' b/\d' b=f (d b)):(t:Ty)->(p:EI)->(π:List Nat)->(x:t.den)->(y:t.Refs)->li π0 π->bD w S d t p π x y->bD w S' d' t p (f π) x y
 |.one _ _ _,_,_,_,_,_,_=>trivial
 |.arr _ _ _ _ _,_,_,_,_,_,_=>trivial
 |.unit,_,_,_,_,_,_=>trivial
 |.pair a b,p,π,x,y,c,h=>by have l:=bD.ren hf n a _ (0::π) _ _ (Eu c) h.1;have m:=bD.ren hf n b _ (1::π) _ _ (Eu c) h.2;rw[hf π 0 c]at l;rw[hf π 1 c]at m;exact⟨l,m⟩
 | .slice t,p,π,xs,h,c,r=>by
  rcases r with r|⟨e,s,J,ys,l,m,I⟩
  ·exact .inl r
  ·refine .inr ⟨e,s,J,ys,l,?_,λj x y M O=>?_⟩
   ·obtain⟨g,cap,q,v,B,C,D,E,F,G,H⟩:=m;obtain⟨Q,R⟩:=n g G (by grind);exact⟨g,cap,q,v,B,C,D,E,F,Q,by rw[R,H]⟩
   ·have:=bD.ren hf n t s (j::π) x y (Eu c) (I j x y M O);grind
theorem bD.re{d d':Nat->List Nat}{π0:List Nat}(c:∀b,S b->li π0 (d b)->S' b/\d' b=d b){t:Ty}{a:EI}{x:t.den}{y:t.Refs}(e:li π0 π)(h:bD w S d t a π x y):bD w S' d' t a π x y:=
 bD.ren (f:=id) (λ_ _ _=>rfl) c t a π x y e h
theorem jb.of(h:∀b,S b->S' b):jb w w S S':=λb _ a=>⟨h b a,rfl⟩
def jB(w:World)(S:Nat->Prop)(t:Ty)(s:EI)(xs:List t.den)(ys:List t.Refs):Prop:=∃d:Nat->List Nat,∀(j:Nat) (x:t.den) (y:t.Refs),xs[j]?=some x->ys[j]?=some y->bD w S d t s [j] x y
def Ak(w:World)(S:Nat->Prop)(t:Ty)(s:EI)(xs:List t.den)(ys:List t.Refs)(k:Nat):Prop:=∃d:Nat->List Nat,∀(j:Nat) (x:t.den) (y:t.Refs),j≠k->xs[j]?=some x->ys[j]?=some y->bD w S d t s [j] x y
section
variable {w w':World} {S S' S1 S2:Nat->Prop} {t:Ty} {s:EI} {xs xs':List t.den} {ys ys':List t.Refs}
theorem jB.keep(a:jb w w' S S')(h:jB w S t s xs ys):jB w' S' t s xs ys:=h.imp λ_ h j x y b c=>bD.keep a t s [j] x y (h j x y b c)
theorem Ak.keep{k:Nat}(b:jb w w' S S')(h:Ak w S t s xs ys k):Ak w' S' t s xs ys k:=h.imp λ_ h j x y a c e=>bD.keep b t s [j] x y (h j x y a c e)
theorem jB.nil:jB w S t s [] ys:=⟨λ_=>[],λj x y a=>by simp at a⟩
theorem jB.take(n:Nat)(h:jB w S t s xs ys):jB w S t s (xs.take n) (ys.take n):=h.imp λ_ h j x y a b=>h j x y (by
  grind) (by
  grind)
theorem jB.one{x:t.den}{y:t.Refs}(h:cJ w S t s x y):jB w S t s [x] [y]:=by
 obtain⟨d,h⟩:=h;refine⟨λb=>d b++[0],λj k l a c=>?_⟩;cases j with
 |zero=>
  simp at a c;subst a c;exact bD.ren (f:=λσ=>σ++[0]) (π0:=[]) (λ_ _ _=>rfl) (λb e _=>⟨e,rfl⟩) t s [] x y ⟨[],rfl⟩ h
 |succ j=>simp at a
def xk(n:Nat):List Nat->List Nat
 |[]=>[]
 |[j]=>[n+j]
 |k::a::r=>k::xk n (a::r)
theorem Tq{n k:Nat}(h:li [j] σ):xk n (k::σ)=k::xk n σ:=by
 cases σ with
 |nil=>obtain⟨l,hl⟩:=h;simp at hl
 |cons a r=>rfl
open Classical in
theorem jB.append(hl:ys.length=xs.length)(hd:∀b,S1 b->¬S2 b)(n:∀b,S1 b->S b)(p:∀b,S2 b->S b)(ha:jB w S1 t s xs ys)(a:jB w S2 t s xs' ys'):jB w S t s (xs++xs') (ys++ys'):=by
 obtain⟨l,ha⟩:=ha;obtain⟨m,a⟩:=a;refine⟨λb=>if S1 b then l b else xk xs.length (m b),λj x y c e=>?_⟩;by_cases q:j<xs.length
 ·rw[aho q]at c;rw[aho (by omega)]at e;exact bD.re (π0:=[j]) (λb a _=>⟨n b a,by simp[a]⟩) (eQ _) (ha j x y c e)
 ·rw[afT (by omega)]at c;rw[afT (by omega),hl]at e;have:=bD.ren (f:=xk xs.length) (π0:=[j-xs.length]) (S':=S) (d':=λb=>if S1 b then l b else xk xs.length (m b)) (λσ k r=>Tq r) (λb a _=>⟨p b a,by
   have:¬S1 b:=λh=>hd b h a;simp[this]⟩) t s _ x y (eQ _) (a _ x y c e)
  simp only[xk]at this;rwa [show xs.length+(j-xs.length)=j by omega]at this
theorem B9{k:Nat}(h:li [j] σ):(k::σ).dropLast=k::σ.dropLast:=by
 cases σ with
 |nil=>obtain⟨l,hl⟩:=h;simp at hl
 |cons a r=>rfl
theorem jB.pick{k:Nat}{x:t.den}{y:t.Refs}(q:xs[k]?=some x)(r:ys[k]?=some y)(h:jB w S t s xs ys) :
  ∃e:Nat->Prop,(∀b,e b->S b)/\cJ w e t s x y/\Ak w (λb=>S b/\¬e b) t s xs ys k:=by
 obtain⟨d,h⟩:=h;refine⟨λb=>S b/\li [k] (d b),λb a=>a.1,⟨λb=>(d b).dropLast,?_⟩,d,λj v B p l m => ?_⟩
 ·have:=bD.ren (f:=List.dropLast) (π0:=[k]) (S':=λb=>S b/\li [k] (d b)) (d':=λb=>(d b).dropLast) (λσ _ c=>B9 c) (λb a c=>⟨⟨a,c⟩,rfl⟩) t s [k] x y (eQ _) (h k x y q r);exact this
 ·exact bD.re (π0:=[j]) (λb a c=>⟨⟨a,λn=>p (QE c n.2)⟩,rfl⟩) (eQ _) (h j v B l m)
open Classical in
theorem Ak.put{k:Nat}{x:t.den}{y:t.Refs}(C:k<xs.length)(hl:ys.length=xs.length)(hd:∀b,S1 b->¬S2 b)(q:∀b,S1 b->S b)(r:∀b,S2 b->S b)(h:Ak w S1 t s xs ys k)(l:cJ w S2 t s x y):jB w S t s (xs.set k x) (ys.set k y):=by
 obtain⟨n,h⟩:=h;obtain⟨p,l⟩:=l;refine⟨λb=>if S1 b then n b else p b++[k],λj v B a c => ?_⟩;by_cases m:j=k
 ·subst m;rw[afF (by omega)]at a c;cases a;cases c;refine bD.ren (f:=λσ=>σ++[j]) (π0:=[]) (λ_ _ _=>rfl) (λb e _=>⟨r b e,?_⟩) t s [] x y ⟨[],rfl⟩ l;have:¬S1 b:=λh=>hd b h e;simp[this]
 ·rw[agN (by omega)]at a c;exact bD.re (π0:=[j]) (λb e _=>⟨q b e,by simp[e]⟩) (eQ _) (h j v B m a c)
end
def CP(w:World)(e:TypeId)(sz:Nat)(v:Hd)(n:Nat)(cells:List Value)(g:Nat):Prop:=
 ∃(cap:Nat) (a:Array Value),v=⟨some ⟨g,0,none⟩,n,cap⟩/\w.heap[g]?=some (.cells a e (0,0))/\n<=cap/\cap<=maxLen/\a.size=cap*sz/\a.toList.take (n*sz)=cells
theorem cJ.split{t:Ty}{e:TypeId}{s:EI}{xs:List t.den}{v:Hd}(h:cJ w S (.slice t) (.row e s) xs v):(v=⟨none,0,0⟩/\xs=[])\/∃ys g,ys.length=xs.length/\CP w e t.sz v xs.length (cellsOf t xs ys) g/\S g /\
  jB w (λb=>S b/\b≠g) t s xs ys:=by
 obtain⟨d,h⟩:=h;rcases h with h|⟨e',H,E,ys,B,⟨g,cap,a,f,k,l,m,n,p,q,r⟩,C⟩
 ·exact .inl h
 ·cases E;refine .inr ⟨ys,g,B,⟨cap,a,f,k,l,m,n,p⟩,q,d,λj x y F G=>?_⟩;refine bD.re (π0:=[j]) (λb D c=>⟨⟨D,λe=>?_⟩,rfl⟩) (eQ _) (C j x y F G);subst e;rw[r]at c;exact uU c rfl
open Classical in
theorem cJ.join{t:Ty}{e:TypeId}{s:EI}{xs:List t.den}{ys:List t.Refs}{v:Hd}(hl:ys.length=xs.length)(C:CP w e t.sz v xs.length (cellsOf t xs ys) g)(r:S g)(q:∀b,S2 b->S b)(B:¬S2 g)(c:jB w S2 t s xs ys) :
  cJ w S (.slice t) (.row e s) xs v:=by
 obtain⟨cap,a,h,k,l,m,n,p⟩:=C;obtain⟨d,c⟩:=c;refine⟨λb=>if S2 b then d b else [],.inr ⟨e,s,rfl,ys,hl,⟨g,cap,a,h,k,l,m,n,p,r,by simp[B]⟩,λj x y D E=>?_⟩⟩;exact bD.re (π0:=[j]) (λb f _=>⟨q b f,by simp[f]⟩) (eQ _) (c j x y D E)
open Classical in
theorem Hol.join{t:Ty}{e:TypeId}{s:EI}{xs:List t.den}{ys:List t.Refs}{v:Hd}{k:Nat}(C:gq e=.row e0 s)(hl:ys.length=xs.length)(F:k<xs.length)(f:cs.length=t.sz)(H:CP w e0 t.sz v xs.length (fI t xs ys k cs) g)(D:S g)(B:∀b,S2 b->S b)
  (G:¬S2 g) (c:Ak w S2 t s xs ys k):ka w S t e xs v k cs:=by
 obtain⟨cap,a,l,m,n,p,q,r⟩:=H;obtain⟨d,c⟩:=c;refine⟨λb=>if S2 b then d b else [],e0,s,ys,C,hl,F,f,⟨g,cap,a,l,m,n,p,q,r,D,by simp[G]⟩,λj x y E I J=>?_⟩;exact bD.re (π0:=[j]) (λb h _=>⟨B b h,by simp[h]⟩) (eQ _) (c j x y E I J)
theorem ka.split{t:Ty}{e:TypeId}{xs:List t.den}{v:Hd}{k:Nat}(h:ka w S t e xs v k cs):∃ys g e0 s,gq e=.row e0 s/\ys.length=xs.length/\k<xs.length/\cs.length=t.sz /\
  CP w e0 t.sz v xs.length (fI t xs ys k cs) g/\S g/\Ak w (λb=>S b/\b≠g) t s xs ys k:=by
 obtain⟨d,e0,s,ys,F,hl,H,c,⟨g,cap,a,l,m,n,p,q,r,B,C⟩,D⟩:=h;refine⟨ys,g,e0,s,F,hl,H,c,⟨cap,a,l,m,n,p,q,r⟩,B,d,λj x y G I J=>?_⟩;refine bD.re (π0:=[j]) (λb E f=>⟨⟨E,λe=>?_⟩,rfl⟩) (eQ _) (D j x y G I J);subst e;rw[C]at f;exact uU f rfl
theorem uE{t:Ty}{xs:List t.den}{ys:List t.Refs}{k:Nat}{x:t.den}{y:t.Refs}(hl:ys.length=xs.length)(a:xs[k]?=some x)(b:ys[k]?=some y):fI t xs ys k (t.fill x y)=cellsOf t xs ys:=by grind[fI,cellsOf,List.getElem?_eq_some_iff,List.getElem_cons_drop,List.take_append_drop,eF]
theorem uy{t:Ty}{xs:List t.den}{ys:List t.Refs}{k:Nat}{x:t.den}{y:t.Refs}(hl:ys.length=xs.length)(a:k<xs.length):cellsOf t (xs.set k x) (ys.set k y)=fI t xs ys k (t.fill x y):=by rw[<-uE (k:=k) (x:=x) (y:=y) (by simpa using hl) (by grind) (by grind)];grind[fI,List.take_set_of_le,List.drop_set_of_lt]
theorem cJ.open{t:Ty}{e:TypeId}{s:EI}{xs:List t.den}{v:Hd}{k:Nat}{x:t.den}(m:gq e=.row e0 s)(c:xs[k]?=some x)(h:cJ w S (.slice t) (gq e) xs v) :
  ∃(y:t.Refs) (S2:Nat->Prop),(∀b,S2 b->S b)/\ka w (λb=>S b/\¬S2 b) t e xs v k (t.fill x y)/\cJ w S2 t s x y:=by
 have n:k<xs.length:=(aeI.1 c).1;rw[m]at h;rcases h.split with⟨_,rfl⟩|⟨ys,g,hl,p,D,C⟩
 ·simp at n
 ·obtain⟨y,q⟩:∃y,ys[k]?=some y:=⟨ys[k]'(by omega),acz _⟩
  obtain⟨f,l,r,B⟩:=C.pick c q;refine⟨y,f,λb a=>(l b a).1,?_,r⟩;rw[<-uE hl c q]at p;exact Hol.join m hl n (t.fill_length x y) p ⟨D,λa=>(l g a).2 rfl⟩ (S2:=λb=>(S b/\b≠g)/\¬f b) (λb a=>⟨a.1.1,a.2⟩) (λa=>a.1.2 rfl) B
theorem ka.close{S1:Nat->Prop}{t:Ty}{e:TypeId}{s:EI}{xs:List t.den}{v:Hd}{k:Nat}{x:t.den}{y:t.Refs}(q:gq e=.row e0 s)(hd:∀b,S1 b->¬S2 b)(f:∀b,S1 b->S b)(n:∀b,S2 b->S b)
  (h:ka w S1 t e xs v k (t.fill x y)) (D:cJ w S2 t s x y):cJ w S (.slice t) (gq e) (xs.set k x) v:=by
 obtain⟨ys,g,m,E,a,hl,r,p,B,l,C⟩:=h.split;rw[q]at a|-;cases a;rw[<-uy hl r]at B;refine cJ.join (ys:=ys.set k y) (S2:=λb=>(S1 b/\b≠g)\/S2 b) (by simpa using hl) (by grind) (f g l) (λb c=>c.elim (λh=>f b h.1) (n b)) (λc=>c.elim (λh=>h.2 rfl) (hd g l)) ?_;grind[Ak.put]
theorem cJ.fst{a b:Ty}{k:EI}{x:a.den×b.den}{y:a.Refs×b.Refs}(h:cJ w S (.pair a b) k x y):∃Sa:Nat->Prop,(∀g,Sa g->S g)/\cJ w Sa a k.fst x.1 y.1/\cJ w (λg=>S g/\¬Sa g) b k.snd x.2 y.2:=by
 obtain⟨d,l,m⟩:=h;refine⟨λg=>S g/\li [0] (d g),λg h=>h.1,⟨λg=>(d g).dropLast,?_⟩,⟨λg=>(d g).dropLast,?_⟩⟩
 ·exact bD.ren (f:=List.dropLast) (π0:=[0]) (S':=λg=>S g/\li [0] (d g)) (d':=λg=>(d g).dropLast) (λσ _ c=>B9 c) (λg e c=>⟨⟨e,c⟩,rfl⟩) a _ [0] _ _ (eQ _) l
 ·exact bD.ren (f:=List.dropLast) (π0:=[1]) (S':=λg=>S g/\¬(S g/\li [0] (d g))) (d':=λg=>(d g).dropLast) (λσ _ c=>B9 c) (λg e c=>⟨⟨e,λn=>by have:=QE c n.2;omega⟩,rfl⟩) b _ [1] _ _ (eQ _) m
open Classical in
theorem cJ.pair{Sa Sb:Nat->Prop}{a b:Ty}{m:EI}{x:a.den×b.den}{y:a.Refs×b.Refs}(hd:∀g,Sa g->¬Sb g)(n:∀g,Sa g->S g)(p:∀g,Sb g->S g)(ha:cJ w Sa a m.fst x.1 y.1)(l:cJ w Sb b m.snd x.2 y.2):cJ w S (.pair a b) m x y:=by
 obtain⟨e,ha⟩:=ha;obtain⟨k,l⟩:=l;refine⟨λg=>if Sa g then e g++[0]else k g++[1],?_,?_⟩
 ·exact bD.ren (f:=λσ=>σ++[0]) (S':=S) (d':=λg=>if Sa g then e g++[0]else k g++[1]) (π0:=[]) (λ_ _ _=>rfl) (λg c _=>⟨n g c,by simp[c]⟩) a _ [] _ _ ⟨[],rfl⟩ ha
 ·refine bD.ren (f:=λσ=>σ++[1]) (S':=S) (d':=λg=>if Sa g then e g++[0]else k g++[1]) (π0:=[]) (λ_ _ _=>rfl) (λg c _=>⟨p g c,?_⟩) b _ [] _ _ ⟨[],rfl⟩ l;have:¬Sa g:=λh=>hd g h c;simp[this]
theorem cJ.plain{c:aS}{t:Ty}{e:TypeId}{s:EI}{xs:List t.den}{v:Hd}(q:t.pureB=true)(h:cJ w (λb=>c b=i) (.slice t) (.row e s) xs v):HA.holds w c (.own t e i K xs v):=by
 rcases h.split with⟨rfl,rfl⟩|⟨ys,g,hl,⟨cap,a,rfl,f,k,l,m,n⟩,B,_⟩
 ·exact E3 w c
 ·refine⟨ys,kv hl λj x y _ _=>bH.pure t x y q,⟨cO t hl.symm,.inr ⟨g,cap,a,e,(0,0),rfl,f,.inl ⟨rfl,rfl⟩,k,l,m,n⟩⟩,λr p => ?_⟩;grind[Value.ownBlock]
theorem uT{w:World}{S:Nat->Prop}{d:Nat->List Nat}:(t:Ty)->(c:EI)->(π:List Nat)->(x:t.den)->(y:t.Refs)->t.pureB=true->bD w S d t c π x y
 |.one _ _ _,_,_,_,_,_=>trivial
 |.arr _ _ _ _ _,_,_,_,_,_=>trivial
 |.unit,_,_,_,_,_=>trivial
 |.pair a b,c,π,x,y,h=>by simp only[Ty.pureB,abF]at h;exact⟨uT a _ _ _ _ h.1,uT b _ _ _ _ h.2⟩
 |.slice t,_,_,_,_,h=>by cases h
 |.node,_,_,_,_,h=>by cases h
 |.mp _ _,_,_,_,_,h=>by cases h
theorem cJ.of_pure{t:Ty}{a:EI}{x:t.den}{y:t.Refs}(h:t.pureB=true):cJ w S t a x y:=⟨λ_=>[],uT t a [] x y h⟩
theorem cJ.of_plain{c:aS}{t:Ty}{e:TypeId}{s:EI}{xs:List t.den}{v:Hd}(I:t.pureB=true)(F:Nat.blt e 1048576=true)(h:HA.holds w c (.own t e i K xs v)):cJ w (λb=>c b=i) (.slice t) (.row e s) xs v:=by
 obtain⟨ys,C,D,E⟩:=h;obtain⟨a,n,cap⟩:=v;rcases(D.plain F).2 with⟨f,H⟩|⟨g,m,k,f,_,G,p,q,r,B⟩
 ·simp only[Hd.val,Value.slice.injEq]at f;obtain⟨rfl,rfl,rfl⟩:=f;exact⟨λ_=>[],.inl ⟨rfl,afG H⟩⟩
 ·have l:=E g (by rw[f];rfl);simp only[Hd.val,Value.slice.injEq]at f;obtain⟨rfl,rfl,rfl⟩:=f;exact cJ.join (S2:=λ_=>False) C.length.symm ⟨cap,k,rfl,G,p,q,r,B⟩ l (λ_ h=>h.elim) (λh=>h) ⟨λ_=>[],λj x y _ _=>uT t s [j] x y I⟩
theorem cJ.nil{t:Ty}{a:EI}:cJ w S (.slice t) a [] ⟨none,0,0⟩:=⟨λ_=>[],.inl ⟨rfl,rfl⟩⟩
section
variable {P:Program} {ρ:dm} {L:List HA} {o:Oper} {N:Nat}
theorem mt{t:Ty}{xs:List t.den}{ys:List t.Refs}{k:Nat}(hl:ys.length=xs.length)(e:k<xs.length)(b:cs.length=t.sz) :
  (fI t xs ys k cs).length=xs.length*t.sz/\(cellsOf t (xs.take k) (ys.take k)).length=k*t.sz:=by
 have a:=cO t (xs:=xs.take k) (ys:=ys.take k) (by simp;omega);have c:=cO t (xs:=xs.drop (k+1)) (ys:=ys.drop (k+1)) (by simp;omega);simp only[afi,agk,afn (Nat.le_of_lt e)]at a c;refine⟨?_,a⟩;simp only[fI,acA,a,c,b];rw[<-Nat.add_one_mul,<-ago];grind
theorem ka.at{t:Ty}{e:TypeId}{xs:List t.den}{v:Hd}{k:Nat}(h:ka w S t e xs v k cs):∃(g:Nat) (a:Array Value) (e0:TypeId),v.a=some ⟨g,0,none⟩/\w.heap[g]?=some (.cells a e0 (0,0))/\S g /\
  k*t.sz+t.sz<=a.size/\(a.toList.drop (k*t.sz)).take t.sz=cs/\cs.length=t.sz:=by
 obtain⟨d,e0,s,ys,G,hl,c,b,⟨g,cap,a,rfl,l,m,B,C,n,p,D⟩,F⟩:=h;obtain⟨r,c2⟩:=mt (cs:=cs) hl c b;have q:(k+1)*t.sz<=xs.length*t.sz:=aeL _ c;have E:xs.length*t.sz<=cap*t.sz:=aeL _ m;rw[ago,akz]at q;refine⟨g,a,e0,rfl,l,p,by omega,?_,b⟩;have f:(a.toList.drop (k*t.sz)).take t.sz=((a.toList.take (xs.length*t.sz)).drop (k*t.sz)).take t.sz:=by rw[agI,ahK,afn (by omega)]
 rw[f,n];unfold fI;grind
theorem WL{ty:Ty}{e:TypeId}{xs:List ty.den}{h:Hd}{k:Nat}{v:Value}(j:Nat)(p:L[j]?=some (.hol ty e i xs h k cs))(q:o.op=.load t x)(B:P.underlying t=some d)
  (hd:kR d=false) (C:aL ρ x=.pointer (some (di h (k*ty.sz+off)))) (H:cs[off]?=some v):aZ P ρ o L v:=λev w c n l=>by
 subst n;obtain⟨g,b,e0,f,D,_,E,F,G⟩:=ka.at (l.at p);have a:off<ty.sz:=by grind
 have r:di h (k*ty.sz+off)=⟨g,k*ty.sz+off,none⟩:=by simp[di,f]
 have m:w.cell? ⟨g,k*ty.sz+off,none⟩=some v:=by grind[mT]
 simp[execOp,q,C,r,yB B hd (v:=v) (w:=w) m,Result.andThen]
theorem Tx{ty:Ty}{e:TypeId}{xs:List ty.den}{h:Hd}{k:Nat}{cs':List Value}(j:Nat)(v:L[j]?=some (.hol ty e i xs h k cs))(B:o.op=.load t x)(D:P.underlying t=some d)
  (hd:kR d=true) (hi:TI P t sz by_ z) (E:aL ρ x=.pointer (some (di h (k*ty.sz+off)))) (I:(cs.drop off).take sz=cs') (hl:Nat.beq cs'.length sz=true) (l:off+sz<=cs.length):aZ P ρ o L (.agg cs'.toArray):=λev w c r p=>by
 subst r;have a:=hi;clear hi;obtain⟨f,hi,_,rfl,_⟩:=a.get;obtain⟨g,b,e0,m,n,_,F,G,H⟩:=ka.at (p.at v);have C:di h (k*ty.sz+off)=⟨g,k*ty.sz+off,none⟩:=by simp[di,m]
 have q:(b.toList.drop (k*ty.sz+off)).take f.size=cs':=by grind[List.drop_take,List.drop_drop,Nat.min_eq_left]
 simp[execOp,B,E,C,uQ D hd hi n (cs:=cs') (off:=k*ty.sz+off) (by grind) (f9 hl),Result.andThen]
theorem Iz{A m B C new:List α}{n:Nat}(a:A.length=n)(e:off+new.length<=m.length) :
  (A++m++B++C).take (n+off)++new++(A++m++B++C).drop (n+off+new.length)=A++(m.take off++new++m.drop (off+new.length))++B++C:=by
 subst a;have b:(A++m++B++C).take (A.length+off)=A++m.take off:=by rw[aeh,aeh,af4,aeQ (by omega),show A.length+off-A.length=off by omega,af4,show off-m.length=0 by omega,ahj,ad0]
 have c:(A++m++B++C).drop (A.length+off+new.length)=m.drop (off+new.length)++B++C:=by rw[aeh,aeh,afr,afc (by omega),ae4,show A.length+off+new.length-A.length=off+new.length by omega,afr,show off+new.length-m.length=0 by omega,agY,aeh]
 grind
theorem QS{ty:Ty}{e:TypeId}{xs:List ty.den}{h:Hd}{k:Nat}{cs':List Value}{v:Value}(j:Nat)(hj:L[j]?=some (.hol ty e i xs h k cs))(ho:o.op=.store t x y)(hi:TI P t sz by_ z)
  (F:aL ρ x=.pointer (some (di h (k*ty.sz+off)))) (G:aL ρ y=v) (hv:v.cells=vs.toArray) (hl:Nat.beq vs.length sz=true) (p:vs.all Value.oneCell'=true)
  (M:Nat.ble (off+vs.length) cs.length=true) (B:cs.take off++vs++cs.drop (off+vs.length)=cs'):cN P ρ o L [i] (λ_:Unit=>undef) (λ_=>[.hol ty e i xs h k cs']):=by
 intro a ev w c next Q ha hL hn
 have q:=hi;clear hi;obtain⟨inf,hi,_,rfl,_⟩:=q.get;have O:=abM M;have hH:=hL.at hj;obtain⟨d,e0,s,ys,he,l,H,J,⟨g,cap,f,rfl,T,U,g4,g5,g6,V,W⟩,h3⟩:=(show ka w (λb=>c b=i) ty e xs h k cs from hH)
 obtain⟨c1,c2⟩:=mt (cs:=cs) l H J;have m1:(k+1)*ty.sz<=xs.length*ty.sz:=aeL _ H;have m2:xs.length*ty.sz<=cap*ty.sz:=aeL _ U;rw[ago,akz]at m1;have m:f.toList=cellsOf ty (xs.take k) (ys.take k)++cs++cellsOf ty (xs.drop (k+1)) (ys.drop (k+1))++f.toList.drop (xs.length*ty.sz):=by grind[cellsOf,fI,List.take_append_drop]
 have hp:di ⟨some ⟨g,0,none⟩,xs.length,cap⟩ (k*ty.sz+off)=⟨g,k*ty.sz+off,none⟩:=by simp[di]
 have R:=my P g (k*ty.sz+off) e0 (0,0) vs f w T (.inl rfl) (by omega) (DH p);have E:(execOp ev o).run P w=.ok .skip (w.setRow g (f.toList.take (k*ty.sz+off)++vs++f.toList.drop (k*ty.sz+off+vs.length)).toArray):=by simp[execOp,ho,ha,F,hp,G,Instr.storeAt,Instr.sureAddr,storeVar,hv,sizeOf,typeInfo,hi,f9 hl,R,Result.andThen]
 rw[E];have Z:f.toList.take (k*ty.sz+off)++vs++f.toList.drop (k*ty.sz+off+vs.length)=cellsOf ty (xs.take k) (ys.take k)++cs'++cellsOf ty (xs.drop (k+1)) (ys.drop (k+1))++f.toList.drop (xs.length*ty.sz):=by generalize hC:f.toList.drop (xs.length*ty.sz)=C at m;rw[m,<-B];exact Iz c2 O
 rw[Z];have r:cs'.length=ty.sz:=by rw[<-B];simp only[acA,afi,agk];omega
 obtain⟨c3,_⟩:=mt (cs:=cs') l H r;have D:∀(j:Nat) (x:ty.den) (y:ty.Refs),j≠k->xs[j]?=some x->ys[j]?=some y->bD w (λb=>c b=i/\b≠g) d ty s [j] x y:=λj x y n F G=>
  bD.re (π0:=[j]) (λb I Y=>⟨⟨I,λe=>by subst e;rw[W]at Y;exact uU Y rfl⟩,rfl⟩) (eQ _) (h3 j x y n F G)
 refine hn () _ c (sB (i:=i) V) (ao.cons ⟨d,e0,s,ys,he,l,H,r,⟨g,cap,_,rfl,setRow_heap w g f _ e0 (0,0) T,U,g4,?_,?_,V,W⟩,λj x y n F G=>?_⟩ (ao.nil _ _))
 ·grind
 ·grind[fI]
 ·refine bD.keep (λb _ I=>⟨I.1,?_⟩) ty s _ x y (D j x y n F G);grind[World.setRow]
abbrev V1:={ v:Value//v.oneCell'=true}
abbrev iH(n:Nat):Ty:=.arr n V1 ⟨.bool true,rfl⟩ (λv=>v.1) (λv=>v.2)
theorem ahx{l:List V1}(h:l.length=sz):(iH sz).fill l ()=l.map (λv=>v.1):=by subst h;show(List.range l.length).map (λi=>(l.getD i ⟨.bool true,rfl⟩).1)=_;apply afQ;grind
theorem Ar(sz:Nat):∀(m:Nat) (cells:List Value),qV cells->cells.length=m*sz->∃a:List (List V1),a.length=m/\cellsOf (iH sz) a (List.replicate m ())=cells
 |0,cells,_,hl=>⟨[],rfl,by have:cells=[]:=afG (by simpa using hl);subst this;rfl⟩
 |m+1,cells,c,hl=>by
  rw[ago,akz]at hl;obtain⟨a,e,f⟩:=Ar sz m (cells.drop sz) (λv b=>c v (ag4 b)) (by grind);have k:(cells.take sz).length=sz:=by grind
  refine⟨(cells.take sz).pmap (λv h=>(⟨v,h⟩:V1)) (λv b=>c v (agT b))::a,by simp[e],?_⟩;rw[ag5];simp only[cellsOf,f];rw[ahx (by grind),List.map_pmap];simp
theorem Uv{c:aS}{e:TypeId}{n:Nat}{v:Hd}{cells:List Value}{a:List (List V1)}(r:CP w e sz v n cells g)(D:c g=i)(hl:a.length=n)(f:cellsOf (iH sz) a (List.replicate n ())=cells) :HA.holds w c (.own (iH sz) e i K a v):=by
 obtain⟨cap,h,rfl,k,l,m,p,C⟩:=r;subst hl;have b:=cO (iH sz) (xs:=a) (ys:=List.replicate a.length ()) (by simp);refine⟨List.replicate a.length (),?_,⟨b,.inr ⟨g,cap,h,e,(0,0),rfl,k,.inl ⟨rfl,rfl⟩,l,m,p,by grind⟩⟩,λB q => ?_⟩
 ·exact kv (by simp) λj x y _ _=>trivial
 grind[Value.ownBlock]
theorem NK:∀l:List Unit,l=List.replicate l.length ()
 |[]=>rfl
 |()::r=>by simp only[aeH,ag5,ah6,aq1];exact NK r
theorem TS{c:aS}{e:TypeId}{v:Hd}{b:List (List V1)}(F:Nat.blt e 1048576=true)(h:HA.holds w c (.own (iH sz) e i K b v)) :
  (v=⟨none,0,0⟩/\b=[])\/∃g,CP w e sz v b.length (cellsOf (iH sz) b (List.replicate b.length ())) g/\c g=i:=by
 obtain⟨ys,C,D,E⟩:=h;have H:ys=List.replicate b.length ():=by rw[C.length];exact NK ys
 subst H;obtain⟨a,n,cap⟩:=v;rcases(D.plain F).2 with⟨f,I⟩|⟨g,m,k,f,_,G,p,q,r,B⟩
 ·grind
 ·have l:=E g (by rw[f];rfl);simp only[Hd.val,Value.slice.injEq]at f;obtain⟨rfl,rfl,rfl⟩:=f;exact .inr ⟨g,⟨cap,k,rfl,G,p,q,r,B⟩,l⟩
theorem CP.rep{c:aS}{e:TypeId}{n:Nat}{v:Hd}{cells:List Value}{a:List (List V1)}(h:CP w e sz v n cells g)(l:c g∈K)(hl:a.length=n)(f:cellsOf (iH sz) a (List.replicate n ())=cells):HA.holds w c (.rep (iH sz) K a v):=by have:=Dt (Uv (c:=c) (i:=c g) (K:=[]) h rfl hl f);exact bH.keep (λb _ (k:c b∈[c g])=>⟨by grind,rfl⟩) (.slice (iH sz)) a v this
theorem P1{e:TypeId}{s:EI}{sx:Operand}{ty:Ty}{n N:Nat}{K2:List Nat}{xs ys:List ty.den}{h M:Hd}(j j':Nat)
  (hj:L[j]?=some (.tr ty e i K xs h)) (hj':L[j']?=some (.tr ty e n K2 ys M)) (Z:gq e=.row e0 s)
  (ho:o.op=.call { callee:=.builtin .append,args:=#[sx,x],argTypes:=#[t,t]}) (ht:P.underlying t=some (.slice e0)) (hi:TI P e0 sz by_ z) (hs:sz=ty.sz)
  (hzs:Nat.beq z.cells.size sz=true) (hsz:Nat.ble 1 sz=true) (hse:aL ρ sx=h.val) (hxe:aL ρ x=M.val)
  (hroom:decide ((xs.length+ys.length)*by_<=140737488355328/\xs.length+ys.length<=maxLen)=true) (hci:Nat.ble 2 i=true) (hN:Nat.ble 2 N=true) (hd:Nat.beq i n=false) (hd1:Nat.beq i N=false) (hd2:Nat.beq n N=false) (he:Nat.blt e0 1048576=true) :
  cN P ρ o L [i,n,N] Hd.val (λh'=>[.tr ty e i [] (xs++ys) h']):=by
 classical
 intro a ev w c next Q ha hL hk
 have hne:i≠n:=afY hd;have hne1:i≠N:=afY hd1;have hne2:n≠N:=afY hd2;have V:=abM hci;have hN':=abM hN;subst hs;have R:cJ w (λb=>c b=i) (.slice ty) (gq e) xs h:=hL.at hj;have T:cJ w (λb=>c b=n) (.slice ty) (gq e) ys M:=hL.at hj';rw[Z]at R T;obtain⟨B,r,f,hl1,hr1,W,hown1,hF1,hg1⟩:∃(B:List ty.Refs) (r:Nat) (f:List (List V1)),B.length=xs.length/\f.length=xs.length/\cellsOf (iH ty.sz) f (List.replicate xs.length ())=cellsOf ty xs B /\
   (∀q:aS,q r=N->HA.holds w q (.own (iH ty.sz) e0 N [] f h))/\jB w (λb=>b<w.heap.size/\c b=i/\b≠r) ty s xs B/\(r<w.heap.size->c r=i):=by
  rcases R.split with⟨rfl,rfl⟩|⟨B,r,hl,hr,hg,O⟩
  ·exact⟨[],w.heap.size,[],rfl,rfl,rfl,λq _=>E3 w q,jB.nil,λh=>absurd h (Nat.lt_irrefl _)⟩
  ·obtain⟨v,H,F⟩:=Ar ty.sz xs.length (cellsOf ty xs B) (jv ty) (cO ty hl.symm);exact⟨B,r,v,hl,H,F,λq U=>Uv hr U H F,O.keep (λb m h=>⟨⟨m,h⟩,rfl⟩),λ_=>hg⟩
 obtain⟨C,l,hl2,hr2,Y,hrep2,hF2⟩:∃(C:List ty.Refs) (l:List (List V1)),C.length=ys.length/\l.length=ys.length/\cellsOf (iH ty.sz) l (List.replicate ys.length ())=cellsOf ty ys C /\
   (∀q:aS,(∀b,b<w.heap.size->c b=n->q b=n)->HA.holds w q (.rep (iH ty.sz) [n] l M))/\jB w (λb=>b<w.heap.size/\c b=n) ty s ys C:=by
  rcases T.split with⟨rfl,rfl⟩|⟨C,g2,hl,hr,hg,O⟩
  ·exact⟨[],[],rfl,rfl,rfl,λq _=>tL w q,jB.nil⟩
  ·obtain⟨v,H,F⟩:=Ar ty.sz ys.length (cellsOf ty ys C) (jv ty) (cO ty hl.symm);have hg2:g2<w.heap.size:=by
    obtain⟨cap,cur,_,hh,_⟩:=hr;grind
   exact⟨C,v,hl,H,F,λq U=>hr.rep (by grind) H F,O.keep (λb m h=>⟨⟨m,h.1⟩,rfl⟩)⟩
 let q:aS:=λb=>if b=r then N else c b
 have hL1:ao w q [.own (iH ty.sz) e0 N [] f h,.rep (iH ty.sz) [n] l M]:=by grind[ao.cons,ao.nil]
 have E:decide ((f.length+l.length)*by_<=140737488355328/\f.length+l.length<=maxLen)=true:=by grind
 refine D8 (P:=P) (ρ:=ρ) (o:=o) (L:=[.own (iH ty.sz) e0 N [] f h,.rep (iH ty.sz) [n] l M]) (ty:=iH ty.sz) (K:=[]) (K2:=[n]) rfl 0 1 rfl _ rfl yC ho ht hi rfl hzs hsz hse hxe E hN he a ev w q next Q ha hL1 ?_
 intro h' w' c' p O;have hc1:∀b,b<w.heap.size->c b≠i->q b=c b:=λb m U=>by grind
 have hA:∀b,b<w.heap.size->c b=i->b≠r->c' b=i/\w'.heap[b]?=w.heap[b]?:=λb m U J=>by
  have G:q b=i:=by grind
  have I:q b∉[N]:=by grind
  exact⟨by rw[p.col b m I,G],p.same b m I⟩
 have hB:∀b,b<w.heap.size->c b=n->c' b=n/\w'.heap[b]?=w.heap[b]?:=λb m U=>by
  have G:q b=n:=by grind
  have I:q b∉[N]:=by grind
  exact⟨by rw[p.col b m I,G],p.same b m I⟩
 let c2:aS:=λb=>if c' b=N\/c' b=n then i else c' b
 have hstp:Stp [i,n,N] w c w' c2:=by
  refine⟨p.size,λb m J=>?_,λb m J=>?_,λb m h=>?_,p.env⟩
  ·simp only[aen,ajK,aq0,not_or]at J;have G:=hc1 b m J.1;have I:c' b=c b:=by rw[p.col b m (by grind),G]
   grind
  ·simp only[aen,ajK,aq0,not_or]at J;exact p.same b m (by grind)
  ·show 2<=(if c' b=N\/c' b=n then i else c' b);split
   ·exact V
   ·by_cases hlt:b<w.heap.size
    ·obtain⟨_,F⟩:=h hlt;by_cases G:q b=N
     ·exact p.two b m λ_=>⟨by simp[G],by omega⟩
     grind
    ·exact p.two b m λh=>absurd h hlt
 refine hk h' w' c2 hstp (ao.cons ?_ (ao.nil _ _));show cJ w' (λb=>c2 b=i) (.slice ty) (gq e) (xs++ys) h';rw[Z];have hFA:jB w' (λb=>b<w.heap.size/\c b=i/\b≠r) ty s xs B:=hF1.keep λb _ m=>⟨m,(hA b m.1 m.2.1 m.2.2).2⟩
 have hFB:jB w' (λb=>b<w.heap.size/\c b=n) ty s ys C:=hF2.keep λb _ m=>⟨m,(hB b m.1 m.2).2⟩
 have hFF:jB w' (λb=>(b<w.heap.size/\c b=i/\b≠r)\/(b<w.heap.size/\c b=n)) ty s (xs++ys) (B++C):=jB.append hl1 (λb H F=>hne (H.2.1.symm.trans F.2)) (λb m=>.inl m) (λb m=>.inr m) hFA hFB;rcases TS he (O.at (k:=0) rfl)with⟨J,hrows⟩|⟨g',hr',hg'⟩
 ·grind[List.length_append,List.eq_nil_of_length_eq_zero,cJ.nil]
 ·have hlen:(f++l).length=(xs++ys).length:=by grind
  have D:cellsOf (iH ty.sz) (f++l) (List.replicate (f++l).length ())=cellsOf ty (xs++ys) (B++C):=by rw[acA,<-List.replicate_append_replicate,eF _ (by simp),eF ty hl1.symm,hr1,hr2,W,Y]
  rw[D,hlen]at hr';refine cJ.join (S2:=λb=>(b<w.heap.size/\c b=i/\b≠r)\/(b<w.heap.size/\c b=n)) (by grind) hr' (by simp[c2,hg']) (λb m=>?_) (λm=>?_) hFF
  ·grind
  grind
theorem aqH{c:aS}{ty:Ty}{e:TypeId}{xs:List ty.den}{h:Hd}(m sz:Nat)(D:m<=xs.length)(f:HA.holds w c (.tr ty e i K xs h)):HA.holds w c (.tr ty e i K (xs.take m) (h.cut 0 m sz)):=by
 obtain⟨d,f⟩:=(show cJ w (λb=>c b=i) (.slice ty) (gq e) xs h from f)
 rcases f with⟨rfl,rfl⟩|⟨e',s,v,ys,hl,⟨g,cap,a,rfl,k,B,l,n,C,p,q⟩,r⟩
 ·grind[Hd.cut]
 ·refine⟨d,.inr ⟨e',s,v,ys.take m,by simp[hl],⟨g,cap,a,?_,k,by grind,l,n,?_,p,q⟩,λj x y E F=>r j x y ?_ ?_⟩⟩
  ·simp[Hd.cut,eT];omega
  ·grind[jl,List.length_take,Nat.min_eq_left,Nat.mul_le_mul_right]
  ·grind
  grind
theorem Tp{e:TypeId}{j:Int}{ty:Ty}{xs:List ty.den}{h:Hd}(k:Nat)(n:L[k]?=some (.tr ty e i K xs h))(r:o.op=.slice t x none (some y) none)
  (v:P.underlying t=some (.slice e0)) (m:TI P e0 sz by_ z) (hs:sz=ty.sz) (B:aL ρ x=h.val) (l:aL ρ y=.int khi j) (p:decide (0<=j/\j<=xs.length)=true) :
  cN P ρ o L [] (λ_:Unit=>(h.cut 0 j.toNat sz).val) (λ_=>[.tr ty e i K (xs.take j.toNat) (h.cut 0 j.toNat sz)]):=λa ev w c next Q ha f q=>by
 obtain⟨C,D⟩:=aex p;refine Ad (L:=.rep ty (i::K) xs h::L) (i:=0) (klo:=.i64) 0 rfl r v m hs B rfl l (by grind) a ev w c next Q ha (ao.cons (M9 (f.at n)) f) λy w' c' b _=>q () w' c' b ?_
 exact ao.cons (aqH j.toNat sz (by omega) (ao.at (f.stp0 b) n)) (ao.nil _ _)
theorem cN.tree{ty:Ty}{e:TypeId}{s:EI}{N:Nat}{Kn:List Nat}{m:List (List V1)}{xs:List ty.den}{ys:List ty.Refs}(h:cN P ρ o L [] Hd.val (λh=>[.own (iH ty.sz) e0 N K m h]))(E:gq e=.row e0 s)(U:Nat.blt e0 1048576=true)(R:Nat.ble 2 N=true)
  (hl:ys.length=xs.length) (hr:m.length=xs.length) (n:cellsOf (iH ty.sz) m (List.replicate xs.length ())=cellsOf ty xs ys) (M:∀w c,ao w c L->jB w (λb=>c b∈Kn) ty s xs ys) (r:bU N Kn=false):cN P ρ o L Kn Hd.val (λh=>[.tr ty e N [] xs h]):=by
 classical
 intro a ev w c next Q ha H W
 have v:=M w c H;have D:=abM R;have Y:N∉Kn:=λT=>by rw[mem_iff.2 T]at r;cases r
 refine h a ev w c next Q ha H λh' w' c' f O=>?_
 have B:jB w (λb=>b<w.heap.size/\c b∈Kn) ty s xs ys:=v.keep λb l h=>⟨⟨l,h⟩,rfl⟩
 have C:jB w' (λb=>b<w.heap.size/\c b∈Kn) ty s xs ys:=B.keep λb l h=>⟨h,f.same b l (by simp)⟩
 let c2:aS:=λb=>if b<w.heap.size/\c b∈Kn then N else c' b
 have q:Stp Kn w c w' c2:=by
  refine⟨f.size,λb l r=>?_,λb l _=>f.same b l (by simp),λb l h=>?_,f.env⟩
  ·show(if b<w.heap.size/\c b∈Kn then N else c' b)=c b;rw[if_neg (λh=>r h.2)];exact f.col b l (by simp)
  ·show 2<=(if b<w.heap.size/\c b∈Kn then N else c' b);split
   ·exact D
   ·rename_i Z;by_cases F:b<w.heap.size
    ·grind
    ·exact f.two b l λh=>absurd h F
 refine W h' w' c2 q (ao.cons ?_ (ao.nil _ _));show cJ w' (λb=>c2 b=N) (.slice ty) (gq e) xs h';rw[E];rcases TS U (O.at (k:=0) rfl)with⟨I,G⟩|⟨J,p,V⟩
 ·grind[List.eq_nil_of_length_eq_zero,cJ.nil]
 ·rw[hr,n]at p;refine cJ.join (S2:=λb=>b<w.heap.size/\c b∈Kn) hl p ?_ (λb l=>by simp[c2,l]) (λl=>?_) C
  ·grind
  ·have e1:=f.col J l.1 (by simp);grind
end
section
variable {P:Program} {ρ:dm} {L:List HA} {o:Oper} {N:Nat}
def AW{A:Type}(q:A->Bool)(a0:A):List A->List A
 |[]=>[a0]
 |a::r=>bif q a then a0::r else a::AW q a0 r
def nA:List Bool->List MapEntry->Nat->Option (Nat×Value)
 |b::bs,e::r,i=>bif b then some (i,e.val)else nA bs r (i+1)
 |_,_,_=>none
abbrev zk(l:List MapEntry):List (Value×Value):=l.map λe=>(e.key,e.val)
structure KeyRun{A:Type}(P:Program)(kt:TypeId)(x:Value)(q:A->Bool)(f:A->Value×Value)(xs:List A):Prop where
 check:∀w em,(Instr.checkKey em 10000 kt x).run P w=.ok () w
 find:∀w (l:List MapEntry),zk l=xs.map f->(Instr.findKey kt x l).run P w=.ok (nA (xs.map q) l 0) w
 same:∀a∈xs,q a=true->(f a).1=x
 stays:∀w,(Instr.keyThatStays x x).run P w=.ok x w
theorem C0{A:Type}{q:A->Bool}{f:A->Value×Value}:∀{l:List MapEntry} {xs:List A} (i:Nat),zk l=xs.map f->(nA (xs.map q) l i).map (·.2)=(xs.find? q).map λa=>(f a).2
 |[],[],_,_=>rfl
 |[],_::_,_,h=>by cases h
 |_::_,[],_,h=>by cases h
 |e::r,a::xs,i,h=>by
  simp only[zk,aev,ah6]at h;simp only[aev,nA,List.find?_cons];cases q a
  ·exact C0 (i+1) h.2
  grind
theorem Jf{A:Type}{q:A->Bool}{f:A->Value×Value}{a0:A}:∀{l:List MapEntry} {xs:List A} {i:Nat},zk l=xs.map f->(∀a∈xs,q a=true->(f a).1=(f a0).1) ->
  match nA (xs.map q) l i with
  |some (j,_)=>i<=j/\(∃e,l[j-i]?=some e/\e.key=(f a0).1)/\zk (l.modify (j-i) λe=>{ e with key:=(f a0).1,val:=(f a0).2})=(AW q a0 xs).map f
  |none=>∀b,zk (l++[{ key:=(f a0).1,val:=(f a0).2,born:=b}])=(AW q a0 xs).map f
 |[],[],i,_,_=>λ_=>rfl
 |[],_::_,_,h,_=>by cases h
 |_::_,[],_,h,_=>by cases h
 | e::r,a::xs,i,hl,h=>by
  simp only[zk,aev,ah6]at hl;simp only[aev,nA];cases hq:q a
  ·have k:=Jf (q:=q) (f:=f) (a0:=a0) (l:=r) (xs:=xs) (i:=i+1) hl.2 λp c=>h p (abJ _ c);simp only[ab7];cases hf:nA (xs.map q) r (i+1)with
   |none=>
    grind[AW]
   |some p=>
    grind[AW]
  grind[AW,List.modify]
theorem ze(x v:Value):∀(l:List MapEntry) (j:Nat),(l.modify j λe=>{ e with key:=x,val:=v}).map (·.born)=l.map (·.born)
 |[],j=>by grind
 |e::r,0=>by grind
 |e::r,j+1=>by simp[List.modify_succ_cons,ze x v r j]
theorem aeb{m:Operand}{b:Nat}{xs:List A}{D:Value}{q:A->Bool}{f:A->Value×Value}(k:Nat)(F:L[k]?=some (.mp i b (xs.map f)))(v:o.op=.lookup t m x false)(B:P.underlying t=some (.map kt et))
  (r:aL ρ m=.map (some b)) (C:aL ρ x=D) (K:KeyRun P kt D q f xs) (hi:TI P et sz by_ z):aZ P ρ o L (((xs.find? q).map λa=>(f a).2).getD z):=λev w c h E=>by
 subst h;have e:=hi;clear hi;obtain⟨I,hi,H,_,_⟩:=e.get;obtain⟨arr,clock,l,n,J,M,O⟩:=(show vG w (λg=>c g=i) b (xs.map f)from E.at F)
 have G:=C0 (q:=q) 0 (show zk arr.toList=xs.map f from n);have hf:=K.find w arr.toList n;rw[<-G];cases h:nA (xs.map q) arr.toList 0 with
 |none=>
  rw[h]at hf;simp[execOp,v,r,C,Instr.lookup,run_underlying B,MapKept.run_getObj_map l,K.check,hf,Result.andThen,zeroValue,typeInfo,hi,H]
 |some p=>
  rw[h]at hf;simp[execOp,v,r,C,Instr.lookup,run_underlying B,MapKept.run_getObj_map l,K.check,hf,Result.andThen]
theorem abK{m:Operand}{b:Nat}{xs:List A}{l:Value}{a0:A}{q:A->Bool}{f:A->Value×Value}(k:Nat)(v:L[k]?=some (.mp i b (xs.map f)))(C:o.op=.lookup t m x false)(D:P.underlying t=some (.map kt et))
  (B:aL ρ m=.map (some b)) (E:aL ρ x=l) (K:KeyRun P kt l q f xs) (hi:xs.find? q=some a0):aZ P ρ o L (f a0).2:=λev w c e r=>by
 subst e;obtain⟨arr,clock,n,h,F,G,H⟩:=(show vG w (λg=>c g=i) b (xs.map f)from r.at v)
 have a:=C0 (q:=q) 0 (show zk arr.toList=xs.map f from h);rw[hi]at a;have hf:=K.find w arr.toList h;cases e:nA (xs.map q) arr.toList 0 with
 |none=>grind
 |some p=>
  rw[e]at hf a;simp only[aqJ,no]at a;simp[execOp,C,B,E,Instr.lookup,run_underlying D,MapKept.run_getObj_map n,K.check,hf,Result.andThen,a]
theorem XF(k:o.op=.makeMap t none)(f:Nat.ble 2 N=true):cN P ρ o L [] (λb:Nat=>.map (some b)) (λb=>[.mp N b []]):=λa ev w c next Q _ _ h=>by
 have e:(execOp ev o).run P w=.ok (.value (.map (some w.heap.size))) (w.alloc (.map #[] 0)):=by simp[execOp,k,Instr.makeMap,Result.andThen]
 rw[e];exact h w.heap.size _ _ (tR f _) (ao.cons ⟨#[],0,heap_alloc_new w _,rfl,by simp,by simp,by simp⟩ (ao.nil _ _))
theorem FG{c:aS}{b:Nat}{ob:Obj}(k:c b=i):Stp [i] w c { w with heap:=w.heap.setIfInBounds b ob} c:=by refine .mk0 (by simp) (λ_ _=>rfl) (λa e l=>?_) (λa f h=>by grind) ⟨rfl,rfl⟩;grind
theorem acE{m:Operand}{b:Nat}{xs:List A}{a0:A}{q:A->Bool}{f:A->Value×Value}(k:Nat)(V:L[k]?=some (.mp i b (xs.map f)))(l:o.op=.mapUpdate t m x y\/o.op=.insert t m x y)(I:P.underlying t=some (.map kt et))
  (G:aL ρ m=.map (some b)) (J:aL ρ x=(f a0).1) (M:aL ρ y=(f a0).2) (K:KeyRun P kt (f a0).1 q f xs):cN P ρ o L [i] (λ_:Unit=>undef) (λ_=>[.mp i b ((AW q a0 xs).map f)]):=by
 intro a ev w c next Q ha U H
 subst ha;obtain⟨arr,clock,n,E,W,T,v⟩:=(show vG w (λg=>c g=i) b (xs.map f)from U.at V)
 have hf:=K.find w arr.toList E;have C:=Jf (q:=q) (f:=f) (a0:=a0) (i:=0) (show zk arr.toList=xs.map f from E) K.same;cases F:nA (xs.map q) arr.toList 0 with
 |none=>
  rw[F]at hf C;have h:(execOp (aL ρ) o).run P w=.ok .skip { w with heap:=w.heap.setIfInBounds b (.map (arr.push { key:=(f a0).1,val:=(f a0).2,born:=clock}) (clock+1))}:=by rcases l with l|l<;>simp[execOp,l,G,J,M,Instr.mapUpdate,run_underlying I,MapKept.run_getObj_map n,K.check,hf,Result.andThen,MapKept.run_setObj_map _ n]
  rw[h];refine H () _ c (FG v) (ao.cons ⟨_,_,(MapKept.heap_set n).1,?_,?_,?_,v⟩ (ao.nil _ _))
  ·grind
  ·grind
  grind
 |some p=>
  obtain⟨j,Z⟩:=p;rw[F]at hf C;obtain⟨_,⟨e,B,O⟩,R⟩:=C;rw[akV]at B R;rw[Array.getElem?_toList]at B;have D:=K.stays w;have h:(execOp (aL ρ) o).run P w=.ok .skip { w with heap:=w.heap.setIfInBounds b (.map (arr.modify j λe=>{ e with key:=(f a0).1,val:=(f a0).2}) clock)}:=by rcases l with l|l<;>simp[execOp,l,G,J,M,Instr.mapUpdate,run_underlying I,MapKept.run_getObj_map n,K.check,hf,Result.andThen,B,O,D,MapKept.run_setObj_map _ n]
  rw[h];refine H () _ c (FG v) (ao.cons ⟨_,_,(MapKept.heap_set n).1,?_,?_,?_,v⟩ (ao.nil _ _))
  ·grind
  ·intro e' r;have Y:=ze (f a0).1 (f a0).2 arr.toList j;rw[Array.toList_modify]at r;have:e'.born∈(arr.toList.modify j λe=>{ e with key:=(f a0).1,val:=(f a0).2}).map (·.born):=acG.2 ⟨_,r,rfl⟩;grind
  ·rw[Array.toList_modify,ze];exact T
theorem avp{k:IntKind}(b:P.underlying kt=some (.int k))(x:Int){q:A->Bool}{f:A->Value×Value}{xs:List A}{g:A->Int}(hf:∀a∈xs,(f a).1=.int k (g a))(hq:∀a∈xs,q a=(x==g a)):KeyRun P kt (.int k x) q f xs where
 check w em:=MapKept.run_checkKey b (by rfl) em 9999
 find w l hl:=by
  have key:∀(l:List MapEntry) (xs:List A) (i:Nat),(∀a∈xs,(f a).1=.int k (g a))->(∀a∈xs,q a=(x==g a))->zk l=xs.map f->Instr.findNow (.int k) (.int k x) l i=some (nA (xs.map q) l i):=by
   intro l;induction l with
   |nil=>intro xs i _ _ h;cases xs<;>rfl
   | cons e r c=>
    intro xs i hf hq h;cases xs with
    |nil=>cases h
    |cons p es=>
     grind[Instr.findNow,Instr.sameNow,nA]
  exact MapKept.run_findKey b (key l xs 0 hf hq hl)
 same a ha h:=by grind
 stays w:=by simp[Instr.keyThatStays,Instr.sameBits,Sem.run_pure]
theorem ab8{c:Array Field}(m:P.underlying kt=some (.struct c)){x:Value}{q:A->Bool}{f:A->Value×Value}{xs:List A}(E:∀w em,(Instr.checkKey em 10000 kt x).run P w=.ok () w)
  (b:∀w,∀a∈xs,(Op.equalIn 10000 kt x (f a).1).run P w=.ok (q a) w) (hs:∀a∈xs,q a=true->(f a).1=x) (D:Instr.sameBits 10000 x x=true):KeyRun P kt x q f xs where
 check:=E
 find w l hl:=by
  have ask:∀(l:List MapEntry) (xs:List A) (i:Nat),(∀a∈xs,(Op.equalIn 10000 kt x (f a).1).run P w=.ok (q a) w)->zk l=xs.map f->(Instr.findAsking kt x l i).run P w=.ok (nA (xs.map q) l i) w:=by
   intro l;induction l with
   |nil=>intro xs i _ h;cases xs<;>simp[Instr.findAsking,nA]
   | cons e r I=>
    intro xs i b h;cases xs with
    |nil=>cases h
    |cons p es=>
     simp only[zk,aev,ah6]at h;obtain⟨C,G⟩:=h;have n:e.key=(f p).1:=by rw[<-C]
     have k:=b p adT;rw[<-n]at k;have v:(Op.equal kt x e.key).run P w=.ok (q p) w:=k;simp only[Instr.findAsking,Sem.run_bind,v,Result.andThen_ok,aev,nA];cases H:q p
     ·grind
     simp_all
  have B:=ask l xs 0 (b w) hl;cases l with
  |nil=>
   simp only[Instr.findKey,Sem.run_bind,run_underlying m,Result.andThen_ok,Instr.findNow,Sem.run_pure];cases xs with
   |nil=>rfl
   |cons _ _=>cases hl
  |cons e r=>
   have F:Instr.findNow (.struct c) x (e::r) 0=none:=by rfl
   simp only[Instr.findKey,Sem.run_bind,run_underlying m,Result.andThen_ok,F];exact B
 same:=hs
 stays w:=by simp[Instr.keyThatStays,D,Sem.run_pure]
end
section
variable {P:Program} {ρ:dm} {L:List HA} {o:Oper}
theorem zN.rep{SK:Nat->Prop}{t:Ty}{e:TypeId}{xs:List t.den}{v:Hd}{m:Int}(c:∀b,S b->S' b)(B:∀b,SK b->S' b)(h:zN w S SK t e xs v m):bH w S' (.slice t) xs v:=by
 rcases h with⟨rfl,rfl⟩|⟨d,e0,s,ys,_,hl,F,D,C⟩
 ·exact⟨[],trivial,rfl,by simp,by simp[maxLen],.inl ⟨trivial,rfl⟩⟩
 ·refine⟨ys,kv hl λj x y f k=>?_,?_⟩
  ·by_cases E:(j:Int)<m
   ·exact bD.rep c t s [j] x y (D j x y E f k)
   ·exact bH.keep (jb.of B) t x y (C j x y (by omega) f k)
  ·obtain⟨g,cap,a,rfl,l,n,p,G,q,r,H⟩:=F;exact⟨rfl,n,p,.inr ⟨g,0,a,e0,(0,0),rfl,c g r,l,by grind,by simpa using q⟩⟩
theorem NW{c:aS}{t:Ty}{e:TypeId}{xs:List t.den}{v:Hd}{m:Int}(h:HA.holds w c (.pt t e i K xs v m)):HA.holds w c (.rep t (i::K) xs v):=
 zN.rep (S:=λb=>c b=i) (SK:=λb=>c b∈K) (λb (a:c b=i)=>by grind) (λb a=>abJ _ a) h
theorem aqM{c:aS}{t:Ty}{e:TypeId}{s:EI}{xs:List t.den}{v:Hd}(q:gq e=.row e0 s)(J:Nat.blt e0 1048576=true)(h:HA.holds w c (.own t e0 i K xs v)):HA.holds w c (.pt t e i K xs v 0):=by
 obtain⟨ys,G,H,I⟩:=h;obtain⟨a,n,cap⟩:=v;rcases(H.plain J).2 with⟨f,O⟩|⟨g,r,m,f,_,M,C,D,E,F⟩
 ·simp only[Hd.val,Value.slice.injEq]at f;obtain⟨rfl,rfl,rfl⟩:=f;exact .inl ⟨rfl,afG O⟩
 ·have p:=I g (by rw[f];rfl);simp only[Hd.val,Value.slice.injEq]at f;obtain⟨rfl,rfl,rfl⟩:=f;refine .inr ⟨λ_=>[],e0,s,ys,q,G.length.symm,⟨g,cap,m,rfl,M,C,D,E,F,p,rfl⟩,λj x y R=>by omega,λj x y _ l k=>?_⟩;have B:∀{xs:List t.den} {ys:List t.Refs} {j:Nat},cf (bH w (λb=>c b∈K) t) xs ys->xs[j]?=some x->ys[j]?=some y->bH w (λb=>c b∈K) t x y:=by
   intro xs;induction xs with
   |nil=>grind
   | cons a xs Q=>
    intro ys j h l k;cases ys with
    |nil=>simp at k
    | cons b ys=>
     cases j with
     |zero=>
      simp at l k;subst l k;exact h.1
     |succ j=>exact Q h.2 (by simpa using l) (by simpa using k)
  grind
theorem ar6{c:aS}{t:Ty}{e:TypeId}{f:List Nat}{xs:List t.den}{v:Hd}{m:Int}(r:(xs.length:Int)<=m)(h:HA.holds w c (.pt t e i K xs v m)):HA.holds w c (.tr t e i f xs v):=by
 rcases h with⟨rfl,rfl⟩|⟨d,e0,s,ys,a,hl,l,k,q⟩
 ·exact cJ.nil
 ·show cJ w (λb=>c b=i) (.slice t) (gq e) xs v;rw[a];exact⟨d,.inr ⟨e0,s,rfl,ys,hl,l,λj x y n p=>k j x y (by grind) n p⟩⟩
theorem Tf{ty:Ty}{e:TypeId}{s:EI}{Kn:List Nat}{xs:List ty.den}{h:Hd}{k:Nat}{v:Value}{O xn:ty.den}(j:Nat)(hj:L[j]?=some (.pt ty e i K xs h (k:Int)))(T:gq e=.row e0 s)(ho:o.op=.store t x y)(hi:TI P t sz by_ z)
  (hx:aL ρ x=.pointer (some (di h (k*ty.sz+off)))) (hy:aL ρ y=v) (hv:v.cells=vs.toArray) (hl:Nat.beq vs.length sz=true) (J:vs.all Value.oneCell'=true) (hin:off+vs.length<=ty.sz) (Z:xs[k]?=some O)
  (I:∀F:ty.Refs,∃E:ty.Refs,ty.fill xn E=(ty.fill O F).take off++vs++(ty.fill O F).drop (off+vs.length)/\∀w c,ao w c L->cJ w (λb=>c b∈Kn) ty s xn E)
  (h2:Nat.ble 2 i=true) (hn:bU i Kn=false) (hK:K.all (λq=>!(bU q (i::Kn)))=true) :
  cN P ρ o L (i::Kn) (λ_:Unit=>undef) (λ_=>[.pt ty e i K (xs.set k xn) h (k+1:Nat),.rep ty (i::K) (xs.set k xn) h]):=by
 classical
 intro a ev w c next Q ha hL hk
 have M:=hi;clear hi;obtain⟨inf,hi,_,rfl,_⟩:=M.get;have hi2:=abM h2;have hn':i∉Kn:=λhc=>by rw[mem_iff.2 hc]at hn;cases hn
 have hK':∀q∈K,q≠i/\q∉Kn:=λq hq=>by grind[List.all_eq_true,Bool.not_eq_true',mem_iff]
 have m:k<xs.length:=(aeI.1 Z).1;rcases(show zN w (λb=>c b=i) (λb=>c b∈K) ty e xs h k from hL.at hj)with⟨_,rfl⟩|⟨d,e0',s',ys,he,D,⟨g,cap,l,rfl,g2,g3,g4,g5,g6,g7,g8⟩,hT,hR⟩
 ·simp at m
 rw[T]at he;cases he;obtain⟨F,hyo⟩:∃F,ys[k]?=some F:=⟨ys[k]'(by omega),acz _⟩
 obtain⟨E,hf1,hf2⟩:=I F;have H:=hf2 w c hL;have hfl:(ty.fill O F).length=ty.sz:=ty.fill_length _ _;rw[<-uE D Z hyo]at g6;obtain⟨c1,c2⟩:=mt (cs:=ty.fill O F) D m hfl;have m1:(k+1)*ty.sz<=xs.length*ty.sz:=aeL _ m;have m2:xs.length*ty.sz<=cap*ty.sz:=aeL _ g3;rw[ago,akz]at m1;have G:l.toList=cellsOf ty (xs.take k) (ys.take k)++ty.fill O F++cellsOf ty (xs.drop (k+1)) (ys.drop (k+1))++l.toList.drop (xs.length*ty.sz):=by grind[cellsOf,fI,List.take_append_drop]
 have hp:di ⟨some ⟨g,0,none⟩,xs.length,cap⟩ (k*ty.sz+off)=⟨g,k*ty.sz+off,none⟩:=by simp[di]
 have hst:=my P g (k*ty.sz+off) e0 (0,0) vs l w g2 (.inl rfl) (by omega) (DH J);have W:(execOp ev o).run P w=.ok .skip (w.setRow g (l.toList.take (k*ty.sz+off)++vs++l.toList.drop (k*ty.sz+off+vs.length)).toArray):=by simp[execOp,ho,ha,hx,hp,hy,Instr.storeAt,Instr.sureAddr,storeVar,hv,sizeOf,typeInfo,hi,f9 hl,hst,Result.andThen]
 rw[W];have e1:l.toList.take (k*ty.sz+off)++vs++l.toList.drop (k*ty.sz+off+vs.length)=fI ty xs ys k (ty.fill xn E)++l.toList.drop (xs.length*ty.sz):=by generalize hC:l.toList.drop (xs.length*ty.sz)=C at G;rw[G,hf1];exact Iz c2 (by omega)
 rw[e1];obtain⟨c3,_⟩:=mt (cs:=ty.fill xn E) D m (ty.fill_length _ _);let cc:aS:=λb=>if c b∈Kn then i else c b
 have hgK:c g∉Kn:=λn=>hn' (by grind);have p:∀b,b≠g->(w.setRow g (fI ty xs ys k (ty.fill xn E)++l.toList.drop (xs.length*ty.sz)).toArray).heap[b]?=w.heap[b]?:=λb n=>by grind[World.setRow]
 have Y:Stp (i::Kn) w c (w.setRow g (fI ty xs ys k (ty.fill xn E)++l.toList.drop (xs.length*ty.sz)).toArray) cc:=by
  refine⟨by rw[y0];grind,λb _ n=>?_,λb _ n=>?_,λb n hb2=>?_,⟨rfl,rfl⟩⟩
  ·grind
  ·grind
  grind[y0]
 have R:HA.holds (w.setRow g (fI ty xs ys k (ty.fill xn E)++l.toList.drop (xs.length*ty.sz)).toArray) cc (.pt ty e i K (xs.set k xn) ⟨some ⟨g,0,none⟩,xs.length,cap⟩ (k+1:Nat)):=by
  obtain⟨d2,H⟩:=H;have U:cc g=i:=by grind
  refine .inr ⟨λb=>if c b∈Kn then d2 b++[k]else d b,e0,s,ys.set k E,T,by grind,⟨g,cap,_,by grind,setRow_heap w g l _ e0 (0,0) g2,by grind,g4,?_,?_,U,?_⟩,λq x' y' hq r B => ?_,λq x' y' hq r B => ?_⟩
  ·grind
  ·rw[afa,uy D m];grind
  ·grind
  ·by_cases V:q=k
   ·subst V;rw[afF m]at r;rw[afF (by omega)]at B;cases r;cases B;have h1:bD w (λb=>c b∈Kn) (λb=>d2 b++[q]) ty s [q] xn E:=bD.ren (f:=λσ=>σ++[q]) (π0:=[]) (λ_ _ _=>rfl) (λb n _=>⟨n,rfl⟩) ty s [] xn E ⟨[],rfl⟩ H;have h2:bD w (λb=>c b∈Kn) (λb=>if c b∈Kn then d2 b++[q]else d b) ty s [q] xn E:=bD.re (π0:=[q]) (λb n _=>⟨n,by simp[n]⟩) (eQ _) h1;refine bD.keep (λb _ (n:c b∈Kn)=>⟨?_,p b λe=>hgK (by grind)⟩) ty s _ _ _ h2;grind
   ·rw[agN (by omega)]at r B;have h0:=hT q x' y' (by omega) r B;have h1:bD w (λb=>c b=i/\b≠g) (λb=>if c b∈Kn then d2 b++[k]else d b) ty s [q] x' y':=bD.re (π0:=[q]) (λb (n:c b=i) hu=>⟨⟨n,λe=>by
     grind[uU]⟩,by grind⟩) (eQ _) h0
    refine bD.keep (λb _ n=>⟨?_,p b n.2⟩) ty s _ _ _ h1;grind
  ·have V:q≠k:=by omega
   rw[agN (by omega)]at r B;refine bH.keep (S:=λb=>c b∈K) (λb _ (n:c b∈K)=>⟨?_,p b λe=>?_⟩) ty _ _ (hR q x' y' (by omega) r B)
   ·grind
   grind
 exact hk () _ cc Y (ao.cons R (ao.cons (NW R) (ao.nil _ _)))
end
theorem Fv{e:TypeId}{i:TypeInfo}(F:P.underlying t=some (.slice e))(H:P.underlying u=some .string)(hi:P.info? e=some i)(M:i.zero=some (.int .u8 0))(hs:i.size=1)(f:i.bytes=1)
  {h:Hd} {n:Nat}  (a:w.ownsRow 0 e 1 h.val n xs) (s:ByteArray) (q:n+s.size<=maxLen) (b:n+s.size<=140737488355328) :
  ∃(h':Hd) (w':World),(Builtin.append_ #[t,u] ty #[h.val,.string s]).run P w=.ok h'.val w'/\w'.ownsRow 0 e 1 h'.val (n+s.size) (xs++Lib.strCells s)/\w.grownBy w' h.val.ownBlock /\
   (∀g,h'.val.ownBlock=some g->h.val.ownBlock=some g\/w.heap.size<=g):=by
 have B:∀(m:Value) (w':World),w'.ownsRow 0 e 1 m (n+s.size) (xs++Lib.strCells s)->∃h':Hd,m=h'.val:=by
  intro m w' Y;rcases Y.2 with⟨rfl,_⟩|⟨g,cap,c,rfl,_⟩
  ·exact⟨⟨none,0,0⟩,rfl⟩
  ·exact⟨⟨some ⟨g,0,none⟩,n+s.size,cap⟩,rfl⟩
 obtain⟨v0,J⟩:∃v,v=h.val:=⟨_,rfl⟩
 rw[<-J]at a|-;rcases a.2 with⟨r,D⟩|⟨g,cap,c,I,_,R,W,U,V,G⟩
 ·have k:w.ownsRow w.heap.size e 1 v0 n xs:=⟨a.1,.inl ⟨r,D⟩⟩
  obtain⟨m,w',T,C,O,_⟩:=Lib.run_append_own_string (P:=P) w w.heap.size t u ty e i F H hi M hs f _ n xs k s q b (ad3 _);have p:w'.ownsRow 0 e 1 m (n+s.size) (xs++Lib.strCells s):=⟨C.1,C.2.imp id λ⟨g,cap,c,I,_,l⟩=>⟨g,cap,c,I,ahT _,l⟩⟩
  obtain⟨h',rfl⟩:=B m w' p;exact⟨h',w',T,p,O,λg R=>.inr (C.lt g R).1⟩
 ·obtain⟨m,w',T,C,O,_⟩:=Lib.run_append_own_string (P:=P) w 0 t u ty e i F H hi M hs f _ n xs a s q b (ahT _);have Q:c.size=cap:=by grind
  by_cases E:n+s.size<=cap
  ·grind[Value.ownBlock,Lib.run_append_room_string,Result.ok.injEq]
  ·have holds:∀j u,xs[j]?=some u->w.cell? ((⟨g,0,none⟩:Addr).add j)=some u:=a.cells (g:=g) (by rw[I];rfl);have Z:=Lib.run_append_grow_string (P:=P) w t u ty e i (.int .u8 0) F H hi M ⟨g,0,none⟩ n cap xs (by grind) holds s (by omega) (by grind) (by rw[f];exact growslice_fits (by omega) (by omega));grind[Value.ownBlock]
section
variable {P:Program} {ρ:dm} {L:List HA} {o:Oper}
abbrev GA:Ty:=.one Int (λx=>.int .u8 x) (λ_=>rfl)
theorem Sv:∀(l:List UInt8),(l.map λb=>Value.int .u8 b.toNat)=cellsOf GA (l.map λb=>(b.toNat:Int)) (List.replicate l.length ())
 |[]=>rfl
 |b::r=>by simp only[aev,aeH,ag5,cellsOf,Sv r];rfl
theorem JQ{e:TypeId}{s:Operand}{xs:List Int}{h:Hd}{l:List UInt8}(j:Nat)
  (W:L[j]?=some (.own GA e ci K xs h)) (Z:o.op=.call { callee:=.builtin .append,args:=#[s,x],argTypes:=#[t,u]}) (ht:P.underlying t=some (.slice e)) (hu:P.underlying u=some .string) (hi:TI P e sz by_ (.int .u8 0)) (hs:Nat.beq sz 1=true) (R:Nat.beq by_ 1=true)
  (F:aL ρ s=h.val) (I:aL ρ x=.string ⟨l.toArray⟩)
  (m:decide ((xs.length+l.length)*by_<=140737488355328/\xs.length+l.length<=maxLen)=true) (D:Nat.ble 2 ci=true) (U:Nat.blt e 1048576=true) :
  cN P ρ o L [ci] Hd.val (λh'=>[.own GA e ci K (xs++l.map λb=>(b.toNat:Int)) h']):=by
 intro a ev w c next Q ha O Y
 have n:=hi;clear hi;obtain⟨inf,hi,hz,hs1,T⟩:=n.get;obtain⟨rs,r,f,k⟩:=O.at W;obtain⟨C,M⟩:=aex m;have hs':=f9 hs;have B:=f9 R;rw[B,ahv]at C;replace f:w.ownsRow 0 e 1 h.val xs.length (cellsOf GA xs rs):=f.plain U;have H:(⟨l.toArray⟩:ByteArray).size=l.length:=by rfl
 obtain⟨h',w',v,q,V,p⟩:=Fv (P:=P) (ty:=o.type) ht hu hi hz (by omega) (by omega) f ⟨l.toArray⟩ (by omega) (by omega);have E:(execOp ev o).run P w=.ok (.value h'.val) w':=by simp[execOp,Z,ha,F,I,resolve,invoke,builtin,v,Result.andThen]
 rw[E];have G:=yA D V k;refine Y h' w' _ G (ao.cons ⟨rs++List.replicate l.length (),?_,?_,DG p k⟩ (ao.nil _ _))
 ·exact(r.mono λx y _=>bH.pure GA x y rfl).append (kv (by simp) λj x y _ _=>bH.pure GA x y rfl)
 ·rw[eF GA r.length,<-Sv];have J:Lib.strCells ⟨l.toArray⟩=l.map λb=>Value.int .u8 b.toNat:=by rfl
  rw[H,J]at q;have:=zU q;grind
end
section
variable {P:Program} {ρ:dm} {L:List HA} {o:Oper}
def Aa(x y z u:Int):Int:=let a:=if y<x then y else x;let b:=if z<a then z else a;if u<b then u else b
theorem Ot(ts:Array TypeId)(t:TypeId)(a b c e:IntKind)(x y z u:Int):(Builtin.min_ ts t #[.int a x,.int b y,.int c z,.int e u]).run P w=.ok (.int a (Aa x y z u)) w:=by rfl
theorem avg{ts:Array TypeId}{z u:Operand}{k:IntKind}{a b c d:Int}(f:o.op=.call { callee:=.builtin .min,args:=#[x,y,z,u],argTypes:=ts})(l:aL ρ x=.int k a)(m:aL ρ y=.int k b)(n:aL ρ z=.int k c)(h:aL ρ u=.int k d) :
  aZ P ρ o L (.int k (Aa a b c d)):=λev w c e _=>by
 subst e;simp[execOp,f,l,m,n,h,resolve,invoke,builtin,Ot,Result.andThen]
theorem Tt{ty:Ty}{e:TypeId}{xs:List ty.den}{h:Hd}{k:Nat}{v:Value}{F xn:ty.den}(j:Nat)(hj:L[j]?=some (.tr ty e i K xs h))(ho:o.op=.store t x y)(hi:TI P t sz by_ z)
  (hx:aL ρ x=.pointer (some (di h (k*ty.sz+off)))) (hy:aL ρ y=v) (hv:v.cells=vs.toArray) (hl:Nat.beq vs.length sz=true) (B:vs.all Value.oneCell'=true) (hin:off+vs.length<=ty.sz) (I:xs[k]?=some F)
  (r:∀l:ty.Refs,ty.fill xn l=(ty.fill F l).take off++vs++(ty.fill F l).drop (off+vs.length))
  (T:∀(w:World) (S:Nat->Prop) (d:Nat->List Nat) (ε:EI) (π:List Nat) (l:ty.Refs),bD w S d ty ε π F l->bD w S d ty ε π xn l) :
  cN P ρ o L [i] (λ_:Unit=>undef) (λ_=>[.tr ty e i K (xs.set k xn) h]):=by
 intro a ev w c next Q ha hL hk
 have E:=hi;clear hi;obtain⟨inf,hi,_,rfl,_⟩:=E.get;have m:k<xs.length:=(aeI.1 I).1;obtain⟨d,Z⟩:=(show cJ w (λb=>c b=i) (.slice ty) (gq e) xs h from hL.at hj)
 rcases Z with⟨_,rfl⟩|⟨e0,s,J,ys,n,⟨g,cap,f,rfl,V,g3,g4,g5,g6,W,Y⟩,Z⟩
 ·simp at m
 obtain⟨l,U⟩:∃l,ys[k]?=some l:=⟨ys[k]'(by omega),acz _⟩
 have M:=r l;have O:(ty.fill F l).length=ty.sz:=ty.fill_length _ _;rw[<-uE n I U]at g6;obtain⟨c1,c2⟩:=mt (cs:=ty.fill F l) n m O;have m1:(k+1)*ty.sz<=xs.length*ty.sz:=aeL _ m;have m2:xs.length*ty.sz<=cap*ty.sz:=aeL _ g3;rw[ago,akz]at m1;have p:f.toList=cellsOf ty (xs.take k) (ys.take k)++ty.fill F l++cellsOf ty (xs.drop (k+1)) (ys.drop (k+1))++f.toList.drop (xs.length*ty.sz):=by grind[cellsOf,fI,List.take_append_drop]
 have hp:di ⟨some ⟨g,0,none⟩,xs.length,cap⟩ (k*ty.sz+off)=⟨g,k*ty.sz+off,none⟩:=by simp[di]
 have R:=my P g (k*ty.sz+off) e0 (0,0) vs f w V (.inl rfl) (by omega) (DH B);have H:(execOp ev o).run P w=.ok .skip (w.setRow g (f.toList.take (k*ty.sz+off)++vs++f.toList.drop (k*ty.sz+off+vs.length)).toArray):=by simp[execOp,ho,ha,hx,hp,hy,Instr.storeAt,Instr.sureAddr,storeVar,hv,sizeOf,typeInfo,hi,f9 hl,R,Result.andThen]
 rw[H];have e1:f.toList.take (k*ty.sz+off)++vs++f.toList.drop (k*ty.sz+off+vs.length)=fI ty xs ys k (ty.fill xn l)++f.toList.drop (xs.length*ty.sz):=by generalize hC:f.toList.drop (xs.length*ty.sz)=C at p;rw[p,M];exact Iz c2 (by omega)
 rw[e1];obtain⟨c3,_⟩:=mt (cs:=ty.fill xn l) n m (ty.fill_length _ _);have D:∀b,b≠g->(w.setRow g (fI ty xs ys k (ty.fill xn l)++f.toList.drop (xs.length*ty.sz)).toArray).heap[b]?=w.heap[b]?:=λb G=>by grind[World.setRow]
 have hys:ys.set k l=ys:=by refine afQ λq=>?_;grind
 refine hk () _ c (sB (i:=i) W) (ao.cons ?_ (ao.nil _ _));show cJ _ (λb=>c b=i) (.slice ty) (gq e) (xs.set k xn) _;rw[J];refine⟨d,.inr ⟨e0,s,rfl,ys,by grind,⟨g,cap,_,by grind,setRow_heap w g f _ e0 (0,0) V,by grind,g4,?_,?_,W,Y⟩,λq x' y' hx' hy' => ?_⟩⟩
 ·grind
 ·grind[List.length_set,uy]
 ·have h0:bD w (λb=>c b=i) d ty s [q] x' y':=by
   grind
  have h1:bD w (λb=>c b=i/\b≠g) d ty s [q] x' y':=bD.re (π0:=[q]) (λb G hu=>⟨⟨G,λe=>by subst e;rw[Y]at hu;exact uU hu rfl⟩,rfl⟩) (eQ _) h0;exact bD.keep (λb _ G=>⟨G.1,D b G.2⟩) ty s _ _ _ h1
end
theorem Ew{e:TypeId}{ku:IntKind}{i:TypeInfo}(Q:P.underlying t=some (.slice e))(R:P.underlying u=some (.int ku))(hi:P.info? e=some i)(T:i.zero=some z)(U:z.cells.size=i.size)(hsz:0<i.size)
  {h:Hd} {n m:Nat}  (a:w.ownsRow 0 e i.size h.val n xs) (h1:∀u∈(Builtin.zeroCells z.cells m).toList,u.oneCell'=true) (J:n+m<=maxLen) (B:(n+m)*i.bytes<=140737488355328) :
  ∃(h':Hd) (w':World),(Builtin.append_ #[t,u] ty #[h.val,.int .i64 m]).run P w=.ok h'.val w'/\w'.ownsRow 0 e i.size h'.val (n+m) (xs++(Builtin.zeroCells z.cells m).toList)/\w.grownBy w' h.val.ownBlock /\
   (∀g,h'.val.ownBlock=some g->h.val.ownBlock=some g\/w.heap.size<=g):=by
 have V:n+m<=9223372036854775807:=by simp only[maxLen]at J;omega
 have c:IntKind.i64.wrap (m:Int)=m:=wrap_small m (by omega) (by omega);have hl:(Builtin.zeroCells z.cells m).size=m*i.size:=by rw[size_zeroCells,U]
 have E:(xs++(Builtin.zeroCells z.cells m).toList).length=(n+m)*i.size:=by rw[acA,a.1,amd,hl,ago]
 have H:¬(281474976710656<(m:Int)*(i.bytes:Int)):=by grind
 have M:(if m*i.size=0 then(pure #[]:Sem (Array Value))else do pure (Builtin.zeroCells z.cells m))=pure (Builtin.zeroCells z.cells m):=by grind
 have G:¬((m:Int)<0):=by omega
 have p:∀(old:Nat),old<n+m->∀(row:Option Nat),
   (w.drew.alloc (.cells (xs.toArray++Builtin.zeroCells z.cells m++Builtin.zeroCells z.cells (grownCap w (n+m) old e-(n+m))) e)).ownsRow 0 e i.size
    (.slice (some ⟨w.heap.size,0,none⟩) (n+m) (grownCap w (n+m) old e)) (n+m) (xs++(Builtin.zeroCells z.cells m).toList) /\
   w.grownBy (w.drew.alloc (.cells (xs.toArray++Builtin.zeroCells z.cells m++Builtin.zeroCells z.cells (grownCap w (n+m) old e-(n+m))) e)) row:=by
  intro old ho row;have hge:=grownCap_ge w (n+m) old e;have F:grownCap w (n+m) old e<=maxLen:=grownCap_le_maxLen w (n+m) old e J;refine⟨⟨E,.inr ⟨w.heap.size,_,_,rfl,ahT _,heap_alloc_new w.drew _,hge,F,?_,?_⟩⟩,⟨rfl,rfl,rfl,by simp,λk hk _=>by show(w.heap.push _)[k]?=_;grind⟩⟩
  ·simp only[Array.size_append,aiu,size_zeroCells,U,a.1,<-ago];grind
  grind
 obtain⟨v0,hv0⟩:∃v,v=h.val:=⟨_,rfl⟩
 rw[<-hv0]at a|-;rcases a.2 with⟨rfl,rfl⟩|⟨g,cap,f,rfl,Y,D,hnc,F,Z,htake⟩
 ·have hx:xs=[]:=afG (by grind);subst hx;by_cases O:m=0
  ·subst O;refine⟨⟨none,0,0⟩,w,?_,?_,⟨rfl,rfl,rfl,ad3 _,λ_ _ _=>rfl⟩,λg D=>by grind⟩
   ·simp[Builtin.append_,run_underlying Q,run_underlying R,sizeOf,typeInfo,hi,T,zeroValue,asInt,asIntOf,wrap_small 0 (by omega) (by omega),Hd.val]
   grind
  ·have q:¬(281474976710656<Builtin.nextslicecap m 0*i.bytes):=by
    rw[nextslicecap_zero (by omega)];grind
   have r:¬(9223372036854775807<(m:Int)):=by omega
   have l:=p 0 (by omega) (Value.ownBlock (.slice none 0 0));simp only[ahw,ae4,Array.empty_append]at l|-;refine⟨⟨some ⟨w.heap.size,0,none⟩,m,grownCap w m 0 e⟩,_,?_,l.1,l.2,λg D=>.inr ?_⟩
   ·simp[Builtin.append_,run_underlying Q,run_underlying R,sizeOf,typeInfo,hi,T,zeroValue,asInt,asIntOf,c,O,G,H,q,r,Builtin.firstCells,Question.forced,newRow,grownCap,Hd.val,M];grind
   ·simp[Hd.val,Value.ownBlock]at D;omega
 ·have hh:∃W:Hd,W=⟨some ⟨g,0,none⟩,n,cap⟩:=⟨_,rfl⟩
  by_cases b:n+m<=cap
  ·have hfit:n*i.size+(Builtin.zeroCells z.cells m).toList.length<=f.size:=by rw[amd,hl,Z,<-ago];exact aeL _ b
   have C:=run_storeCells_at P g (n*i.size) e (Builtin.zeroCells z.cells m).toList 0 f w D (by grind) h1;simp only[afu]at C;refine⟨⟨some ⟨g,0,none⟩,n+m,cap⟩,w.setRow g (f.toList.take (n*i.size)++(Builtin.zeroCells z.cells m).toList++f.toList.drop (n*i.size+(Builtin.zeroCells z.cells m).toList.length)).toArray,?_,⟨E,.inr ⟨g,cap,_,rfl,Y,setRow_heap w g f _ e _ D,b,F,?_,?_⟩⟩,⟨rfl,rfl,rfl,by simp,λk _ hk=>setRow_other w g k _ (λe=>hk (by simp[Value.ownBlock,e]))⟩,λg' hg'=>.inl (by simpa[Value.ownBlock]using hg')⟩
   ·by_cases O:m=0
    ·subst O;simp only[Nat.zero_mul,afu]at hl C|-;have W:Builtin.zeroCells z.cells 0 = #[]:=Array.eq_empty_of_size_eq_zero hl;rw[W]at C|-;simp[Builtin.append_,run_underlying Q,run_underlying R,sizeOf,typeInfo,hi,T,zeroValue,asInt,asIntOf,wrap_small 0 (by omega) (by omega),hnc,Addr.add_lit,storeCells];exact(setRow_self w g f e (0,0) D).symm
    ·have I:¬(m*i.size=0):=Nat.mul_ne_zero O (by omega);simp[Builtin.append_,run_underlying Q,run_underlying R,sizeOf,typeInfo,hi,T,zeroValue,asInt,asIntOf,c,G,H,b,I,Addr.add_lit,C]
   ·grind
   grind
  ·have holds:∀j u,xs[j]?=some u->w.cell? ((⟨g,0,none⟩:Addr).add j)=some u:=a.cells (g:=g) rfl;have hn:¬(n+m<=cap):=b;have I:¬(m*i.size=0):=Nat.mul_ne_zero (by omega) (by omega);have r:¬(9223372036854775807<((n:Int)+(m:Int))):=by omega
   have q:¬(281474976710656<Builtin.nextslicecap (n+m) cap*i.bytes):=by have:=growslice_fits (show cap<n+m by omega) B;omega
   have hfo:=run_firstCells_some (P:=P) w.drew i.size n ⟨g,0,none⟩ n cap xs a.1 (by simp_all);have l:=p cap (by omega) (Value.ownBlock (.slice (some ⟨g,0,none⟩) n cap));refine⟨⟨some ⟨w.heap.size,0,none⟩,n+m,grownCap w (n+m) cap e⟩,_,?_,l.1,l.2,λg D=>.inr ?_⟩
   ·simp[Builtin.append_,run_underlying Q,run_underlying R,sizeOf,typeInfo,hi,T,zeroValue,asInt,asIntOf,c,G,H,hn,I,q,r,hfo,Question.forced,newRow,grownCap,Hd.val]
   ·simp[Value.ownBlock]at D;omega
section
variable {P:Program} {ρ:dm} {L:List HA} {o:Oper}
theorem acl(z:Array Value)(m:Nat):Builtin.zeroCells z m=madeCells z (m*z.size):=rfl
theorem S9{e:TypeId}{ku:IntKind}{s:Operand}{ty:Ty}{xs:List ty.den}{h:Hd}{l:Int}{v:ty.den}{r:ty.Refs}(f:ty.pureB=true)(j:Nat)
  (hj:L[j]?=some (.own ty e ci K xs h)) (ho:o.op=.call { callee:=.builtin .append,args:=#[s,x],argTypes:=#[t,u]}) (ht:P.underlying t=some (.slice e)) (hu:P.underlying u=some (.int ku)) (hi:TI P e sz by_ z) (hs:sz=ty.sz) (U:Nat.ble 1 sz=true)
  (hz:z.cells=(ty.fill v r).toArray) (R:aL ρ s=h.val) (V:aL ρ x=.int .i64 l)
  (p:decide (0<=l/\(xs.length+l.toNat)*by_<=140737488355328/\xs.length+l.toNat<=maxLen)=true) (J:Nat.ble 2 ci=true) (he:Nat.blt e 1048576=true) :
  cN P ρ o L [ci] Hd.val (λh'=>[.own ty e ci K (xs++List.replicate l.toNat v) h']):=by
 intro a ev w c next Q ha Z hk
 have B:=hi;clear hi;obtain⟨G,hi,W,q,hb1⟩:=B.get;obtain⟨rs,D,b,n⟩:=Z.at hj;obtain⟨h0,I,H⟩:=aex p;obtain⟨m,rfl⟩:∃m:Nat,l=m:=⟨l.toNat,by omega⟩
 simp only[ac6]at I H|-;have F:z.cells.size=G.size:=by rw[hz,aiu,ty.fill_length,<-hs,<-q]
 have k:(Builtin.zeroCells z.cells m).toList=cellsOf ty (List.replicate m v) (List.replicate m r):=by grind[AC,acl,List.size_toArray]
 replace b:w.ownsRow 0 e G.size h.val xs.length (cellsOf ty xs rs):=by rw[q,hs];exact b.plain he
 have Y:=abM U;obtain⟨h',w',E,O,hg,C⟩:=Ew (P:=P) (ty:=o.type) (m:=m) ht hu hi W F (by omega) b (by rw[k];exact jv ty) (by omega) (by grind);have M:(execOp ev o).run P w=.ok (.value h'.val) w':=by simp[execOp,ho,ha,R,V,resolve,invoke,builtin,E,Result.andThen]
 rw[M];have T:=yA J hg n;refine hk h' w' _ T (ao.cons (show(HA.own ty e ci K (xs++List.replicate m v) h').holds w' _ from⟨rs++List.replicate m r,?_,?_,DG C n⟩) (ao.nil _ _))
 ·exact(D.mono λx y _=>bH.pure ty x y f).append (vF (bH.pure ty v r f) m)
 ·rw[eF ty D.length,<-k,acA,agu,<-hs,<-q];exact zU O
end
def Oa(w:World)(ty:Ty)(ys:List ty.den)(s:Hd):Prop:=∃rs:List ty.Refs,ys.length=rs.length/\s.n=ys.length/\(ys.length=0\/∃b o,s.a=some ⟨b,o,none⟩/\∀j u,(cellsOf ty ys rs)[j]?=some u->w.cell? ⟨b,o+j,none⟩=some u)
theorem Iu{c:aS}{ty:Ty}{ys:List ty.den}{s:Hd}(h:HA.holds w c (.rep ty K ys s)):Oa w ty ys s:=by obtain⟨rs,e,b,a,k,f⟩:=h;refine⟨rs,e.length,b,?_⟩;grind[mT]
theorem arR{ty:Ty}{xs:List ty.den}{s u:Hd}(n:ty.sz=1)(h:Oa w ty xs u)(l:lm s u 1 lo hi)(B:lo<=hi/\hi<=xs.length):Oa w ty ((xs.take hi.toNat).drop lo.toNat) s:=by
 obtain⟨rs,hl,C,f⟩:=h;obtain⟨r,m,e⟩:=l;have k:((xs.take hi.toNat).drop lo.toNat).length=hi.toNat-lo.toNat:=by grind
 refine⟨(rs.take hi.toNat).drop lo.toNat,by simp[hl],by grind,?_⟩;by_cases c:lo<hi
 ·obtain⟨b,o,ha,D⟩:=e c;right;refine⟨_,_,ha,λj v E=>?_⟩;rcases f with f|⟨q,F,p,a⟩
  ·omega
  grind[di,rQ,jl,Addr.mk.injEq]
 grind
theorem On{dT sT e:TypeId}(O:P.underlying dT=some (.slice e'))(hs:(P.info? e').map (·.size)=some 1){h d s:Hd}{n:Nat}{ys:List Value}(l:w.ownsRow 0 e 1 h.val n xs)
  (Z:lm d h 1 lo hi) (hb:lo<=hi/\hi<=n) (hsn:s.n=ys.length) (C:ys.length=0\/∃a,s.a=some a/\∀j u,ys[j]?=some u->w.cell? (a.add j)=some u) (T:∀v∈ys,v.oneCell'=true) :
  ∃w',(Builtin.copy_ #[dT,sT] ty #[d.val,s.val]).run P w=.ok (.int .i64 ((min (hi-lo).toNat ys.length:Nat):Int)) w' /\
   w'.ownsRow 0 e 1 h.val n (xs.take lo.toNat++ys.take (min (hi-lo).toNat ys.length)++xs.drop (lo.toNat+min (hi-lo).toNat ys.length))/\w.grownBy w' h.val.ownBlock:=by
 obtain⟨h0,W,I⟩:=Z;obtain⟨k,G⟩:∃k,k=min (hi-lo).toNat ys.length:=⟨_,rfl⟩
 rw[<-G];by_cases r:k=0
 ·refine⟨w,?_,?_,⟨rfl,rfl,rfl,ad3 _,λ_ _ _=>rfl⟩⟩
  ·rw[r];exact run_copy_none w dT sT ty e' d.a s.a d.n d.cap s.n s.cap O hs (by grind)
  ·rw[r];simpa using l
 ·obtain⟨b,o,F,m⟩:=I (by omega);rcases C with C|⟨a,J,p⟩
  ·omega
  ·have B:(ys.take k).length=k:=by grind
   rcases l.2 with⟨q,Y⟩|⟨g,cap,c,q,D,M,H,E,V,f⟩
   ·omega
   ·simp only[Hd.val,Value.slice.injEq]at q;obtain⟨v1,v2,v3⟩:=q;simp only[di,v1,ahv,ahw,Addr.mk.injEq,aqi]at m;obtain⟨rfl,rfl⟩:=m;have hxl:xs.length=n:=by grind
    have hr:=run_copy_row (P:=P) w dT sT ty e' g lo.toNat d.n d.cap a s.n s.cap c e (ys.take k) O hs M (by grind)
     (λj v q=>p j v (by grind)) (by grind) (λv q=>T v (agT q))
    refine⟨w.setRow g (c.toList.take lo.toNat++ys.take k++c.toList.drop (lo.toNat+(ys.take k).length)).toArray,?_,⟨?_,.inr ⟨g,cap,_,by grind,D,setRow_heap w g c _ e _ M,H,E,?_,?_⟩⟩,⟨rfl,rfl,rfl,by simp,λk _ G=>setRow_other w g k _ (λe=>G (by simp[Hd.val,v1,Value.ownBlock,e]))⟩⟩
    ·simpa only[Hd.val,F,J,B,goInt]using hr
    ·grind
    ·grind
    ·have U:c.toList.length=cap:=by grind
     rw[ahv]at f;have Q:xs.take lo.toNat=c.toList.take lo.toNat:=by grind
     have R:xs.drop (lo.toNat+k)=(c.toList.drop (lo.toNat+k)).take (n-(lo.toNat+k)):=by rw[<-f,agI]
     have l1:(c.toList.take lo.toNat++ys.take k).length=lo.toNat+k:=by grind
     rw[Q,R,B,ahv,af4,l1,aeQ (by omega)]
section
variable {P:Program} {ρ:dm} {L:List HA} {o:Oper}
theorem arm{e:TypeId}{ty:Ty}{xs ys:List ty.den}{h d s:Hd}(p:ty.pureB=true)(T:Nat.beq ty.sz 1=true)(j:Nat)
  (Y:L[j]?=some (.own ty e ci K xs h)) (hd:∀w c,ao w c L->lm d h 1 lo hi) (F:∀w c,ao w c L->Oa w ty ys s) (ho:o.op=.call { callee:=.builtin .copy,args:=#[x,y],argTypes:=#[t,u]}) (ht:P.underlying t=some (.slice e')) (n:TI P e' sz by_ z) (hs:Nat.beq sz 1=true)
  (hx:aL ρ x=d.val) (hy:aL ρ y=s.val) (U:decide (lo<=hi/\hi<=xs.length)=true) (I:Nat.ble 2 ci=true) (W:Nat.blt e 1048576=true) :
  cN P ρ o L [ci] (λ_:Unit=>.int .i64 ((min (hi-lo).toNat ys.length:Nat):Int)) (λ_=>[.own ty e ci K (xs.take lo.toNat++ys.take (min (hi-lo).toNat ys.length)++xs.drop (lo.toNat+min (hi-lo).toNat ys.length)) h]):=by
 intro a ev w c next Q ha G Z
 have q:=n;clear n;obtain⟨inf,n,hzz,hs1,v⟩:=q.get;obtain⟨rs,k,b,l⟩:=G.at Y;obtain⟨r,B,O,V⟩:=F w c G;obtain⟨v,H⟩:=aex U;have f:=f9 T;have hs':=f9 hs;have C:(cellsOf ty ys r).length=ys.length:=by rw[cO ty B,f,ahv]
 replace b:w.ownsRow 0 e 1 h.val xs.length (cellsOf ty xs rs):=by rw[<-f];exact b.plain W
 obtain⟨w',m,E,M⟩:=On (P:=P) (ty:=o.type) (sT:=u) ht (by grind) b (hd w c G) ⟨v,H⟩ (ys:=cellsOf ty ys r) (by rw[C];exact O) (by grind[id,eT]) (jv ty);rw[C]at m E;have J:(execOp ev o).run P w=.ok (.value (.int .i64 ((min (hi-lo).toNat ys.length:Nat):Int))) w':=by simp[execOp,ho,ha,hx,hy,resolve,invoke,builtin,m,Result.andThen]
 rw[J];have R:=yA I M l;have hlo:=(hd w c G).1;have D:(xs.take lo.toNat++ys.take (min (hi-lo).toNat ys.length)++xs.drop (lo.toNat+min (hi-lo).toNat ys.length)).length=xs.length:=by grind
 refine Z () w' _ R (ao.cons (show(HA.own ty e ci K _ h).holds w' _ from⟨rs.take lo.toNat++r.take (min (hi-lo).toNat ys.length)++rs.drop (lo.toNat+min (hi-lo).toNat ys.length),?_,?_,DG (λg M=>.inl M) l⟩) (ao.nil _ _))
 ·exact kv (by have:=k.length;grind) λj x y _ _=>bH.pure ty x y p
 ·have:=k.length;rw[D,eF ty (by grind),eF ty (by grind),jl ty _ k.length,jl ty _ B,rQ ty _ k.length,f];simp only[ahv];exact zU E
theorem S7{e:TypeId}{klo:IntKind}{i:Int}{ty:Ty}{xs:List ty.den}{h:Hd}(k:Nat)(r:L[k]?=some (.own ty e ci K xs h))(J:o.op=.slice t x (some y) none none)
  (O:P.underlying t=some (.slice e)) (n:TI P e sz by_ z) (hs:sz=ty.sz) (C:Nat.beq sz 1=true) (T:aL ρ x=h.val) (l:aL ρ y=.int klo i) (p:decide (0<=i/\i<=(xs.length:Int)/\(xs.length:Int)<=xs.length)=true) (E:Nat.blt e 1048576=true) :
  cN P ρ o L [] (λ_:Unit=>(h.cut i.toNat (xs.length:Int).toNat sz).val) (λ_=>[.rep ty (ci::K) ((xs.take (xs.length:Int).toNat).drop i.toNat) (h.cut i.toNat (xs.length:Int).toNat sz),.pure (lm (h.cut i.toNat (xs.length:Int).toNat sz) h 1 i xs.length)]):=λa ev w c next Q ha f G=>by
 obtain⟨B,U,_⟩:=aex p;refine Ad (L:=.rep ty (ci::K) xs h::L) (i:=i) (klo:=klo) (khi:=.i64) (j:=xs.length) 0 rfl J O n hs T l rfl p a ev w c next Q ha (ao.cons (Dt (f.at r)) f) λy w' c' m D=>G () w' c' m (ao.cons (D.at (k:=0) rfl) (ao.cons ?_ (ao.nil _ _)))
 obtain⟨ys,V,b,q⟩:(HA.own ty e ci K xs h).holds w c:=f.at r;have M:=f9 C;refine⟨B,by simp only[Hd.cut];omega,λF=>?_⟩;rcases(b.plain E).2 with⟨R,H⟩|⟨g,cap,v,R,_,_,I,_⟩
 ·omega
 grind[Hd.cut,di,Value.slice.injEq,eT]
end
end Go.Sm
