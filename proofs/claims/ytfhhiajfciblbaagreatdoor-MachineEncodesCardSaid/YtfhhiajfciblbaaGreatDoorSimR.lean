/- Laws for the row. No condition. -/
import Derived.Laws.IdiomCopy
import Derived.Test.YtfhhiajfciblbaaGreatDoorSimG
import Derived.WalkSpells
import Derived.WideMake
import Derived.Lib.AppendStr
import Derived.Laws.Runes
namespace Go.Sm
variable {K σ π:List Nat} {t e0 t' kt e' et u:TypeId} {x y:Operand} {w:World} {sz i by_ off ci j X g:Nat} {z:Value} {S S' S2:Nat->Prop} {cs new vs:List Value} {α A:Type} {d:TypeDesc} {lo hi:Int} {khi:IntKind}
def ep(h:Hd)(off:Nat):Addr:=match h.a with
 |some a=>⟨a.block,a.off+off,none⟩
 |none=>⟨0,off,none⟩
theorem xT(h:Hd)(x y:Nat)(b o:Nat)(hp:ep h x=⟨b,o,none⟩):ep h (x+y)=⟨b,o+y,none⟩:=by unfold ep at hp|-;grind
section
variable {P:Program} {ρ:dr} {L:List HA} {o:Oper} {N:Nat}
def aqE(w:World)(c:bu)(t:Ty)(K:List Nat)(x:t.den)(p:Addr):Prop:=∃y b off arr ty fz,p=⟨b,off,none⟩/\w.heap[b]?=some (.cells arr ty fz)/\off+t.sz<=arr.size /\
 (arr.toList.drop off).take t.sz=t.fill x y/\bU w (λb=>c b∈K) t x y
def El(L:List HA)(t:Ty)(K:List Nat)(v:t.den)(h:Hd)(x:Nat):Prop:=∀w c,aq w c L->aqE w c t K v (ep h x)
theorem Mu{ty:Ty}{xs:List ty.den}{h:Hd}{i:Int}{v:ty.den}(j:Nat)(hj:L[j]?=some (.rep ty K xs h))(hs:ty.sz=sz)(hv:ac xs i=some v) :
  El L ty K v h (i.toNat*sz):=λw c hL=>by
 subst hs;obtain⟨ys,hr,hn,hle,hm,hc⟩:=hL.at hj;obtain⟨h0,hget,hlt⟩:=nD hv;obtain⟨y,hy,hry⟩:=hr.get hget;rcases hc with⟨ha',hcap⟩|⟨b,off,arr,tt,fz,ha',hS,hb,hfit,hcells⟩
 ·omega
 ·refine⟨y,b,off+i.toNat*ty.sz,arr,tt,fz,by simp[ep,ha'],hb,?_,?_,hry⟩
  ·have:(i.toNat+1)*ty.sz<=h.cap*ty.sz:=ab2 _ (by omega);grind
  ·rw[<-tp ty hget hy,<-hcells,ae2,aec,aey,ac4];have:(i.toNat+1)*ty.sz<=xs.length*ty.sz:=ab2 _ hlt;grind
theorem ank{ty:Ty}{e:TypeId}{xs:List ty.den}{h:Hd}{i:Int}{v:ty.den}(j:Nat)(hj:L[j]?=some (.own ty e ci K xs h))(hs:ty.sz=sz)(hv:ac xs i=some v) :
  El L ty K v h (i.toNat*sz):=λw c hL=>by
 subst hs;obtain⟨ys,hr,hown,hcol⟩:=hL.at hj;obtain⟨h0,hget,hlt⟩:=nD hv;obtain⟨y,hy,hry⟩:=hr.get hget;have hlen:=hown.1;rcases hown.2 with⟨_,hn0⟩|⟨g,cap,cur,tt,fz,hval',hg,_,hnc,hcm,hcur,htake⟩
 ·omega
 ·have hha:h.a=some ⟨g,0,none⟩:=by
   grind
  refine⟨y,g,i.toNat*ty.sz,cur,tt,fz,by simp[ep,hha],hg,?_,?_,hry⟩
  ·have:(i.toNat+1)*ty.sz<=cap*ty.sz:=ab2 _ (by omega);grind
  ·rw[<-tp ty hget hy,<-htake,ae2,aey,ac4];have:(i.toNat+1)*ty.sz<=xs.length*ty.sz:=ab2 _ hlt;grind
theorem Na{t u:Ty}{v:t.den}{v':u.den}{h:Hd}{x fo:Nat}(pth:Pth t u)(hE:El L t K v h x)(hv:pth.get v=v')(ho:pth.off=fo):El L u K v' h (x+fo):=λw c hL=>by subst hv ho;obtain⟨y,b,off,arr,tt,fz,hp,hb,hle,hcs,hr⟩:=hE w c hL;have hl:=pth.le;refine⟨pth.refs y,b,off+pth.off,arr,tt,fz,xT h x _ b off hp,hb,by omega,?_,pth.rep v y hr⟩;rw[<-pth.cells v y,<-hcs,ae2,aec,aey,ac4 (by omega)]
theorem apt{n:Nat}{d:α}{f:α->Value}{hf:∀x,(f x).oneCell'=true}{xs:List α}{h:Hd}{x:Nat}{i:Int}(hE:El L (.arr n α d f hf) K xs h x)(h0:decide (0<=i/\i<n)=true) :
  El L (.one α f hf) K (xs.getD i.toNat d) h (x+i.toNat):=λw c hL=>by
 obtain⟨y,b,off,arr,ty,fz,hp,hb,hle,hcs,hr⟩:=hE w c hL;have hi0:0<=i/\i<n:=abh h0;have hlt:i.toNat<n:=by omega
 refine⟨(),b,off+i.toNat,arr,ty,fz,xT h x _ b off hp,hb,by grind,?_,trivial⟩;have h1:((arr.toList.drop off).take n)[i.toNat]?=some (f (xs.getD i.toNat d)):=by grind[Ty.fill]
 simp only[ae1,if_pos hlt,acP]at h1;rw[show(Ty.one α f hf).sz=1 from rfl,List.take_one];simp only[Ty.fill];simp_all
theorem arE{e:TypeId}{ix:Operand}{k:IntKind}{i:Int}{ty:Ty}{xs:List ty.den}{h:Hd}{v:ty.den}(j:Nat)(hj:L[j]?=some (.rep ty K xs h))(ho:o.op=.indexAddr t x ix)
  (ht:P.underlying t=some (.slice e)) (hi:TI P e sz by_ z) (hx:aS ρ x=h.val) (hix:aS ρ ix=.int k i) (hv:ac xs i=some v) :
  bh P ρ o L (.pointer (some (ep h (i.toNat*sz)))):=λev w c he hL=>by
 subst he;have htihi:=hi;clear hi;obtain⟨inf,hi,_,rfl,_⟩:=htihi.get;obtain⟨ys,hr,hn,hle,hm,hc⟩:=hL.at hj;obtain⟨h0,hget,hlt⟩:=nD hv;rcases hc with⟨ha',hcap⟩|⟨b,off,arr,tt,fz,ha',hS,hb,hfit,hcells⟩
 ·omega
 ·have hi0:0<=i/\i<(h.n:Int):=⟨h0,by omega⟩
  simp[execOp,ho,hx,hix,Instr.indexAt,asIntOf,run_underlying ht,sizeOf,typeInfo,hi,ha',hi0,fg,Result.andThen,ep]
theorem wu{f:α->Value}{hf:∀x,(f x).oneCell'=true}{h:Hd}{v:α}(hE:El L (.one α f hf) K v h X)(ho:o.op=.load t x)
  (ht:P.underlying t=some d) (hd:lR d=false) (hx:aS ρ x=.pointer (some (ep h X))):bh P ρ o L (f v):=λev w c he hL=>
 by
 obtain⟨y,b,off,arr,ty,fz,hp,hb,hle,hcs,hr⟩:=hE w c hL;exact UI (L:=.elem (.one α f hf) [c b] v (ep h X)::L) 0 rfl ho ht hd hx ev w c he (aq.cons ⟨y,b,off,arr,ty,fz,hp,by simp,hb,hle,hcs,trivial⟩ hL)
theorem zQ{ty:Ty}{h:Hd}{xs:List ty.den}(hE:El L (.slice ty) K xs h X)(ho:o.op=.load t x)
  (ht:P.underlying t=some d) (hd:lR d=false) (hx:aS ρ x=.pointer (some (ep h X))):di P ρ o L [] Hd.val (λh=>[.rep ty K xs h]):=yf λev w c ha hL=>by
 obtain⟨y,b,off,arr,tt,fz,hp,hb,hle,hcs,hr⟩:=hE w c hL;rw[hp]at hx;have hc:w.cell? ⟨b,off,none⟩=some (Hd.val y):=by rw[na hb];have:=aba (·[0]?) hcs;simpa[Ty.fill,ae1]using this
 exact⟨y,by simp[execOp,ho,ha,hx,wH ht hd hc],aq.cons hr (aq.nil _ _)⟩
theorem eX{ty:Ty}{h:Hd}{v:ty.den}(hE:El L ty K v h X)(ho:o.op=.load t x)
  (ht:P.underlying t=some d) (hd:lR d=true) (hi:TI P t sz by_ z) (hs:sz=ty.sz) (hx:aS ρ x=.pointer (some (ep h X))) :
  di P ρ o L [] (λy:ty.Refs=>.agg (ty.fill v y).toArray) (λy=>facts ty K v y):=yf λev w c ha hL=>by
 have htihi:=hi;clear hi;obtain⟨i,hi,_,rfl,_⟩:=htihi.get;obtain⟨y,b,off,arr,tt,fz,hp,hb,hle,hcs,hr⟩:=hE w c hL;rw[hp]at hx;refine⟨y,?_,qN ty v y hr⟩;simp[execOp,ho,ha,hx,tX ht hd hi hb (off:=off) (cs:=ty.fill v y) (by grind) (by grind)]
def pJ(L:List HA)(K:List Nat)(t:Ty)(v:t.den)(off:Nat)(new:List Value)(v':t.den):Prop:=∀w c,aq w c L->∀r,bU w (λb=>c b∈K) t v r ->
 ∃r',bU w (λb=>c b∈K) t v' r'/\off+new.length<=t.sz/\(t.fill v r).take off++new++(t.fill v r).drop (off+new.length)=t.fill v' r'/\∀u∈new,u.oneCell'=true
def cz{α:Type}(n:Nat)(d:α)(xs:List α)(i:Nat)(x:α):List α:=(List.range n).map λj=>if j=i then x else xs.getD j d
theorem akM{n:Nat}{d:α}{f:α->Value}{hf:∀x,(f x).oneCell'=true}{v:List α}{x:α}{i:Int}(h0:decide (0<=i/\i<n)=true) :
  pJ L K (.arr n α d f hf) v i.toNat [f x] (cz n d v i.toNat x):=λ_ _ _ _ _=>by
 have hi0:0<=i/\i<n:=abh h0;have hlt:i.toNat<n:=by omega
 refine⟨(),trivial,by grind,?_,by grind⟩;apply ac7;intro j;simp only[Ty.fill,cz,acn,al9,alG];simp only[akD,aaL,adx,aee,ajF,acn,al9];rw[ac4 (by omega)];by_cases h1:j<i.toNat
 ·grind
 ·by_cases h2:j=i.toNat
  ·grind
  ·simp only[h1,show¬j<i.toNat+(0+1)by omega,aca,acP,show i.toNat+1+(j-(i.toNat+(0+1)))=j by omega];grind
theorem alH{a b:Ty}{v:a.den×b.den}{x:a.den}(hs:pJ L K a v.1 off new x):pJ L K (.pair a b) v off new (x,v.2):=λw c hL r hr=>by obtain⟨r',h1,h2,h3,h4⟩:=hs w c hL r.1 hr.1;refine⟨(r',r.2),⟨h1,hr.2⟩,by grind,?_,h4⟩;have hl:=a.fill_length v.1 r.1;simp only[Ty.fill];grind
theorem alA{a b:Ty}{v:a.den×b.den}{off':Nat}{x:b.den}(hs:pJ L K b v.2 off new x)(ho:a.sz+off=off'):pJ L K (.pair a b) v off' new (v.1,x):=λw c hL r hr=>by
 subst ho;obtain⟨r',h1,h2,h3,h4⟩:=hs w c hL r.2 hr.2;refine⟨(r.1,r'),⟨hr.1,h1⟩,by grind,?_,h4⟩;have hl:=a.fill_length v.1 r.1;simp only[Ty.fill];rw[<-h3,ads,acB,ab4 (l:=a.fill v.1 r.1) (by omega),acj (as:=a.fill v.1 r.1) (by omega),show a.sz+off-(a.fill v.1 r.1).length=off by omega,
  show a.sz+off+new.length-(a.fill v.1 r.1).length=off+new.length by omega]
 simp
theorem aqG{v:Nd}{n:List Value}{z:Ty.nodeT.den}(h:pJ L K Ty.nodeT v.tup off n z):pJ L K .node v off n (Nd.of z):=λw c hL r hr=>by obtain⟨r',p1,q1,e1,o1⟩:=h w c hL ((),(),(),r) ⟨trivial,trivial,trivial,pC.1 hr⟩;exact⟨r'.2.2.2,pC.2 p1.2.2.2,q1,e1,o1⟩
theorem CD(t:Ty):∀{xs:List t.den} {ys:List t.Refs} {i:Nat} {x x':t.den} {y y':t.Refs} {off:Nat} {new:List Value},xs.length=ys.length->xs[i]?=some x->ys[i]?=some y ->
  off+new.length<=t.sz->(t.fill x y).take off++new++(t.fill x y).drop (off+new.length)=t.fill x' y' ->
  (cellsOf t xs ys).take (i*t.sz+off)++new++(cellsOf t xs ys).drop (i*t.sz+off+new.length)=cellsOf t (xs.set i x') (ys.set i y')
 |a::xs,b::ys,0,x,x',y,y',off,new,hl,hx,hy,ho,hf=>by simp at hx hy;subst hx hy;have f:=t.fill_length a b;simp only[List.set_cons_zero,cellsOf,<-hf];grind
 | a::xs,b::ys,i+1,x,x',y,y',off,new,hl,hx,hy,ho,hf=>by
  simp at hx hy;have f:=t.fill_length a b;have ih:=CD t (xs:=xs) (ys:=ys) (i:=i) (by simpa using hl) hx hy ho hf;simp only[List.set_cons_succ,cellsOf,<-ih];have e:(i+1)*t.sz=(t.fill a b).length+i*t.sz:=by grind
  rw[e,agO,ads,acB,ab4 (l:=t.fill a b) (by omega),acj (as:=t.fill a b) (by omega),Nat.add_sub_cancel_left,
   show(t.fill a b).length+(i*t.sz+off)+new.length-(t.fill a b).length=i*t.sz+off+new.length by omega]
  simp
 |[],_,_,_,_,_,_,_,_,_,hx,_,_,_=>by simp at hx
 |_::_,[],_,_,_,_,_,_,_,hl,_,_,_,_=>by simp at hl
theorem Bl(g:Nat)(t:TypeId)(fz:Nat×Nat):∀(vs:List Value) (o:Nat) (cur:Array Value) (w:World),w.heap[g]?=some (.cells cur t fz)->o+vs.length<=cur.size ->
  w.setCells g o vs=w.setRow g (cur.toList.take o++vs++cur.toList.drop (o+vs.length)).toArray
 |[],o,cur,w,hg,_=>by
  have e:(cur.toList.take o++[]++cur.toList.drop (o+([]:List Value).length)).toArray=cur:=by simp
  rw[e,setRow_self w g cur t fz hg];rfl
 |v::r,o,cur,w,hg,hl=>by simp only[acn]at hl;show(w.setCell ⟨g,o,none⟩ v).setCells g (o+1) r=_;rw[setCell_eq_setRow w g o cur t fz v hg,Bl g t fz r (o+1) _ _ (setRow_heap w g cur _ t fz hg) (by simp;omega),setRow_setRow];congr 2;have h2:=list_seg_step cur.toList o v r (by simp;omega);grind
theorem mO(P:Program)(g o:Nat)(t:TypeId)(fz:Nat×Nat)(vs:List Value)(cur:Array Value)(w:World)(hg:w.heap[g]?=some (.cells cur t fz))(hfz:fz=(0,0)\/cur.size<=fz.1)(hl:o+vs.length<=cur.size)(h1:∀v∈vs,v.oneCell'=true) :
  (storeCells ⟨g,o,none⟩ vs 0).run P w=.ok () (w.setRow g (cur.toList.take o++vs++cur.toList.drop (o+vs.length)).toArray):=by
 grind[World.cell?,World.frozen?,Bool.and_eq_false_iff,decide_eq_false_iff_not,run_storeCells_cells,Bl]
theorem Lh{e:TypeId}{ty:Ty}{xs:List ty.den}{h:Hd}{i:Int}{v v':ty.den}{esz:Nat}{val:Value}(j:Nat)(hj:L[j]?=some (.own ty e ci K xs h))
  (ho:o.op=.store t x y) (hi:TI P t sz by_ z) (hx:aS ρ x=.pointer (some (ep h X))) (hX:X=i.toNat*esz+off) (hesz:esz=ty.sz) (hv:ac xs i=some v) (hy:aS ρ y=val) (hval:val.cells=new.toArray) (hl:Nat.beq new.length sz=true)
  (hs:pJ L K ty v off new v') (hK:K.all (λk=>!(Nat.beq k ci))=true):di P ρ o L [ci] (λ_:Unit=>undef) (λ_=>[.own ty e ci K (xs.set i.toNat v') h]):=by
 intro a ev w c next Q ha hL hn
 have htihi:=hi;clear hi;obtain⟨inf,hi,_,rfl,_⟩:=htihi.get;subst hesz hX;obtain⟨ys,hr,hown,hcol⟩:=hL.at hj;obtain⟨h0,hget,hlt⟩:=nD hv;obtain⟨y',hy',hry⟩:=hr.get hget;obtain⟨r',hr',hfit,hfill,hones⟩:=hs w c hL y' hry;rcases hown.2 with⟨_,hn0⟩|⟨g,cap,cur,tt,fz,hval',hg,hmark,hnc,hcm,hcur,htake⟩
 ·omega
 have hha:h.a=some ⟨g,0,none⟩:=by grind
 have hpat:ep h (i.toNat*ty.sz+off)=⟨g,i.toNat*ty.sz+off,none⟩:=by simp[ep,hha]
 have hcg:c g=ci:=hcol g (by rw[hval'];rfl);have hlen:=hown.1;have h1:(i.toNat+1)*ty.sz<=xs.length*ty.sz:=ab2 _ hlt;rw[adJ,akp]at h1;have h2:xs.length*ty.sz<=cap*ty.sz:=ab2 _ hnc;have hst:=mO P g (i.toNat*ty.sz+off) tt fz new cur w hg (hmark.imp (λh=>h.2) (λh=>h.2)) (by omega) hones;have hrun:(execOp ev o).run P w=.ok .skip (w.setRow g (cur.toList.take (i.toNat*ty.sz+off)++new++cur.toList.drop (i.toNat*ty.sz+off+new.length)).toArray):=by simp[execOp,ho,ha,hx,hpat,hy,Instr.storeAt,Instr.sureAddr,storeVar,hval,sizeOf,typeInfo,hi,amb hl,hst,Result.andThen]
 rw[hrun];have hrow:=setRow_heap w g cur (cur.toList.take (i.toNat*ty.sz+off)++new++cur.toList.drop (i.toNat*ty.sz+off+new.length)).toArray tt fz hg;have hstp:=ry (w:=w) (c:=c) (b:=g) (i:=ci) (cs:=(cur.toList.take (i.toNat*ty.sz+off)++new++cur.toList.drop (i.toNat*ty.sz+off+new.length)).toArray) hcg;have hno:∀k∈K,k∉[ci]:=λk hk hm=>by have:=aaB.1 hK k hk;simp_all
 have hset:=(hr.set i.toNat hr').mono (bU.keep (hstp.keeps hno) ty);have hcl:=cZ ty hr.length;have hcs:=CD ty hr.length hget hy' hfit hfill;refine hn () _ c hstp (aq.cons ⟨ys.set i.toNat r',hset,⟨by grind,.inr ⟨g,cap,_,tt,fz,by grind,hrow,hmark.imp id (λh=>⟨h.1,?_⟩),by grind,hcm,?_,?_⟩⟩,hcol⟩ (aq.nil _ _))
 ·grind
 ·grind
 ·have hcl2:cur.toList.length=cap*ty.sz:=by grind
  rw[acQ,<-hcs,<-htake];apply ac7;intro m;simp only[akD,ae1,acP,adx,aaL,af3];rw[ac4 (show i.toNat*ty.sz+off<=cur.toList.length by omega),ac4 (show xs.length*ty.sz<=cur.toList.length by omega),ac4 (show i.toNat*ty.sz+off<=xs.length*ty.sz by omega)];grind
theorem nA{k:IntKind}{i:Int}{y:Nat}{code:BoundsCode}(h0:0<=i)(h1:i<=y):(Instr.sliceBound (.int k i) y code).run P w=.ok i.toNat w:=by simp[Instr.sliceBound,asIntOf,h0,h1,Result.andThen]
def Hd.cut(h:Hd)(lo hi sz:Nat):Hd:=⟨if h.cap=lo then h.a else h.a.map (·.add (lo*sz)),hi-lo,h.cap-lo⟩
theorem zg{e:TypeId}{lo hi:Option Operand}{klo:IntKind}{i j:Int}{ty:Ty}{xs:List ty.den}{h:Hd}(k:Nat)(hk:L[k]?=some (.rep ty K xs h))(ho:o.op=.slice t x lo hi none)
  (ht:P.underlying t=some (.slice e)) (hti:TI P e sz by_ z) (hs:sz=ty.sz) (hx:aS ρ x=h.val) (hlo:lo.elim (i=0) (λq=>aS ρ q=.int klo i)) (hhi:hi.elim (j=xs.length) (λq=>aS ρ q=.int khi j))
  (hb:decide (0<=i/\i<=j/\j<=xs.length)=true) :
  di P ρ o L [] (λ_:Unit=>(h.cut i.toNat j.toNat sz).val) (λ_=>[.rep ty K ((xs.take j.toNat).drop i.toNat) (h.cut i.toNat j.toNat sz)]):=yf λev w c he hL=>by
 have htihi:=hti;clear hti;obtain⟨inf,hi',_,rfl,_⟩:=htihi.get;obtain⟨h0,hij,hj⟩:=abh hb;obtain⟨ys,hr,hn,hle,hm,hc⟩:=hL.at hk;refine⟨(),?_,aq.cons ⟨(ys.take j.toNat).drop i.toNat,(hr.take _).drop _,?_⟩ (aq.nil _ _)⟩
 ·have b3:(Instr.sliceBounds true h.n h.cap (lo.map (aS ρ)) (hi.map (aS ρ)) none).run P w=.ok (i.toNat,j.toNat,h.cap) w:=by
   have b1:∀q,hi=some q->(Instr.sliceBound (aS ρ q) h.cap .sliceAcap).run P w=.ok j.toNat w:=λq hq=>by grind[nA]
   have b2:∀q,lo=some q->(Instr.sliceBound (aS ρ q) j.toNat .sliceB).run P w=.ok i.toNat w:=λq hq=>by grind[nA]
   cases hi with
   |none=>
    simp at hhi;subst hhi;cases lo with
    |none=>simp at hlo;subst hlo;simp[Instr.sliceBounds,hn]
    |some q=>have:=b2 q rfl;simp only[aaR]at this;simp[Instr.sliceBounds,hn,this,Result.andThen]
   |some q' =>
    have h1:=b1 q' rfl;cases lo with
    |none=>simp at hlo;subst hlo;simp[Instr.sliceBounds,h1,Result.andThen]
    |some q=>simp[Instr.sliceBounds,h1,b2 q rfl,Result.andThen]
  have:(Instr.slice t h.val (lo.map (aS ρ)) (hi.map (aS ρ)) none).run P w=.ok (h.cut i.toNat j.toNat inf.size).val w:=by simp[Instr.slice,run_underlying ht,b3,sizeOf,typeInfo,hi',Hd.cut,Result.andThen]
  simp[execOp,ho,he,hx,Instr.sliceAt,run_underlying ht,this,Result.andThen]
 ·refine⟨by simp[Hd.cut];omega,by simp[Hd.cut];omega,by simp[Hd.cut];omega,?_⟩;rcases hc with⟨ha',hcap⟩|⟨b,off,arr,tt,fz,ha',hS,hbb,hfit,hcells⟩
  ·exact .inl ⟨trivial,by simp[Hd.cut,hcap]⟩
  ·right;by_cases hcap:h.cap=i.toNat
   ·refine⟨b,off,arr,tt,fz,by simp[Hd.cut,hcap,ha'],hS,hbb,by simp[Hd.cut,hcap];omega,?_⟩;have hjn:j.toNat=i.toNat:=by omega
    have e:(xs.take j.toNat).drop i.toNat=[]:=by rw[hjn];simp
    have e':(ys.take j.toNat).drop i.toNat=[]:=by rw[hjn];simp
    rw[e,e'];simp[cellsOf]
   ·have hm2:h.cap*ty.sz=i.toNat*ty.sz+(h.cap-i.toNat)*ty.sz:=by rw[<-adJ];congr 1;omega
    refine⟨b,off+i.toNat*inf.size,arr,tt,fz,by simp[Hd.cut,hcap,ha',fg],hS,hbb,?_,?_⟩
    ·simp only[Hd.cut];rw[hs];omega
    ·have hl:=hr.length;grind[Nat.mul_le_mul_right,rG,jG,List.drop_take,List.drop_drop,Nat.min_eq_left,Nat.sub_mul]
end
abbrev oz(k:IntKind)(a b:Int):Int:=k.wrap (a*2 ^ (min b.toNat k.bits))
abbrev d9(k:IntKind)(a b:Int):Int:=a.fdiv (2 ^ (min b.toNat k.bits))
def bj(op:BinOp)(k:IntKind)(x y:Int):Int:=match op with
 |.and=>k.wrap (BitVec.ofInt k.bits x &&& BitVec.ofInt k.bits y).toNat
 |.or=>k.wrap (BitVec.ofInt k.bits x ||| BitVec.ofInt k.bits y).toNat
 |.xor=>k.wrap (BitVec.ofInt k.bits x ^^^ BitVec.ofInt k.bits y).toNat
 |.andNot=>k.wrap (BitVec.ofInt k.bits x &&& ~~~(BitVec.ofInt k.bits y)).toNat
 |_=>0
section
variable {P:Program} {ρ:dr} {L:List HA} {o:Oper} {N:Nat}
theorem arq{k k':IntKind}{a b:Int}(ho:o.op=.binOp .shl t x y t')(hx:aS ρ x=.int k a)(hy:aS ρ y=.int k' b)(h0:decide (0<=b)=true) :
  bh P ρ o L (.int k (oz k a b)):=λev w c he _=>by
 have:¬b<0:=by grind
 subst he;simp[execOp,ho,hx,hy,cW,binOp,Op.shift,this,Result.andThen]
theorem aru{op:BinOp}{k:IntKind}{a b:Int}(ho:o.op=.binOp op t x y t')(hop:op=.and\/op=.or\/op=.xor\/op=.andNot)(hx:aS ρ x=.int k a)(hy:aS ρ y=.int k b) :
  bh P ρ o L (.int k (bj op k a b)):=λev w c he _=>by
 subst he;rcases hop with rfl|rfl|rfl|rfl<;>simp[execOp,ho,hx,hy,cW,binOp,Op.intBits,bj,Result.andThen]
theorem ark{k k':IntKind}{a b:Int}(ho:o.op=.binOp .shr t x y t')(hx:aS ρ x=.int k a)(hy:aS ρ y=.int k' b)(h0:decide (0<=b)=true) :
  bh P ρ o L (.int k (d9 k a b)):=λev w c he _=>by
 have:¬b<0:=by grind
 subst he;simp[execOp,ho,hx,hy,cW,binOp,Op.shift,this,Result.andThen]
theorem Pz{k:IntKind}{s:List UInt8}{i:Int}{b:UInt8}(ho:o.op=.index t x y)(ht:P.underlying t=some .string)(hx:aS ρ x=.string ⟨s.toArray⟩)(hy:aS ρ y=.int k i)(hv:ac s i=some b) :
  bh P ρ o L (.int .u8 (b.toNat:Int)):=λev w c he _=>by
 subst he;obtain⟨h0,hg,hlt⟩:=nD hv;have hb:(⟨s.toArray⟩:ByteArray)[i.toNat]?=some b:=by
  have h1:i.toNat<(⟨s.toArray⟩:ByteArray).size:=by simpa[ByteArray.size]using hlt
  rw[getElem?_pos (⟨s.toArray⟩:ByteArray) i.toNat h1];have h2:=(abC.1 hg).2;show some (s.toArray[i.toNat]'(by grind))=some b;grind
 have hm:(if 0<=i then(⟨s.toArray⟩:ByteArray)[i.toNat]? else none)=some b:=by grind
 simp only[execOp,ho,hx,hy,Instr.index,asIntOf,Sem.run_bind,Sem.run_pure,Result.andThen_ok,run_underlying ht];rw[hm];rfl
theorem PP{e:TypeId}{k:IntKind}{n:Nat}{dd:α}{f:α->Value}{hf:∀x,(f x).oneCell'=true}{v:List α}{i:Int}(ho:o.op=.index t x y)(ht:P.underlying t=some (.array n e))
  (he:P.underlying e=some d) (hd:lR d=false) (hi:TI P e 1 by_ z) (hx:aS ρ x=.agg ((Ty.arr n α dd f hf).fill v ()).toArray) (hy:aS ρ y=.int k i) (h0:decide (0<=i/\i<n)=true):bh P ρ o L (f (v.getD i.toNat dd)):=λev w c hev _=>by
 subst hev;have htihi:=hi;clear hi;obtain⟨inf,hi,_,hs,_⟩:=htihi.get;have hi0:0<=i/\i<n:=abh h0;have hlt:i.toNat<n:=by omega
 simp[execOp,ho,hx,hy,Instr.index,asIntOf,run_underlying ht,hi0,sizeOf,typeInfo,hi,hs,part,mj he hd,Ty.fill,hlt,Result.andThen]
theorem Uq{a b:Bool}(ho:o.op=.binOp .eql t x y t')(ht:P.underlying t=some .bool)(hx:aS ρ x=.bool a)(hy:aS ρ y=.bool b):bh P ρ o L (.bool (a==b)):=λev w c he _=>by
 subst he;have hg:(eqGuard .eql t x y (.bool a) (.bool b)).run P w=.ok () w:=rfl;have hb:(binOp .eql t (.bool a) (.bool b)).run P w=.ok (.bool (a==b)) w:=by simp only[binOp];simp[run_equal_bool w t a b ht]
 grind[execOp,Sem.run_bind,Result.andThen_ok,Sem.run_pure]
theorem VI{a b:Bool}(ho:o.op=.binOp .neq t x y t')(ht:P.underlying t=some .bool)(hx:aS ρ x=.bool a)(hy:aS ρ y=.bool b):bh P ρ o L (.bool (a != b)):=λev w c he _=>by
 subst he;have hg:(eqGuard .neq t x y (.bool a) (.bool b)).run P w=.ok () w:=rfl;have hb:(binOp .neq t (.bool a) (.bool b)).run P w=.ok (.bool (a != b)) w:=by simp only[binOp];simp[run_equal_bool w t a b ht,bne]
 grind[execOp,Sem.run_bind,Result.andThen_ok,Sem.run_pure]
def Hd.isNil(h:Hd):Bool:=h.a.isNone
theorem R1{e:TypeId}{h:Hd}(ho:o.op=.binOp .eql t x y t')(ht:P.underlying t=some (.slice e))(hx:aS ρ x=h.val)(hy:aS ρ y=.slice none 0 0):bh P ρ o L (.bool h.isNil):=λev w c he _=>by subst he;have hg:(eqGuard .eql t x y h.val (.slice none 0 0)).run P w=.ok () w:=rfl;simp[execOp,ho,hx,hy,hg,Lib.run_eql_slice_nil w t e h.a h.n h.cap 0 0 ht,Hd.isNil,Result.andThen]
theorem Nl{e:TypeId}{h:Hd}(ho:o.op=.binOp .neq t x y t')(ht:P.underlying t=some (.slice e))(hx:aS ρ x=h.val)(hy:aS ρ y=.slice none 0 0):bh P ρ o L (.bool (!h.isNil)):=λev w c he _=>by subst he;have hg:(eqGuard .neq t x y h.val (.slice none 0 0)).run P w=.ok () w:=rfl;simp[execOp,ho,hx,hy,hg,run_neq_slice_nil_any w t e h.a h.n h.cap 0 0 ht,Hd.isNil,Result.andThen]
theorem EW(ty:Ty)(x:ty.den)(y:ty.Refs):∀n:Nat,cellsOf ty (List.replicate n x) (List.replicate n y)=(madeCells (ty.fill x y).toArray (n*ty.sz)).toList
 |0=>by simp[cellsOf,madeCells]
 |n+1=>by
  have ih:=EW ty x y n;have hl:=ty.fill_length x y;rw[afK,afK,eV ty (by simp),ih];simp only[madeCells,Array.toList_map,Array.toList_range,cellsOf,abd];rw[show(n+1)*ty.sz=n*ty.sz+ty.sz by grind,List.range_add,acw];congr 1;apply ac7;intro j;simp only[aeU,aeI,age];by_cases hj:j<ty.sz
  ·simp[hj,hl,Nat.mod_eq_of_lt hj]
  grind
theorem zD{α β:Type}{R:α->β->Prop}{x:α}{y:β}(h:R x y):∀n:Nat,cy R (List.replicate n x) (List.replicate n y)
 |0=>trivial
 |n+1=>by rw[aeP,aeP];exact⟨h,zD h n⟩
theorem Ax{e:TypeId}{kl kc:IntKind}{l:Int}{ty:Ty}{v:ty.den}{r:ty.Refs}(ho:o.op=.makeSlice t x y)(ht:P.underlying t=some (.slice e))(hi:TI P e sz by_ z)(hs:sz=ty.sz)
  (hz:z.cells=(ty.fill v r).toArray) (hf:pI L (facts ty K v r)) (hx:aS ρ x=.int kl l) (hy:aS ρ y=.int kc l) (hb:decide (0<=l/\l*by_<=281474976710656/\l<=maxLen)=true) (hN:Nat.ble 2 N=true) :
  di P ρ o L [] Hd.val (λh=>[.own ty e N K (List.replicate l.toNat v) h]):=by
 intro a ev w c next Q ha hL hk
 have htihi:=hi;clear hi;obtain⟨inf,hi,hzz,rfl,rfl⟩:=htihi.get;obtain⟨h0,hb1,hb2⟩:=abh hb;have hm:=run_make (P:=P) w t e inf z ht hi hzz kl kc l l h0 (afY _) (by grind) (by simp[maxLen]at hb2;omega);have hex:(execOp ev o).run P w=.ok (.value (.slice (some ⟨w.heap.size,0,none⟩) l.toNat l.toNat)) (w.alloc (.cells (madeCells z.cells (l.toNat*inf.size)) e)):=by simp[execOp,ho,ha,hx,hy,hm,Result.andThen]
 rw[hex];have hst:=vc (w:=w) (c:=c) hN (.cells (madeCells z.cells (l.toNat*inf.size)) e);have hc:cellsOf ty (List.replicate l.toNat v) (List.replicate l.toNat r)=(madeCells z.cells (l.toNat*inf.size)).toList:=by rw[EW,hz,hs]
 have hr:=bU.keep (hst.keeps (K:=K) (by simp)) ty v r (y5 ty v r (hf.heap hL));refine hk ⟨some ⟨w.heap.size,0,none⟩,l.toNat,l.toNat⟩ _ _ hst (aq.cons ⟨List.replicate l.toNat r,?_,⟨?_,.inr ⟨w.heap.size,l.toNat,madeCells z.cells (l.toNat*inf.size),e,(0,0),by simp,heap_alloc_new w _,.inl ⟨rfl,rfl⟩,by simp,by omega,?_,?_⟩⟩,λg hg=>?_⟩ (aq.nil _ _))
 ·exact zD hr l.toNat
 ·rw[hc];simp[size_madeCells,hs]
 ·rw[size_madeCells,hs]
 ·grind[List.take_of_length_le,size_madeCells]
 ·simp[Value.ownBlock]at hg;grind
theorem Ph{e:TypeId}{j:Int}{ty:Ty}{xs:List ty.den}{h:Hd}(k:Nat)(hk:L[k]?=some (.own ty e' ci K xs h))(ho:o.op=.slice t x none (some y) none)
  (ht:P.underlying t=some (.slice e)) (hti:TI P e sz by_ z) (hs:sz=ty.sz) (hx:aS ρ x=h.val) (hhi:aS ρ y=.int khi j) (hb:decide (0<=j/\j<=xs.length)=true) :
  di P ρ o L [] (λ_:Unit=>(h.cut 0 j.toNat sz).val) (λ_=>[.own ty e' ci K (xs.take j.toNat) (h.cut 0 j.toNat sz)]):=λa ev w c next Q ha hL hn=>by
 obtain⟨h0,hj⟩:=abh hb;refine zg (L:=.rep ty (ci::K) xs h::L) (i:=0) (klo:=.i64) 0 rfl ho ht hti hs hx rfl hhi (by grind) a ev w c next Q ha (aq.cons (BF (hL.at hk)) hL) λy w' c' hst _=>hn () w' c' hst ?_
 refine aq.cons ?_ (aq.nil _ _);obtain⟨ys,hr,hown,hcol⟩:(HA.own ty e' ci K xs h).holds w' c':=aq.at (hL.stp0 hst) hk;have hlen:=hr.length;refine⟨ys.take j.toNat,hr.take _,?_,λg hg=>?_⟩
 ·refine⟨by rw[cZ ty (by simp[hlen])],?_⟩;rcases hown.2 with⟨h1,h2⟩|⟨g,cap,cur,tt,fz,h1,h3,h2,h4,h5,h6,h7⟩
  ·grind[Hd.cut]
  grind[Hd.cut,Value.slice.injEq,fg,jG,List.length_take,Nat.min_eq_left,Nat.mul_le_mul_right]
 ·refine hcol g ?_;rcases hown.2 with⟨h1,h2⟩|⟨g',cap,cur,tt,fz,h1,_⟩
  ·grind[Hd.cut,Value.ownBlock]
  grind[Value.ownBlock,Hd.cut,Value.slice.injEq,Option.some.injEq,fg]
def nM(v u:Hd)(sz:Nat)(lo hi:Int):Prop:=0<=lo/\(v.n:Int)=hi-lo/\(lo<hi->∃b o,v.a=some ⟨b,o,none⟩/\ep u (lo.toNat*sz)=⟨b,o,none⟩)
theorem Hm{e:TypeId}{ix:Operand}{k:IntKind}{i:Int}{v u:Hd}(hp:∀w c,aq w c L->nM v u sz lo hi)(ho:o.op=.indexAddr t x ix)
  (ht:P.underlying t=some (.slice e)) (hi':TI P e sz by_ z) (hx:aS ρ x=v.val) (hix:aS ρ ix=.int k i) (hb:decide (0<=i/\i<hi-lo)=true) :
  bh P ρ o L (.pointer (some (ep u ((lo+i).toNat*sz)))):=λev w c he hL=>by
 subst he;have htihi:=hi';clear hi';obtain⟨inf,hi',_,rfl,_⟩:=htihi.get;obtain⟨h0,hn,hpt⟩:=hp w c hL;obtain⟨b0,b1⟩:=abh hb;obtain⟨b,of_,ha,hu⟩:=hpt (by omega);have hi0:0<=i/\i<(v.n:Int):=⟨b0,by omega⟩
 have e1:(lo+i).toNat*inf.size=lo.toNat*inf.size+i.toNat*inf.size:=by rw[<-adJ];congr 1;omega
 rw[e1,xT u _ _ b of_ hu];simp[execOp,ho,hx,hix,Instr.indexAt,asIntOf,run_underlying ht,sizeOf,typeInfo,hi',ha,hi0,fg,Result.andThen]
theorem aar{a b:α}(h:some a=some b):a=b:=by cases h;rfl
end
def lG(π:List Nat)(σ:List Nat):Prop:=∃l,σ=l++π
theorem eN(π:List Nat):lG π π:=⟨[],rfl⟩
theorem DN(h:lG π σ):lG π (j::σ):=by obtain⟨l,rfl⟩:=h;exact⟨j::l,rfl⟩
theorem Mr{k:Nat}(hj:lG (j::π) σ)(hk:lG (k::π) σ):j=k:=by
 obtain⟨l,rfl⟩:=hj;obtain⟨m,hm⟩:=hk;have e:(l++[j])++π=(m++[k])++π:=by simpa using hm
 have e2:=List.append_cancel_right e;simp_all
theorem tJ(h:lG (j::π) σ):σ≠π:=by obtain⟨l,rfl⟩:=h;intro e;have:=aba List.length e;grind
theorem bI.ren{w:World}{S S':Nat->Prop}{d d':Nat->List Nat}{f:List Nat->List Nat}{π0:List Nat}(hf:∀σ k,lG π0 σ->f (k::σ)=k::f σ)
  (hk:∀b,S b->lG π0 (d b)->S' b/\d' b=f (d b)):(t:Ty)->(ε:EI)->(π:List Nat)->(x:t.den)->(y:t.Refs)->lG π0 π->bI w S d t ε π x y->bI w S' d' t ε (f π) x y
 |.one _ _ _,_,_,_,_,_,_=>trivial
 |.arr _ _ _ _ _,_,_,_,_,_,_=>trivial
 |.unit,_,_,_,_,_,_=>trivial
 |.pair a b,ε,π,x,y,hu,h=>by have h1:=bI.ren hf hk a _ (0::π) _ _ (DN hu) h.1;have h2:=bI.ren hf hk b _ (1::π) _ _ (DN hu) h.2;rw[hf π 0 hu]at h1;rw[hf π 1 hu]at h2;exact⟨h1,h2⟩
 | .slice t,ε,π,xs,h,hu,hh=>by
  rcases hh with hh|⟨e,s,he,ys,h1,h2,h3⟩
  ·exact .inl hh
  ·refine .inr ⟨e,s,he,ys,h1,?_,λj x y hx hy=>?_⟩
   ·obtain⟨g,cap,cur,g1,g2,g3,g4,g5,g6,g7,g8⟩:=h2;obtain⟨k1,k2⟩:=hk g g7 (by grind);exact⟨g,cap,cur,g1,g2,g3,g4,g5,g6,k1,by rw[k2,g8]⟩
   ·have:=bI.ren hf hk t s (j::π) x y (DN hu) (h3 j x y hx hy);grind
theorem bI.re{d d':Nat->List Nat}{π0:List Nat}(hk:∀b,S b->lG π0 (d b)->S' b/\d' b=d b){t:Ty}{ε:EI}{x:t.den}{y:t.Refs}(hu:lG π0 π)(h:bI w S d t ε π x y):bI w S' d' t ε π x y:=
 bI.ren (f:=id) (λ_ _ _=>rfl) hk t ε π x y hu h
theorem jL.of(h:∀b,S b->S' b):jL w w S S':=λb _ hb=>⟨h b hb,rfl⟩
def j8(w:World)(S:Nat->Prop)(t:Ty)(s:EI)(xs:List t.den)(ys:List t.Refs):Prop:=∃d:Nat->List Nat,∀(j:Nat) (x:t.den) (y:t.Refs),xs[j]?=some x->ys[j]?=some y->bI w S d t s [j] x y
def yY(w:World)(S:Nat->Prop)(t:Ty)(s:EI)(xs:List t.den)(ys:List t.Refs)(k:Nat):Prop:=∃d:Nat->List Nat,∀(j:Nat) (x:t.den) (y:t.Refs),j≠k->xs[j]?=some x->ys[j]?=some y->bI w S d t s [j] x y
section
variable {w w':World} {S S' S1 S2:Nat->Prop} {t:Ty} {s:EI} {xs xs':List t.den} {ys ys':List t.Refs}
theorem j8.keep(hk:jL w w' S S')(h:j8 w S t s xs ys):j8 w' S' t s xs ys:=h.imp λ_ h j x y hx hy=>bI.keep hk t s [j] x y (h j x y hx hy)
theorem yY.keep{k:Nat}(hk:jL w w' S S')(h:yY w S t s xs ys k):yY w' S' t s xs ys k:=h.imp λ_ h j x y hj hx hy=>bI.keep hk t s [j] x y (h j x y hj hx hy)
theorem j8.nil:j8 w S t s [] ys:=⟨λ_=>[],λj x y hx=>by simp at hx⟩
theorem j8.take(n:Nat)(h:j8 w S t s xs ys):j8 w S t s (xs.take n) (ys.take n):=h.imp λ_ h j x y hx hy=>h j x y (by
  grind) (by
  grind)
theorem j8.one{x:t.den}{y:t.Refs}(h:cV w S t s x y):j8 w S t s [x] [y]:=by
 obtain⟨d,h⟩:=h;refine⟨λb=>d b++[0],λj x' y' hx hy=>?_⟩;cases j with
 |zero=>
  simp at hx hy;subst hx hy;exact bI.ren (f:=λσ=>σ++[0]) (π0:=[]) (λ_ _ _=>rfl) (λb hb _=>⟨hb,rfl⟩) t s [] x y ⟨[],rfl⟩ h
 |succ j=>simp at hx
def vX(n:Nat):List Nat->List Nat
 |[]=>[]
 |[j]=>[n+j]
 |k::a::r=>k::vX n (a::r)
theorem PZ{n k:Nat}(h:lG [j] σ):vX n (k::σ)=k::vX n σ:=by
 cases σ with
 |nil=>obtain⟨l,hl⟩:=h;simp at hl
 |cons a r=>rfl
open Classical in
theorem j8.append(hl:ys.length=xs.length)(hd:∀b,S1 b->¬S2 b)(h1:∀b,S1 b->S b)(h2:∀b,S2 b->S b)(ha:j8 w S1 t s xs ys)(hb:j8 w S2 t s xs' ys'):j8 w S t s (xs++xs') (ys++ys'):=by
 obtain⟨d1,ha⟩:=ha;obtain⟨d2,hb⟩:=hb;refine⟨λb=>if S1 b then d1 b else vX xs.length (d2 b),λj x y hx hy=>?_⟩;by_cases hj:j<xs.length
 ·rw[afL hj]at hx;rw[afL (by omega)]at hy;exact bI.re (π0:=[j]) (λb hb _=>⟨h1 b hb,by simp[hb]⟩) (eN _) (ha j x y hx hy)
 ·rw[adW (by omega)]at hx;rw[adW (by omega),hl]at hy;have:=bI.ren (f:=vX xs.length) (π0:=[j-xs.length]) (S':=S) (d':=λb=>if S1 b then d1 b else vX xs.length (d2 b)) (λσ k hu=>PZ hu) (λb hb _=>⟨h2 b hb,by
   have:¬S1 b:=λh=>hd b h hb;simp[this]⟩) t s _ x y (eN _) (hb _ x y hx hy)
  simp only[vX]at this;rwa [show xs.length+(j-xs.length)=j by omega]at this
theorem AI{k:Nat}(h:lG [j] σ):(k::σ).dropLast=k::σ.dropLast:=by
 cases σ with
 |nil=>obtain⟨l,hl⟩:=h;simp at hl
 |cons a r=>rfl
theorem j8.pick{k:Nat}{x:t.den}{y:t.Refs}(hx:xs[k]?=some x)(hy:ys[k]?=some y)(h:j8 w S t s xs ys) :
  ∃Sk:Nat->Prop,(∀b,Sk b->S b)/\cV w Sk t s x y/\yY w (λb=>S b/\¬Sk b) t s xs ys k:=by
 obtain⟨d,h⟩:=h;refine⟨λb=>S b/\lG [k] (d b),λb hb=>hb.1,⟨λb=>(d b).dropLast,?_⟩,d,λj x' y' hj hx' hy' => ?_⟩
 ·have:=bI.ren (f:=List.dropLast) (π0:=[k]) (S':=λb=>S b/\lG [k] (d b)) (d':=λb=>(d b).dropLast) (λσ _ hu=>AI hu) (λb hb hu=>⟨⟨hb,hu⟩,rfl⟩) t s [k] x y (eN _) (h k x y hx hy);exact this
 ·exact bI.re (π0:=[j]) (λb hb hu=>⟨⟨hb,λhc=>hj (Mr hu hc.2)⟩,rfl⟩) (eN _) (h j x' y' hx' hy')
open Classical in
theorem yY.put{k:Nat}{x:t.den}{y:t.Refs}(hk:k<xs.length)(hl:ys.length=xs.length)(hd:∀b,S1 b->¬S2 b)(h1:∀b,S1 b->S b)(h2:∀b,S2 b->S b)(h:yY w S1 t s xs ys k)(hx:cV w S2 t s x y):j8 w S t s (xs.set k x) (ys.set k y):=by
 obtain⟨d1,h⟩:=h;obtain⟨d2,hx⟩:=hx;refine⟨λb=>if S1 b then d1 b else d2 b++[k],λj x' y' hx' hy' => ?_⟩;by_cases hj:j=k
 ·subst hj;rw[adu (by omega)]at hx' hy';cases hx';cases hy';refine bI.ren (f:=λσ=>σ++[j]) (π0:=[]) (λ_ _ _=>rfl) (λb hb _=>⟨h2 b hb,?_⟩) t s [] x y ⟨[],rfl⟩ hx;have:¬S1 b:=λh=>hd b h hb;simp[this]
 ·rw[ae9 (by omega)]at hx' hy';exact bI.re (π0:=[j]) (λb hb _=>⟨h1 b hb,by simp[hb]⟩) (eN _) (h j x' y' hj hx' hy')
end
def Bn(w:World)(e:TypeId)(sz:Nat)(v:Hd)(n:Nat)(cells:List Value)(g:Nat):Prop:=
 ∃(cap:Nat) (cur:Array Value),v=⟨some ⟨g,0,none⟩,n,cap⟩/\w.heap[g]?=some (.cells cur e (0,0))/\n<=cap/\cap<=maxLen/\cur.size=cap*sz/\cur.toList.take (n*sz)=cells
theorem cV.split{t:Ty}{e:TypeId}{s:EI}{xs:List t.den}{v:Hd}(h:cV w S (.slice t) (.row e s) xs v):(v=⟨none,0,0⟩/\xs=[])\/∃ys g,ys.length=xs.length/\Bn w e t.sz v xs.length (cellsOf t xs ys) g/\S g /\
  j8 w (λb=>S b/\b≠g) t s xs ys:=by
 obtain⟨d,h⟩:=h;rcases h with h|⟨e',s',he,ys,h1,⟨g,cap,cur,g1,g2,g3,g4,g5,g6,g7,g8⟩,h3⟩
 ·exact .inl h
 ·cases he;refine .inr ⟨ys,g,h1,⟨cap,cur,g1,g2,g3,g4,g5,g6⟩,g7,d,λj x y hx hy=>?_⟩;refine bI.re (π0:=[j]) (λb hb hu=>⟨⟨hb,λe=>?_⟩,rfl⟩) (eN _) (h3 j x y hx hy);subst e;rw[g8]at hu;exact tJ hu rfl
open Classical in
theorem cV.join{t:Ty}{e:TypeId}{s:EI}{xs:List t.den}{ys:List t.Refs}{v:Hd}(hl:ys.length=xs.length)(hr:Bn w e t.sz v xs.length (cellsOf t xs ys) g)(hg:S g)(h2:∀b,S2 b->S b)(hn:¬S2 g)(hF:j8 w S2 t s xs ys) :
  cV w S (.slice t) (.row e s) xs v:=by
 obtain⟨cap,cur,g1,g2,g3,g4,g5,g6⟩:=hr;obtain⟨d,hF⟩:=hF;refine⟨λb=>if S2 b then d b else [],.inr ⟨e,s,rfl,ys,hl,⟨g,cap,cur,g1,g2,g3,g4,g5,g6,hg,by simp[hn]⟩,λj x y hx hy=>?_⟩⟩;exact bI.re (π0:=[j]) (λb hb _=>⟨h2 b hb,by simp[hb]⟩) (eN _) (hF j x y hx hy)
open Classical in
theorem Hol.join{t:Ty}{e:TypeId}{s:EI}{xs:List t.den}{ys:List t.Refs}{v:Hd}{k:Nat}(he:gw e=.row e0 s)(hl:ys.length=xs.length)(hk:k<xs.length)(hcs:cs.length=t.sz)(hr:Bn w e0 t.sz v xs.length (fw t xs ys k cs) g)(hg:S g)(h2:∀b,S2 b->S b)
  (hn:¬S2 g) (hF:yY w S2 t s xs ys k):kU w S t e xs v k cs:=by
 obtain⟨cap,cur,g1,g2,g3,g4,g5,g6⟩:=hr;obtain⟨d,hF⟩:=hF;refine⟨λb=>if S2 b then d b else [],e0,s,ys,he,hl,hk,hcs,⟨g,cap,cur,g1,g2,g3,g4,g5,g6,hg,by simp[hn]⟩,λj x y hj hx hy=>?_⟩;exact bI.re (π0:=[j]) (λb hb _=>⟨h2 b hb,by simp[hb]⟩) (eN _) (hF j x y hj hx hy)
theorem kU.split{t:Ty}{e:TypeId}{xs:List t.den}{v:Hd}{k:Nat}(h:kU w S t e xs v k cs):∃ys g e0 s,gw e=.row e0 s/\ys.length=xs.length/\k<xs.length/\cs.length=t.sz /\
  Bn w e0 t.sz v xs.length (fw t xs ys k cs) g/\S g/\yY w (λb=>S b/\b≠g) t s xs ys k:=by
 obtain⟨d,e0,s,ys,he,hl,hk,hcs,⟨g,cap,cur,g1,g2,g3,g4,g5,g6,g7,g8⟩,h3⟩:=h;refine⟨ys,g,e0,s,he,hl,hk,hcs,⟨cap,cur,g1,g2,g3,g4,g5,g6⟩,g7,d,λj x y hj hx hy=>?_⟩;refine bI.re (π0:=[j]) (λb hb hu=>⟨⟨hb,λe=>?_⟩,rfl⟩) (eN _) (h3 j x y hj hx hy);subst e;rw[g8]at hu;exact tJ hu rfl
theorem tv{t:Ty}{xs:List t.den}{ys:List t.Refs}{k:Nat}{x:t.den}{y:t.Refs}(hl:ys.length=xs.length)(hx:xs[k]?=some x)(hy:ys[k]?=some y):fw t xs ys k (t.fill x y)=cellsOf t xs ys:=by grind[fw,cellsOf,List.getElem?_eq_some_iff,List.getElem_cons_drop,List.take_append_drop,eV]
theorem tz{t:Ty}{xs:List t.den}{ys:List t.Refs}{k:Nat}{x:t.den}{y:t.Refs}(hl:ys.length=xs.length)(hk:k<xs.length):cellsOf t (xs.set k x) (ys.set k y)=fw t xs ys k (t.fill x y):=by rw[<-tv (k:=k) (x:=x) (y:=y) (by simpa using hl) (by grind) (by grind)];grind[fw,List.take_set_of_le,List.drop_set_of_lt]
theorem cV.open{t:Ty}{e:TypeId}{s:EI}{xs:List t.den}{v:Hd}{k:Nat}{x:t.den}(he:gw e=.row e0 s)(hx:xs[k]?=some x)(h:cV w S (.slice t) (gw e) xs v) :
  ∃(y:t.Refs) (S2:Nat->Prop),(∀b,S2 b->S b)/\kU w (λb=>S b/\¬S2 b) t e xs v k (t.fill x y)/\cV w S2 t s x y:=by
 have hk:k<xs.length:=(abC.1 hx).1;rw[he]at h;rcases h.split with⟨_,rfl⟩|⟨ys,g,hl,hr,hg,hF⟩
 ·simp at hk
 ·obtain⟨y,hy⟩:∃y,ys[k]?=some y:=⟨ys[k]'(by omega),abB _⟩
  obtain⟨Sk,h1,h2,h3⟩:=hF.pick hx hy;refine⟨y,Sk,λb hb=>(h1 b hb).1,?_,h2⟩;rw[<-tv hl hx hy]at hr;exact Hol.join he hl hk (t.fill_length x y) hr ⟨hg,λhb=>(h1 g hb).2 rfl⟩ (S2:=λb=>(S b/\b≠g)/\¬Sk b) (λb hb=>⟨hb.1.1,hb.2⟩) (λhb=>hb.1.2 rfl) h3
theorem kU.close{S1:Nat->Prop}{t:Ty}{e:TypeId}{s:EI}{xs:List t.den}{v:Hd}{k:Nat}{x:t.den}{y:t.Refs}(he:gw e=.row e0 s)(hd:∀b,S1 b->¬S2 b)(h1:∀b,S1 b->S b)(h2:∀b,S2 b->S b)
  (h:kU w S1 t e xs v k (t.fill x y)) (hx:cV w S2 t s x y):cV w S (.slice t) (gw e) (xs.set k x) v:=by
 obtain⟨ys,g,e0',s',he',hl,hk,hcs,hr,hg,hF⟩:=h.split;rw[he]at he'|-;cases he';rw[<-tz hl hk]at hr;refine cV.join (ys:=ys.set k y) (S2:=λb=>(S1 b/\b≠g)\/S2 b) (by simpa using hl) (by grind) (h1 g hg) (λb hb=>hb.elim (λh=>h1 b h.1) (h2 b)) (λhb=>hb.elim (λh=>h.2 rfl) (hd g hg)) ?_;grind[yY.put]
theorem cV.fst{a b:Ty}{ε:EI}{x:a.den×b.den}{y:a.Refs×b.Refs}(h:cV w S (.pair a b) ε x y):∃Sa:Nat->Prop,(∀g,Sa g->S g)/\cV w Sa a ε.fst x.1 y.1/\cV w (λg=>S g/\¬Sa g) b ε.snd x.2 y.2:=by
 obtain⟨d,h1,h2⟩:=h;refine⟨λg=>S g/\lG [0] (d g),λg h=>h.1,⟨λg=>(d g).dropLast,?_⟩,⟨λg=>(d g).dropLast,?_⟩⟩
 ·exact bI.ren (f:=List.dropLast) (π0:=[0]) (S':=λg=>S g/\lG [0] (d g)) (d':=λg=>(d g).dropLast) (λσ _ hu=>AI hu) (λg hb hu=>⟨⟨hb,hu⟩,rfl⟩) a _ [0] _ _ (eN _) h1
 ·exact bI.ren (f:=List.dropLast) (π0:=[1]) (S':=λg=>S g/\¬(S g/\lG [0] (d g))) (d':=λg=>(d g).dropLast) (λσ _ hu=>AI hu) (λg hb hu=>⟨⟨hb,λhc=>by have:=Mr hu hc.2;omega⟩,rfl⟩) b _ [1] _ _ (eN _) h2
open Classical in
theorem cV.pair{Sa Sb:Nat->Prop}{a b:Ty}{ε:EI}{x:a.den×b.den}{y:a.Refs×b.Refs}(hd:∀g,Sa g->¬Sb g)(h1:∀g,Sa g->S g)(h2:∀g,Sb g->S g)(ha:cV w Sa a ε.fst x.1 y.1)(hb:cV w Sb b ε.snd x.2 y.2):cV w S (.pair a b) ε x y:=by
 obtain⟨d1,ha⟩:=ha;obtain⟨d2,hb⟩:=hb;refine⟨λg=>if Sa g then d1 g++[0]else d2 g++[1],?_,?_⟩
 ·exact bI.ren (f:=λσ=>σ++[0]) (S':=S) (d':=λg=>if Sa g then d1 g++[0]else d2 g++[1]) (π0:=[]) (λ_ _ _=>rfl) (λg hg _=>⟨h1 g hg,by simp[hg]⟩) a _ [] _ _ ⟨[],rfl⟩ ha
 ·refine bI.ren (f:=λσ=>σ++[1]) (S':=S) (d':=λg=>if Sa g then d1 g++[0]else d2 g++[1]) (π0:=[]) (λ_ _ _=>rfl) (λg hg _=>⟨h2 g hg,?_⟩) b _ [] _ _ ⟨[],rfl⟩ hb;have:¬Sa g:=λh=>hd g h hg;simp[this]
theorem cV.plain{c:bu}{t:Ty}{e:TypeId}{s:EI}{xs:List t.den}{v:Hd}(hp:t.pureB=true)(h:cV w (λb=>c b=i) (.slice t) (.row e s) xs v):HA.holds w c (.own t e i K xs v):=by
 rcases h.split with⟨rfl,rfl⟩|⟨ys,g,hl,⟨cap,cur,rfl,g2,g3,g4,g5,g6⟩,hg,_⟩
 ·exact DR w c
 ·refine⟨ys,kX hl λj x y _ _=>bU.pure t x y hp,⟨cZ t hl.symm,.inr ⟨g,cap,cur,e,(0,0),rfl,g2,.inl ⟨rfl,rfl⟩,g3,g4,g5,g6⟩⟩,λg' hg' => ?_⟩;grind[Value.ownBlock]
theorem tK{w:World}{S:Nat->Prop}{d:Nat->List Nat}:(t:Ty)->(ε:EI)->(π:List Nat)->(x:t.den)->(y:t.Refs)->t.pureB=true->bI w S d t ε π x y
 |.one _ _ _,_,_,_,_,_=>trivial
 |.arr _ _ _ _ _,_,_,_,_,_=>trivial
 |.unit,_,_,_,_,_=>trivial
 |.pair a b,ε,π,x,y,h=>by simp only[Ty.pureB,aas]at h;exact⟨tK a _ _ _ _ h.1,tK b _ _ _ _ h.2⟩
 |.slice t,_,_,_,_,h=>by cases h
 |.node,_,_,_,_,h=>by cases h
 |.mp _ _,_,_,_,_,h=>by cases h
theorem cV.of_pure{t:Ty}{ε:EI}{x:t.den}{y:t.Refs}(h:t.pureB=true):cV w S t ε x y:=⟨λ_=>[],tK t ε [] x y h⟩
theorem cV.of_plain{c:bu}{t:Ty}{e:TypeId}{s:EI}{xs:List t.den}{v:Hd}(hp:t.pureB=true)(he:Nat.blt e 1048576=true)(h:HA.holds w c (.own t e i K xs v)):cV w (λb=>c b=i) (.slice t) (.row e s) xs v:=by
 obtain⟨ys,h1,h2,h3⟩:=h;obtain⟨a,n,cap⟩:=v;rcases(h2.plain he).2 with⟨hv,hn⟩|⟨g,cap',cur,hv,_,hg,g3,g4,g5,g6⟩
 ·simp only[Hd.val,Value.slice.injEq]at hv;obtain⟨rfl,rfl,rfl⟩:=hv;exact⟨λ_=>[],.inl ⟨rfl,adf hn⟩⟩
 ·have hcg:=h3 g (by rw[hv];rfl);simp only[Hd.val,Value.slice.injEq]at hv;obtain⟨rfl,rfl,rfl⟩:=hv;exact cV.join (S2:=λ_=>False) h1.length.symm ⟨cap,cur,rfl,hg,g3,g4,g5,g6⟩ hcg (λ_ h=>h.elim) (λh=>h) ⟨λ_=>[],λj x y _ _=>tK t s [j] x y hp⟩
theorem cV.nil{t:Ty}{ε:EI}:cV w S (.slice t) ε [] ⟨none,0,0⟩:=⟨λ_=>[],.inl ⟨rfl,rfl⟩⟩
section
variable {P:Program} {ρ:dr} {L:List HA} {o:Oper} {N:Nat}
theorem mt{t:Ty}{xs:List t.den}{ys:List t.Refs}{k:Nat}(hl:ys.length=xs.length)(hk:k<xs.length)(hcs:cs.length=t.sz) :
  (fw t xs ys k cs).length=xs.length*t.sz/\(cellsOf t (xs.take k) (ys.take k)).length=k*t.sz:=by
 have h1:=cZ t (xs:=xs.take k) (ys:=ys.take k) (by simp;omega);have h2:=cZ t (xs:=xs.drop (k+1)) (ys:=ys.drop (k+1)) (by simp;omega);simp only[adx,af3,ac4 (Nat.le_of_lt hk)]at h1 h2;refine⟨?_,h1⟩;simp only[fw,aaL,h1,h2,hcs];rw[<-Nat.add_one_mul,<-adJ];grind
theorem kU.at{t:Ty}{e:TypeId}{xs:List t.den}{v:Hd}{k:Nat}(h:kU w S t e xs v k cs):∃(g:Nat) (cur:Array Value) (e0:TypeId),v.a=some ⟨g,0,none⟩/\w.heap[g]?=some (.cells cur e0 (0,0))/\S g /\
  k*t.sz+t.sz<=cur.size/\(cur.toList.drop (k*t.sz)).take t.sz=cs/\cs.length=t.sz:=by
 obtain⟨d,e0,s,ys,he,hl,hk,hcs,⟨g,cap,cur,rfl,g2,g3,g4,g5,g6,g7,g8⟩,h3⟩:=h;obtain⟨c1,c2⟩:=mt (cs:=cs) hl hk hcs;have h1:(k+1)*t.sz<=xs.length*t.sz:=ab2 _ hk;have h2:xs.length*t.sz<=cap*t.sz:=ab2 _ g3;rw[adJ,akp]at h1;refine⟨g,cur,e0,rfl,g2,g7,by omega,?_,hcs⟩;have e1:(cur.toList.drop (k*t.sz)).take t.sz=((cur.toList.take (xs.length*t.sz)).drop (k*t.sz)).take t.sz:=by rw[ae2,aey,ac4 (by omega)]
 rw[e1,g6];unfold fw;grind
theorem W4{ty:Ty}{e:TypeId}{xs:List ty.den}{h:Hd}{k:Nat}{v:Value}(j:Nat)(hj:L[j]?=some (.hol ty e i xs h k cs))(ho:o.op=.load t x)(ht:P.underlying t=some d)
  (hd:lR d=false) (hx:aS ρ x=.pointer (some (ep h (k*ty.sz+off)))) (hv:cs[off]?=some v):bh P ρ o L v:=λev w c he hL=>by
 subst he;obtain⟨g,cur,e0,h1,h2,_,h4,h5,h6⟩:=kU.at (hL.at hj);have hoff:off<ty.sz:=by grind
 have hp:ep h (k*ty.sz+off)=⟨g,k*ty.sz+off,none⟩:=by simp[ep,h1]
 have hc:w.cell? ⟨g,k*ty.sz+off,none⟩=some v:=by grind[na]
 simp[execOp,ho,hx,hp,wH ht hd (v:=v) (w:=w) hc,Result.andThen]
theorem PE{ty:Ty}{e:TypeId}{xs:List ty.den}{h:Hd}{k:Nat}{cs':List Value}(j:Nat)(hj:L[j]?=some (.hol ty e i xs h k cs))(ho:o.op=.load t x)(ht:P.underlying t=some d)
  (hd:lR d=true) (hi:TI P t sz by_ z) (hx:aS ρ x=.pointer (some (ep h (k*ty.sz+off)))) (hv:(cs.drop off).take sz=cs') (hl:Nat.beq cs'.length sz=true) (hfit:off+sz<=cs.length):bh P ρ o L (.agg cs'.toArray):=λev w c he hL=>by
 subst he;have htihi:=hi;clear hi;obtain⟨inf,hi,_,rfl,_⟩:=htihi.get;obtain⟨g,cur,e0,h1,h2,_,h4,h5,h6⟩:=kU.at (hL.at hj);have hp:ep h (k*ty.sz+off)=⟨g,k*ty.sz+off,none⟩:=by simp[ep,h1]
 have hcs:(cur.toList.drop (k*ty.sz+off)).take inf.size=cs':=by grind[List.drop_take,List.drop_drop,Nat.min_eq_left]
 simp[execOp,ho,hx,hp,tX ht hd hi h2 (cs:=cs') (off:=k*ty.sz+off) (by grind) (amb hl),Result.andThen]
theorem FQ{A m B C new:List α}{n:Nat}(hA:A.length=n)(hm:off+new.length<=m.length) :
  (A++m++B++C).take (n+off)++new++(A++m++B++C).drop (n+off+new.length)=A++(m.take off++new++m.drop (off+new.length))++B++C:=by
 subst hA;have e1:(A++m++B++C).take (A.length+off)=A++m.take off:=by rw[aaW,aaW,ads,ab4 (by omega),show A.length+off-A.length=off by omega,ads,show off-m.length=0 by omega,aek,abd]
 have e2:(A++m++B++C).drop (A.length+off+new.length)=m.drop (off+new.length)++B++C:=by rw[aaW,aaW,acB,acj (by omega),acG,show A.length+off+new.length-A.length=off+new.length by omega,acB,show off+new.length-m.length=0 by omega,adi,aaW]
 grind
theorem KY{ty:Ty}{e:TypeId}{xs:List ty.den}{h:Hd}{k:Nat}{cs':List Value}{v:Value}(j:Nat)(hj:L[j]?=some (.hol ty e i xs h k cs))(ho:o.op=.store t x y)(hi:TI P t sz by_ z)
  (hx:aS ρ x=.pointer (some (ep h (k*ty.sz+off)))) (hy:aS ρ y=v) (hv:v.cells=vs.toArray) (hl:Nat.beq vs.length sz=true) (hones:vs.all Value.oneCell'=true)
  (hin:Nat.ble (off+vs.length) cs.length=true) (hcs:cs.take off++vs++cs.drop (off+vs.length)=cs'):di P ρ o L [i] (λ_:Unit=>undef) (λ_=>[.hol ty e i xs h k cs']):=by
 intro a ev w c next Q ha hL hn
 have htihi:=hi;clear hi;obtain⟨inf,hi,_,rfl,_⟩:=htihi.get;have hle:=aaA hin;have hH:=hL.at hj;obtain⟨d,e0,s,ys,he,hlen,hk,hc0,⟨g,cap,cur,rfl,g2,g3,g4,g5,g6,g7,g8⟩,h3⟩:=(show kU w (λb=>c b=i) ty e xs h k cs from hH)
 obtain⟨c1,c2⟩:=mt (cs:=cs) hlen hk hc0;have m1:(k+1)*ty.sz<=xs.length*ty.sz:=ab2 _ hk;have m2:xs.length*ty.sz<=cap*ty.sz:=ab2 _ g3;rw[adJ,akp]at m1;have hcur:cur.toList=cellsOf ty (xs.take k) (ys.take k)++cs++cellsOf ty (xs.drop (k+1)) (ys.drop (k+1))++cur.toList.drop (xs.length*ty.sz):=by grind[cellsOf,fw,List.take_append_drop]
 have hp:ep ⟨some ⟨g,0,none⟩,xs.length,cap⟩ (k*ty.sz+off)=⟨g,k*ty.sz+off,none⟩:=by simp[ep]
 have hst:=mO P g (k*ty.sz+off) e0 (0,0) vs cur w g2 (.inl rfl) (by omega) (BE hones);have hrun:(execOp ev o).run P w=.ok .skip (w.setRow g (cur.toList.take (k*ty.sz+off)++vs++cur.toList.drop (k*ty.sz+off+vs.length)).toArray):=by simp[execOp,ho,ha,hx,hp,hy,Instr.storeAt,Instr.sureAddr,storeVar,hv,sizeOf,typeInfo,hi,amb hl,hst,Result.andThen]
 rw[hrun];have e1:cur.toList.take (k*ty.sz+off)++vs++cur.toList.drop (k*ty.sz+off+vs.length)=cellsOf ty (xs.take k) (ys.take k)++cs'++cellsOf ty (xs.drop (k+1)) (ys.drop (k+1))++cur.toList.drop (xs.length*ty.sz):=by generalize hC:cur.toList.drop (xs.length*ty.sz)=C at hcur;rw[hcur,<-hcs];exact FQ c2 hle
 rw[e1];have hc':cs'.length=ty.sz:=by rw[<-hcs];simp only[aaL,adx,af3];omega
 obtain⟨c3,_⟩:=mt (cs:=cs') hlen hk hc';have hoth:∀(j:Nat) (x:ty.den) (y:ty.Refs),j≠k->xs[j]?=some x->ys[j]?=some y->bI w (λb=>c b=i/\b≠g) d ty s [j] x y:=λj x y hjk hx hy=>
  bI.re (π0:=[j]) (λb hb hu=>⟨⟨hb,λe=>by subst e;rw[g8]at hu;exact tJ hu rfl⟩,rfl⟩) (eN _) (h3 j x y hjk hx hy)
 refine hn () _ c (ry (i:=i) g7) (aq.cons ⟨d,e0,s,ys,he,hlen,hk,hc',⟨g,cap,_,rfl,setRow_heap w g cur _ e0 (0,0) g2,g3,g4,?_,?_,g7,g8⟩,λj x y hjk hx hy=>?_⟩ (aq.nil _ _))
 ·grind
 ·grind[fw]
 ·refine bI.keep (λb _ hb=>⟨hb.1,?_⟩) ty s _ x y (hoth j x y hjk hx hy);grind[World.setRow]
abbrev V1:={ v:Value//v.oneCell'=true}
abbrev iJ(n:Nat):Ty:=.arr n V1 ⟨.bool true,rfl⟩ (λv=>v.1) (λv=>v.2)
theorem aaS{l:List V1}(h:l.length=sz):(iJ sz).fill l ()=l.map (λv=>v.1):=by subst h;show(List.range l.length).map (λi=>(l.getD i ⟨.bool true,rfl⟩).1)=_;apply ac7;grind
theorem zu(sz:Nat):∀(m:Nat) (cells:List Value),qV cells->cells.length=m*sz->∃rows:List (List V1),rows.length=m/\cellsOf (iJ sz) rows (List.replicate m ())=cells
 |0,cells,_,hl=>⟨[],rfl,by have:cells=[]:=adf (by simpa using hl);subst this;rfl⟩
 |m+1,cells,ho,hl=>by
  rw[adJ,akp]at hl;obtain⟨rows,h1,h2⟩:=zu sz m (cells.drop sz) (λv hv=>ho v (agF hv)) (by grind);have ht:(cells.take sz).length=sz:=by grind
  refine⟨(cells.take sz).pmap (λv h=>(⟨v,h⟩:V1)) (λv hv=>ho v (aeC hv))::rows,by simp[h1],?_⟩;rw[aeP];simp only[cellsOf,h2];rw[aaS (by grind),List.map_pmap];simp
theorem Rz{c:bu}{e:TypeId}{n:Nat}{v:Hd}{cells:List Value}{rows:List (List V1)}(hr:Bn w e sz v n cells g)(hc:c g=i)(hl:rows.length=n)(hcells:cellsOf (iJ sz) rows (List.replicate n ())=cells) :HA.holds w c (.own (iJ sz) e i K rows v):=by
 obtain⟨cap,cur,rfl,g2,g3,g4,g5,g6⟩:=hr;subst hl;have hlen:=cZ (iJ sz) (xs:=rows) (ys:=List.replicate rows.length ()) (by simp);refine⟨List.replicate rows.length (),?_,⟨hlen,.inr ⟨g,cap,cur,e,(0,0),rfl,g2,.inl ⟨rfl,rfl⟩,g3,g4,g5,by grind⟩⟩,λg' hg' => ?_⟩
 ·exact kX (by simp) λj x y _ _=>trivial
 grind[Value.ownBlock]
theorem Pp:∀l:List Unit,l=List.replicate l.length ()
 |[]=>rfl
 |()::r=>by simp only[acn,aeP,agj,true_and];exact Pp r
theorem R3{c:bu}{e:TypeId}{v:Hd}{rows:List (List V1)}(he:Nat.blt e 1048576=true)(h:HA.holds w c (.own (iJ sz) e i K rows v)) :
  (v=⟨none,0,0⟩/\rows=[])\/∃g,Bn w e sz v rows.length (cellsOf (iJ sz) rows (List.replicate rows.length ())) g/\c g=i:=by
 obtain⟨ys,h1,h2,h3⟩:=h;have hy:ys=List.replicate rows.length ():=by rw[h1.length];exact Pp ys
 subst hy;obtain⟨a,n,cap⟩:=v;rcases(h2.plain he).2 with⟨hv,hn⟩|⟨g,cap',cur,hv,_,hg,g3,g4,g5,g6⟩
 ·grind
 ·have hcg:=h3 g (by rw[hv];rfl);simp only[Hd.val,Value.slice.injEq]at hv;obtain⟨rfl,rfl,rfl⟩:=hv;exact .inr ⟨g,⟨cap,cur,rfl,hg,g3,g4,g5,g6⟩,hcg⟩
theorem Bn.rep{c:bu}{e:TypeId}{n:Nat}{v:Hd}{cells:List Value}{rows:List (List V1)}(hr:Bn w e sz v n cells g)(hc:c g∈K)(hl:rows.length=n)(hcells:cellsOf (iJ sz) rows (List.replicate n ())=cells):HA.holds w c (.rep (iJ sz) K rows v):=by have:=BF (Rz (c:=c) (i:=c g) (K:=[]) hr rfl hl hcells);exact bU.keep (λb _ (hb:c b∈[c g])=>⟨by grind,rfl⟩) (.slice (iJ sz)) rows v this
theorem Mj{e:TypeId}{s:EI}{sx:Operand}{ty:Ty}{i2 N:Nat}{K2:List Nat}{xs ys:List ty.den}{h hx:Hd}(j j':Nat)
  (hj:L[j]?=some (.tr ty e i K xs h)) (hj':L[j']?=some (.tr ty e i2 K2 ys hx)) (hei:gw e=.row e0 s)
  (ho:o.op=.call { callee:=.builtin .append,args:=#[sx,x],argTypes:=#[t,t]}) (ht:P.underlying t=some (.slice e0)) (hi:TI P e0 sz by_ z) (hs:sz=ty.sz)
  (hzs:Nat.beq z.cells.size sz=true) (hsz:Nat.ble 1 sz=true) (hse:aS ρ sx=h.val) (hxe:aS ρ x=hx.val)
  (hroom:decide ((xs.length+ys.length)*by_<=140737488355328/\xs.length+ys.length<=maxLen)=true) (hci:Nat.ble 2 i=true) (hN:Nat.ble 2 N=true) (hd:Nat.beq i i2=false) (hd1:Nat.beq i N=false) (hd2:Nat.beq i2 N=false) (he:Nat.blt e0 1048576=true) :
  di P ρ o L [i,i2,N] Hd.val (λh'=>[.tr ty e i [] (xs++ys) h']):=by
 classical
 intro a ev w c next Q ha hL hk
 have hne:i≠i2:=afB hd;have hne1:i≠N:=afB hd1;have hne2:i2≠N:=afB hd2;have hci':=aaA hci;have hN':=aaA hN;subst hs;have hT1:cV w (λb=>c b=i) (.slice ty) (gw e) xs h:=hL.at hj;have hT2:cV w (λb=>c b=i2) (.slice ty) (gw e) ys hx:=hL.at hj';rw[hei]at hT1 hT2;obtain⟨yx,g1,rows1,hl1,hr1,hcl1,hown1,hF1,hg1⟩:∃(yx:List ty.Refs) (g1:Nat) (rows1:List (List V1)),yx.length=xs.length/\rows1.length=xs.length/\cellsOf (iJ ty.sz) rows1 (List.replicate xs.length ())=cellsOf ty xs yx /\
   (∀c1:bu,c1 g1=N->HA.holds w c1 (.own (iJ ty.sz) e0 N [] rows1 h))/\j8 w (λb=>b<w.heap.size/\c b=i/\b≠g1) ty s xs yx/\(g1<w.heap.size->c g1=i):=by
  rcases hT1.split with⟨rfl,rfl⟩|⟨yx,g1,hl,hr,hg,hF⟩
  ·exact⟨[],w.heap.size,[],rfl,rfl,rfl,λc1 _=>DR w c1,j8.nil,λh=>absurd h (Nat.lt_irrefl _)⟩
  ·obtain⟨rows,h1,h2⟩:=zu ty.sz xs.length (cellsOf ty xs yx) (li ty) (cZ ty hl.symm);exact⟨yx,g1,rows,hl,h1,h2,λc1 hc=>Rz hr hc h1 h2,hF.keep (λb hb h=>⟨⟨hb,h⟩,rfl⟩),λ_=>hg⟩
 obtain⟨yy,rows2,hl2,hr2,hcl2,hrep2,hF2⟩:∃(yy:List ty.Refs) (rows2:List (List V1)),yy.length=ys.length/\rows2.length=ys.length/\cellsOf (iJ ty.sz) rows2 (List.replicate ys.length ())=cellsOf ty ys yy /\
   (∀c1:bu,(∀b,b<w.heap.size->c b=i2->c1 b=i2)->HA.holds w c1 (.rep (iJ ty.sz) [i2] rows2 hx))/\j8 w (λb=>b<w.heap.size/\c b=i2) ty s ys yy:=by
  rcases hT2.split with⟨rfl,rfl⟩|⟨yy,g2,hl,hr,hg,hF⟩
  ·exact⟨[],[],rfl,rfl,rfl,λc1 _=>sO w c1,j8.nil⟩
  ·obtain⟨rows,h1,h2⟩:=zu ty.sz ys.length (cellsOf ty ys yy) (li ty) (cZ ty hl.symm);have hg2:g2<w.heap.size:=by
    obtain⟨cap,cur,_,hh,_⟩:=hr;grind
   exact⟨yy,rows,hl,h1,h2,λc1 hc=>hr.rep (by grind) h1 h2,hF.keep (λb hb h=>⟨⟨hb,h.1⟩,rfl⟩)⟩
 let c1:bu:=λb=>if b=g1 then N else c b
 have hL1:aq w c1 [.own (iJ ty.sz) e0 N [] rows1 h,.rep (iJ ty.sz) [i2] rows2 hx]:=by grind[aq.cons,aq.nil]
 have hroom':decide ((rows1.length+rows2.length)*by_<=140737488355328/\rows1.length+rows2.length<=maxLen)=true:=by grind
 refine CE (P:=P) (ρ:=ρ) (o:=o) (L:=[.own (iJ ty.sz) e0 N [] rows1 h,.rep (iJ ty.sz) [i2] rows2 hx]) (ty:=iJ ty.sz) (K:=[]) (K2:=[i2]) rfl 0 1 rfl _ rfl wI ho ht hi rfl hzs hsz hse hxe hroom' hN he a ev w c1 next Q ha hL1 ?_
 intro h' w' c' hst hF;have hc1:∀b,b<w.heap.size->c b≠i->c1 b=c b:=λb hb hc=>by grind
 have hA:∀b,b<w.heap.size->c b=i->b≠g1->c' b=i/\w'.heap[b]?=w.heap[b]?:=λb hb hc hn=>by
  have e1:c1 b=i:=by grind
  have e2:c1 b∉[N]:=by grind
  exact⟨by rw[hst.col b hb e2,e1],hst.same b hb e2⟩
 have hB:∀b,b<w.heap.size->c b=i2->c' b=i2/\w'.heap[b]?=w.heap[b]?:=λb hb hc=>by
  have e1:c1 b=i2:=by grind
  have e2:c1 b∉[N]:=by grind
  exact⟨by rw[hst.col b hb e2,e1],hst.same b hb e2⟩
 let c2:bu:=λb=>if c' b=N\/c' b=i2 then i else c' b
 have hstp:Stp [i,i2,N] w c w' c2:=by
  refine⟨hst.size,λb hb hn=>?_,λb hb hn=>?_,λb hb h=>?_,hst.env⟩
  ·simp only[aaK,afu,akQ,not_or]at hn;have e1:=hc1 b hb hn.1;have e2:c' b=c b:=by rw[hst.col b hb (by grind),e1]
   grind
  ·simp only[aaK,afu,akQ,not_or]at hn;exact hst.same b hb (by grind)
  ·show 2<=(if c' b=N\/c' b=i2 then i else c' b);split
   ·exact hci'
   ·by_cases hlt:b<w.heap.size
    ·obtain⟨_,h2⟩:=h hlt;by_cases e1:c1 b=N
     ·exact hst.two b hb λ_=>⟨by simp[e1],by omega⟩
     grind
    ·exact hst.two b hb λh=>absurd h hlt
 refine hk h' w' c2 hstp (aq.cons ?_ (aq.nil _ _));show cV w' (λb=>c2 b=i) (.slice ty) (gw e) (xs++ys) h';rw[hei];have hFA:j8 w' (λb=>b<w.heap.size/\c b=i/\b≠g1) ty s xs yx:=hF1.keep λb _ hb=>⟨hb,(hA b hb.1 hb.2.1 hb.2.2).2⟩
 have hFB:j8 w' (λb=>b<w.heap.size/\c b=i2) ty s ys yy:=hF2.keep λb _ hb=>⟨hb,(hB b hb.1 hb.2).2⟩
 have hFF:j8 w' (λb=>(b<w.heap.size/\c b=i/\b≠g1)\/(b<w.heap.size/\c b=i2)) ty s (xs++ys) (yx++yy):=j8.append hl1 (λb h1 h2=>hne (h1.2.1.symm.trans h2.2)) (λb hb=>.inl hb) (λb hb=>.inr hb) hFA hFB;rcases R3 he (hF.at (k:=0) rfl)with⟨hn,hrows⟩|⟨g',hr',hg'⟩
 ·grind[List.length_append,List.eq_nil_of_length_eq_zero,cV.nil]
 ·have hlen:(rows1++rows2).length=(xs++ys).length:=by grind
  have hcells:cellsOf (iJ ty.sz) (rows1++rows2) (List.replicate (rows1++rows2).length ())=cellsOf ty (xs++ys) (yx++yy):=by rw[aaL,<-List.replicate_append_replicate,eV _ (by simp),eV ty hl1.symm,hr1,hr2,hcl1,hcl2]
  rw[hcells,hlen]at hr';refine cV.join (S2:=λb=>(b<w.heap.size/\c b=i/\b≠g1)\/(b<w.heap.size/\c b=i2)) (by grind) hr' (by simp[c2,hg']) (λb hb=>?_) (λhb=>?_) hFF
  ·grind
  grind
theorem akn{c:bu}{ty:Ty}{e:TypeId}{xs:List ty.den}{h:Hd}(m sz:Nat)(hm:m<=xs.length)(hT:HA.holds w c (.tr ty e i K xs h)):HA.holds w c (.tr ty e i K (xs.take m) (h.cut 0 m sz)):=by
 obtain⟨d,hT⟩:=(show cV w (λb=>c b=i) (.slice ty) (gw e) xs h from hT)
 rcases hT with⟨rfl,rfl⟩|⟨e',s,he,ys,hl,⟨g,cap,cur,rfl,g2,g3,g4,g5,g6,g7,g8⟩,h3⟩
 ·grind[Hd.cut]
 ·refine⟨d,.inr ⟨e',s,he,ys.take m,by simp[hl],⟨g,cap,cur,?_,g2,by grind,g4,g5,?_,g7,g8⟩,λj x y hx hy=>h3 j x y ?_ ?_⟩⟩
  ·simp[Hd.cut,fg];omega
  ·grind[jG,List.length_take,Nat.min_eq_left,Nat.mul_le_mul_right]
  ·grind
  grind
theorem PR{e:TypeId}{j:Int}{ty:Ty}{xs:List ty.den}{h:Hd}(k:Nat)(hk:L[k]?=some (.tr ty e i K xs h))(ho:o.op=.slice t x none (some y) none)
  (ht:P.underlying t=some (.slice e0)) (hti:TI P e0 sz by_ z) (hs:sz=ty.sz) (hx:aS ρ x=h.val) (hhi:aS ρ y=.int khi j) (hb:decide (0<=j/\j<=xs.length)=true) :
  di P ρ o L [] (λ_:Unit=>(h.cut 0 j.toNat sz).val) (λ_=>[.tr ty e i K (xs.take j.toNat) (h.cut 0 j.toNat sz)]):=λa ev w c next Q ha hL hn=>by
 obtain⟨h0,hj⟩:=abh hb;refine zg (L:=.rep ty (i::K) xs h::L) (i:=0) (klo:=.i64) 0 rfl ho ht hti hs hx rfl hhi (by grind) a ev w c next Q ha (aq.cons (Pr (hL.at hk)) hL) λy w' c' hst _=>hn () w' c' hst ?_
 exact aq.cons (akn j.toNat sz (by omega) (aq.at (hL.stp0 hst) hk)) (aq.nil _ _)
theorem di.tree{ty:Ty}{e:TypeId}{s:EI}{N:Nat}{Kn:List Nat}{rows:List (List V1)}{xs:List ty.den}{ys:List ty.Refs}(h:di P ρ o L [] Hd.val (λh=>[.own (iJ ty.sz) e0 N K rows h]))(hei:gw e=.row e0 s)(he:Nat.blt e0 1048576=true)(hN:Nat.ble 2 N=true)
  (hl:ys.length=xs.length) (hr:rows.length=xs.length) (hcells:cellsOf (iJ ty.sz) rows (List.replicate xs.length ())=cellsOf ty xs ys) (hF:∀w c,aq w c L->j8 w (λb=>c b∈Kn) ty s xs ys) (hn:cq N Kn=false):di P ρ o L Kn Hd.val (λh=>[.tr ty e N [] xs h]):=by
 classical
 intro a ev w c next Q ha hL hk
 have hF0:=hF w c hL;have hN':=aaA hN;have hn':N∉Kn:=λhc=>by rw[mem_iff.2 hc]at hn;cases hn
 refine h a ev w c next Q ha hL λh' w' c' hst hH=>?_
 have hF1:j8 w (λb=>b<w.heap.size/\c b∈Kn) ty s xs ys:=hF0.keep λb hb h=>⟨⟨hb,h⟩,rfl⟩
 have hF2:j8 w' (λb=>b<w.heap.size/\c b∈Kn) ty s xs ys:=hF1.keep λb hb h=>⟨h,hst.same b hb (by simp)⟩
 let c2:bu:=λb=>if b<w.heap.size/\c b∈Kn then N else c' b
 have hstp:Stp Kn w c w' c2:=by
  refine⟨hst.size,λb hb hn=>?_,λb hb _=>hst.same b hb (by simp),λb hb h=>?_,hst.env⟩
  ·show(if b<w.heap.size/\c b∈Kn then N else c' b)=c b;rw[if_neg (λh=>hn h.2)];exact hst.col b hb (by simp)
  ·show 2<=(if b<w.heap.size/\c b∈Kn then N else c' b);split
   ·exact hN'
   ·rename_i hno;by_cases hlt:b<w.heap.size
    ·grind
    ·exact hst.two b hb λh=>absurd h hlt
 refine hk h' w' c2 hstp (aq.cons ?_ (aq.nil _ _));show cV w' (λb=>c2 b=N) (.slice ty) (gw e) xs h';rw[hei];rcases R3 he (hH.at (k:=0) rfl)with⟨hnil,hrows⟩|⟨g',hr',hg'⟩
 ·grind[List.eq_nil_of_length_eq_zero,cV.nil]
 ·rw[hr,hcells]at hr';refine cV.join (S2:=λb=>b<w.heap.size/\c b∈Kn) hl hr' ?_ (λb hb=>by simp[c2,hb]) (λhb=>?_) hF2
  ·grind
  ·have e1:=hst.col g' hb.1 (by simp);grind
end
section
variable {P:Program} {ρ:dr} {L:List HA} {o:Oper} {N:Nat}
def yL{A:Type}(q:A->Bool)(a0:A):List A->List A
 |[]=>[a0]
 |a::r=>bif q a then a0::r else a::yL q a0 r
def nK:List Bool->List MapEntry->Nat->Option (Nat×Value)
 |b::bs,e::r,i=>bif b then some (i,e.val)else nK bs r (i+1)
 |_,_,_=>none
abbrev xR(l:List MapEntry):List (Value×Value):=l.map λe=>(e.key,e.val)
structure KeyRun{A:Type}(P:Program)(kt:TypeId)(x:Value)(q:A->Bool)(f:A->Value×Value)(xs:List A):Prop where
 check:∀w em,(Instr.checkKey em 10000 kt x).run P w=.ok () w
 find:∀w (l:List MapEntry),xR l=xs.map f->(Instr.findKey kt x l).run P w=.ok (nK (xs.map q) l 0) w
 same:∀a∈xs,q a=true->(f a).1=x
 stays:∀w,(Instr.keyThatStays x x).run P w=.ok x w
theorem Bf{A:Type}{q:A->Bool}{f:A->Value×Value}:∀{l:List MapEntry} {xs:List A} (i:Nat),xR l=xs.map f->(nK (xs.map q) l i).map (·.2)=(xs.find? q).map λa=>(f a).2
 |[],[],_,_=>rfl
 |[],_::_,_,h=>by cases h
 |_::_,[],_,h=>by cases h
 |e::r,a::xs,i,h=>by
  simp only[xR,aa4,agj]at h;simp only[aa4,nK,List.find?_cons];cases q a
  ·exact Bf (i+1) h.2
  grind
theorem GY{A:Type}{q:A->Bool}{f:A->Value×Value}{a0:A}:∀{l:List MapEntry} {xs:List A} {i:Nat},xR l=xs.map f->(∀a∈xs,q a=true->(f a).1=(f a0).1) ->
  match nK (xs.map q) l i with
  |some (j,_)=>i<=j/\(∃e,l[j-i]?=some e/\e.key=(f a0).1)/\xR (l.modify (j-i) λe=>{ e with key:=(f a0).1,val:=(f a0).2})=(yL q a0 xs).map f
  |none=>∀b,xR (l++[{ key:=(f a0).1,val:=(f a0).2,born:=b}])=(yL q a0 xs).map f
 |[],[],i,_,_=>λ_=>rfl
 |[],_::_,_,h,_=>by cases h
 |_::_,[],_,h,_=>by cases h
 | e::r,a::xs,i,hl,h=>by
  simp only[xR,aa4,agj]at hl;simp only[aa4,nK];cases hq:q a
  ·have ih:=GY (q:=q) (f:=f) (a0:=a0) (l:=r) (xs:=xs) (i:=i+1) hl.2 λp hp=>h p (aaw _ hp);simp only[aax];cases hf:nK (xs.map q) r (i+1)with
   |none=>
    grind[yL]
   |some p=>
    grind[yL]
  grind[yL,List.modify]
theorem xy(x v:Value):∀(l:List MapEntry) (j:Nat),(l.modify j λe=>{ e with key:=x,val:=v}).map (·.born)=l.map (·.born)
 |[],j=>by grind
 |e::r,0=>by grind
 |e::r,j+1=>by simp[List.modify_succ_cons,xy x v r j]
theorem adI{m:Operand}{b:Nat}{xs:List A}{kx:Value}{q:A->Bool}{f:A->Value×Value}(k:Nat)(hk:L[k]?=some (.mp i b (xs.map f)))(ho:o.op=.lookup t m x false)(ht:P.underlying t=some (.map kt et))
  (hm:aS ρ m=.map (some b)) (hx:aS ρ x=kx) (K:KeyRun P kt kx q f xs) (hi:TI P et sz by_ z):bh P ρ o L (((xs.find? q).map λa=>(f a).2).getD z):=λev w c he hL=>by
 subst he;have htihi:=hi;clear hi;obtain⟨inf,hi,hz,_,_⟩:=htihi.get;obtain⟨arr,clock,h1,h2,h3,h4,h5⟩:=(show um w (λg=>c g=i) b (xs.map f)from hL.at hk)
 have hv:=Bf (q:=q) 0 (show xR arr.toList=xs.map f from h2);have hf:=K.find w arr.toList h2;rw[<-hv];cases he:nK (xs.map q) arr.toList 0 with
 |none=>
  rw[he]at hf;simp[execOp,ho,hm,hx,Instr.lookup,run_underlying ht,MapKept.run_getObj_map h1,K.check,hf,Result.andThen,zeroValue,typeInfo,hi,hz]
 |some p=>
  rw[he]at hf;simp[execOp,ho,hm,hx,Instr.lookup,run_underlying ht,MapKept.run_getObj_map h1,K.check,hf,Result.andThen]
theorem ZE{m:Operand}{b:Nat}{xs:List A}{kx:Value}{a0:A}{q:A->Bool}{f:A->Value×Value}(k:Nat)(hk:L[k]?=some (.mp i b (xs.map f)))(ho:o.op=.lookup t m x false)(ht:P.underlying t=some (.map kt et))
  (hm:aS ρ m=.map (some b)) (hx:aS ρ x=kx) (K:KeyRun P kt kx q f xs) (hi:xs.find? q=some a0):bh P ρ o L (f a0).2:=λev w c he hL=>by
 subst he;obtain⟨arr,clock,h1,h2,h3,h4,h5⟩:=(show um w (λg=>c g=i) b (xs.map f)from hL.at hk)
 have hv:=Bf (q:=q) 0 (show xR arr.toList=xs.map f from h2);rw[hi]at hv;have hf:=K.find w arr.toList h2;cases he:nK (xs.map q) arr.toList 0 with
 |none=>grind
 |some p=>
  rw[he]at hf hv;simp only[alR,no]at hv;simp[execOp,ho,hm,hx,Instr.lookup,run_underlying ht,MapKept.run_getObj_map h1,K.check,hf,Result.andThen,hv]
theorem UY(ho:o.op=.makeMap t none)(hN:Nat.ble 2 N=true):di P ρ o L [] (λb:Nat=>.map (some b)) (λb=>[.mp N b []]):=λa ev w c next Q _ _ hk=>by
 have hrun:(execOp ev o).run P w=.ok (.value (.map (some w.heap.size))) (w.alloc (.map #[] 0)):=by simp[execOp,ho,Instr.makeMap,Result.andThen]
 rw[hrun];exact hk w.heap.size _ _ (vc hN _) (aq.cons ⟨#[],0,heap_alloc_new w _,rfl,by simp,by simp,by simp⟩ (aq.nil _ _))
theorem E2{c:bu}{b:Nat}{ob:Obj}(hc:c b=i):Stp [i] w c { w with heap:=w.heap.setIfInBounds b ob} c:=by refine .mk0 (by simp) (λ_ _=>rfl) (λb' hb' hn=>?_) (λb' h1 h2=>by grind) ⟨rfl,rfl⟩;grind
theorem YX{m:Operand}{b:Nat}{xs:List A}{a0:A}{q:A->Bool}{f:A->Value×Value}(k:Nat)(hk:L[k]?=some (.mp i b (xs.map f)))(ho:o.op=.mapUpdate t m x y\/o.op=.insert t m x y)(ht:P.underlying t=some (.map kt et))
  (hm:aS ρ m=.map (some b)) (hx:aS ρ x=(f a0).1) (hy:aS ρ y=(f a0).2) (K:KeyRun P kt (f a0).1 q f xs):di P ρ o L [i] (λ_:Unit=>undef) (λ_=>[.mp i b ((yL q a0 xs).map f)]):=by
 intro a ev w c next Q ha hL hn
 subst ha;obtain⟨arr,clock,h1,h2,h3,h4,h5⟩:=(show um w (λg=>c g=i) b (xs.map f)from hL.at hk)
 have hf:=K.find w arr.toList h2;have hp:=GY (q:=q) (f:=f) (a0:=a0) (i:=0) (show xR arr.toList=xs.map f from h2) K.same;cases he:nK (xs.map q) arr.toList 0 with
 |none=>
  rw[he]at hf hp;have hrun:(execOp (aS ρ) o).run P w=.ok .skip { w with heap:=w.heap.setIfInBounds b (.map (arr.push { key:=(f a0).1,val:=(f a0).2,born:=clock}) (clock+1))}:=by rcases ho with ho|ho<;>simp[execOp,ho,hm,hx,hy,Instr.mapUpdate,run_underlying ht,MapKept.run_getObj_map h1,K.check,hf,Result.andThen,MapKept.run_setObj_map _ h1]
  rw[hrun];refine hn () _ c (E2 h5) (aq.cons ⟨_,_,(MapKept.heap_set h1).1,?_,?_,?_,h5⟩ (aq.nil _ _))
  ·grind
  ·grind
  grind
 |some p=>
  obtain⟨j,v'⟩:=p;rw[he]at hf hp;obtain⟨_,⟨e,e1,e2⟩,e3⟩:=hp;rw[Nat.sub_zero]at e1 e3;rw[Array.getElem?_toList]at e1;have hst:=K.stays w;have hrun:(execOp (aS ρ) o).run P w=.ok .skip { w with heap:=w.heap.setIfInBounds b (.map (arr.modify j λe=>{ e with key:=(f a0).1,val:=(f a0).2}) clock)}:=by rcases ho with ho|ho<;>simp[execOp,ho,hm,hx,hy,Instr.mapUpdate,run_underlying ht,MapKept.run_getObj_map h1,K.check,hf,Result.andThen,e1,e2,hst,MapKept.run_setObj_map _ h1]
  rw[hrun];refine hn () _ c (E2 h5) (aq.cons ⟨_,_,(MapKept.heap_set h1).1,?_,?_,?_,h5⟩ (aq.nil _ _))
  ·grind
  ·intro e' hm';have hb:=xy (f a0).1 (f a0).2 arr.toList j;rw[Array.toList_modify]at hm';have:e'.born∈(arr.toList.modify j λe=>{ e with key:=(f a0).1,val:=(f a0).2}).map (·.born):=aaG.2 ⟨_,hm',rfl⟩;grind
  ·rw[Array.toList_modify,xy];exact h4
theorem aoL{k:IntKind}(ht:P.underlying kt=some (.int k))(x:Int){q:A->Bool}{f:A->Value×Value}{xs:List A}{g:A->Int}(hf:∀a∈xs,(f a).1=.int k (g a))(hq:∀a∈xs,q a=(x==g a)):KeyRun P kt (.int k x) q f xs where
 check w em:=MapKept.run_checkKey ht (by rfl) em 9999
 find w l hl:=by
  have key:∀(l:List MapEntry) (xs:List A) (i:Nat),(∀a∈xs,(f a).1=.int k (g a))->(∀a∈xs,q a=(x==g a))->xR l=xs.map f->Instr.findNow (.int k) (.int k x) l i=some (nK (xs.map q) l i):=by
   intro l;induction l with
   |nil=>intro xs i _ _ h;cases xs<;>rfl
   | cons e r ih=>
    intro xs i hf hq h;cases xs with
    |nil=>cases h
    |cons p es=>
     grind[Instr.findNow,Instr.sameNow,nK]
  exact MapKept.run_findKey ht (key l xs 0 hf hq hl)
 same a ha h:=by grind
 stays w:=by simp[Instr.keyThatStays,Instr.sameBits,Sem.run_pure]
theorem ZC{Fd:Array Field}(ht:P.underlying kt=some (.struct Fd)){x:Value}{q:A->Bool}{f:A->Value×Value}{xs:List A}(hc:∀w em,(Instr.checkKey em 10000 kt x).run P w=.ok () w)
  (he:∀w,∀a∈xs,(Op.equalIn 10000 kt x (f a).1).run P w=.ok (q a) w) (hs:∀a∈xs,q a=true->(f a).1=x) (hb:Instr.sameBits 10000 x x=true):KeyRun P kt x q f xs where
 check:=hc
 find w l hl:=by
  have ask:∀(l:List MapEntry) (xs:List A) (i:Nat),(∀a∈xs,(Op.equalIn 10000 kt x (f a).1).run P w=.ok (q a) w)->xR l=xs.map f->(Instr.findAsking kt x l i).run P w=.ok (nK (xs.map q) l i) w:=by
   intro l;induction l with
   |nil=>intro xs i _ h;cases xs<;>simp[Instr.findAsking,nK]
   | cons e r ih=>
    intro xs i he h;cases xs with
    |nil=>cases h
    |cons p es=>
     simp only[xR,aa4,agj]at h;obtain⟨h1,h3⟩:=h;have e1:e.key=(f p).1:=by rw[<-h1]
     have e2:=he p aaQ;rw[<-e1]at e2;have e3:(Op.equal kt x e.key).run P w=.ok (q p) w:=e2;simp only[Instr.findAsking,Sem.run_bind,e3,Result.andThen_ok,aa4,nK];cases hx:q p
     ·grind
     simp_all
  have h0:=ask l xs 0 (he w) hl;cases l with
  |nil=>
   simp only[Instr.findKey,Sem.run_bind,run_underlying ht,Result.andThen_ok,Instr.findNow,Sem.run_pure];cases xs with
   |nil=>rfl
   |cons _ _=>cases hl
  |cons e r=>
   have hn:Instr.findNow (.struct Fd) x (e::r) 0=none:=by rfl
   simp only[Instr.findKey,Sem.run_bind,run_underlying ht,Result.andThen_ok,hn];exact h0
 same:=hs
 stays w:=by simp[Instr.keyThatStays,hb,Sem.run_pure]
end
section
variable {P:Program} {ρ:dr} {L:List HA} {o:Oper}
theorem xY.rep{SK:Nat->Prop}{t:Ty}{e:TypeId}{xs:List t.den}{v:Hd}{m:Int}(h1:∀b,S b->S' b)(h2:∀b,SK b->S' b)(h:xY w S SK t e xs v m):bU w S' (.slice t) xs v:=by
 rcases h with⟨rfl,rfl⟩|⟨d,e0,s,ys,_,hl,hr,hT,hR⟩
 ·exact⟨[],trivial,rfl,by simp,by simp[maxLen],.inl ⟨trivial,rfl⟩⟩
 ·refine⟨ys,kX hl λj x y hx hy=>?_,?_⟩
  ·by_cases hj:(j:Int)<m
   ·exact bI.rep h1 t s [j] x y (hT j x y hj hx hy)
   ·exact bU.keep (jL.of h2) t x y (hR j x y (by omega) hx hy)
  ·obtain⟨g,cap,cur,rfl,g2,g3,g4,g5,g6,g7,g8⟩:=hr;exact⟨rfl,g3,g4,.inr ⟨g,0,cur,e0,(0,0),rfl,h1 g g7,g2,by grind,by simpa using g6⟩⟩
theorem NX{c:bu}{t:Ty}{e:TypeId}{xs:List t.den}{v:Hd}{m:Int}(h:HA.holds w c (.pt t e i K xs v m)):HA.holds w c (.rep t (i::K) xs v):=
 xY.rep (S:=λb=>c b=i) (SK:=λb=>c b∈K) (λb (hb:c b=i)=>by grind) (λb hb=>aaw _ hb) h
theorem akN{c:bu}{t:Ty}{e:TypeId}{s:EI}{xs:List t.den}{v:Hd}(hei:gw e=.row e0 s)(he:Nat.blt e0 1048576=true)(h:HA.holds w c (.own t e0 i K xs v)):HA.holds w c (.pt t e i K xs v 0):=by
 obtain⟨ys,h1,h2,h3⟩:=h;obtain⟨a,n,cap⟩:=v;rcases(h2.plain he).2 with⟨hv,hn⟩|⟨g,cap',cur,hv,_,hg,g3,g4,g5,g6⟩
 ·simp only[Hd.val,Value.slice.injEq]at hv;obtain⟨rfl,rfl,rfl⟩:=hv;exact .inl ⟨rfl,adf hn⟩
 ·have hcg:=h3 g (by rw[hv];rfl);simp only[Hd.val,Value.slice.injEq]at hv;obtain⟨rfl,rfl,rfl⟩:=hv;refine .inr ⟨λ_=>[],e0,s,ys,hei,h1.length.symm,⟨g,cap,cur,rfl,hg,g3,g4,g5,g6,hcg,rfl⟩,λj x y hj=>by omega,λj x y _ hx hy=>?_⟩;have hget:∀{xs:List t.den} {ys:List t.Refs} {j:Nat},cy (bU w (λb=>c b∈K) t) xs ys->xs[j]?=some x->ys[j]?=some y->bU w (λb=>c b∈K) t x y:=by
   intro xs;induction xs with
   |nil=>grind
   | cons a xs ih=>
    intro ys j h hx hy;cases ys with
    |nil=>simp at hy
    | cons b ys=>
     cases j with
     |zero=>
      simp at hx hy;subst hx hy;exact h.1
     |succ j=>exact ih h.2 (by simpa using hx) (by simpa using hy)
  grind
theorem alx{c:bu}{t:Ty}{e:TypeId}{K':List Nat}{xs:List t.den}{v:Hd}{m:Int}(hm:(xs.length:Int)<=m)(h:HA.holds w c (.pt t e i K xs v m)):HA.holds w c (.tr t e i K' xs v):=by
 rcases h with⟨rfl,rfl⟩|⟨d,e0,s,ys,hei,hl,hr,hT,hR⟩
 ·exact cV.nil
 ·show cV w (λb=>c b=i) (.slice t) (gw e) xs v;rw[hei];exact⟨d,.inr ⟨e0,s,rfl,ys,hl,hr,λj x y hx hy=>hT j x y (by grind) hx hy⟩⟩
theorem P0{ty:Ty}{e:TypeId}{s:EI}{Kn:List Nat}{xs:List ty.den}{h:Hd}{k:Nat}{v:Value}{xo xn:ty.den}(j:Nat)(hj:L[j]?=some (.pt ty e i K xs h (k:Int)))(hei:gw e=.row e0 s)(ho:o.op=.store t x y)(hi:TI P t sz by_ z)
  (hx:aS ρ x=.pointer (some (ep h (k*ty.sz+off)))) (hy:aS ρ y=v) (hv:v.cells=vs.toArray) (hl:Nat.beq vs.length sz=true) (hones:vs.all Value.oneCell'=true) (hin:off+vs.length<=ty.sz) (hxo:xs[k]?=some xo)
  (hfill:∀yo:ty.Refs,∃yn:ty.Refs,ty.fill xn yn=(ty.fill xo yo).take off++vs++(ty.fill xo yo).drop (off+vs.length)/\∀w c,aq w c L->cV w (λb=>c b∈Kn) ty s xn yn)
  (h2:Nat.ble 2 i=true) (hn:cq i Kn=false) (hK:K.all (λq=>!(cq q (i::Kn)))=true) :
  di P ρ o L (i::Kn) (λ_:Unit=>undef) (λ_=>[.pt ty e i K (xs.set k xn) h (k+1:Nat),.rep ty (i::K) (xs.set k xn) h]):=by
 classical
 intro a ev w c next Q ha hL hk
 have htihi:=hi;clear hi;obtain⟨inf,hi,_,rfl,_⟩:=htihi.get;have hi2:=aaA h2;have hn':i∉Kn:=λhc=>by rw[mem_iff.2 hc]at hn;cases hn
 have hK':∀q∈K,q≠i/\q∉Kn:=λq hq=>by grind[List.all_eq_true,Bool.not_eq_true',mem_iff]
 have hklt:k<xs.length:=(abC.1 hxo).1;rcases(show xY w (λb=>c b=i) (λb=>c b∈K) ty e xs h k from hL.at hj)with⟨_,rfl⟩|⟨d,e0',s',ys,he,hlen,⟨g,cap,cur,rfl,g2,g3,g4,g5,g6,g7,g8⟩,hT,hR⟩
 ·simp at hklt
 rw[hei]at he;cases he;obtain⟨yo,hyo⟩:∃yo,ys[k]?=some yo:=⟨ys[k]'(by omega),abB _⟩
 obtain⟨yn,hf1,hf2⟩:=hfill yo;have hFn:=hf2 w c hL;have hfl:(ty.fill xo yo).length=ty.sz:=ty.fill_length _ _;rw[<-tv hlen hxo hyo]at g6;obtain⟨c1,c2⟩:=mt (cs:=ty.fill xo yo) hlen hklt hfl;have m1:(k+1)*ty.sz<=xs.length*ty.sz:=ab2 _ hklt;have m2:xs.length*ty.sz<=cap*ty.sz:=ab2 _ g3;rw[adJ,akp]at m1;have hcur:cur.toList=cellsOf ty (xs.take k) (ys.take k)++ty.fill xo yo++cellsOf ty (xs.drop (k+1)) (ys.drop (k+1))++cur.toList.drop (xs.length*ty.sz):=by grind[cellsOf,fw,List.take_append_drop]
 have hp:ep ⟨some ⟨g,0,none⟩,xs.length,cap⟩ (k*ty.sz+off)=⟨g,k*ty.sz+off,none⟩:=by simp[ep]
 have hst:=mO P g (k*ty.sz+off) e0 (0,0) vs cur w g2 (.inl rfl) (by omega) (BE hones);have hrun:(execOp ev o).run P w=.ok .skip (w.setRow g (cur.toList.take (k*ty.sz+off)++vs++cur.toList.drop (k*ty.sz+off+vs.length)).toArray):=by simp[execOp,ho,ha,hx,hp,hy,Instr.storeAt,Instr.sureAddr,storeVar,hv,sizeOf,typeInfo,hi,amb hl,hst,Result.andThen]
 rw[hrun];have e1:cur.toList.take (k*ty.sz+off)++vs++cur.toList.drop (k*ty.sz+off+vs.length)=fw ty xs ys k (ty.fill xn yn)++cur.toList.drop (xs.length*ty.sz):=by generalize hC:cur.toList.drop (xs.length*ty.sz)=C at hcur;rw[hcur,hf1];exact FQ c2 (by omega)
 rw[e1];obtain⟨c3,_⟩:=mt (cs:=ty.fill xn yn) hlen hklt (ty.fill_length _ _);let cc:bu:=λb=>if c b∈Kn then i else c b
 have hgK:c g∉Kn:=λhb=>hn' (by grind);have hsame:∀b,b≠g->(w.setRow g (fw ty xs ys k (ty.fill xn yn)++cur.toList.drop (xs.length*ty.sz)).toArray).heap[b]?=w.heap[b]?:=λb hb=>by grind[World.setRow]
 have hstp:Stp (i::Kn) w c (w.setRow g (fw ty xs ys k (ty.fill xn yn)++cur.toList.drop (xs.length*ty.sz)).toArray) cc:=by
  refine⟨by rw[xv];grind,λb _ hb=>?_,λb _ hb=>?_,λb hb hb2=>?_,⟨rfl,rfl⟩⟩
  ·grind
  ·grind
  grind[xv]
 have hPt:HA.holds (w.setRow g (fw ty xs ys k (ty.fill xn yn)++cur.toList.drop (xs.length*ty.sz)).toArray) cc (.pt ty e i K (xs.set k xn) ⟨some ⟨g,0,none⟩,xs.length,cap⟩ (k+1:Nat)):=by
  obtain⟨d2,hFn⟩:=hFn;have hgcc:cc g=i:=by grind
  refine .inr ⟨λb=>if c b∈Kn then d2 b++[k]else d b,e0,s,ys.set k yn,hei,by grind,⟨g,cap,_,by grind,setRow_heap w g cur _ e0 (0,0) g2,by grind,g4,?_,?_,hgcc,?_⟩,λq x' y' hq hx' hy' => ?_,λq x' y' hq hx' hy' => ?_⟩
  ·grind
  ·rw[acQ,tz hlen hklt];grind
  ·grind
  ·by_cases hqk:q=k
   ·subst hqk;rw[adu hklt]at hx';rw[adu (by omega)]at hy';cases hx';cases hy';have h1:bI w (λb=>c b∈Kn) (λb=>d2 b++[q]) ty s [q] xn yn:=bI.ren (f:=λσ=>σ++[q]) (π0:=[]) (λ_ _ _=>rfl) (λb hb _=>⟨hb,rfl⟩) ty s [] xn yn ⟨[],rfl⟩ hFn;have h2:bI w (λb=>c b∈Kn) (λb=>if c b∈Kn then d2 b++[q]else d b) ty s [q] xn yn:=bI.re (π0:=[q]) (λb hb _=>⟨hb,by simp[hb]⟩) (eN _) h1;refine bI.keep (λb _ (hb:c b∈Kn)=>⟨?_,hsame b λe=>hgK (by grind)⟩) ty s _ _ _ h2;grind
   ·rw[ae9 (by omega)]at hx' hy';have h0:=hT q x' y' (by omega) hx' hy';have h1:bI w (λb=>c b=i/\b≠g) (λb=>if c b∈Kn then d2 b++[k]else d b) ty s [q] x' y':=bI.re (π0:=[q]) (λb (hb:c b=i) hu=>⟨⟨hb,λe=>by
     grind[tJ]⟩,by grind⟩) (eN _) h0
    refine bI.keep (λb _ hb=>⟨?_,hsame b hb.2⟩) ty s _ _ _ h1;grind
  ·have hqk:q≠k:=by omega
   rw[ae9 (by omega)]at hx' hy';refine bU.keep (S:=λb=>c b∈K) (λb _ (hb:c b∈K)=>⟨?_,hsame b λe=>?_⟩) ty _ _ (hR q x' y' (by omega) hx' hy')
   ·grind
   grind
 exact hk () _ cc hstp (aq.cons hPt (aq.cons (NX hPt) (aq.nil _ _)))
end
theorem Eo{P:Program}{ty e:TypeId}{i:TypeInfo}(ht:P.underlying t=some (.slice e))(hu:P.underlying u=some .string)(hi:P.info? e=some i)(hz:i.zero=some (.int .u8 0))(hs:i.size=1)(hby:i.bytes=1)
  {h:Hd} {n:Nat} {xs:List Value} (hown:w.ownsRow 0 e 1 h.val n xs) (s:ByteArray) (h63:n+s.size<=maxLen) (hbytes:n+s.size<=140737488355328) :
  ∃(h':Hd) (w':World),(Builtin.append_ #[t,u] ty #[h.val,.string s]).run P w=.ok h'.val w'/\w'.ownsRow 0 e 1 h'.val (n+s.size) (xs++Lib.strCells s)/\w.grownBy w' h.val.ownBlock /\
   (∀g,h'.val.ownBlock=some g->h.val.ownBlock=some g\/w.heap.size<=g):=by
 have toHd:∀(v':Value) (w':World),w'.ownsRow 0 e 1 v' (n+s.size) (xs++Lib.strCells s)->∃h':Hd,v'=h'.val:=by
  intro v' w' ho;rcases ho.2 with⟨rfl,_⟩|⟨g,cap,cur,rfl,_⟩
  ·exact⟨⟨none,0,0⟩,rfl⟩
  ·exact⟨⟨some ⟨g,0,none⟩,n+s.size,cap⟩,rfl⟩
 obtain⟨v0,hv0⟩:∃v,v=h.val:=⟨_,rfl⟩
 rw[<-hv0]at hown|-;rcases hown.2 with⟨hnil,hn0⟩|⟨g,cap,cur,hv,_,hg,hnc,hcm,hcs,htake⟩
 ·have hown':w.ownsRow w.heap.size e 1 v0 n xs:=⟨hown.1,.inl ⟨hnil,hn0⟩⟩
  obtain⟨v',w',hr,h2,h3,_⟩:=Lib.run_append_own_string (P:=P) w w.heap.size t u ty e i ht hu hi hz hs hby _ n xs hown' s h63 hbytes (aaT _);have h2':w'.ownsRow 0 e 1 v' (n+s.size) (xs++Lib.strCells s):=⟨h2.1,h2.2.imp id λ⟨g,cap,cur,hv,_,hrest⟩=>⟨g,cap,cur,hv,afX _,hrest⟩⟩
  obtain⟨h',rfl⟩:=toHd v' w' h2';exact⟨h',w',hr,h2',h3,λg hg=>.inr (h2.lt g hg).1⟩
 ·obtain⟨v',w',hr,h2,h3,_⟩:=Lib.run_append_own_string (P:=P) w 0 t u ty e i ht hu hi hz hs hby _ n xs hown s h63 hbytes (afX _);have hcs':cur.size=cap:=by grind
  by_cases hroom:n+s.size<=cap
  ·grind[Value.ownBlock,Lib.run_append_room_string,Result.ok.injEq]
  ·have holds:∀j u,xs[j]?=some u->w.cell? ((⟨g,0,none⟩:Addr).add j)=some u:=hown.cells (g:=g) (by rw[hv];rfl);have hr2:=Lib.run_append_grow_string (P:=P) w t u ty e i (.int .u8 0) ht hu hi hz ⟨g,0,none⟩ n cap xs (by grind) holds s (by omega) (by grind) (by rw[hby];exact growslice_fits (by omega) (by omega));grind[Value.ownBlock]
section
variable {P:Program} {ρ:dr} {L:List HA} {o:Oper}
abbrev D5:Ty:=.one Int (λx=>.int .u8 x) (λ_=>rfl)
theorem Oz:∀(l:List UInt8),(l.map λb=>Value.int .u8 b.toNat)=cellsOf D5 (l.map λb=>(b.toNat:Int)) (List.replicate l.length ())
 |[]=>rfl
 |b::r=>by simp only[aa4,acn,aeP,cellsOf,Oz r];rfl
theorem HZ{e:TypeId}{s:Operand}{xs:List Int}{h:Hd}{l:List UInt8}(j:Nat)
  (hj:L[j]?=some (.own D5 e ci K xs h)) (ho:o.op=.call { callee:=.builtin .append,args:=#[s,x],argTypes:=#[t,u]}) (ht:P.underlying t=some (.slice e)) (hu:P.underlying u=some .string) (hi:TI P e sz by_ (.int .u8 0)) (hs:Nat.beq sz 1=true) (hb:Nat.beq by_ 1=true)
  (hse:aS ρ s=h.val) (hxe:aS ρ x=.string ⟨l.toArray⟩)
  (hroom:decide ((xs.length+l.length)*by_<=140737488355328/\xs.length+l.length<=maxLen)=true) (hci:Nat.ble 2 ci=true) (he:Nat.blt e 1048576=true) :
  di P ρ o L [ci] Hd.val (λh'=>[.own D5 e ci K (xs++l.map λb=>(b.toNat:Int)) h']):=by
 intro a ev w c next Q ha hL hk
 have htihi:=hi;clear hi;obtain⟨inf,hi,hz,hs1,hb1⟩:=htihi.get;obtain⟨rs,hr1,hown,hcol⟩:=hL.at hj;obtain⟨hb2,h63⟩:=abh hroom;have hs':=amb hs;have hb':=amb hb;rw[hb',afD]at hb2;replace hown:w.ownsRow 0 e 1 h.val xs.length (cellsOf D5 xs rs):=hown.plain he;have hsz:(⟨l.toArray⟩:ByteArray).size=l.length:=by rfl
 obtain⟨h',w',hrun,ho',hg,hblk⟩:=Eo (P:=P) (ty:=o.type) ht hu hi hz (by omega) (by omega) hown ⟨l.toArray⟩ (by omega) (by omega);have hex:(execOp ev o).run P w=.ok (.value h'.val) w':=by simp[execOp,ho,ha,hse,hxe,resolve,invoke,builtin,hrun,Result.andThen]
 rw[hex];have hst:=AT hci hg hcol;refine hk h' w' _ hst (aq.cons ⟨rs++List.replicate l.length (),?_,?_,Gv hblk hcol⟩ (aq.nil _ _))
 ·exact(hr1.mono λx y _=>bU.pure D5 x y rfl).append (kX (by simp) λj x y _ _=>bU.pure D5 x y rfl)
 ·rw[eV D5 hr1.length,<-Oz];have e1:Lib.strCells ⟨l.toArray⟩=l.map λb=>Value.int .u8 b.toNat:=by rfl
  rw[hsz,e1]at ho';have:=BQ ho';grind
end
section
variable {P:Program} {ρ:dr} {L:List HA} {o:Oper}
def Ou(x y z u:Int):Int:=let a:=if y<x then y else x;let b:=if z<a then z else a;if u<b then u else b
theorem LL(ts:Array TypeId)(t:TypeId)(k1 k2 k3 k4:IntKind)(x y z u:Int):(Builtin.min_ ts t #[.int k1 x,.int k2 y,.int k3 z,.int k4 u]).run P w=.ok (.int k1 (Ou x y z u)) w:=by rfl
theorem ao8{ts:Array TypeId}{z u:Operand}{k:IntKind}{a b c d:Int}(ho:o.op=.call { callee:=.builtin .min,args:=#[x,y,z,u],argTypes:=ts})(hx:aS ρ x=.int k a)(hy:aS ρ y=.int k b)(hz:aS ρ z=.int k c)(hu:aS ρ u=.int k d) :
  bh P ρ o L (.int k (Ou a b c d)):=λev w c he _=>by
 subst he;simp[execOp,ho,hx,hy,hz,hu,resolve,invoke,builtin,LL,Result.andThen]
theorem P1{ty:Ty}{e:TypeId}{xs:List ty.den}{h:Hd}{k:Nat}{v:Value}{xo xn:ty.den}(j:Nat)(hj:L[j]?=some (.tr ty e i K xs h))(ho:o.op=.store t x y)(hi:TI P t sz by_ z)
  (hx:aS ρ x=.pointer (some (ep h (k*ty.sz+off)))) (hy:aS ρ y=v) (hv:v.cells=vs.toArray) (hl:Nat.beq vs.length sz=true) (hones:vs.all Value.oneCell'=true) (hin:off+vs.length<=ty.sz) (hxo:xs[k]?=some xo)
  (hfill:∀yo:ty.Refs,ty.fill xn yo=(ty.fill xo yo).take off++vs++(ty.fill xo yo).drop (off+vs.length))
  (htree:∀(w:World) (S:Nat->Prop) (d:Nat->List Nat) (ε:EI) (π:List Nat) (yo:ty.Refs),bI w S d ty ε π xo yo->bI w S d ty ε π xn yo) :
  di P ρ o L [i] (λ_:Unit=>undef) (λ_=>[.tr ty e i K (xs.set k xn) h]):=by
 intro a ev w c next Q ha hL hk
 have htihi:=hi;clear hi;obtain⟨inf,hi,_,rfl,_⟩:=htihi.get;have hklt:k<xs.length:=(abC.1 hxo).1;obtain⟨d,hT⟩:=(show cV w (λb=>c b=i) (.slice ty) (gw e) xs h from hL.at hj)
 rcases hT with⟨_,rfl⟩|⟨e0,s,hei,ys,hlen,⟨g,cap,cur,rfl,g2,g3,g4,g5,g6,g7,g8⟩,hT⟩
 ·simp at hklt
 obtain⟨yo,hyo⟩:∃yo,ys[k]?=some yo:=⟨ys[k]'(by omega),abB _⟩
 have hf1:=hfill yo;have hfl:(ty.fill xo yo).length=ty.sz:=ty.fill_length _ _;rw[<-tv hlen hxo hyo]at g6;obtain⟨c1,c2⟩:=mt (cs:=ty.fill xo yo) hlen hklt hfl;have m1:(k+1)*ty.sz<=xs.length*ty.sz:=ab2 _ hklt;have m2:xs.length*ty.sz<=cap*ty.sz:=ab2 _ g3;rw[adJ,akp]at m1;have hcur:cur.toList=cellsOf ty (xs.take k) (ys.take k)++ty.fill xo yo++cellsOf ty (xs.drop (k+1)) (ys.drop (k+1))++cur.toList.drop (xs.length*ty.sz):=by grind[cellsOf,fw,List.take_append_drop]
 have hp:ep ⟨some ⟨g,0,none⟩,xs.length,cap⟩ (k*ty.sz+off)=⟨g,k*ty.sz+off,none⟩:=by simp[ep]
 have hst:=mO P g (k*ty.sz+off) e0 (0,0) vs cur w g2 (.inl rfl) (by omega) (BE hones);have hrun:(execOp ev o).run P w=.ok .skip (w.setRow g (cur.toList.take (k*ty.sz+off)++vs++cur.toList.drop (k*ty.sz+off+vs.length)).toArray):=by simp[execOp,ho,ha,hx,hp,hy,Instr.storeAt,Instr.sureAddr,storeVar,hv,sizeOf,typeInfo,hi,amb hl,hst,Result.andThen]
 rw[hrun];have e1:cur.toList.take (k*ty.sz+off)++vs++cur.toList.drop (k*ty.sz+off+vs.length)=fw ty xs ys k (ty.fill xn yo)++cur.toList.drop (xs.length*ty.sz):=by generalize hC:cur.toList.drop (xs.length*ty.sz)=C at hcur;rw[hcur,hf1];exact FQ c2 (by omega)
 rw[e1];obtain⟨c3,_⟩:=mt (cs:=ty.fill xn yo) hlen hklt (ty.fill_length _ _);have hsame:∀b,b≠g->(w.setRow g (fw ty xs ys k (ty.fill xn yo)++cur.toList.drop (xs.length*ty.sz)).toArray).heap[b]?=w.heap[b]?:=λb hb=>by grind[World.setRow]
 have hys:ys.set k yo=ys:=by refine ac7 λq=>?_;grind
 refine hk () _ c (ry (i:=i) g7) (aq.cons ?_ (aq.nil _ _));show cV _ (λb=>c b=i) (.slice ty) (gw e) (xs.set k xn) _;rw[hei];refine⟨d,.inr ⟨e0,s,rfl,ys,by grind,⟨g,cap,_,by grind,setRow_heap w g cur _ e0 (0,0) g2,by grind,g4,?_,?_,g7,g8⟩,λq x' y' hx' hy' => ?_⟩⟩
 ·grind
 ·grind[List.length_set,tz]
 ·have h0:bI w (λb=>c b=i) d ty s [q] x' y':=by
   grind
  have h1:bI w (λb=>c b=i/\b≠g) d ty s [q] x' y':=bI.re (π0:=[q]) (λb hb hu=>⟨⟨hb,λe=>by subst e;rw[g8]at hu;exact tJ hu rfl⟩,rfl⟩) (eN _) h0;exact bI.keep (λb _ hb=>⟨hb.1,hsame b hb.2⟩) ty s _ _ _ h1
end
section
variable {P:Program} {ρ:dr} {L:List HA} {o:Oper}
end
def Pq(w:World)(ty:Ty)(ys:List ty.den)(s:Hd):Prop:=∃rs:List ty.Refs,ys.length=rs.length/\s.n=ys.length/\(ys.length=0\/∃b o,s.a=some ⟨b,o,none⟩/\∀j u,(cellsOf ty ys rs)[j]?=some u->w.cell? ⟨b,o+j,none⟩=some u)
theorem Ge{c:bu}{ty:Ty}{ys:List ty.den}{s:Hd}(h:HA.holds w c (.rep ty K ys s)):Pq w ty ys s:=by obtain⟨rs,hr,hn,hle,hm,hc⟩:=h;refine⟨rs,hr.length,hn,?_⟩;grind[na]
theorem alX{ty:Ty}{xs:List ty.den}{s u:Hd}(hsz:ty.sz=1)(h:Pq w ty xs u)(hp:nM s u 1 lo hi)(hb:lo<=hi/\hi<=xs.length):Pq w ty ((xs.take hi.toNat).drop lo.toNat) s:=by
 obtain⟨rs,hl,hn,hc⟩:=h;obtain⟨h0,hsn,hpt⟩:=hp;have hlen:((xs.take hi.toNat).drop lo.toNat).length=hi.toNat-lo.toNat:=by grind
 refine⟨(rs.take hi.toNat).drop lo.toNat,by simp[hl],by grind,?_⟩;by_cases hlt:lo<hi
 ·obtain⟨b,o,ha,hu⟩:=hpt hlt;right;refine⟨_,_,ha,λj v hv=>?_⟩;rcases hc with hc|⟨b',o',hua,hcell⟩
  ·omega
  grind[ep,rG,jG,Addr.mk.injEq]
 grind
theorem N6{P:Program}{dT sT ty e:TypeId}(hu:P.underlying dT=some (.slice e'))(hs:(P.info? e').map (·.size)=some 1){h d s:Hd}{n:Nat}{xs ys:List Value}(hown:w.ownsRow 0 e 1 h.val n xs)
  (hp:nM d h 1 lo hi) (hb:lo<=hi/\hi<=n) (hsn:s.n=ys.length) (hsc:ys.length=0\/∃a,s.a=some a/\∀j u,ys[j]?=some u->w.cell? (a.add j)=some u) (h1:∀v∈ys,v.oneCell'=true) :
  ∃w',(Builtin.copy_ #[dT,sT] ty #[d.val,s.val]).run P w=.ok (.int .i64 ((min (hi-lo).toNat ys.length:Nat):Int)) w' /\
   w'.ownsRow 0 e 1 h.val n (xs.take lo.toNat++ys.take (min (hi-lo).toNat ys.length)++xs.drop (lo.toNat+min (hi-lo).toNat ys.length))/\w.grownBy w' h.val.ownBlock:=by
 obtain⟨h0,hdn,hpt⟩:=hp;obtain⟨k,hk⟩:∃k,k=min (hi-lo).toNat ys.length:=⟨_,rfl⟩
 rw[<-hk];by_cases hk0:k=0
 ·refine⟨w,?_,?_,⟨rfl,rfl,rfl,aaT _,λ_ _ _=>rfl⟩⟩
  ·rw[hk0];exact run_copy_none w dT sT ty e' d.a s.a d.n d.cap s.n s.cap hu hs (by grind)
  ·rw[hk0];simpa using hown
 ·obtain⟨b,o,hda,hpat⟩:=hpt (by omega);rcases hsc with hsc|⟨a,hsa,hcell⟩
  ·omega
  ·have hlk:(ys.take k).length=k:=by grind
   rcases hown.2 with⟨hv,hn0⟩|⟨g,cap,cur,hv,hbg,hg,hnc,hcm,hcs,htake⟩
   ·omega
   ·simp only[Hd.val,Value.slice.injEq]at hv;obtain⟨v1,v2,v3⟩:=hv;simp only[ep,v1,afD,alG,Addr.mk.injEq,alw]at hpat;obtain⟨rfl,rfl⟩:=hpat;have hxl:xs.length=n:=by grind
    have hr:=run_copy_row (P:=P) w dT sT ty e' g lo.toNat d.n d.cap a s.n s.cap cur e (ys.take k) hu hs hg (by grind)
     (λj v hv=>hcell j v (by grind)) (by grind) (λv hv=>h1 v (aeC hv))
    refine⟨w.setRow g (cur.toList.take lo.toNat++ys.take k++cur.toList.drop (lo.toNat+(ys.take k).length)).toArray,?_,⟨?_,.inr ⟨g,cap,_,by grind,hbg,setRow_heap w g cur _ e _ hg,hnc,hcm,?_,?_⟩⟩,⟨rfl,rfl,rfl,by simp,λk _ hk=>setRow_other w g k _ (λe=>hk (by simp[Hd.val,v1,Value.ownBlock,e]))⟩⟩
    ·simpa only[Hd.val,hda,hsa,hlk,goInt]using hr
    ·grind
    ·grind
    ·have hcl:cur.toList.length=cap:=by grind
     rw[afD]at htake;have e1:xs.take lo.toNat=cur.toList.take lo.toNat:=by grind
     have e2:xs.drop (lo.toNat+k)=(cur.toList.drop (lo.toNat+k)).take (n-(lo.toNat+k)):=by rw[<-htake,ae2]
     have l1:(cur.toList.take lo.toNat++ys.take k).length=lo.toNat+k:=by grind
     rw[e1,e2,hlk,afD,ads,l1,ab4 (by omega)]
section
variable {P:Program} {ρ:dr} {L:List HA} {o:Oper}
theorem alo{e:TypeId}{ty:Ty}{xs ys:List ty.den}{h d s:Hd}(hpure:ty.pureB=true)(h1:Nat.beq ty.sz 1=true)(j:Nat)
  (hj:L[j]?=some (.own ty e ci K xs h)) (hd:∀w c,aq w c L->nM d h 1 lo hi) (hsrc:∀w c,aq w c L->Pq w ty ys s) (ho:o.op=.call { callee:=.builtin .copy,args:=#[x,y],argTypes:=#[t,u]}) (ht:P.underlying t=some (.slice e')) (hi':TI P e' sz by_ z) (hs:Nat.beq sz 1=true)
  (hx:aS ρ x=d.val) (hy:aS ρ y=s.val) (hb:decide (lo<=hi/\hi<=xs.length)=true) (hci:Nat.ble 2 ci=true) (he:Nat.blt e 1048576=true) :
  di P ρ o L [ci] (λ_:Unit=>.int .i64 ((min (hi-lo).toNat ys.length:Nat):Int)) (λ_=>[.own ty e ci K (xs.take lo.toNat++ys.take (min (hi-lo).toNat ys.length)++xs.drop (lo.toNat+min (hi-lo).toNat ys.length)) h]):=by
 intro a ev w c next Q ha hL hk
 have htihi:=hi';clear hi';obtain⟨inf,hi',hzz,hs1,hb1⟩:=htihi.get;obtain⟨rs,hr1,hown,hcol⟩:=hL.at hj;obtain⟨rs2,hl2,hn2,hc2⟩:=hsrc w c hL;obtain⟨hb1,hb2⟩:=abh hb;have hsz1:=amb h1;have hs':=amb hs;have hlc:(cellsOf ty ys rs2).length=ys.length:=by rw[cZ ty hl2,hsz1,afD]
 replace hown:w.ownsRow 0 e 1 h.val xs.length (cellsOf ty xs rs):=by rw[<-hsz1];exact hown.plain he
 obtain⟨w',hrun,ho',hg⟩:=N6 (P:=P) (ty:=o.type) (sT:=u) ht (by grind) hown (hd w c hL) ⟨hb1,hb2⟩ (ys:=cellsOf ty ys rs2) (by rw[hlc];exact hn2) (by grind[id,fg]) (li ty);rw[hlc]at hrun ho';have hex:(execOp ev o).run P w=.ok (.value (.int .i64 ((min (hi-lo).toNat ys.length:Nat):Int))) w':=by simp[execOp,ho,ha,hx,hy,resolve,invoke,builtin,hrun,Result.andThen]
 rw[hex];have hst:=AT hci hg hcol;have hlo:=(hd w c hL).1;have hlen:(xs.take lo.toNat++ys.take (min (hi-lo).toNat ys.length)++xs.drop (lo.toNat+min (hi-lo).toNat ys.length)).length=xs.length:=by grind
 refine hk () w' _ hst (aq.cons (show(HA.own ty e ci K _ h).holds w' _ from⟨rs.take lo.toNat++rs2.take (min (hi-lo).toNat ys.length)++rs.drop (lo.toNat+min (hi-lo).toNat ys.length),?_,?_,Gv (λg hg=>.inl hg) hcol⟩) (aq.nil _ _))
 ·exact kX (by have:=hr1.length;grind) λj x y _ _=>bU.pure ty x y hpure
 ·have:=hr1.length;rw[hlen,eV ty (by grind),eV ty (by grind),jG ty _ hr1.length,jG ty _ hl2,rG ty _ hr1.length,hsz1];simp only[afD];exact BQ ho'
theorem PQ{e:TypeId}{klo:IntKind}{i:Int}{ty:Ty}{xs:List ty.den}{h:Hd}(k:Nat)(hk:L[k]?=some (.own ty e ci K xs h))(ho:o.op=.slice t x (some y) none none)
  (ht:P.underlying t=some (.slice e)) (hti:TI P e sz by_ z) (hs:sz=ty.sz) (h1:Nat.beq sz 1=true) (hx:aS ρ x=h.val) (hlo:aS ρ y=.int klo i) (hb:decide (0<=i/\i<=(xs.length:Int)/\(xs.length:Int)<=xs.length)=true) (he:Nat.blt e 1048576=true) :
  di P ρ o L [] (λ_:Unit=>(h.cut i.toNat (xs.length:Int).toNat sz).val) (λ_=>[.rep ty (ci::K) ((xs.take (xs.length:Int).toNat).drop i.toNat) (h.cut i.toNat (xs.length:Int).toNat sz),.pure (nM (h.cut i.toNat (xs.length:Int).toNat sz) h 1 i xs.length)]):=λa ev w c next Q ha hL hn=>by
 obtain⟨h0,hj,_⟩:=abh hb;refine zg (L:=.rep ty (ci::K) xs h::L) (i:=i) (klo:=klo) (khi:=.i64) (j:=xs.length) 0 rfl ho ht hti hs hx hlo rfl hb a ev w c next Q ha (aq.cons (BF (hL.at hk)) hL) λy w' c' hst hF=>hn () w' c' hst (aq.cons (hF.at (k:=0) rfl) (aq.cons ?_ (aq.nil _ _)))
 obtain⟨ys,hr,hown,hcol⟩:(HA.own ty e ci K xs h).holds w c:=hL.at hk;have hs1:=amb h1;refine⟨h0,by simp only[Hd.cut];omega,λhlt=>?_⟩;rcases(hown.plain he).2 with⟨hv,hn0⟩|⟨g,cap,cur,hv,_,_,hnc,_⟩
 ·omega
 grind[Hd.cut,ep,Value.slice.injEq,fg]
end
end Go.Sm
