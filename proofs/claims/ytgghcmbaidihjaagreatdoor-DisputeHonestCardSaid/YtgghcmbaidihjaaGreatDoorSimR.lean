/- Laws for the row. No condition. -/
import Derived.Laws.IdiomCopy
import Derived.Test.YtgghcmbaidihjaaGreatDoorSimG
import Derived.WalkSpells
import Derived.WideMake
import Derived.Lib.AppendStr
import Derived.Laws.Runes
namespace Go.Sm
def dR(h:Hd)(off:Nat):Addr:=match h.a with
 |some a=>⟨a.block,a.off+off,none⟩
 |none=>⟨0,off,none⟩
theorem xA(h:Hd)(x y:Nat)(b o:Nat)(hp:dR h x=⟨b,o,none⟩):dR h (x+y)=⟨b,o+y,none⟩:=by unfold dR at hp|-;grind
section
variable {P:Program} {ρ:cV} {L:List HA} {o:Oper} {N:Nat}
def amJ(w:World)(c:aS)(t:Ty)(K:List Nat)(x:t.den)(p:Addr):Prop:=∃y b off arr ty fz,p=⟨b,off,none⟩/\w.heap[b]?=some (.cells arr ty fz)/\off+t.sz<=arr.size /\
 (arr.toList.drop off).take t.sz=t.fill x y/\bD w (λb=>c b∈K) t x y
def El(L:List HA)(t:Ty)(K:List Nat)(v:t.den)(h:Hd)(x:Nat):Prop:=∀w c,aj w c L->amJ w c t K v (dR h x)
theorem MQ{ty:Ty}{K:List Nat}{xs:List ty.den}{h:Hd}{i:Int}{v:ty.den}{sz:Nat}(j:Nat)(hj:L[j]?=some (.rep ty K xs h))(hs:ty.sz=sz)(hv:ae xs i=some v) :
  El L ty K v h (i.toNat*sz):=λw c hL=>by
 subst hs;obtain⟨ys,hr,hn,hle,hm,hc⟩:=hL.at hj;obtain⟨h0,hget,hlt⟩:=lZ hv;obtain⟨y,hy,hry⟩:=hr.get hget;rcases hc with⟨ha',hcap⟩|⟨b,off,arr,tt,fz,ha',hS,hb,hfit,hcells⟩
 ·omega
 ·refine⟨y,b,off+i.toNat*ty.sz,arr,tt,fz,by simp[dR,ha'],hb,?_,?_,hry⟩
  ·have:(i.toNat+1)*ty.sz<=h.cap*ty.sz:=aaR _ (by omega);grind
  ·rw[<-rM ty hget hy,<-hcells,ad0,adg,ail,ab5];have:(i.toNat+1)*ty.sz<=xs.length*ty.sz:=aaR _ hlt;grind
theorem ann{ty:Ty}{e:TypeId}{ci:Nat}{K:List Nat}{xs:List ty.den}{h:Hd}{i:Int}{v:ty.den}{sz:Nat}(j:Nat)(hj:L[j]?=some (.own ty e ci K xs h))(hs:ty.sz=sz)(hv:ae xs i=some v) :
  El L ty K v h (i.toNat*sz):=λw c hL=>by
 subst hs;obtain⟨ys,hr,hown,hcol⟩:=hL.at hj;obtain⟨h0,hget,hlt⟩:=lZ hv;obtain⟨y,hy,hry⟩:=hr.get hget;have hlen:=hown.1;rcases hown.2 with⟨_,hn0⟩|⟨g,cap,cur,tt,fz,hval',hg,_,hnc,hcm,hcur,htake⟩
 ·omega
 ·have hha:h.a=some ⟨g,0,none⟩:=by
   grind
  refine⟨y,g,i.toNat*ty.sz,cur,tt,fz,by simp[dR,hha],hg,?_,?_,hry⟩
  ·have:(i.toNat+1)*ty.sz<=cap*ty.sz:=aaR _ (by omega);grind
  ·rw[<-rM ty hget hy,<-htake,ad0,ail,ab5];have:(i.toNat+1)*ty.sz<=xs.length*ty.sz:=aaR _ hlt;grind
theorem On{t u:Ty}{K:List Nat}{v:t.den}{v':u.den}{h:Hd}{x fo:Nat}(pth:Pth t u)(hE:El L t K v h x)(hv:pth.get v=v')(ho:pth.off=fo):El L u K v' h (x+fo):=λw c hL=>by subst hv ho;obtain⟨y,b,off,arr,tt,fz,hp,hb,hle,hcs,hr⟩:=hE w c hL;have hl:=pth.le;refine⟨pth.refs y,b,off+pth.off,arr,tt,fz,xA h x _ b off hp,hb,by omega,?_,pth.rep v y hr⟩;rw[<-pth.cells v y,<-hcs,ad0,adg,ail,ab5 (by omega)]
theorem aoL{n:Nat}{α:Type}{d:α}{f:α->Value}{hf:∀x,(f x).oneCell'=true}{K:List Nat}{xs:List α}{h:Hd}{x:Nat}{i:Int}(hE:El L (.arr n α d f hf) K xs h x)(h0:decide (0<=i/\i<n)=true) :
  El L (.one α f hf) K (xs.getD i.toNat d) h (x+i.toNat):=λw c hL=>by
 obtain⟨y,b,off,arr,ty,fz,hp,hb,hle,hcs,hr⟩:=hE w c hL;have hi0:0<=i/\i<n:=aaq h0;have hlt:i.toNat<n:=by omega
 refine⟨(),b,off+i.toNat,arr,ty,fz,xA h x _ b off hp,hb,by grind,?_,trivial⟩;have h1:((arr.toList.drop off).take n)[i.toNat]?=some (f (xs.getD i.toNat d)):=by grind[Ty.fill]
 simp only[aht,if_pos hlt,aci]at h1;rw[show(Ty.one α f hf).sz=1 from rfl,List.take_one];simp only[Ty.fill];simp_all
theorem apP{t e:TypeId}{x ix:Operand}{k:IntKind}{i:Int}{ty:Ty}{K:List Nat}{xs:List ty.den}{h:Hd}{v:ty.den}{sz by_:Nat}{z:Value}(j:Nat)(hj:L[j]?=some (.rep ty K xs h))(ho:o.op=.indexAddr t x ix)
  (ht:P.underlying t=some (.slice e)) (hi:TI P e sz by_ z) (hx:aJ ρ x=h.val) (hix:aJ ρ ix=.int k i) (hv:ae xs i=some v) :
  aX P ρ o L (.pointer (some (dR h (i.toNat*sz)))):=λev w c he hL=>by
 subst he;have htihi:=hi;clear hi;obtain⟨inf,hi,_,rfl,_⟩:=htihi.get;obtain⟨ys,hr,hn,hle,hm,hc⟩:=hL.at hj;obtain⟨h0,hget,hlt⟩:=lZ hv;rcases hc with⟨ha',hcap⟩|⟨b,off,arr,tt,fz,ha',hS,hb,hfit,hcells⟩
 ·omega
 ·have hi0:0<=i/\i<(h.n:Int):=⟨h0,by omega⟩
  simp[execOp,ho,hx,hix,Instr.indexAt,asIntOf,run_underlying ht,sizeOf,typeInfo,hi,ha',hi0,eN,Result.andThen,dR]
theorem wg{t:TypeId}{x:Operand}{d:TypeDesc}{α:Type}{f:α->Value}{hf:∀x,(f x).oneCell'=true}{K:List Nat}{h:Hd}{X:Nat}{v:α}(hE:El L (.one α f hf) K v h X)(ho:o.op=.load t x)
  (ht:P.underlying t=some d) (hd:jF d=false) (hx:aJ ρ x=.pointer (some (dR h X))):aX P ρ o L (f v):=λev w c he hL=>
 by
 obtain⟨y,b,off,arr,ty,fz,hp,hb,hle,hcs,hr⟩:=hE w c hL;exact Su (L:=.elem (.one α f hf) [c b] v (dR h X)::L) 0 rfl ho ht hd hx ev w c he (aj.cons ⟨y,b,off,arr,ty,fz,hp,by simp,hb,hle,hcs,trivial⟩ hL)
theorem yV{t:TypeId}{x:Operand}{d:TypeDesc}{ty:Ty}{K:List Nat}{h:Hd}{X:Nat}{xs:List ty.den}(hE:El L (.slice ty) K xs h X)(ho:o.op=.load t x)
  (ht:P.underlying t=some d) (hd:jF d=false) (hx:aJ ρ x=.pointer (some (dR h X))):cJ P ρ o L [] Hd.val (λh=>[.rep ty K xs h]):=xl λev w c ha hL=>by
 obtain⟨y,b,off,arr,tt,fz,hp,hb,hle,hcs,hr⟩:=hE w c hL;rw[hp]at hx;have hc:w.cell? ⟨b,off,none⟩=some (Hd.val y):=by rw[lj hb];have:=aae (·[0]?) hcs;simpa[Ty.fill,aht]using this
 exact⟨y,by simp[execOp,ho,ha,hx,vw ht hd hc],aj.cons hr (aj.nil _ _)⟩
theorem eK{t:TypeId}{x:Operand}{d:TypeDesc}{ty:Ty}{K:List Nat}{h:Hd}{X:Nat}{v:ty.den}{sz by_:Nat}{z:Value}(hE:El L ty K v h X)(ho:o.op=.load t x)
  (ht:P.underlying t=some d) (hd:jF d=true) (hi:TI P t sz by_ z) (hs:sz=ty.sz) (hx:aJ ρ x=.pointer (some (dR h X))) :
  cJ P ρ o L [] (λy:ty.Refs=>.agg (ty.fill v y).toArray) (λy=>facts ty K v y):=xl λev w c ha hL=>by
 have htihi:=hi;clear hi;obtain⟨i,hi,_,rfl,_⟩:=htihi.get;obtain⟨y,b,off,arr,tt,fz,hp,hb,hle,hcs,hr⟩:=hE w c hL;rw[hp]at hx;refine⟨y,?_,pd ty v y hr⟩;simp[execOp,ho,ha,hx,sF ht hd hi hb (off:=off) (cs:=ty.fill v y) (by grind) (by grind)]
def nZ(L:List HA)(K:List Nat)(t:Ty)(v:t.den)(off:Nat)(new:List Value)(v':t.den):Prop:=∀w c,aj w c L->∀r,bD w (λb=>c b∈K) t v r ->
 ∃r',bD w (λb=>c b∈K) t v' r'/\off+new.length<=t.sz/\(t.fill v r).take off++new++(t.fill v r).drop (off+new.length)=t.fill v' r'/\∀u∈new,u.oneCell'=true
def cu{α:Type}(n:Nat)(d:α)(xs:List α)(i:Nat)(x:α):List α:=(List.range n).map λj=>if j=i then x else xs.getD j d
theorem alG{n:Nat}{α:Type}{d:α}{f:α->Value}{hf:∀x,(f x).oneCell'=true}{K:List Nat}{v:List α}{x:α}{i:Int}(h0:decide (0<=i/\i<n)=true) :
  nZ L K (.arr n α d f hf) v i.toNat [f x] (cu n d v i.toNat x):=λ_ _ _ _ _=>by
 have hi0:0<=i/\i<n:=aaq h0;have hlt:i.toNat<n:=by omega
 refine⟨(),trivial,by grind,?_,by grind⟩;apply ace;intro j;simp only[Ty.fill,cu,aaG,aer,aj7];simp only[akR,ZD,acs,aes,alo,aaG,aer];rw[ab5 (by omega)];by_cases h1:j<i.toNat
 ·grind
 ·by_cases h2:j=i.toNat
  ·grind
  ·simp only[h1,show¬j<i.toNat+(0+1)by omega,aaS,aci,show i.toNat+1+(j-(i.toNat+(0+1)))=j by omega];grind
theorem alI{a b:Ty}{K:List Nat}{v:a.den×b.den}{off:Nat}{new:List Value}{x:a.den}(hs:nZ L K a v.1 off new x):nZ L K (.pair a b) v off new (x,v.2):=λw c hL r hr=>by obtain⟨r',h1,h2,h3,h4⟩:=hs w c hL r.1 hr.1;refine⟨(r',r.2),⟨h1,hr.2⟩,by grind,?_,h4⟩;have hl:=a.fill_length v.1 r.1;simp only[Ty.fill];grind
theorem aj4{a b:Ty}{K:List Nat}{v:a.den×b.den}{off off':Nat}{new:List Value}{x:b.den}(hs:nZ L K b v.2 off new x)(ho:a.sz+off=off'):nZ L K (.pair a b) v off' new (v.1,x):=λw c hL r hr=>by
 subst ho;obtain⟨r',h1,h2,h3,h4⟩:=hs w c hL r.2 hr.2;refine⟨(r.1,r'),⟨hr.1,h1⟩,by grind,?_,h4⟩;have hl:=a.fill_length v.1 r.1;simp only[Ty.fill];rw[<-h3,acE,abe,aaU (l:=a.fill v.1 r.1) (by omega),aa6 (as:=a.fill v.1 r.1) (by omega),show a.sz+off-(a.fill v.1 r.1).length=off by omega,
  show a.sz+off+new.length-(a.fill v.1 r.1).length=off+new.length by omega]
 simp
theorem aoX{K:List Nat}{v:Nd}{n:List Value}{off:Nat}{z:Ty.nodeT.den}(h:nZ L K Ty.nodeT v.tup off n z):nZ L K .node v off n (Nd.of z):=λw c hL r hr=>by obtain⟨r',p1,q1,e1,o1⟩:=h w c hL ((),(),(),r) ⟨trivial,trivial,trivial,ng.1 hr⟩;exact⟨r'.2.2.2,ng.2 p1.2.2.2,q1,e1,o1⟩
theorem BY(t:Ty):∀{xs:List t.den} {ys:List t.Refs} {i:Nat} {x x':t.den} {y y':t.Refs} {off:Nat} {new:List Value},xs.length=ys.length->xs[i]?=some x->ys[i]?=some y ->
  off+new.length<=t.sz->(t.fill x y).take off++new++(t.fill x y).drop (off+new.length)=t.fill x' y' ->
  (cellsOf t xs ys).take (i*t.sz+off)++new++(cellsOf t xs ys).drop (i*t.sz+off+new.length)=cellsOf t (xs.set i x') (ys.set i y')
 |a::xs,b::ys,0,x,x',y,y',off,new,hl,hx,hy,ho,hf=>by simp at hx hy;subst hx hy;have f:=t.fill_length a b;simp only[List.set_cons_zero,cellsOf,<-hf];grind
 | a::xs,b::ys,i+1,x,x',y,y',off,new,hl,hx,hy,ho,hf=>by
  simp at hx hy;have f:=t.fill_length a b;have ih:=BY t (xs:=xs) (ys:=ys) (i:=i) (by simpa using hl) hx hy ho hf;simp only[List.set_cons_succ,cellsOf,<-ih];have e:(i+1)*t.sz=(t.fill a b).length+i*t.sz:=by grind
  rw[e,ajp,acE,abe,aaU (l:=t.fill a b) (by omega),aa6 (as:=t.fill a b) (by omega),Nat.add_sub_cancel_left,
   show(t.fill a b).length+(i*t.sz+off)+new.length-(t.fill a b).length=i*t.sz+off+new.length by omega]
  simp
 |[],_,_,_,_,_,_,_,_,_,hx,_,_,_=>by simp at hx
 |_::_,[],_,_,_,_,_,_,_,hl,_,_,_,_=>by simp at hl
theorem AG(g:Nat)(t:TypeId)(fz:Nat×Nat):∀(vs:List Value) (o:Nat) (cur:Array Value) (w:World),w.heap[g]?=some (.cells cur t fz)->o+vs.length<=cur.size ->
  w.setCells g o vs=w.setRow g (cur.toList.take o++vs++cur.toList.drop (o+vs.length)).toArray
 |[],o,cur,w,hg,_=>by
  have e:(cur.toList.take o++[]++cur.toList.drop (o+([]:List Value).length)).toArray=cur:=by simp
  rw[e,setRow_self w g cur t fz hg];rfl
 |v::r,o,cur,w,hg,hl=>by simp only[aaG]at hl;show(w.setCell ⟨g,o,none⟩ v).setCells g (o+1) r=_;rw[setCell_eq_setRow w g o cur t fz v hg,AG g t fz r (o+1) _ _ (setRow_heap w g cur _ t fz hg) (by simp;omega),setRow_setRow];congr 2;have h2:=list_seg_step cur.toList o v r (by simp;omega);grind
theorem kR(P:Program)(g o:Nat)(t:TypeId)(fz:Nat×Nat)(vs:List Value)(cur:Array Value)(w:World)(hg:w.heap[g]?=some (.cells cur t fz))(hfz:fz=(0,0)\/cur.size<=fz.1)(hl:o+vs.length<=cur.size)(h1:∀v∈vs,v.oneCell'=true) :
  (storeCells ⟨g,o,none⟩ vs 0).run P w=.ok () (w.setRow g (cur.toList.take o++vs++cur.toList.drop (o+vs.length)).toArray):=by
 grind[World.cell?,World.frozen?,Bool.and_eq_false_iff,decide_eq_false_iff_not,run_storeCells_cells,AG]
theorem Kb{t e:TypeId}{x y:Operand}{ty:Ty}{ci:Nat}{K:List Nat}{xs:List ty.den}{h:Hd}{i:Int}{v v':ty.den}{sz by_ esz X off:Nat}{z val:Value}{new:List Value}(j:Nat)(hj:L[j]?=some (.own ty e ci K xs h))
  (ho:o.op=.store t x y) (hi:TI P t sz by_ z) (hx:aJ ρ x=.pointer (some (dR h X))) (hX:X=i.toNat*esz+off) (hesz:esz=ty.sz) (hv:ae xs i=some v) (hy:aJ ρ y=val) (hval:val.cells=new.toArray) (hl:Nat.beq new.length sz=true)
  (hs:nZ L K ty v off new v') (hK:K.all (λk=>!(Nat.beq k ci))=true):cJ P ρ o L [ci] (λ_:Unit=>undef) (λ_=>[.own ty e ci K (xs.set i.toNat v') h]):=by
 intro a ev w c next Q ha hL hn
 have htihi:=hi;clear hi;obtain⟨inf,hi,_,rfl,_⟩:=htihi.get;subst hesz hX;obtain⟨ys,hr,hown,hcol⟩:=hL.at hj;obtain⟨h0,hget,hlt⟩:=lZ hv;obtain⟨y',hy',hry⟩:=hr.get hget;obtain⟨r',hr',hfit,hfill,hones⟩:=hs w c hL y' hry;rcases hown.2 with⟨_,hn0⟩|⟨g,cap,cur,tt,fz,hval',hg,hmark,hnc,hcm,hcur,htake⟩
 ·omega
 have hha:h.a=some ⟨g,0,none⟩:=by grind
 have hpat:dR h (i.toNat*ty.sz+off)=⟨g,i.toNat*ty.sz+off,none⟩:=by simp[dR,hha]
 have hcg:c g=ci:=hcol g (by rw[hval'];rfl);have hlen:=hown.1;have h1:(i.toNat+1)*ty.sz<=xs.length*ty.sz:=aaR _ hlt;rw[acG,aky]at h1;have h2:xs.length*ty.sz<=cap*ty.sz:=aaR _ hnc;have hst:=kR P g (i.toNat*ty.sz+off) tt fz new cur w hg (hmark.imp (λh=>h.2) (λh=>h.2)) (by omega) hones;have hrun:(execOp ev o).run P w=.ok .skip (w.setRow g (cur.toList.take (i.toNat*ty.sz+off)++new++cur.toList.drop (i.toNat*ty.sz+off+new.length)).toArray):=by simp[execOp,ho,ha,hx,hpat,hy,Instr.storeAt,Instr.sureAddr,storeVar,hval,sizeOf,typeInfo,hi,f9 hl,hst,Result.andThen]
 rw[hrun];have hrow:=setRow_heap w g cur (cur.toList.take (i.toNat*ty.sz+off)++new++cur.toList.drop (i.toNat*ty.sz+off+new.length)).toArray tt fz hg;have hstp:=qI (w:=w) (c:=c) (b:=g) (i:=ci) (cs:=(cur.toList.take (i.toNat*ty.sz+off)++new++cur.toList.drop (i.toNat*ty.sz+off+new.length)).toArray) hcg;have hno:∀k∈K,k∉[ci]:=λk hk hm=>by have:=Zy.1 hK k hk;simp_all
 have hset:=(hr.set i.toNat hr').mono (bD.keep (hstp.keeps hno) ty);have hcl:=cE ty hr.length;have hcs:=BY ty hr.length hget hy' hfit hfill;refine hn () _ c hstp (aj.cons ⟨ys.set i.toNat r',hset,⟨by grind,.inr ⟨g,cap,_,tt,fz,by grind,hrow,hmark.imp id (λh=>⟨h.1,?_⟩),by grind,hcm,?_,?_⟩⟩,hcol⟩ (aj.nil _ _))
 ·grind
 ·grind
 ·have hcl2:cur.toList.length=cap*ty.sz:=by grind
  rw[aa1,<-hcs,<-htake];apply ace;intro m;simp only[akR,aht,aci,acs,ZD,adT];rw[ab5 (show i.toNat*ty.sz+off<=cur.toList.length by omega),ab5 (show xs.length*ty.sz<=cur.toList.length by omega),ab5 (show i.toNat*ty.sz+off<=xs.length*ty.sz by omega)];grind
theorem lW{w:World}{k:IntKind}{i:Int}{y:Nat}{code:BoundsCode}(h0:0<=i)(h1:i<=y):(Instr.sliceBound (.int k i) y code).run P w=.ok i.toNat w:=by simp[Instr.sliceBound,asIntOf,h0,h1,Result.andThen]
def Hd.cut(h:Hd)(lo hi sz:Nat):Hd:=⟨if h.cap=lo then h.a else h.a.map (·.add (lo*sz)),hi-lo,h.cap-lo⟩
theorem yK{t e:TypeId}{x:Operand}{lo hi:Option Operand}{klo khi:IntKind}{i j:Int}{ty:Ty}{K:List Nat}{xs:List ty.den}{h:Hd}{sz by_:Nat}{z:Value}(k:Nat)(hk:L[k]?=some (.rep ty K xs h))(ho:o.op=.slice t x lo hi none)
  (ht:P.underlying t=some (.slice e)) (hti:TI P e sz by_ z) (hs:sz=ty.sz) (hx:aJ ρ x=h.val) (hlo:lo.elim (i=0) (λq=>aJ ρ q=.int klo i)) (hhi:hi.elim (j=xs.length) (λq=>aJ ρ q=.int khi j))
  (hb:decide (0<=i/\i<=j/\j<=xs.length)=true) :
  cJ P ρ o L [] (λ_:Unit=>(h.cut i.toNat j.toNat sz).val) (λ_=>[.rep ty K ((xs.take j.toNat).drop i.toNat) (h.cut i.toNat j.toNat sz)]):=xl λev w c he hL=>by
 have htihi:=hti;clear hti;obtain⟨inf,hi',_,rfl,_⟩:=htihi.get;obtain⟨h0,hij,hj⟩:=aaq hb;obtain⟨ys,hr,hn,hle,hm,hc⟩:=hL.at hk;refine⟨(),?_,aj.cons ⟨(ys.take j.toNat).drop i.toNat,(hr.take _).drop _,?_⟩ (aj.nil _ _)⟩
 ·have b3:(Instr.sliceBounds true h.n h.cap (lo.map (aJ ρ)) (hi.map (aJ ρ)) none).run P w=.ok (i.toNat,j.toNat,h.cap) w:=by
   have b1:∀q,hi=some q->(Instr.sliceBound (aJ ρ q) h.cap .sliceAcap).run P w=.ok j.toNat w:=λq hq=>by grind[lW]
   have b2:∀q,lo=some q->(Instr.sliceBound (aJ ρ q) j.toNat .sliceB).run P w=.ok i.toNat w:=λq hq=>by grind[lW]
   cases hi with
   |none=>
    simp at hhi;subst hhi;cases lo with
    |none=>simp at hlo;subst hlo;simp[Instr.sliceBounds,hn]
    |some q=>have:=b2 q rfl;simp only[ZH]at this;simp[Instr.sliceBounds,hn,this,Result.andThen]
   |some q' =>
    have h1:=b1 q' rfl;cases lo with
    |none=>simp at hlo;subst hlo;simp[Instr.sliceBounds,h1,Result.andThen]
    |some q=>simp[Instr.sliceBounds,h1,b2 q rfl,Result.andThen]
  have:(Instr.slice t h.val (lo.map (aJ ρ)) (hi.map (aJ ρ)) none).run P w=.ok (h.cut i.toNat j.toNat inf.size).val w:=by simp[Instr.slice,run_underlying ht,b3,sizeOf,typeInfo,hi',Hd.cut,Result.andThen]
  simp[execOp,ho,he,hx,Instr.sliceAt,run_underlying ht,this,Result.andThen]
 ·refine⟨by simp[Hd.cut];omega,by simp[Hd.cut];omega,by simp[Hd.cut];omega,?_⟩;rcases hc with⟨ha',hcap⟩|⟨b,off,arr,tt,fz,ha',hS,hbb,hfit,hcells⟩
  ·exact .inl ⟨trivial,by simp[Hd.cut,hcap]⟩
  ·right;by_cases hcap:h.cap=i.toNat
   ·refine⟨b,off,arr,tt,fz,by simp[Hd.cut,hcap,ha'],hS,hbb,by simp[Hd.cut,hcap];omega,?_⟩;have hjn:j.toNat=i.toNat:=by omega
    have e:(xs.take j.toNat).drop i.toNat=[]:=by rw[hjn];simp
    have e':(ys.take j.toNat).drop i.toNat=[]:=by rw[hjn];simp
    rw[e,e'];simp[cellsOf]
   ·have hm2:h.cap*ty.sz=i.toNat*ty.sz+(h.cap-i.toNat)*ty.sz:=by rw[<-acG];congr 1;omega
    refine⟨b,off+i.toNat*inf.size,arr,tt,fz,by simp[Hd.cut,hcap,ha',eN],hS,hbb,?_,?_⟩
    ·simp only[Hd.cut];rw[hs];omega
    ·have hl:=hr.length;grind[Nat.mul_le_mul_right,pS,iu,List.drop_take,List.drop_drop,Nat.min_eq_left,Nat.sub_mul]
end
abbrev tq(k:IntKind)(a b:Int):Int:=k.wrap (a*2 ^ (min b.toNat k.bits))
abbrev fm(k:IntKind)(a b:Int):Int:=a.fdiv (2 ^ (min b.toNat k.bits))
def bJ(op:BinOp)(k:IntKind)(x y:Int):Int:=match op with
 |.and=>k.wrap (BitVec.ofInt k.bits x &&& BitVec.ofInt k.bits y).toNat
 |.or=>k.wrap (BitVec.ofInt k.bits x ||| BitVec.ofInt k.bits y).toNat
 |.xor=>k.wrap (BitVec.ofInt k.bits x ^^^ BitVec.ofInt k.bits y).toNat
 |.andNot=>k.wrap (BitVec.ofInt k.bits x &&& ~~~(BitVec.ofInt k.bits y)).toNat
 |_=>0
section
variable {P:Program} {ρ:cV} {L:List HA} {o:Oper} {N:Nat}
theorem apK{t t':TypeId}{x y:Operand}{k k':IntKind}{a b:Int}(ho:o.op=.binOp .shl t x y t')(hx:aJ ρ x=.int k a)(hy:aJ ρ y=.int k' b)(h0:decide (0<=b)=true) :
  aX P ρ o L (.int k (tq k a b)):=λev w c he _=>by
 have:¬b<0:=by grind
 subst he;simp[execOp,ho,hx,hy,cD,binOp,Op.shift,this,Result.andThen]
theorem aqg{op:BinOp}{t t':TypeId}{x y:Operand}{k:IntKind}{a b:Int}(ho:o.op=.binOp op t x y t')(hop:op=.and\/op=.or\/op=.xor\/op=.andNot)(hx:aJ ρ x=.int k a)(hy:aJ ρ y=.int k b) :
  aX P ρ o L (.int k (bJ op k a b)):=λev w c he _=>by
 subst he;rcases hop with rfl|rfl|rfl|rfl<;>simp[execOp,ho,hx,hy,cD,binOp,Op.intBits,bJ,Result.andThen]
theorem apE{t t':TypeId}{x y:Operand}{k k':IntKind}{a b:Int}(ho:o.op=.binOp .shr t x y t')(hx:aJ ρ x=.int k a)(hy:aJ ρ y=.int k' b)(h0:decide (0<=b)=true) :
  aX P ρ o L (.int k (fm k a b)):=λev w c he _=>by
 have:¬b<0:=by grind
 subst he;simp[execOp,ho,hx,hy,cD,binOp,Op.shift,this,Result.andThen]
theorem Pf{t:TypeId}{x y:Operand}{k:IntKind}{s:List UInt8}{i:Int}{b:UInt8}(ho:o.op=.index t x y)(ht:P.underlying t=some .string)(hx:aJ ρ x=.string ⟨s.toArray⟩)(hy:aJ ρ y=.int k i)(hv:ae s i=some b) :
  aX P ρ o L (.int .u8 (b.toNat:Int)):=λev w c he _=>by
 subst he;obtain⟨h0,hg,hlt⟩:=lZ hv;have hb:(⟨s.toArray⟩:ByteArray)[i.toNat]?=some b:=by
  have h1:i.toNat<(⟨s.toArray⟩:ByteArray).size:=by simpa[ByteArray.size]using hlt
  rw[getElem?_pos (⟨s.toArray⟩:ByteArray) i.toNat h1];have h2:=(aaw.1 hg).2;show some (s.toArray[i.toNat]'(by grind))=some b;grind
 have hm:(if 0<=i then(⟨s.toArray⟩:ByteArray)[i.toNat]? else none)=some b:=by grind
 simp only[execOp,ho,hx,hy,Instr.index,asIntOf,Sem.run_bind,Sem.run_pure,Result.andThen_ok,run_underlying ht];rw[hm];rfl
theorem Pd{t e:TypeId}{x y:Operand}{k:IntKind}{n:Nat}{α:Type}{dd:α}{f:α->Value}{hf:∀x,(f x).oneCell'=true}{v:List α}{i:Int}{d:TypeDesc}{by_:Nat}{z:Value}(ho:o.op=.index t x y)(ht:P.underlying t=some (.array n e))
  (he:P.underlying e=some d) (hd:jF d=false) (hi:TI P e 1 by_ z) (hx:aJ ρ x=.agg ((Ty.arr n α dd f hf).fill v ()).toArray) (hy:aJ ρ y=.int k i) (h0:decide (0<=i/\i<n)=true):aX P ρ o L (f (v.getD i.toNat dd)):=λev w c hev _=>by
 subst hev;have htihi:=hi;clear hi;obtain⟨inf,hi,_,hs,_⟩:=htihi.get;have hi0:0<=i/\i<n:=aaq h0;have hlt:i.toNat<n:=by omega
 simp[execOp,ho,hx,hy,Instr.index,asIntOf,run_underlying ht,hi0,sizeOf,typeInfo,hi,hs,part,j9 he hd,Ty.fill,hlt,Result.andThen]
theorem Wb{t t':TypeId}{x y:Operand}{a b:Bool}(ho:o.op=.binOp .eql t x y t')(ht:P.underlying t=some .bool)(hx:aJ ρ x=.bool a)(hy:aJ ρ y=.bool b):aX P ρ o L (.bool (a==b)):=λev w c he _=>by
 subst he;have hg:(eqGuard .eql t x y (.bool a) (.bool b)).run P w=.ok () w:=rfl;have hb:(binOp .eql t (.bool a) (.bool b)).run P w=.ok (.bool (a==b)) w:=by simp only[binOp];simp[run_equal_bool w t a b ht]
 grind[execOp,Sem.run_bind,Result.andThen_ok,Sem.run_pure]
theorem VQ{t t':TypeId}{x y:Operand}{a b:Bool}(ho:o.op=.binOp .neq t x y t')(ht:P.underlying t=some .bool)(hx:aJ ρ x=.bool a)(hy:aJ ρ y=.bool b):aX P ρ o L (.bool (a != b)):=λev w c he _=>by
 subst he;have hg:(eqGuard .neq t x y (.bool a) (.bool b)).run P w=.ok () w:=rfl;have hb:(binOp .neq t (.bool a) (.bool b)).run P w=.ok (.bool (a != b)) w:=by simp only[binOp];simp[run_equal_bool w t a b ht,bne]
 grind[execOp,Sem.run_bind,Result.andThen_ok,Sem.run_pure]
def Hd.isNil(h:Hd):Bool:=h.a.isNone
theorem Q4{t t' e:TypeId}{x y:Operand}{h:Hd}(ho:o.op=.binOp .eql t x y t')(ht:P.underlying t=some (.slice e))(hx:aJ ρ x=h.val)(hy:aJ ρ y=.slice none 0 0):aX P ρ o L (.bool h.isNil):=λev w c he _=>by subst he;have hg:(eqGuard .eql t x y h.val (.slice none 0 0)).run P w=.ok () w:=rfl;simp[execOp,ho,hx,hy,hg,Lib.run_eql_slice_nil w t e h.a h.n h.cap 0 0 ht,Hd.isNil,Result.andThen]
theorem Om{t t' e:TypeId}{x y:Operand}{h:Hd}(ho:o.op=.binOp .neq t x y t')(ht:P.underlying t=some (.slice e))(hx:aJ ρ x=h.val)(hy:aJ ρ y=.slice none 0 0):aX P ρ o L (.bool (!h.isNil)):=λev w c he _=>by subst he;have hg:(eqGuard .neq t x y h.val (.slice none 0 0)).run P w=.ok () w:=rfl;simp[execOp,ho,hx,hy,hg,run_neq_slice_nil_any w t e h.a h.n h.cap 0 0 ht,Hd.isNil,Result.andThen]
theorem yc(ty:Ty)(x:ty.den)(y:ty.Refs):∀n:Nat,cellsOf ty (List.replicate n x) (List.replicate n y)=(madeCells (ty.fill x y).toArray (n*ty.sz)).toList
 |0=>by simp[cellsOf,madeCells]
 |n+1=>by
  have ih:=yc ty x y n;have hl:=ty.fill_length x y;rw[ajc,ajc,dU ty (by simp),ih];simp only[madeCells,Array.toList_map,Array.toList_range,cellsOf,Z2];rw[show(n+1)*ty.sz=n*ty.sz+ty.sz by grind,List.range_add,abz];congr 1;apply ace;intro j;simp only[adK,aeJ,ae9];by_cases hj:j<ty.sz
  ·simp[hj,hl,Nat.mod_eq_of_lt hj]
  grind
theorem tn{α β:Type}{R:α->β->Prop}{x:α}{y:β}(h:R x y):∀n:Nat,bX R (List.replicate n x) (List.replicate n y)
 |0=>trivial
 |n+1=>by rw[adF,adF];exact⟨h,tn h n⟩
theorem AD{t e:TypeId}{x y:Operand}{kl kc:IntKind}{l:Int}{ty:Ty}{v:ty.den}{r:ty.Refs}{K:List Nat}{sz by_:Nat}{z:Value}(ho:o.op=.makeSlice t x y)(ht:P.underlying t=some (.slice e))(hi:TI P e sz by_ z)(hs:sz=ty.sz)
  (hz:z.cells=(ty.fill v r).toArray) (hf:nR L (facts ty K v r)) (hx:aJ ρ x=.int kl l) (hy:aJ ρ y=.int kc l) (hb:decide (0<=l/\l*by_<=281474976710656/\l<=maxLen)=true) (hN:Nat.ble 2 N=true) :
  cJ P ρ o L [] Hd.val (λh=>[.own ty e N K (List.replicate l.toNat v) h]):=by
 intro a ev w c next Q ha hL hk
 have htihi:=hi;clear hi;obtain⟨inf,hi,hzz,rfl,rfl⟩:=htihi.get;obtain⟨h0,hb1,hb2⟩:=aaq hb;have hm:=run_make (P:=P) w t e inf z ht hi hzz kl kc l l h0 (acH _) (by grind) (by simp[maxLen]at hb2;omega);have hex:(execOp ev o).run P w=.ok (.value (.slice (some ⟨w.heap.size,0,none⟩) l.toNat l.toNat)) (w.alloc (.cells (madeCells z.cells (l.toNat*inf.size)) e)):=by simp[execOp,ho,ha,hx,hy,hm,Result.andThen]
 rw[hex];have hst:=ul (w:=w) (c:=c) hN (.cells (madeCells z.cells (l.toNat*inf.size)) e);have hc:cellsOf ty (List.replicate l.toNat v) (List.replicate l.toNat r)=(madeCells z.cells (l.toNat*inf.size)).toList:=by rw[yc,hz,hs]
 have hr:=bD.keep (hst.keeps (K:=K) (by simp)) ty v r (xS ty v r (hf.heap hL));refine hk ⟨some ⟨w.heap.size,0,none⟩,l.toNat,l.toNat⟩ _ _ hst (aj.cons ⟨List.replicate l.toNat r,?_,⟨?_,.inr ⟨w.heap.size,l.toNat,madeCells z.cells (l.toNat*inf.size),e,(0,0),by simp,heap_alloc_new w _,.inl ⟨rfl,rfl⟩,by simp,by omega,?_,?_⟩⟩,λg hg=>?_⟩ (aj.nil _ _))
 ·exact tn hr l.toNat
 ·rw[hc];simp[size_madeCells,hs]
 ·rw[size_madeCells,hs]
 ·grind[List.take_of_length_le,size_madeCells]
 ·simp[Value.ownBlock]at hg;grind
theorem Ky{t e e':TypeId}{x y:Operand}{khi:IntKind}{j:Int}{ty:Ty}{ci:Nat}{K:List Nat}{xs:List ty.den}{h:Hd}{sz by_:Nat}{z:Value}(k:Nat)(hk:L[k]?=some (.own ty e' ci K xs h))(ho:o.op=.slice t x none (some y) none)
  (ht:P.underlying t=some (.slice e)) (hti:TI P e sz by_ z) (hs:sz=ty.sz) (hx:aJ ρ x=h.val) (hhi:aJ ρ y=.int khi j) (hb:decide (0<=j/\j<=xs.length)=true) :
  cJ P ρ o L [] (λ_:Unit=>(h.cut 0 j.toNat sz).val) (λ_=>[.own ty e' ci K (xs.take j.toNat) (h.cut 0 j.toNat sz)]):=λa ev w c next Q ha hL hn=>by
 obtain⟨h0,hj⟩:=aaq hb;refine yK (L:=.rep ty (ci::K) xs h::L) (i:=0) (klo:=.i64) 0 rfl ho ht hti hs hx rfl hhi (by grind) a ev w c next Q ha (aj.cons (BT (hL.at hk)) hL) λy w' c' hst _=>hn () w' c' hst ?_
 refine aj.cons ?_ (aj.nil _ _);obtain⟨ys,hr,hown,hcol⟩:(HA.own ty e' ci K xs h).holds w' c':=aj.at (hL.stp0 hst) hk;have hlen:=hr.length;refine⟨ys.take j.toNat,hr.take _,?_,λg hg=>?_⟩
 ·refine⟨by rw[cE ty (by simp[hlen])],?_⟩;rcases hown.2 with⟨h1,h2⟩|⟨g,cap,cur,tt,fz,h1,h3,h2,h4,h5,h6,h7⟩
  ·grind[Hd.cut]
  grind[Hd.cut,Value.slice.injEq,eN,iu,List.length_take,Nat.min_eq_left,Nat.mul_le_mul_right]
 ·refine hcol g ?_;rcases hown.2 with⟨h1,h2⟩|⟨g',cap,cur,tt,fz,h1,_⟩
  ·grind[Hd.cut,Value.ownBlock]
  grind[Value.ownBlock,Hd.cut,Value.slice.injEq,Option.some.injEq,eN]
def kQ(v u:Hd)(sz:Nat)(lo hi:Int):Prop:=0<=lo/\(v.n:Int)=hi-lo/\(lo<hi->∃b o,v.a=some ⟨b,o,none⟩/\dR u (lo.toNat*sz)=⟨b,o,none⟩)
theorem G5{t e:TypeId}{x ix:Operand}{k:IntKind}{i lo hi:Int}{v u:Hd}{sz by_:Nat}{z:Value}(hp:∀w c,aj w c L->kQ v u sz lo hi)(ho:o.op=.indexAddr t x ix)
  (ht:P.underlying t=some (.slice e)) (hi':TI P e sz by_ z) (hx:aJ ρ x=v.val) (hix:aJ ρ ix=.int k i) (hb:decide (0<=i/\i<hi-lo)=true) :
  aX P ρ o L (.pointer (some (dR u ((lo+i).toNat*sz)))):=λev w c he hL=>by
 subst he;have htihi:=hi';clear hi';obtain⟨inf,hi',_,rfl,_⟩:=htihi.get;obtain⟨h0,hn,hpt⟩:=hp w c hL;obtain⟨b0,b1⟩:=aaq hb;obtain⟨b,of_,ha,hu⟩:=hpt (by omega);have hi0:0<=i/\i<(v.n:Int):=⟨b0,by omega⟩
 have e1:(lo+i).toNat*inf.size=lo.toNat*inf.size+i.toNat*inf.size:=by rw[<-acG];congr 1;omega
 rw[e1,xA u _ _ b of_ hu];simp[execOp,ho,hx,hix,Instr.indexAt,asIntOf,run_underlying ht,sizeOf,typeInfo,hi',ha,hi0,eN,Result.andThen]
theorem aeB{α:Type}{a b:α}(h:some a=some b):a=b:=by cases h;rfl
end
def jO(π:List Nat)(σ:List Nat):Prop:=∃l,σ=l++π
theorem eB(π:List Nat):jO π π:=⟨[],rfl⟩
theorem Cs{π σ:List Nat}{j:Nat}(h:jO π σ):jO π (j::σ):=by obtain⟨l,rfl⟩:=h;exact⟨j::l,rfl⟩
theorem MK{π σ:List Nat}{j k:Nat}(hj:jO (j::π) σ)(hk:jO (k::π) σ):j=k:=by
 obtain⟨l,rfl⟩:=hj;obtain⟨m,hm⟩:=hk;have e:(l++[j])++π=(m++[k])++π:=by simpa using hm
 have e2:=List.append_cancel_right e;simp_all
theorem sP{π σ:List Nat}{j:Nat}(h:jO (j::π) σ):σ≠π:=by obtain⟨l,rfl⟩:=h;intro e;have:=aae List.length e;grind
theorem bz.ren{w:World}{S S':Nat->Prop}{d d':Nat->List Nat}{f:List Nat->List Nat}{π0:List Nat}(hf:∀σ k,jO π0 σ->f (k::σ)=k::f σ)
  (hk:∀b,S b->jO π0 (d b)->S' b/\d' b=f (d b)):(t:Ty)->(ε:EI)->(π:List Nat)->(x:t.den)->(y:t.Refs)->jO π0 π->bz w S d t ε π x y->bz w S' d' t ε (f π) x y
 |.one _ _ _,_,_,_,_,_,_=>trivial
 |.arr _ _ _ _ _,_,_,_,_,_,_=>trivial
 |.unit,_,_,_,_,_,_=>trivial
 |.pair a b,ε,π,x,y,hu,h=>by have h1:=bz.ren hf hk a _ (0::π) _ _ (Cs hu) h.1;have h2:=bz.ren hf hk b _ (1::π) _ _ (Cs hu) h.2;rw[hf π 0 hu]at h1;rw[hf π 1 hu]at h2;exact⟨h1,h2⟩
 | .slice t,ε,π,xs,h,hu,hh=>by
  rcases hh with hh|⟨e,s,he,ys,h1,h2,h3⟩
  ·exact .inl hh
  ·refine .inr ⟨e,s,he,ys,h1,?_,λj x y hx hy=>?_⟩
   ·obtain⟨g,cap,cur,g1,g2,g3,g4,g5,g6,g7,g8⟩:=h2;obtain⟨k1,k2⟩:=hk g g7 (by grind);exact⟨g,cap,cur,g1,g2,g3,g4,g5,g6,k1,by rw[k2,g8]⟩
   ·have:=bz.ren hf hk t s (j::π) x y (Cs hu) (h3 j x y hx hy);grind
theorem bz.re{w:World}{S S':Nat->Prop}{d d':Nat->List Nat}{π0:List Nat}(hk:∀b,S b->jO π0 (d b)->S' b/\d' b=d b){t:Ty}{ε:EI}{π:List Nat}{x:t.den}{y:t.Refs}(hu:jO π0 π)(h:bz w S d t ε π x y):bz w S' d' t ε π x y:=
 bz.ren (f:=id) (λ_ _ _=>rfl) hk t ε π x y hu h
theorem ij.of{w:World}{S S':Nat->Prop}(h:∀b,S b->S' b):ij w w S S':=λb _ hb=>⟨h b hb,rfl⟩
def iK(w:World)(S:Nat->Prop)(t:Ty)(s:EI)(xs:List t.den)(ys:List t.Refs):Prop:=∃d:Nat->List Nat,∀(j:Nat) (x:t.den) (y:t.Refs),xs[j]?=some x->ys[j]?=some y->bz w S d t s [j] x y
def yd(w:World)(S:Nat->Prop)(t:Ty)(s:EI)(xs:List t.den)(ys:List t.Refs)(k:Nat):Prop:=∃d:Nat->List Nat,∀(j:Nat) (x:t.den) (y:t.Refs),j≠k->xs[j]?=some x->ys[j]?=some y->bz w S d t s [j] x y
section
variable {w w':World} {S S' S1 S2:Nat->Prop} {t:Ty} {s:EI} {xs xs':List t.den} {ys ys':List t.Refs}
theorem iK.keep(hk:ij w w' S S')(h:iK w S t s xs ys):iK w' S' t s xs ys:=h.imp λ_ h j x y hx hy=>bz.keep hk t s [j] x y (h j x y hx hy)
theorem yd.keep{k:Nat}(hk:ij w w' S S')(h:yd w S t s xs ys k):yd w' S' t s xs ys k:=h.imp λ_ h j x y hj hx hy=>bz.keep hk t s [j] x y (h j x y hj hx hy)
theorem iK.nil:iK w S t s [] ys:=⟨λ_=>[],λj x y hx=>by simp at hx⟩
theorem iK.take(n:Nat)(h:iK w S t s xs ys):iK w S t s (xs.take n) (ys.take n):=h.imp λ_ h j x y hx hy=>h j x y (by
  grind) (by
  grind)
theorem iK.one{x:t.den}{y:t.Refs}(h:cC w S t s x y):iK w S t s [x] [y]:=by
 obtain⟨d,h⟩:=h;refine⟨λb=>d b++[0],λj x' y' hx hy=>?_⟩;cases j with
 |zero=>
  simp at hx hy;subst hx hy;exact bz.ren (f:=λσ=>σ++[0]) (π0:=[]) (λ_ _ _=>rfl) (λb hb _=>⟨hb,rfl⟩) t s [] x y ⟨[],rfl⟩ h
 |succ j=>simp at hx
def uz(n:Nat):List Nat->List Nat
 |[]=>[]
 |[j]=>[n+j]
 |k::a::r=>k::uz n (a::r)
theorem OK{n j k:Nat}{σ:List Nat}(h:jO [j] σ):uz n (k::σ)=k::uz n σ:=by
 cases σ with
 |nil=>obtain⟨l,hl⟩:=h;simp at hl
 |cons a r=>rfl
open Classical in
theorem iK.append(hl:ys.length=xs.length)(hd:∀b,S1 b->¬S2 b)(h1:∀b,S1 b->S b)(h2:∀b,S2 b->S b)(ha:iK w S1 t s xs ys)(hb:iK w S2 t s xs' ys'):iK w S t s (xs++xs') (ys++ys'):=by
 obtain⟨d1,ha⟩:=ha;obtain⟨d2,hb⟩:=hb;refine⟨λb=>if S1 b then d1 b else uz xs.length (d2 b),λj x y hx hy=>?_⟩;by_cases hj:j<xs.length
 ·rw[adv hj]at hx;rw[adv (by omega)]at hy;exact bz.re (π0:=[j]) (λb hb _=>⟨h1 b hb,by simp[hb]⟩) (eB _) (ha j x y hx hy)
 ·rw[abV (by omega)]at hx;rw[abV (by omega),hl]at hy;have:=bz.ren (f:=uz xs.length) (π0:=[j-xs.length]) (S':=S) (d':=λb=>if S1 b then d1 b else uz xs.length (d2 b)) (λσ k hu=>OK hu) (λb hb _=>⟨h2 b hb,by
   have:¬S1 b:=λh=>hd b h hb;simp[this]⟩) t s _ x y (eB _) (hb _ x y hx hy)
  simp only[uz]at this;rwa [show xs.length+(j-xs.length)=j by omega]at this
theorem zp{j k:Nat}{σ:List Nat}(h:jO [j] σ):(k::σ).dropLast=k::σ.dropLast:=by
 cases σ with
 |nil=>obtain⟨l,hl⟩:=h;simp at hl
 |cons a r=>rfl
theorem iK.pick{k:Nat}{x:t.den}{y:t.Refs}(hx:xs[k]?=some x)(hy:ys[k]?=some y)(h:iK w S t s xs ys) :
  ∃Sk:Nat->Prop,(∀b,Sk b->S b)/\cC w Sk t s x y/\yd w (λb=>S b/\¬Sk b) t s xs ys k:=by
 obtain⟨d,h⟩:=h;refine⟨λb=>S b/\jO [k] (d b),λb hb=>hb.1,⟨λb=>(d b).dropLast,?_⟩,d,λj x' y' hj hx' hy' => ?_⟩
 ·have:=bz.ren (f:=List.dropLast) (π0:=[k]) (S':=λb=>S b/\jO [k] (d b)) (d':=λb=>(d b).dropLast) (λσ _ hu=>zp hu) (λb hb hu=>⟨⟨hb,hu⟩,rfl⟩) t s [k] x y (eB _) (h k x y hx hy);exact this
 ·exact bz.re (π0:=[j]) (λb hb hu=>⟨⟨hb,λhc=>hj (MK hu hc.2)⟩,rfl⟩) (eB _) (h j x' y' hx' hy')
open Classical in
theorem yd.put{k:Nat}{x:t.den}{y:t.Refs}(hk:k<xs.length)(hl:ys.length=xs.length)(hd:∀b,S1 b->¬S2 b)(h1:∀b,S1 b->S b)(h2:∀b,S2 b->S b)(h:yd w S1 t s xs ys k)(hx:cC w S2 t s x y):iK w S t s (xs.set k x) (ys.set k y):=by
 obtain⟨d1,h⟩:=h;obtain⟨d2,hx⟩:=hx;refine⟨λb=>if S1 b then d1 b else d2 b++[k],λj x' y' hx' hy' => ?_⟩;by_cases hj:j=k
 ·subst hj;rw[abG (by omega)]at hx' hy';cases hx';cases hy';refine bz.ren (f:=λσ=>σ++[j]) (π0:=[]) (λ_ _ _=>rfl) (λb hb _=>⟨h2 b hb,?_⟩) t s [] x y ⟨[],rfl⟩ hx;have:¬S1 b:=λh=>hd b h hb;simp[this]
 ·rw[acN (by omega)]at hx' hy';exact bz.re (π0:=[j]) (λb hb _=>⟨h1 b hb,by simp[hb]⟩) (eB _) (h j x' y' hj hx' hy')
end
def zw(w:World)(e:TypeId)(sz:Nat)(v:Hd)(n:Nat)(cells:List Value)(g:Nat):Prop:=
 ∃(cap:Nat) (cur:Array Value),v=⟨some ⟨g,0,none⟩,n,cap⟩/\w.heap[g]?=some (.cells cur e (0,0))/\n<=cap/\cap<=maxLen/\cur.size=cap*sz/\cur.toList.take (n*sz)=cells
theorem cC.split{w:World}{S:Nat->Prop}{t:Ty}{e:TypeId}{s:EI}{xs:List t.den}{v:Hd}(h:cC w S (.slice t) (.row e s) xs v):(v=⟨none,0,0⟩/\xs=[])\/∃ys g,ys.length=xs.length/\zw w e t.sz v xs.length (cellsOf t xs ys) g/\S g /\
  iK w (λb=>S b/\b≠g) t s xs ys:=by
 obtain⟨d,h⟩:=h;rcases h with h|⟨e',s',he,ys,h1,⟨g,cap,cur,g1,g2,g3,g4,g5,g6,g7,g8⟩,h3⟩
 ·exact .inl h
 ·cases he;refine .inr ⟨ys,g,h1,⟨cap,cur,g1,g2,g3,g4,g5,g6⟩,g7,d,λj x y hx hy=>?_⟩;refine bz.re (π0:=[j]) (λb hb hu=>⟨⟨hb,λe=>?_⟩,rfl⟩) (eB _) (h3 j x y hx hy);subst e;rw[g8]at hu;exact sP hu rfl
open Classical in
theorem cC.join{w:World}{S S2:Nat->Prop}{t:Ty}{e:TypeId}{s:EI}{xs:List t.den}{ys:List t.Refs}{v:Hd}{g:Nat}(hl:ys.length=xs.length)(hr:zw w e t.sz v xs.length (cellsOf t xs ys) g)(hg:S g)(h2:∀b,S2 b->S b)(hn:¬S2 g)(hF:iK w S2 t s xs ys) :
  cC w S (.slice t) (.row e s) xs v:=by
 obtain⟨cap,cur,g1,g2,g3,g4,g5,g6⟩:=hr;obtain⟨d,hF⟩:=hF;refine⟨λb=>if S2 b then d b else [],.inr ⟨e,s,rfl,ys,hl,⟨g,cap,cur,g1,g2,g3,g4,g5,g6,hg,by simp[hn]⟩,λj x y hx hy=>?_⟩⟩;exact bz.re (π0:=[j]) (λb hb _=>⟨h2 b hb,by simp[hb]⟩) (eB _) (hF j x y hx hy)
open Classical in
theorem Hol.join{w:World}{S S2:Nat->Prop}{t:Ty}{e e0:TypeId}{s:EI}{xs:List t.den}{ys:List t.Refs}{v:Hd}{g k:Nat}{cs:List Value}(he:fR e=.row e0 s)(hl:ys.length=xs.length)(hk:k<xs.length)(hcs:cs.length=t.sz)(hr:zw w e0 t.sz v xs.length (eW t xs ys k cs) g)(hg:S g)(h2:∀b,S2 b->S b)
  (hn:¬S2 g) (hF:yd w S2 t s xs ys k):jf w S t e xs v k cs:=by
 obtain⟨cap,cur,g1,g2,g3,g4,g5,g6⟩:=hr;obtain⟨d,hF⟩:=hF;refine⟨λb=>if S2 b then d b else [],e0,s,ys,he,hl,hk,hcs,⟨g,cap,cur,g1,g2,g3,g4,g5,g6,hg,by simp[hn]⟩,λj x y hj hx hy=>?_⟩;exact bz.re (π0:=[j]) (λb hb _=>⟨h2 b hb,by simp[hb]⟩) (eB _) (hF j x y hj hx hy)
theorem jf.split{w:World}{S:Nat->Prop}{t:Ty}{e:TypeId}{xs:List t.den}{v:Hd}{k:Nat}{cs:List Value}(h:jf w S t e xs v k cs):∃ys g e0 s,fR e=.row e0 s/\ys.length=xs.length/\k<xs.length/\cs.length=t.sz /\
  zw w e0 t.sz v xs.length (eW t xs ys k cs) g/\S g/\yd w (λb=>S b/\b≠g) t s xs ys k:=by
 obtain⟨d,e0,s,ys,he,hl,hk,hcs,⟨g,cap,cur,g1,g2,g3,g4,g5,g6,g7,g8⟩,h3⟩:=h;refine⟨ys,g,e0,s,he,hl,hk,hcs,⟨cap,cur,g1,g2,g3,g4,g5,g6⟩,g7,d,λj x y hj hx hy=>?_⟩;refine bz.re (π0:=[j]) (λb hb hu=>⟨⟨hb,λe=>?_⟩,rfl⟩) (eB _) (h3 j x y hj hx hy);subst e;rw[g8]at hu;exact sP hu rfl
theorem rQ{t:Ty}{xs:List t.den}{ys:List t.Refs}{k:Nat}{x:t.den}{y:t.Refs}(hl:ys.length=xs.length)(hx:xs[k]?=some x)(hy:ys[k]?=some y):eW t xs ys k (t.fill x y)=cellsOf t xs ys:=by grind[eW,cellsOf,List.getElem?_eq_some_iff,List.getElem_cons_drop,List.take_append_drop,dU]
theorem rO{t:Ty}{xs:List t.den}{ys:List t.Refs}{k:Nat}{x:t.den}{y:t.Refs}(hl:ys.length=xs.length)(hk:k<xs.length):cellsOf t (xs.set k x) (ys.set k y)=eW t xs ys k (t.fill x y):=by rw[<-rQ (k:=k) (x:=x) (y:=y) (by simpa using hl) (by grind) (by grind)];grind[eW,List.take_set_of_le,List.drop_set_of_lt]
theorem cC.open{w:World}{S:Nat->Prop}{t:Ty}{e e0:TypeId}{s:EI}{xs:List t.den}{v:Hd}{k:Nat}{x:t.den}(he:fR e=.row e0 s)(hx:xs[k]?=some x)(h:cC w S (.slice t) (fR e) xs v) :
  ∃(y:t.Refs) (S2:Nat->Prop),(∀b,S2 b->S b)/\jf w (λb=>S b/\¬S2 b) t e xs v k (t.fill x y)/\cC w S2 t s x y:=by
 have hk:k<xs.length:=(aaw.1 hx).1;rw[he]at h;rcases h.split with⟨_,rfl⟩|⟨ys,g,hl,hr,hg,hF⟩
 ·simp at hk
 ·obtain⟨y,hy⟩:∃y,ys[k]?=some y:=⟨ys[k]'(by omega),ZB _⟩
  obtain⟨Sk,h1,h2,h3⟩:=hF.pick hx hy;refine⟨y,Sk,λb hb=>(h1 b hb).1,?_,h2⟩;rw[<-rQ hl hx hy]at hr;exact Hol.join he hl hk (t.fill_length x y) hr ⟨hg,λhb=>(h1 g hb).2 rfl⟩ (S2:=λb=>(S b/\b≠g)/\¬Sk b) (λb hb=>⟨hb.1.1,hb.2⟩) (λhb=>hb.1.2 rfl) h3
theorem jf.close{w:World}{S S1 S2:Nat->Prop}{t:Ty}{e e0:TypeId}{s:EI}{xs:List t.den}{v:Hd}{k:Nat}{x:t.den}{y:t.Refs}(he:fR e=.row e0 s)(hd:∀b,S1 b->¬S2 b)(h1:∀b,S1 b->S b)(h2:∀b,S2 b->S b)
  (h:jf w S1 t e xs v k (t.fill x y)) (hx:cC w S2 t s x y):cC w S (.slice t) (fR e) (xs.set k x) v:=by
 obtain⟨ys,g,e0',s',he',hl,hk,hcs,hr,hg,hF⟩:=h.split;rw[he]at he'|-;cases he';rw[<-rO hl hk]at hr;refine cC.join (ys:=ys.set k y) (S2:=λb=>(S1 b/\b≠g)\/S2 b) (by simpa using hl) (by grind) (h1 g hg) (λb hb=>hb.elim (λh=>h1 b h.1) (h2 b)) (λhb=>hb.elim (λh=>h.2 rfl) (hd g hg)) ?_;grind[yd.put]
theorem cC.fst{w:World}{S:Nat->Prop}{a b:Ty}{ε:EI}{x:a.den×b.den}{y:a.Refs×b.Refs}(h:cC w S (.pair a b) ε x y):∃Sa:Nat->Prop,(∀g,Sa g->S g)/\cC w Sa a ε.fst x.1 y.1/\cC w (λg=>S g/\¬Sa g) b ε.snd x.2 y.2:=by
 obtain⟨d,h1,h2⟩:=h;refine⟨λg=>S g/\jO [0] (d g),λg h=>h.1,⟨λg=>(d g).dropLast,?_⟩,⟨λg=>(d g).dropLast,?_⟩⟩
 ·exact bz.ren (f:=List.dropLast) (π0:=[0]) (S':=λg=>S g/\jO [0] (d g)) (d':=λg=>(d g).dropLast) (λσ _ hu=>zp hu) (λg hb hu=>⟨⟨hb,hu⟩,rfl⟩) a _ [0] _ _ (eB _) h1
 ·exact bz.ren (f:=List.dropLast) (π0:=[1]) (S':=λg=>S g/\¬(S g/\jO [0] (d g))) (d':=λg=>(d g).dropLast) (λσ _ hu=>zp hu) (λg hb hu=>⟨⟨hb,λhc=>by have:=MK hu hc.2;omega⟩,rfl⟩) b _ [1] _ _ (eB _) h2
open Classical in
theorem cC.pair{w:World}{S Sa Sb:Nat->Prop}{a b:Ty}{ε:EI}{x:a.den×b.den}{y:a.Refs×b.Refs}(hd:∀g,Sa g->¬Sb g)(h1:∀g,Sa g->S g)(h2:∀g,Sb g->S g)(ha:cC w Sa a ε.fst x.1 y.1)(hb:cC w Sb b ε.snd x.2 y.2):cC w S (.pair a b) ε x y:=by
 obtain⟨d1,ha⟩:=ha;obtain⟨d2,hb⟩:=hb;refine⟨λg=>if Sa g then d1 g++[0]else d2 g++[1],?_,?_⟩
 ·exact bz.ren (f:=λσ=>σ++[0]) (S':=S) (d':=λg=>if Sa g then d1 g++[0]else d2 g++[1]) (π0:=[]) (λ_ _ _=>rfl) (λg hg _=>⟨h1 g hg,by simp[hg]⟩) a _ [] _ _ ⟨[],rfl⟩ ha
 ·refine bz.ren (f:=λσ=>σ++[1]) (S':=S) (d':=λg=>if Sa g then d1 g++[0]else d2 g++[1]) (π0:=[]) (λ_ _ _=>rfl) (λg hg _=>⟨h2 g hg,?_⟩) b _ [] _ _ ⟨[],rfl⟩ hb;have:¬Sa g:=λh=>hd g h hg;simp[this]
theorem cC.plain{w:World}{c:aS}{i:Nat}{t:Ty}{e:TypeId}{s:EI}{K:List Nat}{xs:List t.den}{v:Hd}(hp:t.pureB=true)(h:cC w (λb=>c b=i) (.slice t) (.row e s) xs v):HA.holds w c (.own t e i K xs v):=by
 rcases h.split with⟨rfl,rfl⟩|⟨ys,g,hl,⟨cap,cur,rfl,g2,g3,g4,g5,g6⟩,hg,_⟩
 ·exact Cv w c
 ·refine⟨ys,jj hl λj x y _ _=>bD.pure t x y hp,⟨cE t hl.symm,.inr ⟨g,cap,cur,e,(0,0),rfl,g2,.inl ⟨rfl,rfl⟩,g3,g4,g5,g6⟩⟩,λg' hg' => ?_⟩;grind[Value.ownBlock]
theorem sD{w:World}{S:Nat->Prop}{d:Nat->List Nat}:(t:Ty)->(ε:EI)->(π:List Nat)->(x:t.den)->(y:t.Refs)->t.pureB=true->bz w S d t ε π x y
 |.one _ _ _,_,_,_,_,_=>trivial
 |.arr _ _ _ _ _,_,_,_,_,_=>trivial
 |.unit,_,_,_,_,_=>trivial
 |.pair a b,ε,π,x,y,h=>by simp only[Ty.pureB,Y5]at h;exact⟨sD a _ _ _ _ h.1,sD b _ _ _ _ h.2⟩
 |.slice t,_,_,_,_,h=>by cases h
 |.node,_,_,_,_,h=>by cases h
 |.mp _ _,_,_,_,_,h=>by cases h
theorem cC.of_pure{w:World}{S:Nat->Prop}{t:Ty}{ε:EI}{x:t.den}{y:t.Refs}(h:t.pureB=true):cC w S t ε x y:=⟨λ_=>[],sD t ε [] x y h⟩
theorem cC.of_plain{w:World}{c:aS}{i:Nat}{t:Ty}{e:TypeId}{s:EI}{K:List Nat}{xs:List t.den}{v:Hd}(hp:t.pureB=true)(he:Nat.blt e 1048576=true)(h:HA.holds w c (.own t e i K xs v)):cC w (λb=>c b=i) (.slice t) (.row e s) xs v:=by
 obtain⟨ys,h1,h2,h3⟩:=h;obtain⟨a,n,cap⟩:=v;rcases(h2.plain he).2 with⟨hv,hn⟩|⟨g,cap',cur,hv,_,hg,g3,g4,g5,g6⟩
 ·simp only[Hd.val,Value.slice.injEq]at hv;obtain⟨rfl,rfl,rfl⟩:=hv;exact⟨λ_=>[],.inl ⟨rfl,abT hn⟩⟩
 ·have hcg:=h3 g (by rw[hv];rfl);simp only[Hd.val,Value.slice.injEq]at hv;obtain⟨rfl,rfl,rfl⟩:=hv;exact cC.join (S2:=λ_=>False) h1.length.symm ⟨cap,cur,rfl,hg,g3,g4,g5,g6⟩ hcg (λ_ h=>h.elim) (λh=>h) ⟨λ_=>[],λj x y _ _=>sD t s [j] x y hp⟩
theorem cC.nil{w:World}{S:Nat->Prop}{t:Ty}{ε:EI}:cC w S (.slice t) ε [] ⟨none,0,0⟩:=⟨λ_=>[],.inl ⟨rfl,rfl⟩⟩
section
variable {P:Program} {ρ:cV} {L:List HA} {o:Oper} {N:Nat}
theorem kC{t:Ty}{xs:List t.den}{ys:List t.Refs}{k:Nat}{cs:List Value}(hl:ys.length=xs.length)(hk:k<xs.length)(hcs:cs.length=t.sz) :
  (eW t xs ys k cs).length=xs.length*t.sz/\(cellsOf t (xs.take k) (ys.take k)).length=k*t.sz:=by
 have h1:=cE t (xs:=xs.take k) (ys:=ys.take k) (by simp;omega);have h2:=cE t (xs:=xs.drop (k+1)) (ys:=ys.drop (k+1)) (by simp;omega);simp only[acs,adT,ab5 (Nat.le_of_lt hk)]at h1 h2;refine⟨?_,h1⟩;simp only[eW,ZD,h1,h2,hcs];rw[<-Nat.add_one_mul,<-acG];grind
theorem jf.at{w:World}{S:Nat->Prop}{t:Ty}{e:TypeId}{xs:List t.den}{v:Hd}{k:Nat}{cs:List Value}(h:jf w S t e xs v k cs):∃(g:Nat) (cur:Array Value) (e0:TypeId),v.a=some ⟨g,0,none⟩/\w.heap[g]?=some (.cells cur e0 (0,0))/\S g /\
  k*t.sz+t.sz<=cur.size/\(cur.toList.drop (k*t.sz)).take t.sz=cs/\cs.length=t.sz:=by
 obtain⟨d,e0,s,ys,he,hl,hk,hcs,⟨g,cap,cur,rfl,g2,g3,g4,g5,g6,g7,g8⟩,h3⟩:=h;obtain⟨c1,c2⟩:=kC (cs:=cs) hl hk hcs;have h1:(k+1)*t.sz<=xs.length*t.sz:=aaR _ hk;have h2:xs.length*t.sz<=cap*t.sz:=aaR _ g3;rw[acG,aky]at h1;refine⟨g,cur,e0,rfl,g2,g7,by omega,?_,hcs⟩;have e1:(cur.toList.drop (k*t.sz)).take t.sz=((cur.toList.take (xs.length*t.sz)).drop (k*t.sz)).take t.sz:=by rw[ad0,ail,ab5 (by omega)]
 rw[e1,g6];unfold eW;grind
theorem Tr{t:TypeId}{x:Operand}{off:Nat}{ty:Ty}{e:TypeId}{i:Nat}{xs:List ty.den}{h:Hd}{k:Nat}{cs:List Value}{v:Value}{d:TypeDesc}(j:Nat)(hj:L[j]?=some (.hol ty e i xs h k cs))(ho:o.op=.load t x)(ht:P.underlying t=some d)
  (hd:jF d=false) (hx:aJ ρ x=.pointer (some (dR h (k*ty.sz+off)))) (hv:cs[off]?=some v):aX P ρ o L v:=λev w c he hL=>by
 subst he;obtain⟨g,cur,e0,h1,h2,_,h4,h5,h6⟩:=jf.at (hL.at hj);have hoff:off<ty.sz:=by grind
 have hp:dR h (k*ty.sz+off)=⟨g,k*ty.sz+off,none⟩:=by simp[dR,h1]
 have hc:w.cell? ⟨g,k*ty.sz+off,none⟩=some v:=by grind[lj]
 simp[execOp,ho,hx,hp,vw ht hd (v:=v) (w:=w) hc,Result.andThen]
theorem Pe{t:TypeId}{x:Operand}{off:Nat}{ty:Ty}{e:TypeId}{i:Nat}{xs:List ty.den}{h:Hd}{k:Nat}{cs cs':List Value}{d:TypeDesc}{sz by_:Nat}{z:Value}(j:Nat)(hj:L[j]?=some (.hol ty e i xs h k cs))(ho:o.op=.load t x)(ht:P.underlying t=some d)
  (hd:jF d=true) (hi:TI P t sz by_ z) (hx:aJ ρ x=.pointer (some (dR h (k*ty.sz+off)))) (hv:(cs.drop off).take sz=cs') (hl:Nat.beq cs'.length sz=true) (hfit:off+sz<=cs.length):aX P ρ o L (.agg cs'.toArray):=λev w c he hL=>by
 subst he;have htihi:=hi;clear hi;obtain⟨inf,hi,_,rfl,_⟩:=htihi.get;obtain⟨g,cur,e0,h1,h2,_,h4,h5,h6⟩:=jf.at (hL.at hj);have hp:dR h (k*ty.sz+off)=⟨g,k*ty.sz+off,none⟩:=by simp[dR,h1]
 have hcs:(cur.toList.drop (k*ty.sz+off)).take inf.size=cs':=by grind[List.drop_take,List.drop_drop,Nat.min_eq_left]
 simp[execOp,ho,hx,hp,sF ht hd hi h2 (cs:=cs') (off:=k*ty.sz+off) (by grind) (f9 hl),Result.andThen]
theorem Fi{α:Type}{A m B C new:List α}{n off:Nat}(hA:A.length=n)(hm:off+new.length<=m.length) :
  (A++m++B++C).take (n+off)++new++(A++m++B++C).drop (n+off+new.length)=A++(m.take off++new++m.drop (off+new.length))++B++C:=by
 subst hA;have e1:(A++m++B++C).take (A.length+off)=A++m.take off:=by rw[aaf,aaf,acE,aaU (by omega),show A.length+off-A.length=off by omega,acE,show off-m.length=0 by omega,adX,Z2]
 have e2:(A++m++B++C).drop (A.length+off+new.length)=m.drop (off+new.length)++B++C:=by rw[aaf,aaf,abe,aa6 (by omega),abx,show A.length+off+new.length-A.length=off+new.length by omega,abe,show off+new.length-m.length=0 by omega,adq,aaf]
 grind
theorem J6{t:TypeId}{x y:Operand}{off:Nat}{ty:Ty}{e:TypeId}{i:Nat}{xs:List ty.den}{h:Hd}{k:Nat}{cs vs cs':List Value}{v z:Value}{sz by_:Nat}(j:Nat)(hj:L[j]?=some (.hol ty e i xs h k cs))(ho:o.op=.store t x y)(hi:TI P t sz by_ z)
  (hx:aJ ρ x=.pointer (some (dR h (k*ty.sz+off)))) (hy:aJ ρ y=v) (hv:v.cells=vs.toArray) (hl:Nat.beq vs.length sz=true) (hones:vs.all Value.oneCell'=true)
  (hin:Nat.ble (off+vs.length) cs.length=true) (hcs:cs.take off++vs++cs.drop (off+vs.length)=cs'):cJ P ρ o L [i] (λ_:Unit=>undef) (λ_=>[.hol ty e i xs h k cs']):=by
 intro a ev w c next Q ha hL hn
 have htihi:=hi;clear hi;obtain⟨inf,hi,_,rfl,_⟩:=htihi.get;have hle:=Zh hin;have hH:=hL.at hj;obtain⟨d,e0,s,ys,he,hlen,hk,hc0,⟨g,cap,cur,rfl,g2,g3,g4,g5,g6,g7,g8⟩,h3⟩:=(show jf w (λb=>c b=i) ty e xs h k cs from hH)
 obtain⟨c1,c2⟩:=kC (cs:=cs) hlen hk hc0;have m1:(k+1)*ty.sz<=xs.length*ty.sz:=aaR _ hk;have m2:xs.length*ty.sz<=cap*ty.sz:=aaR _ g3;rw[acG,aky]at m1;have hcur:cur.toList=cellsOf ty (xs.take k) (ys.take k)++cs++cellsOf ty (xs.drop (k+1)) (ys.drop (k+1))++cur.toList.drop (xs.length*ty.sz):=by grind[cellsOf,eW,List.take_append_drop]
 have hp:dR ⟨some ⟨g,0,none⟩,xs.length,cap⟩ (k*ty.sz+off)=⟨g,k*ty.sz+off,none⟩:=by simp[dR]
 have hst:=kR P g (k*ty.sz+off) e0 (0,0) vs cur w g2 (.inl rfl) (by omega) (Bw hones);have hrun:(execOp ev o).run P w=.ok .skip (w.setRow g (cur.toList.take (k*ty.sz+off)++vs++cur.toList.drop (k*ty.sz+off+vs.length)).toArray):=by simp[execOp,ho,ha,hx,hp,hy,Instr.storeAt,Instr.sureAddr,storeVar,hv,sizeOf,typeInfo,hi,f9 hl,hst,Result.andThen]
 rw[hrun];have e1:cur.toList.take (k*ty.sz+off)++vs++cur.toList.drop (k*ty.sz+off+vs.length)=cellsOf ty (xs.take k) (ys.take k)++cs'++cellsOf ty (xs.drop (k+1)) (ys.drop (k+1))++cur.toList.drop (xs.length*ty.sz):=by generalize hC:cur.toList.drop (xs.length*ty.sz)=C at hcur;rw[hcur,<-hcs];exact Fi c2 hle
 rw[e1];have hc':cs'.length=ty.sz:=by rw[<-hcs];simp only[ZD,acs,adT];omega
 obtain⟨c3,_⟩:=kC (cs:=cs') hlen hk hc';have hoth:∀(j:Nat) (x:ty.den) (y:ty.Refs),j≠k->xs[j]?=some x->ys[j]?=some y->bz w (λb=>c b=i/\b≠g) d ty s [j] x y:=λj x y hjk hx hy=>
  bz.re (π0:=[j]) (λb hb hu=>⟨⟨hb,λe=>by subst e;rw[g8]at hu;exact sP hu rfl⟩,rfl⟩) (eB _) (h3 j x y hjk hx hy)
 refine hn () _ c (qI (i:=i) g7) (aj.cons ⟨d,e0,s,ys,he,hlen,hk,hc',⟨g,cap,_,rfl,setRow_heap w g cur _ e0 (0,0) g2,g3,g4,?_,?_,g7,g8⟩,λj x y hjk hx hy=>?_⟩ (aj.nil _ _))
 ·grind
 ·grind[eW]
 ·refine bz.keep (λb _ hb=>⟨hb.1,?_⟩) ty s _ x y (hoth j x y hjk hx hy);grind[World.setRow]
abbrev V1:={ v:Value//v.oneCell'=true}
abbrev gN(n:Nat):Ty:=.arr n V1 ⟨.bool true,rfl⟩ (λv=>v.1) (λv=>v.2)
theorem Zs{sz:Nat}{l:List V1}(h:l.length=sz):(gN sz).fill l ()=l.map (λv=>v.1):=by subst h;show(List.range l.length).map (λi=>(l.getD i ⟨.bool true,rfl⟩).1)=_;apply ace;grind
theorem yr(sz:Nat):∀(m:Nat) (cells:List Value),oW cells->cells.length=m*sz->∃rows:List (List V1),rows.length=m/\cellsOf (gN sz) rows (List.replicate m ())=cells
 |0,cells,_,hl=>⟨[],rfl,by have:cells=[]:=abT (by simpa using hl);subst this;rfl⟩
 |m+1,cells,ho,hl=>by
  rw[acG,aky]at hl;obtain⟨rows,h1,h2⟩:=yr sz m (cells.drop sz) (λv hv=>ho v (akY hv)) (by grind);have ht:(cells.take sz).length=sz:=by grind
  refine⟨(cells.take sz).pmap (λv h=>(⟨v,h⟩:V1)) (λv hv=>ho v (ajj hv))::rows,by simp[h1],?_⟩;rw[adF];simp only[cellsOf,h2];rw[Zs (by grind),List.map_pmap];simp
theorem Re{w:World}{c:aS}{i:Nat}{e:TypeId}{sz n:Nat}{v:Hd}{cells:List Value}{g:Nat}{rows:List (List V1)}(hr:zw w e sz v n cells g)(hc:c g=i)(hl:rows.length=n)(hcells:cellsOf (gN sz) rows (List.replicate n ())=cells){K:List Nat}:HA.holds w c (.own (gN sz) e i K rows v):=by
 obtain⟨cap,cur,rfl,g2,g3,g4,g5,g6⟩:=hr;subst hl;have hlen:=cE (gN sz) (xs:=rows) (ys:=List.replicate rows.length ()) (by simp);refine⟨List.replicate rows.length (),?_,⟨hlen,.inr ⟨g,cap,cur,e,(0,0),rfl,g2,.inl ⟨rfl,rfl⟩,g3,g4,g5,by grind⟩⟩,λg' hg' => ?_⟩
 ·exact jj (by simp) λj x y _ _=>trivial
 grind[Value.ownBlock]
theorem Ks:∀l:List Unit,l=List.replicate l.length ()
 |[]=>rfl
 |()::r=>by simp only[aaG,adF,ahv,true_and];exact Ks r
theorem QA{w:World}{c:aS}{i:Nat}{e:TypeId}{sz:Nat}{v:Hd}{rows:List (List V1)}{K:List Nat}(he:Nat.blt e 1048576=true)(h:HA.holds w c (.own (gN sz) e i K rows v)) :
  (v=⟨none,0,0⟩/\rows=[])\/∃g,zw w e sz v rows.length (cellsOf (gN sz) rows (List.replicate rows.length ())) g/\c g=i:=by
 obtain⟨ys,h1,h2,h3⟩:=h;have hy:ys=List.replicate rows.length ():=by rw[h1.length];exact Ks ys
 subst hy;obtain⟨a,n,cap⟩:=v;rcases(h2.plain he).2 with⟨hv,hn⟩|⟨g,cap',cur,hv,_,hg,g3,g4,g5,g6⟩
 ·grind
 ·have hcg:=h3 g (by rw[hv];rfl);simp only[Hd.val,Value.slice.injEq]at hv;obtain⟨rfl,rfl,rfl⟩:=hv;exact .inr ⟨g,⟨cap,cur,rfl,hg,g3,g4,g5,g6⟩,hcg⟩
theorem zw.rep{w:World}{c:aS}{K:List Nat}{e:TypeId}{sz n:Nat}{v:Hd}{cells:List Value}{g:Nat}{rows:List (List V1)}(hr:zw w e sz v n cells g)(hc:c g∈K)(hl:rows.length=n)(hcells:cellsOf (gN sz) rows (List.replicate n ())=cells):HA.holds w c (.rep (gN sz) K rows v):=by have:=BT (Re (c:=c) (i:=c g) (K:=[]) hr rfl hl hcells);exact bD.keep (λb _ (hb:c b∈[c g])=>⟨by grind,rfl⟩) (.slice (gN sz)) rows v this
theorem OE{t e0 e:TypeId}{s:EI}{sz by_:Nat}{z:Value}{sx x:Operand}{ty:Ty}{i i2 N:Nat}{K K2:List Nat}{xs ys:List ty.den}{h hx:Hd}(j j':Nat)
  (hj:L[j]?=some (.tr ty e i K xs h)) (hj':L[j']?=some (.tr ty e i2 K2 ys hx)) (hei:fR e=.row e0 s)
  (ho:o.op=.call { callee:=.builtin .append,args:=#[sx,x],argTypes:=#[t,t]}) (ht:P.underlying t=some (.slice e0)) (hi:TI P e0 sz by_ z) (hs:sz=ty.sz)
  (hzs:Nat.beq z.cells.size sz=true) (hsz:Nat.ble 1 sz=true) (hse:aJ ρ sx=h.val) (hxe:aJ ρ x=hx.val)
  (hroom:decide ((xs.length+ys.length)*by_<=140737488355328/\xs.length+ys.length<=maxLen)=true) (hci:Nat.ble 2 i=true) (hN:Nat.ble 2 N=true) (hd:Nat.beq i i2=false) (hd1:Nat.beq i N=false) (hd2:Nat.beq i2 N=false) (he:Nat.blt e0 1048576=true) :
  cJ P ρ o L [i,i2,N] Hd.val (λh'=>[.tr ty e i [] (xs++ys) h']):=by
 classical
 intro a ev w c next Q ha hL hk
 have hne:i≠i2:=acx hd;have hne1:i≠N:=acx hd1;have hne2:i2≠N:=acx hd2;have hci':=Zh hci;have hN':=Zh hN;subst hs;have hT1:cC w (λb=>c b=i) (.slice ty) (fR e) xs h:=hL.at hj;have hT2:cC w (λb=>c b=i2) (.slice ty) (fR e) ys hx:=hL.at hj';rw[hei]at hT1 hT2;obtain⟨yx,g1,rows1,hl1,hr1,hcl1,hown1,hF1,hg1⟩:∃(yx:List ty.Refs) (g1:Nat) (rows1:List (List V1)),yx.length=xs.length/\rows1.length=xs.length/\cellsOf (gN ty.sz) rows1 (List.replicate xs.length ())=cellsOf ty xs yx /\
   (∀c1:aS,c1 g1=N->HA.holds w c1 (.own (gN ty.sz) e0 N [] rows1 h))/\iK w (λb=>b<w.heap.size/\c b=i/\b≠g1) ty s xs yx/\(g1<w.heap.size->c g1=i):=by
  rcases hT1.split with⟨rfl,rfl⟩|⟨yx,g1,hl,hr,hg,hF⟩
  ·exact⟨[],w.heap.size,[],rfl,rfl,rfl,λc1 _=>Cv w c1,iK.nil,λh=>absurd h (Nat.lt_irrefl _)⟩
  ·obtain⟨rows,h1,h2⟩:=yr ty.sz xs.length (cellsOf ty xs yx) (iz ty) (cE ty hl.symm);exact⟨yx,g1,rows,hl,h1,h2,λc1 hc=>Re hr hc h1 h2,hF.keep (λb hb h=>⟨⟨hb,h⟩,rfl⟩),λ_=>hg⟩
 obtain⟨yy,rows2,hl2,hr2,hcl2,hrep2,hF2⟩:∃(yy:List ty.Refs) (rows2:List (List V1)),yy.length=ys.length/\rows2.length=ys.length/\cellsOf (gN ty.sz) rows2 (List.replicate ys.length ())=cellsOf ty ys yy /\
   (∀c1:aS,(∀b,b<w.heap.size->c b=i2->c1 b=i2)->HA.holds w c1 (.rep (gN ty.sz) [i2] rows2 hx))/\iK w (λb=>b<w.heap.size/\c b=i2) ty s ys yy:=by
  rcases hT2.split with⟨rfl,rfl⟩|⟨yy,g2,hl,hr,hg,hF⟩
  ·exact⟨[],[],rfl,rfl,rfl,λc1 _=>ra w c1,iK.nil⟩
  ·obtain⟨rows,h1,h2⟩:=yr ty.sz ys.length (cellsOf ty ys yy) (iz ty) (cE ty hl.symm);have hg2:g2<w.heap.size:=by
    obtain⟨cap,cur,_,hh,_⟩:=hr;grind
   exact⟨yy,rows,hl,h1,h2,λc1 hc=>hr.rep (by grind) h1 h2,hF.keep (λb hb h=>⟨⟨hb,h.1⟩,rfl⟩)⟩
 let c1:aS:=λb=>if b=g1 then N else c b
 have hL1:aj w c1 [.own (gN ty.sz) e0 N [] rows1 h,.rep (gN ty.sz) [i2] rows2 hx]:=by grind[aj.cons,aj.nil]
 have hroom':decide ((rows1.length+rows2.length)*by_<=140737488355328/\rows1.length+rows2.length<=maxLen)=true:=by grind
 refine B2 (P:=P) (ρ:=ρ) (o:=o) (L:=[.own (gN ty.sz) e0 N [] rows1 h,.rep (gN ty.sz) [i2] rows2 hx]) (ty:=gN ty.sz) (K:=[]) (K2:=[i2]) rfl 0 1 rfl _ rfl wi ho ht hi rfl hzs hsz hse hxe hroom' hN he a ev w c1 next Q ha hL1 ?_
 intro h' w' c' hst hF;have hc1:∀b,b<w.heap.size->c b≠i->c1 b=c b:=λb hb hc=>by grind
 have hA:∀b,b<w.heap.size->c b=i->b≠g1->c' b=i/\w'.heap[b]?=w.heap[b]?:=λb hb hc hn=>by
  have e1:c1 b=i:=by grind
  have e2:c1 b∉[N]:=by grind
  exact⟨by rw[hst.col b hb e2,e1],hst.same b hb e2⟩
 have hB:∀b,b<w.heap.size->c b=i2->c' b=i2/\w'.heap[b]?=w.heap[b]?:=λb hb hc=>by
  have e1:c1 b=i2:=by grind
  have e2:c1 b∉[N]:=by grind
  exact⟨by rw[hst.col b hb e2,e1],hst.same b hb e2⟩
 let c2:aS:=λb=>if c' b=N\/c' b=i2 then i else c' b
 have hstp:Stp [i,i2,N] w c w' c2:=by
  refine⟨hst.size,λb hb hn=>?_,λb hb hn=>?_,λb hb h=>?_,hst.env⟩
  ·simp only[aaa,ai3,amw,not_or]at hn;have e1:=hc1 b hb hn.1;have e2:c' b=c b:=by rw[hst.col b hb (by grind),e1]
   grind
  ·simp only[aaa,ai3,amw,not_or]at hn;exact hst.same b hb (by grind)
  ·show 2<=(if c' b=N\/c' b=i2 then i else c' b);split
   ·exact hci'
   ·by_cases hlt:b<w.heap.size
    ·obtain⟨_,h2⟩:=h hlt;by_cases e1:c1 b=N
     ·exact hst.two b hb λ_=>⟨by simp[e1],by omega⟩
     grind
    ·exact hst.two b hb λh=>absurd h hlt
 refine hk h' w' c2 hstp (aj.cons ?_ (aj.nil _ _));show cC w' (λb=>c2 b=i) (.slice ty) (fR e) (xs++ys) h';rw[hei];have hFA:iK w' (λb=>b<w.heap.size/\c b=i/\b≠g1) ty s xs yx:=hF1.keep λb _ hb=>⟨hb,(hA b hb.1 hb.2.1 hb.2.2).2⟩
 have hFB:iK w' (λb=>b<w.heap.size/\c b=i2) ty s ys yy:=hF2.keep λb _ hb=>⟨hb,(hB b hb.1 hb.2).2⟩
 have hFF:iK w' (λb=>(b<w.heap.size/\c b=i/\b≠g1)\/(b<w.heap.size/\c b=i2)) ty s (xs++ys) (yx++yy):=iK.append hl1 (λb h1 h2=>hne (h1.2.1.symm.trans h2.2)) (λb hb=>.inl hb) (λb hb=>.inr hb) hFA hFB;rcases QA he (hF.at (k:=0) rfl)with⟨hn,hrows⟩|⟨g',hr',hg'⟩
 ·grind[List.length_append,List.eq_nil_of_length_eq_zero,cC.nil]
 ·have hlen:(rows1++rows2).length=(xs++ys).length:=by grind
  have hcells:cellsOf (gN ty.sz) (rows1++rows2) (List.replicate (rows1++rows2).length ())=cellsOf ty (xs++ys) (yx++yy):=by rw[ZD,<-List.replicate_append_replicate,dU _ (by simp),dU ty hl1.symm,hr1,hr2,hcl1,hcl2]
  rw[hcells,hlen]at hr';refine cC.join (S2:=λb=>(b<w.heap.size/\c b=i/\b≠g1)\/(b<w.heap.size/\c b=i2)) (by grind) hr' (by simp[c2,hg']) (λb hb=>?_) (λhb=>?_) hFF
  ·grind
  grind
theorem akm{w:World}{c:aS}{ty:Ty}{e:TypeId}{i:Nat}{K:List Nat}{xs:List ty.den}{h:Hd}(m sz:Nat)(hm:m<=xs.length)(hT:HA.holds w c (.tr ty e i K xs h)):HA.holds w c (.tr ty e i K (xs.take m) (h.cut 0 m sz)):=by
 obtain⟨d,hT⟩:=(show cC w (λb=>c b=i) (.slice ty) (fR e) xs h from hT)
 rcases hT with⟨rfl,rfl⟩|⟨e',s,he,ys,hl,⟨g,cap,cur,rfl,g2,g3,g4,g5,g6,g7,g8⟩,h3⟩
 ·grind[Hd.cut]
 ·refine⟨d,.inr ⟨e',s,he,ys.take m,by simp[hl],⟨g,cap,cur,?_,g2,by grind,g4,g5,?_,g7,g8⟩,λj x y hx hy=>h3 j x y ?_ ?_⟩⟩
  ·simp[Hd.cut,eN];omega
  ·grind[iu,List.length_take,Nat.min_eq_left,Nat.mul_le_mul_right]
  ·grind
  grind
theorem OO{t e0 e:TypeId}{x y:Operand}{khi:IntKind}{j:Int}{ty:Ty}{i:Nat}{K:List Nat}{xs:List ty.den}{h:Hd}{sz by_:Nat}{z:Value}(k:Nat)(hk:L[k]?=some (.tr ty e i K xs h))(ho:o.op=.slice t x none (some y) none)
  (ht:P.underlying t=some (.slice e0)) (hti:TI P e0 sz by_ z) (hs:sz=ty.sz) (hx:aJ ρ x=h.val) (hhi:aJ ρ y=.int khi j) (hb:decide (0<=j/\j<=xs.length)=true) :
  cJ P ρ o L [] (λ_:Unit=>(h.cut 0 j.toNat sz).val) (λ_=>[.tr ty e i K (xs.take j.toNat) (h.cut 0 j.toNat sz)]):=λa ev w c next Q ha hL hn=>by
 obtain⟨h0,hj⟩:=aaq hb;refine yK (L:=.rep ty (i::K) xs h::L) (i:=0) (klo:=.i64) 0 rfl ho ht hti hs hx rfl hhi (by grind) a ev w c next Q ha (aj.cons (KM (hL.at hk)) hL) λy w' c' hst _=>hn () w' c' hst ?_
 exact aj.cons (akm j.toNat sz (by omega) (aj.at (hL.stp0 hst) hk)) (aj.nil _ _)
theorem cJ.tree{ty:Ty}{e0 e:TypeId}{s:EI}{N:Nat}{Kn:List Nat}{K:List Nat}{rows:List (List V1)}{xs:List ty.den}{ys:List ty.Refs}(h:cJ P ρ o L [] Hd.val (λh=>[.own (gN ty.sz) e0 N K rows h]))(hei:fR e=.row e0 s)(he:Nat.blt e0 1048576=true)(hN:Nat.ble 2 N=true)
  (hl:ys.length=xs.length) (hr:rows.length=xs.length) (hcells:cellsOf (gN ty.sz) rows (List.replicate xs.length ())=cellsOf ty xs ys) (hF:∀w c,aj w c L->iK w (λb=>c b∈Kn) ty s xs ys) (hn:bQ N Kn=false):cJ P ρ o L Kn Hd.val (λh=>[.tr ty e N [] xs h]):=by
 classical
 intro a ev w c next Q ha hL hk
 have hF0:=hF w c hL;have hN':=Zh hN;have hn':N∉Kn:=λhc=>by rw[mem_iff.2 hc]at hn;cases hn
 refine h a ev w c next Q ha hL λh' w' c' hst hH=>?_
 have hF1:iK w (λb=>b<w.heap.size/\c b∈Kn) ty s xs ys:=hF0.keep λb hb h=>⟨⟨hb,h⟩,rfl⟩
 have hF2:iK w' (λb=>b<w.heap.size/\c b∈Kn) ty s xs ys:=hF1.keep λb hb h=>⟨h,hst.same b hb (by simp)⟩
 let c2:aS:=λb=>if b<w.heap.size/\c b∈Kn then N else c' b
 have hstp:Stp Kn w c w' c2:=by
  refine⟨hst.size,λb hb hn=>?_,λb hb _=>hst.same b hb (by simp),λb hb h=>?_,hst.env⟩
  ·show(if b<w.heap.size/\c b∈Kn then N else c' b)=c b;rw[if_neg (λh=>hn h.2)];exact hst.col b hb (by simp)
  ·show 2<=(if b<w.heap.size/\c b∈Kn then N else c' b);split
   ·exact hN'
   ·rename_i hno;by_cases hlt:b<w.heap.size
    ·grind
    ·exact hst.two b hb λh=>absurd h hlt
 refine hk h' w' c2 hstp (aj.cons ?_ (aj.nil _ _));show cC w' (λb=>c2 b=N) (.slice ty) (fR e) xs h';rw[hei];rcases QA he (hH.at (k:=0) rfl)with⟨hnil,hrows⟩|⟨g',hr',hg'⟩
 ·grind[List.eq_nil_of_length_eq_zero,cC.nil]
 ·rw[hr,hcells]at hr';refine cC.join (S2:=λb=>b<w.heap.size/\c b∈Kn) hl hr' ?_ (λb hb=>by simp[c2,hb]) (λhb=>?_) hF2
  ·grind
  ·have e1:=hst.col g' hb.1 (by simp);grind
end
section
variable {P:Program} {ρ:cV} {L:List HA} {o:Oper} {N:Nat}
def yR{A:Type}(q:A->Bool)(a0:A):List A->List A
 |[]=>[a0]
 |a::r=>bif q a then a0::r else a::yR q a0 r
def me:List Bool->List MapEntry->Nat->Option (Nat×Value)
 |b::bs,e::r,i=>bif b then some (i,e.val)else me bs r (i+1)
 |_,_,_=>none
abbrev xF(l:List MapEntry):List (Value×Value):=l.map λe=>(e.key,e.val)
structure KeyRun{A:Type}(P:Program)(kt:TypeId)(x:Value)(q:A->Bool)(f:A->Value×Value)(xs:List A):Prop where
 check:∀w em,(Instr.checkKey em 10000 kt x).run P w=.ok () w
 find:∀w (l:List MapEntry),xF l=xs.map f->(Instr.findKey kt x l).run P w=.ok (me (xs.map q) l 0) w
 same:∀a∈xs,q a=true->(f a).1=x
 stays:∀w,(Instr.keyThatStays x x).run P w=.ok x w
theorem Ba{A:Type}{q:A->Bool}{f:A->Value×Value}:∀{l:List MapEntry} {xs:List A} (i:Nat),xF l=xs.map f->(me (xs.map q) l i).map (·.2)=(xs.find? q).map λa=>(f a).2
 |[],[],_,_=>rfl
 |[],_::_,_,h=>by cases h
 |_::_,[],_,h=>by cases h
 |e::r,a::xs,i,h=>by
  simp only[xF,aas,ahv]at h;simp only[aas,me,List.find?_cons];cases q a
  ·exact Ba (i+1) h.2
  grind
theorem Gr{A:Type}{q:A->Bool}{f:A->Value×Value}{a0:A}:∀{l:List MapEntry} {xs:List A} {i:Nat},xF l=xs.map f->(∀a∈xs,q a=true->(f a).1=(f a0).1) ->
  match me (xs.map q) l i with
  |some (j,_)=>i<=j/\(∃e,l[j-i]?=some e/\e.key=(f a0).1)/\xF (l.modify (j-i) λe=>{ e with key:=(f a0).1,val:=(f a0).2})=(yR q a0 xs).map f
  |none=>∀b,xF (l++[{ key:=(f a0).1,val:=(f a0).2,born:=b}])=(yR q a0 xs).map f
 |[],[],i,_,_=>λ_=>rfl
 |[],_::_,_,h,_=>by cases h
 |_::_,[],_,h,_=>by cases h
 | e::r,a::xs,i,hl,h=>by
  simp only[xF,aas,ahv]at hl;simp only[aas,me];cases hq:q a
  ·have ih:=Gr (q:=q) (f:=f) (a0:=a0) (l:=r) (xs:=xs) (i:=i+1) hl.2 λp hp=>h p (Zf _ hp);simp only[Zr];cases hf:me (xs.map q) r (i+1)with
   |none=>
    grind[yR]
   |some p=>
    grind[yR]
  grind[yR,List.modify]
theorem wI(x v:Value):∀(l:List MapEntry) (j:Nat),(l.modify j λe=>{ e with key:=x,val:=v}).map (·.born)=l.map (·.born)
 |[],j=>by grind
 |e::r,0=>by grind
 |e::r,j+1=>by simp[List.modify_succ_cons,wI x v r j]
theorem Zi{A:Type}{t kt et:TypeId}{m x:Operand}{b i:Nat}{xs:List A}{kx z:Value}{q:A->Bool}{f:A->Value×Value}{sz by_:Nat}(k:Nat)(hk:L[k]?=some (.mp i b (xs.map f)))(ho:o.op=.lookup t m x false)(ht:P.underlying t=some (.map kt et))
  (hm:aJ ρ m=.map (some b)) (hx:aJ ρ x=kx) (K:KeyRun P kt kx q f xs) (hi:TI P et sz by_ z):aX P ρ o L (((xs.find? q).map λa=>(f a).2).getD z):=λev w c he hL=>by
 subst he;have htihi:=hi;clear hi;obtain⟨inf,hi,hz,_,_⟩:=htihi.get;obtain⟨arr,clock,h1,h2,h3,h4,h5⟩:=(show sZ w (λg=>c g=i) b (xs.map f)from hL.at hk)
 have hv:=Ba (q:=q) 0 (show xF arr.toList=xs.map f from h2);have hf:=K.find w arr.toList h2;rw[<-hv];cases he:me (xs.map q) arr.toList 0 with
 |none=>
  rw[he]at hf;simp[execOp,ho,hm,hx,Instr.lookup,run_underlying ht,MapKept.run_getObj_map h1,K.check,hf,Result.andThen,zeroValue,typeInfo,hi,hz]
 |some p=>
  rw[he]at hf;simp[execOp,ho,hm,hx,Instr.lookup,run_underlying ht,MapKept.run_getObj_map h1,K.check,hf,Result.andThen]
theorem XS{A:Type}{t kt et:TypeId}{m x:Operand}{b i:Nat}{xs:List A}{kx:Value}{a0:A}{q:A->Bool}{f:A->Value×Value}(k:Nat)(hk:L[k]?=some (.mp i b (xs.map f)))(ho:o.op=.lookup t m x false)(ht:P.underlying t=some (.map kt et))
  (hm:aJ ρ m=.map (some b)) (hx:aJ ρ x=kx) (K:KeyRun P kt kx q f xs) (hi:xs.find? q=some a0):aX P ρ o L (f a0).2:=λev w c he hL=>by
 subst he;obtain⟨arr,clock,h1,h2,h3,h4,h5⟩:=(show sZ w (λg=>c g=i) b (xs.map f)from hL.at hk)
 have hv:=Ba (q:=q) 0 (show xF arr.toList=xs.map f from h2);rw[hi]at hv;have hf:=K.find w arr.toList h2;cases he:me (xs.map q) arr.toList 0 with
 |none=>grind
 |some p=>
  rw[he]at hf hv;simp only[al3,no]at hv;simp[execOp,ho,hm,hx,Instr.lookup,run_underlying ht,MapKept.run_getObj_map h1,K.check,hf,Result.andThen,hv]
theorem Wg{t:TypeId}(ho:o.op=.makeMap t none)(hN:Nat.ble 2 N=true):cJ P ρ o L [] (λb:Nat=>.map (some b)) (λb=>[.mp N b []]):=λa ev w c next Q _ _ hk=>by
 have hrun:(execOp ev o).run P w=.ok (.value (.map (some w.heap.size))) (w.alloc (.map #[] 0)):=by simp[execOp,ho,Instr.makeMap,Result.andThen]
 rw[hrun];exact hk w.heap.size _ _ (ul hN _) (aj.cons ⟨#[],0,heap_alloc_new w _,rfl,by simp,by simp,by simp⟩ (aj.nil _ _))
theorem DM{w:World}{c:aS}{b i:Nat}{ob:Obj}(hc:c b=i):Stp [i] w c { w with heap:=w.heap.setIfInBounds b ob} c:=by refine .mk0 (by simp) (λ_ _=>rfl) (λb' hb' hn=>?_) (λb' h1 h2=>by grind) ⟨rfl,rfl⟩;grind
theorem Xw{A:Type}{t kt et:TypeId}{m x y:Operand}{b i:Nat}{xs:List A}{a0:A}{q:A->Bool}{f:A->Value×Value}(k:Nat)(hk:L[k]?=some (.mp i b (xs.map f)))(ho:o.op=.mapUpdate t m x y\/o.op=.insert t m x y)(ht:P.underlying t=some (.map kt et))
  (hm:aJ ρ m=.map (some b)) (hx:aJ ρ x=(f a0).1) (hy:aJ ρ y=(f a0).2) (K:KeyRun P kt (f a0).1 q f xs):cJ P ρ o L [i] (λ_:Unit=>undef) (λ_=>[.mp i b ((yR q a0 xs).map f)]):=by
 intro a ev w c next Q ha hL hn
 subst ha;obtain⟨arr,clock,h1,h2,h3,h4,h5⟩:=(show sZ w (λg=>c g=i) b (xs.map f)from hL.at hk)
 have hf:=K.find w arr.toList h2;have hp:=Gr (q:=q) (f:=f) (a0:=a0) (i:=0) (show xF arr.toList=xs.map f from h2) K.same;cases he:me (xs.map q) arr.toList 0 with
 |none=>
  rw[he]at hf hp;have hrun:(execOp (aJ ρ) o).run P w=.ok .skip { w with heap:=w.heap.setIfInBounds b (.map (arr.push { key:=(f a0).1,val:=(f a0).2,born:=clock}) (clock+1))}:=by rcases ho with ho|ho<;>simp[execOp,ho,hm,hx,hy,Instr.mapUpdate,run_underlying ht,MapKept.run_getObj_map h1,K.check,hf,Result.andThen,MapKept.run_setObj_map _ h1]
  rw[hrun];refine hn () _ c (DM h5) (aj.cons ⟨_,_,(MapKept.heap_set h1).1,?_,?_,?_,h5⟩ (aj.nil _ _))
  ·grind
  ·grind
  grind
 |some p=>
  obtain⟨j,v'⟩:=p;rw[he]at hf hp;obtain⟨_,⟨e,e1,e2⟩,e3⟩:=hp;rw[Nat.sub_zero]at e1 e3;rw[Array.getElem?_toList]at e1;have hst:=K.stays w;have hrun:(execOp (aJ ρ) o).run P w=.ok .skip { w with heap:=w.heap.setIfInBounds b (.map (arr.modify j λe=>{ e with key:=(f a0).1,val:=(f a0).2}) clock)}:=by rcases ho with ho|ho<;>simp[execOp,ho,hm,hx,hy,Instr.mapUpdate,run_underlying ht,MapKept.run_getObj_map h1,K.check,hf,Result.andThen,e1,e2,hst,MapKept.run_setObj_map _ h1]
  rw[hrun];refine hn () _ c (DM h5) (aj.cons ⟨_,_,(MapKept.heap_set h1).1,?_,?_,?_,h5⟩ (aj.nil _ _))
  ·grind
  ·intro e' hm';have hb:=wI (f a0).1 (f a0).2 arr.toList j;rw[Array.toList_modify]at hm';have:e'.born∈(arr.toList.modify j λe=>{ e with key:=(f a0).1,val:=(f a0).2}).map (·.born):=ZA.2 ⟨_,hm',rfl⟩;grind
  ·rw[Array.toList_modify,wI];exact h4
theorem aox{A:Type}{kt:TypeId}{k:IntKind}(ht:P.underlying kt=some (.int k))(x:Int){q:A->Bool}{f:A->Value×Value}{xs:List A}{g:A->Int}(hf:∀a∈xs,(f a).1=.int k (g a))(hq:∀a∈xs,q a=(x==g a)):KeyRun P kt (.int k x) q f xs where
 check w em:=MapKept.run_checkKey ht (by rfl) em 9999
 find w l hl:=by
  have key:∀(l:List MapEntry) (xs:List A) (i:Nat),(∀a∈xs,(f a).1=.int k (g a))->(∀a∈xs,q a=(x==g a))->xF l=xs.map f->Instr.findNow (.int k) (.int k x) l i=some (me (xs.map q) l i):=by
   intro l;induction l with
   |nil=>intro xs i _ _ h;cases xs<;>rfl
   | cons e r ih=>
    intro xs i hf hq h;cases xs with
    |nil=>cases h
    |cons p es=>
     grind[Instr.findNow,Instr.sameNow,me]
  exact MapKept.run_findKey ht (key l xs 0 hf hq hl)
 same a ha h:=by grind
 stays w:=by simp[Instr.keyThatStays,Instr.sameBits,Sem.run_pure]
theorem Xx{A:Type}{kt:TypeId}{Fd:Array Field}(ht:P.underlying kt=some (.struct Fd)){x:Value}{q:A->Bool}{f:A->Value×Value}{xs:List A}(hc:∀w em,(Instr.checkKey em 10000 kt x).run P w=.ok () w)
  (he:∀w,∀a∈xs,(Op.equalIn 10000 kt x (f a).1).run P w=.ok (q a) w) (hs:∀a∈xs,q a=true->(f a).1=x) (hb:Instr.sameBits 10000 x x=true):KeyRun P kt x q f xs where
 check:=hc
 find w l hl:=by
  have ask:∀(l:List MapEntry) (xs:List A) (i:Nat),(∀a∈xs,(Op.equalIn 10000 kt x (f a).1).run P w=.ok (q a) w)->xF l=xs.map f->(Instr.findAsking kt x l i).run P w=.ok (me (xs.map q) l i) w:=by
   intro l;induction l with
   |nil=>intro xs i _ h;cases xs<;>simp[Instr.findAsking,me]
   | cons e r ih=>
    intro xs i he h;cases xs with
    |nil=>cases h
    |cons p es=>
     simp only[xF,aas,ahv]at h;obtain⟨h1,h3⟩:=h;have e1:e.key=(f p).1:=by rw[<-h1]
     have e2:=he p ZO;rw[<-e1]at e2;have e3:(Op.equal kt x e.key).run P w=.ok (q p) w:=e2;simp only[Instr.findAsking,Sem.run_bind,e3,Result.andThen_ok,aas,me];cases hx:q p
     ·grind
     simp_all
  have h0:=ask l xs 0 (he w) hl;cases l with
  |nil=>
   simp only[Instr.findKey,Sem.run_bind,run_underlying ht,Result.andThen_ok,Instr.findNow,Sem.run_pure];cases xs with
   |nil=>rfl
   |cons _ _=>cases hl
  |cons e r=>
   have hn:Instr.findNow (.struct Fd) x (e::r) 0=none:=by rfl
   simp only[Instr.findKey,Sem.run_bind,run_underlying ht,Result.andThen_ok,hn];exact h0
 same:=hs
 stays w:=by simp[Instr.keyThatStays,hb,Sem.run_pure]
end
section
variable {P:Program} {ρ:cV} {L:List HA} {o:Oper}
theorem xb.rep{w:World}{S SK S':Nat->Prop}{t:Ty}{e:TypeId}{xs:List t.den}{v:Hd}{m:Int}(h1:∀b,S b->S' b)(h2:∀b,SK b->S' b)(h:xb w S SK t e xs v m):bD w S' (.slice t) xs v:=by
 rcases h with⟨rfl,rfl⟩|⟨d,e0,s,ys,_,hl,hr,hT,hR⟩
 ·exact⟨[],trivial,rfl,by simp,by simp[maxLen],.inl ⟨trivial,rfl⟩⟩
 ·refine⟨ys,jj hl λj x y hx hy=>?_,?_⟩
  ·by_cases hj:(j:Int)<m
   ·exact bz.rep h1 t s [j] x y (hT j x y hj hx hy)
   ·exact bD.keep (ij.of h2) t x y (hR j x y (by omega) hx hy)
  ·obtain⟨g,cap,cur,rfl,g2,g3,g4,g5,g6,g7,g8⟩:=hr;exact⟨rfl,g3,g4,.inr ⟨g,0,cur,e0,(0,0),rfl,h1 g g7,g2,by grind,by simpa using g6⟩⟩
theorem KY{w:World}{c:aS}{t:Ty}{e:TypeId}{i:Nat}{K:List Nat}{xs:List t.den}{v:Hd}{m:Int}(h:HA.holds w c (.pt t e i K xs v m)):HA.holds w c (.rep t (i::K) xs v):=
 xb.rep (S:=λb=>c b=i) (SK:=λb=>c b∈K) (λb (hb:c b=i)=>by grind) (λb hb=>Zf _ hb) h
theorem alX{w:World}{c:aS}{t:Ty}{e e0:TypeId}{s:EI}{i:Nat}{K:List Nat}{xs:List t.den}{v:Hd}(hei:fR e=.row e0 s)(he:Nat.blt e0 1048576=true)(h:HA.holds w c (.own t e0 i K xs v)):HA.holds w c (.pt t e i K xs v 0):=by
 obtain⟨ys,h1,h2,h3⟩:=h;obtain⟨a,n,cap⟩:=v;rcases(h2.plain he).2 with⟨hv,hn⟩|⟨g,cap',cur,hv,_,hg,g3,g4,g5,g6⟩
 ·simp only[Hd.val,Value.slice.injEq]at hv;obtain⟨rfl,rfl,rfl⟩:=hv;exact .inl ⟨rfl,abT hn⟩
 ·have hcg:=h3 g (by rw[hv];rfl);simp only[Hd.val,Value.slice.injEq]at hv;obtain⟨rfl,rfl,rfl⟩:=hv;refine .inr ⟨λ_=>[],e0,s,ys,hei,h1.length.symm,⟨g,cap,cur,rfl,hg,g3,g4,g5,g6,hcg,rfl⟩,λj x y hj=>by omega,λj x y _ hx hy=>?_⟩;have hget:∀{xs:List t.den} {ys:List t.Refs} {j:Nat},bX (bD w (λb=>c b∈K) t) xs ys->xs[j]?=some x->ys[j]?=some y->bD w (λb=>c b∈K) t x y:=by
   intro xs;induction xs with
   |nil=>grind
   | cons a xs ih=>
    intro ys j h hx hy;cases ys with
    |nil=>simp at hy
    | cons b ys=>
     cases j with
     |zero=>
      simp at hx hy;subst hx hy;exact h.1
     |succ j=>exact ih h.2 (by simpa using hx) (by simpa using hy)
  grind
theorem akV{w:World}{c:aS}{t:Ty}{e:TypeId}{i:Nat}{K K':List Nat}{xs:List t.den}{v:Hd}{m:Int}(hm:(xs.length:Int)<=m)(h:HA.holds w c (.pt t e i K xs v m)):HA.holds w c (.tr t e i K' xs v):=by
 rcases h with⟨rfl,rfl⟩|⟨d,e0,s,ys,hei,hl,hr,hT,hR⟩
 ·exact cC.nil
 ·show cC w (λb=>c b=i) (.slice t) (fR e) xs v;rw[hei];exact⟨d,.inr ⟨e0,s,rfl,ys,hl,hr,λj x y hx hy=>hT j x y (by grind) hx hy⟩⟩
theorem O1{t:TypeId}{x y:Operand}{off:Nat}{ty:Ty}{e e0:TypeId}{s:EI}{i:Nat}{K Kn:List Nat}{xs:List ty.den}{h:Hd}{k:Nat}{vs:List Value}{v z:Value}{sz by_:Nat}{xo xn:ty.den}(j:Nat)(hj:L[j]?=some (.pt ty e i K xs h (k:Int)))(hei:fR e=.row e0 s)(ho:o.op=.store t x y)(hi:TI P t sz by_ z)
  (hx:aJ ρ x=.pointer (some (dR h (k*ty.sz+off)))) (hy:aJ ρ y=v) (hv:v.cells=vs.toArray) (hl:Nat.beq vs.length sz=true) (hones:vs.all Value.oneCell'=true) (hin:off+vs.length<=ty.sz) (hxo:xs[k]?=some xo)
  (hfill:∀yo:ty.Refs,∃yn:ty.Refs,ty.fill xn yn=(ty.fill xo yo).take off++vs++(ty.fill xo yo).drop (off+vs.length)/\∀w c,aj w c L->cC w (λb=>c b∈Kn) ty s xn yn)
  (h2:Nat.ble 2 i=true) (hn:bQ i Kn=false) (hK:K.all (λq=>!(bQ q (i::Kn)))=true) :
  cJ P ρ o L (i::Kn) (λ_:Unit=>undef) (λ_=>[.pt ty e i K (xs.set k xn) h (k+1:Nat),.rep ty (i::K) (xs.set k xn) h]):=by
 classical
 intro a ev w c next Q ha hL hk
 have htihi:=hi;clear hi;obtain⟨inf,hi,_,rfl,_⟩:=htihi.get;have hi2:=Zh h2;have hn':i∉Kn:=λhc=>by rw[mem_iff.2 hc]at hn;cases hn
 have hK':∀q∈K,q≠i/\q∉Kn:=λq hq=>by grind[List.all_eq_true,Bool.not_eq_true',mem_iff]
 have hklt:k<xs.length:=(aaw.1 hxo).1;rcases(show xb w (λb=>c b=i) (λb=>c b∈K) ty e xs h k from hL.at hj)with⟨_,rfl⟩|⟨d,e0',s',ys,he,hlen,⟨g,cap,cur,rfl,g2,g3,g4,g5,g6,g7,g8⟩,hT,hR⟩
 ·simp at hklt
 rw[hei]at he;cases he;obtain⟨yo,hyo⟩:∃yo,ys[k]?=some yo:=⟨ys[k]'(by omega),ZB _⟩
 obtain⟨yn,hf1,hf2⟩:=hfill yo;have hFn:=hf2 w c hL;have hfl:(ty.fill xo yo).length=ty.sz:=ty.fill_length _ _;rw[<-rQ hlen hxo hyo]at g6;obtain⟨c1,c2⟩:=kC (cs:=ty.fill xo yo) hlen hklt hfl;have m1:(k+1)*ty.sz<=xs.length*ty.sz:=aaR _ hklt;have m2:xs.length*ty.sz<=cap*ty.sz:=aaR _ g3;rw[acG,aky]at m1;have hcur:cur.toList=cellsOf ty (xs.take k) (ys.take k)++ty.fill xo yo++cellsOf ty (xs.drop (k+1)) (ys.drop (k+1))++cur.toList.drop (xs.length*ty.sz):=by grind[cellsOf,eW,List.take_append_drop]
 have hp:dR ⟨some ⟨g,0,none⟩,xs.length,cap⟩ (k*ty.sz+off)=⟨g,k*ty.sz+off,none⟩:=by simp[dR]
 have hst:=kR P g (k*ty.sz+off) e0 (0,0) vs cur w g2 (.inl rfl) (by omega) (Bw hones);have hrun:(execOp ev o).run P w=.ok .skip (w.setRow g (cur.toList.take (k*ty.sz+off)++vs++cur.toList.drop (k*ty.sz+off+vs.length)).toArray):=by simp[execOp,ho,ha,hx,hp,hy,Instr.storeAt,Instr.sureAddr,storeVar,hv,sizeOf,typeInfo,hi,f9 hl,hst,Result.andThen]
 rw[hrun];have e1:cur.toList.take (k*ty.sz+off)++vs++cur.toList.drop (k*ty.sz+off+vs.length)=eW ty xs ys k (ty.fill xn yn)++cur.toList.drop (xs.length*ty.sz):=by generalize hC:cur.toList.drop (xs.length*ty.sz)=C at hcur;rw[hcur,hf1];exact Fi c2 (by omega)
 rw[e1];obtain⟨c3,_⟩:=kC (cs:=ty.fill xn yn) hlen hklt (ty.fill_length _ _);let cc:aS:=λb=>if c b∈Kn then i else c b
 have hgK:c g∉Kn:=λhb=>hn' (by grind);have hsame:∀b,b≠g->(w.setRow g (eW ty xs ys k (ty.fill xn yn)++cur.toList.drop (xs.length*ty.sz)).toArray).heap[b]?=w.heap[b]?:=λb hb=>by grind[World.setRow]
 have hstp:Stp (i::Kn) w c (w.setRow g (eW ty xs ys k (ty.fill xn yn)++cur.toList.drop (xs.length*ty.sz)).toArray) cc:=by
  refine⟨by rw[wq];grind,λb _ hb=>?_,λb _ hb=>?_,λb hb hb2=>?_,⟨rfl,rfl⟩⟩
  ·grind
  ·grind
  grind[wq]
 have hPt:HA.holds (w.setRow g (eW ty xs ys k (ty.fill xn yn)++cur.toList.drop (xs.length*ty.sz)).toArray) cc (.pt ty e i K (xs.set k xn) ⟨some ⟨g,0,none⟩,xs.length,cap⟩ (k+1:Nat)):=by
  obtain⟨d2,hFn⟩:=hFn;have hgcc:cc g=i:=by grind
  refine .inr ⟨λb=>if c b∈Kn then d2 b++[k]else d b,e0,s,ys.set k yn,hei,by grind,⟨g,cap,_,by grind,setRow_heap w g cur _ e0 (0,0) g2,by grind,g4,?_,?_,hgcc,?_⟩,λq x' y' hq hx' hy' => ?_,λq x' y' hq hx' hy' => ?_⟩
  ·grind
  ·rw[aa1,rO hlen hklt];grind
  ·grind
  ·by_cases hqk:q=k
   ·subst hqk;rw[abG hklt]at hx';rw[abG (by omega)]at hy';cases hx';cases hy';have h1:bz w (λb=>c b∈Kn) (λb=>d2 b++[q]) ty s [q] xn yn:=bz.ren (f:=λσ=>σ++[q]) (π0:=[]) (λ_ _ _=>rfl) (λb hb _=>⟨hb,rfl⟩) ty s [] xn yn ⟨[],rfl⟩ hFn;have h2:bz w (λb=>c b∈Kn) (λb=>if c b∈Kn then d2 b++[q]else d b) ty s [q] xn yn:=bz.re (π0:=[q]) (λb hb _=>⟨hb,by simp[hb]⟩) (eB _) h1;refine bz.keep (λb _ (hb:c b∈Kn)=>⟨?_,hsame b λe=>hgK (by grind)⟩) ty s _ _ _ h2;grind
   ·rw[acN (by omega)]at hx' hy';have h0:=hT q x' y' (by omega) hx' hy';have h1:bz w (λb=>c b=i/\b≠g) (λb=>if c b∈Kn then d2 b++[k]else d b) ty s [q] x' y':=bz.re (π0:=[q]) (λb (hb:c b=i) hu=>⟨⟨hb,λe=>by
     grind[sP]⟩,by grind⟩) (eB _) h0
    refine bz.keep (λb _ hb=>⟨?_,hsame b hb.2⟩) ty s _ _ _ h1;grind
  ·have hqk:q≠k:=by omega
   rw[acN (by omega)]at hx' hy';refine bD.keep (S:=λb=>c b∈K) (λb _ (hb:c b∈K)=>⟨?_,hsame b λe=>?_⟩) ty _ _ (hR q x' y' (by omega) hx' hy')
   ·grind
   grind
 exact hk () _ cc hstp (aj.cons hPt (aj.cons (KY hPt) (aj.nil _ _)))
end
theorem Et{P:Program}{w:World}{t u ty e:TypeId}{i:TypeInfo}(ht:P.underlying t=some (.slice e))(hu:P.underlying u=some .string)(hi:P.info? e=some i)(hz:i.zero=some (.int .u8 0))(hs:i.size=1)(hby:i.bytes=1)
  {h:Hd} {n:Nat} {xs:List Value} (hown:w.ownsRow 0 e 1 h.val n xs) (s:ByteArray) (h63:n+s.size<=maxLen) (hbytes:n+s.size<=140737488355328) :
  ∃(h':Hd) (w':World),(Builtin.append_ #[t,u] ty #[h.val,.string s]).run P w=.ok h'.val w'/\w'.ownsRow 0 e 1 h'.val (n+s.size) (xs++Lib.strCells s)/\w.grownBy w' h.val.ownBlock /\
   (∀g,h'.val.ownBlock=some g->h.val.ownBlock=some g\/w.heap.size<=g):=by
 have toHd:∀(v':Value) (w':World),w'.ownsRow 0 e 1 v' (n+s.size) (xs++Lib.strCells s)->∃h':Hd,v'=h'.val:=by
  intro v' w' ho;rcases ho.2 with⟨rfl,_⟩|⟨g,cap,cur,rfl,_⟩
  ·exact⟨⟨none,0,0⟩,rfl⟩
  ·exact⟨⟨some ⟨g,0,none⟩,n+s.size,cap⟩,rfl⟩
 obtain⟨v0,hv0⟩:∃v,v=h.val:=⟨_,rfl⟩
 rw[<-hv0]at hown|-;rcases hown.2 with⟨hnil,hn0⟩|⟨g,cap,cur,hv,_,hg,hnc,hcm,hcs,htake⟩
 ·have hown':w.ownsRow w.heap.size e 1 v0 n xs:=⟨hown.1,.inl ⟨hnil,hn0⟩⟩
  obtain⟨v',w',hr,h2,h3,_⟩:=Lib.run_append_own_string (P:=P) w w.heap.size t u ty e i ht hu hi hz hs hby _ n xs hown' s h63 hbytes (Z0 _);have h2':w'.ownsRow 0 e 1 v' (n+s.size) (xs++Lib.strCells s):=⟨h2.1,h2.2.imp id λ⟨g,cap,cur,hv,_,hrest⟩=>⟨g,cap,cur,hv,aen _,hrest⟩⟩
  obtain⟨h',rfl⟩:=toHd v' w' h2';exact⟨h',w',hr,h2',h3,λg hg=>.inr (h2.lt g hg).1⟩
 ·obtain⟨v',w',hr,h2,h3,_⟩:=Lib.run_append_own_string (P:=P) w 0 t u ty e i ht hu hi hz hs hby _ n xs hown s h63 hbytes (aen _);have hcs':cur.size=cap:=by grind
  by_cases hroom:n+s.size<=cap
  ·grind[Value.ownBlock,Lib.run_append_room_string,Result.ok.injEq]
  ·have holds:∀j u,xs[j]?=some u->w.cell? ((⟨g,0,none⟩:Addr).add j)=some u:=hown.cells (g:=g) (by rw[hv];rfl);have hr2:=Lib.run_append_grow_string (P:=P) w t u ty e i (.int .u8 0) ht hu hi hz ⟨g,0,none⟩ n cap xs (by grind) holds s (by omega) (by grind) (by rw[hby];exact growslice_fits (by omega) (by omega));grind[Value.ownBlock]
section
variable {P:Program} {ρ:cV} {L:List HA} {o:Oper}
abbrev Ew:Ty:=.one Int (λx=>.int .u8 x) (λ_=>rfl)
theorem MZ:∀(l:List UInt8),(l.map λb=>Value.int .u8 b.toNat)=cellsOf Ew (l.map λb=>(b.toNat:Int)) (List.replicate l.length ())
 |[]=>rfl
 |b::r=>by simp only[aas,aaG,adF,cellsOf,MZ r];rfl
theorem Hf{t u e:TypeId}{sz by_:Nat}{s x:Operand}{ci:Nat}{K:List Nat}{xs:List Int}{h:Hd}{l:List UInt8}(j:Nat)
  (hj:L[j]?=some (.own Ew e ci K xs h)) (ho:o.op=.call { callee:=.builtin .append,args:=#[s,x],argTypes:=#[t,u]}) (ht:P.underlying t=some (.slice e)) (hu:P.underlying u=some .string) (hi:TI P e sz by_ (.int .u8 0)) (hs:Nat.beq sz 1=true) (hb:Nat.beq by_ 1=true)
  (hse:aJ ρ s=h.val) (hxe:aJ ρ x=.string ⟨l.toArray⟩)
  (hroom:decide ((xs.length+l.length)*by_<=140737488355328/\xs.length+l.length<=maxLen)=true) (hci:Nat.ble 2 ci=true) (he:Nat.blt e 1048576=true) :
  cJ P ρ o L [ci] Hd.val (λh'=>[.own Ew e ci K (xs++l.map λb=>(b.toNat:Int)) h']):=by
 intro a ev w c next Q ha hL hk
 have htihi:=hi;clear hi;obtain⟨inf,hi,hz,hs1,hb1⟩:=htihi.get;obtain⟨rs,hr1,hown,hcol⟩:=hL.at hj;obtain⟨hb2,h63⟩:=aaq hroom;have hs':=f9 hs;have hb':=f9 hb;rw[hb',aep]at hb2;replace hown:w.ownsRow 0 e 1 h.val xs.length (cellsOf Ew xs rs):=hown.plain he;have hsz:(⟨l.toArray⟩:ByteArray).size=l.length:=by rfl
 obtain⟨h',w',hrun,ho',hg,hblk⟩:=Et (P:=P) (ty:=o.type) ht hu hi hz (by omega) (by omega) hown ⟨l.toArray⟩ (by omega) (by omega);have hex:(execOp ev o).run P w=.ok (.value h'.val) w':=by simp[execOp,ho,ha,hse,hxe,resolve,invoke,builtin,hrun,Result.andThen]
 rw[hex];have hst:=wb hci hg hcol;refine hk h' w' _ hst (aj.cons ⟨rs++List.replicate l.length (),?_,?_,Br hblk hcol⟩ (aj.nil _ _))
 ·exact(hr1.mono λx y _=>bD.pure Ew x y rfl).append (jj (by simp) λj x y _ _=>bD.pure Ew x y rfl)
 ·rw[dU Ew hr1.length,<-MZ];have e1:Lib.strCells ⟨l.toArray⟩=l.map λb=>Value.int .u8 b.toNat:=by rfl
  rw[hsz,e1]at ho';have:=w9 ho';grind
end
section
variable {P:Program} {ρ:cV} {L:List HA} {o:Oper}
def yE(x y z u:Int):Int:=let a:=if y<x then y else x;let b:=if z<a then z else a;if u<b then u else b
theorem Oo{w:World}(ts:Array TypeId)(t:TypeId)(k1 k2 k3 k4:IntKind)(x y z u:Int):(Builtin.min_ ts t #[.int k1 x,.int k2 y,.int k3 z,.int k4 u]).run P w=.ok (.int k1 (yE x y z u)) w:=by rfl
theorem anT{ts:Array TypeId}{x y z u:Operand}{k:IntKind}{a b c d:Int}(ho:o.op=.call { callee:=.builtin .min,args:=#[x,y,z,u],argTypes:=ts})(hx:aJ ρ x=.int k a)(hy:aJ ρ y=.int k b)(hz:aJ ρ z=.int k c)(hu:aJ ρ u=.int k d) :
  aX P ρ o L (.int k (yE a b c d)):=λev w c he _=>by
 subst he;simp[execOp,ho,hx,hy,hz,hu,resolve,invoke,builtin,Oo,Result.andThen]
theorem OZ{t:TypeId}{x y:Operand}{off:Nat}{ty:Ty}{e:TypeId}{i:Nat}{K:List Nat}{xs:List ty.den}{h:Hd}{k:Nat}{vs:List Value}{v z:Value}{sz by_:Nat}{xo xn:ty.den}(j:Nat)(hj:L[j]?=some (.tr ty e i K xs h))(ho:o.op=.store t x y)(hi:TI P t sz by_ z)
  (hx:aJ ρ x=.pointer (some (dR h (k*ty.sz+off)))) (hy:aJ ρ y=v) (hv:v.cells=vs.toArray) (hl:Nat.beq vs.length sz=true) (hones:vs.all Value.oneCell'=true) (hin:off+vs.length<=ty.sz) (hxo:xs[k]?=some xo)
  (hfill:∀yo:ty.Refs,ty.fill xn yo=(ty.fill xo yo).take off++vs++(ty.fill xo yo).drop (off+vs.length))
  (htree:∀(w:World) (S:Nat->Prop) (d:Nat->List Nat) (ε:EI) (π:List Nat) (yo:ty.Refs),bz w S d ty ε π xo yo->bz w S d ty ε π xn yo) :
  cJ P ρ o L [i] (λ_:Unit=>undef) (λ_=>[.tr ty e i K (xs.set k xn) h]):=by
 intro a ev w c next Q ha hL hk
 have htihi:=hi;clear hi;obtain⟨inf,hi,_,rfl,_⟩:=htihi.get;have hklt:k<xs.length:=(aaw.1 hxo).1;obtain⟨d,hT⟩:=(show cC w (λb=>c b=i) (.slice ty) (fR e) xs h from hL.at hj)
 rcases hT with⟨_,rfl⟩|⟨e0,s,hei,ys,hlen,⟨g,cap,cur,rfl,g2,g3,g4,g5,g6,g7,g8⟩,hT⟩
 ·simp at hklt
 obtain⟨yo,hyo⟩:∃yo,ys[k]?=some yo:=⟨ys[k]'(by omega),ZB _⟩
 have hf1:=hfill yo;have hfl:(ty.fill xo yo).length=ty.sz:=ty.fill_length _ _;rw[<-rQ hlen hxo hyo]at g6;obtain⟨c1,c2⟩:=kC (cs:=ty.fill xo yo) hlen hklt hfl;have m1:(k+1)*ty.sz<=xs.length*ty.sz:=aaR _ hklt;have m2:xs.length*ty.sz<=cap*ty.sz:=aaR _ g3;rw[acG,aky]at m1;have hcur:cur.toList=cellsOf ty (xs.take k) (ys.take k)++ty.fill xo yo++cellsOf ty (xs.drop (k+1)) (ys.drop (k+1))++cur.toList.drop (xs.length*ty.sz):=by grind[cellsOf,eW,List.take_append_drop]
 have hp:dR ⟨some ⟨g,0,none⟩,xs.length,cap⟩ (k*ty.sz+off)=⟨g,k*ty.sz+off,none⟩:=by simp[dR]
 have hst:=kR P g (k*ty.sz+off) e0 (0,0) vs cur w g2 (.inl rfl) (by omega) (Bw hones);have hrun:(execOp ev o).run P w=.ok .skip (w.setRow g (cur.toList.take (k*ty.sz+off)++vs++cur.toList.drop (k*ty.sz+off+vs.length)).toArray):=by simp[execOp,ho,ha,hx,hp,hy,Instr.storeAt,Instr.sureAddr,storeVar,hv,sizeOf,typeInfo,hi,f9 hl,hst,Result.andThen]
 rw[hrun];have e1:cur.toList.take (k*ty.sz+off)++vs++cur.toList.drop (k*ty.sz+off+vs.length)=eW ty xs ys k (ty.fill xn yo)++cur.toList.drop (xs.length*ty.sz):=by generalize hC:cur.toList.drop (xs.length*ty.sz)=C at hcur;rw[hcur,hf1];exact Fi c2 (by omega)
 rw[e1];obtain⟨c3,_⟩:=kC (cs:=ty.fill xn yo) hlen hklt (ty.fill_length _ _);have hsame:∀b,b≠g->(w.setRow g (eW ty xs ys k (ty.fill xn yo)++cur.toList.drop (xs.length*ty.sz)).toArray).heap[b]?=w.heap[b]?:=λb hb=>by grind[World.setRow]
 have hys:ys.set k yo=ys:=by refine ace λq=>?_;grind
 refine hk () _ c (qI (i:=i) g7) (aj.cons ?_ (aj.nil _ _));show cC _ (λb=>c b=i) (.slice ty) (fR e) (xs.set k xn) _;rw[hei];refine⟨d,.inr ⟨e0,s,rfl,ys,by grind,⟨g,cap,_,by grind,setRow_heap w g cur _ e0 (0,0) g2,by grind,g4,?_,?_,g7,g8⟩,λq x' y' hx' hy' => ?_⟩⟩
 ·grind
 ·grind[List.length_set,rO]
 ·have h0:bz w (λb=>c b=i) d ty s [q] x' y':=by
   grind
  have h1:bz w (λb=>c b=i/\b≠g) d ty s [q] x' y':=bz.re (π0:=[q]) (λb hb hu=>⟨⟨hb,λe=>by subst e;rw[g8]at hu;exact sP hu rfl⟩,rfl⟩) (eB _) h0;exact bz.keep (λb _ hb=>⟨hb.1,hsame b hb.2⟩) ty s _ _ _ h1
end
theorem Cj{P:Program}{w:World}{t u ty e:TypeId}{ku:IntKind}{i:TypeInfo}{z:Value}(ht:P.underlying t=some (.slice e))(hu:P.underlying u=some (.int ku))(hi:P.info? e=some i)(hz:i.zero=some z)(hzs:z.cells.size=i.size)(hsz:0<i.size)
  {h:Hd} {n m:Nat} {xs:List Value} (hown:w.ownsRow 0 e i.size h.val n xs) (h1:∀u∈(Builtin.zeroCells z.cells m).toList,u.oneCell'=true) (h63:n+m<=maxLen) (hbytes:(n+m)*i.bytes<=140737488355328) :
  ∃(h':Hd) (w':World),(Builtin.append_ #[t,u] ty #[h.val,.int .i64 m]).run P w=.ok h'.val w'/\w'.ownsRow 0 e i.size h'.val (n+m) (xs++(Builtin.zeroCells z.cells m).toList)/\w.grownBy w' h.val.ownBlock /\
   (∀g,h'.val.ownBlock=some g->h.val.ownBlock=some g\/w.heap.size<=g):=by
 have hsmall:n+m<=9223372036854775807:=by simp only[maxLen]at h63;omega
 have hwrap:IntKind.i64.wrap (m:Int)=m:=wrap_small m (by omega) (by omega);have hl:(Builtin.zeroCells z.cells m).size=m*i.size:=by rw[size_zeroCells,hzs]
 have hlen:(xs++(Builtin.zeroCells z.cells m).toList).length=(n+m)*i.size:=by rw[ZD,hown.1,ak8,hl,acG]
 have hmb:¬(281474976710656<(m:Int)*(i.bytes:Int)):=by grind
 have happ:(if m*i.size=0 then(pure #[]:Sem (Array Value))else do pure (Builtin.zeroCells z.cells m))=pure (Builtin.zeroCells z.cells m):=by grind
 have hm0:¬((m:Int)<0):=by omega
 have grown:∀(old:Nat),old<n+m->∀(row:Option Nat),
   (w.drew.alloc (.cells (xs.toArray++Builtin.zeroCells z.cells m++Builtin.zeroCells z.cells (grownCap w (n+m) old e-(n+m))) e)).ownsRow 0 e i.size
    (.slice (some ⟨w.heap.size,0,none⟩) (n+m) (grownCap w (n+m) old e)) (n+m) (xs++(Builtin.zeroCells z.cells m).toList) /\
   w.grownBy (w.drew.alloc (.cells (xs.toArray++Builtin.zeroCells z.cells m++Builtin.zeroCells z.cells (grownCap w (n+m) old e-(n+m))) e)) row:=by
  intro old ho row;have hge:=grownCap_ge w (n+m) old e;have hcm:grownCap w (n+m) old e<=maxLen:=grownCap_le_maxLen w (n+m) old e h63;refine⟨⟨hlen,.inr ⟨w.heap.size,_,_,rfl,aen _,heap_alloc_new w.drew _,hge,hcm,?_,?_⟩⟩,⟨rfl,rfl,rfl,by simp,λk hk _=>by show(w.heap.push _)[k]?=_;grind⟩⟩
  ·simp only[Array.size_append,aeu,size_zeroCells,hzs,hown.1,<-acG];grind
  grind
 obtain⟨v0,hv0⟩:∃v,v=h.val:=⟨_,rfl⟩
 rw[<-hv0]at hown|-;rcases hown.2 with⟨rfl,rfl⟩|⟨g,cap,cur,rfl,hbg,hg,hnc,hcm,hcs,htake⟩
 ·have hx:xs=[]:=abT (by grind);subst hx;by_cases hm:m=0
  ·subst hm;refine⟨⟨none,0,0⟩,w,?_,?_,⟨rfl,rfl,rfl,Z0 _,λ_ _ _=>rfl⟩,λg hg=>by grind⟩
   ·simp[Builtin.append_,run_underlying ht,run_underlying hu,sizeOf,typeInfo,hi,hz,zeroValue,asInt,asIntOf,wrap_small 0 (by omega) (by omega),Hd.val]
   grind
  ·have h48':¬(281474976710656<Builtin.nextslicecap m 0*i.bytes):=by
    rw[nextslicecap_zero (by omega)];grind
   have h63':¬(9223372036854775807<(m:Int)):=by omega
   have hgr:=grown 0 (by omega) (Value.ownBlock (.slice none 0 0));simp only[aj7,abx,Array.empty_append]at hgr|-;refine⟨⟨some ⟨w.heap.size,0,none⟩,m,grownCap w m 0 e⟩,_,?_,hgr.1,hgr.2,λg hg=>.inr ?_⟩
   ·simp[Builtin.append_,run_underlying ht,run_underlying hu,sizeOf,typeInfo,hi,hz,zeroValue,asInt,asIntOf,hwrap,hm,hm0,hmb,h48',h63',Builtin.firstCells,Question.forced,newRow,grownCap,Hd.val,happ];grind
   ·simp[Hd.val,Value.ownBlock]at hg;omega
 ·have hh:∃h0:Hd,h0=⟨some ⟨g,0,none⟩,n,cap⟩:=⟨_,rfl⟩
  by_cases hroom:n+m<=cap
  ·have hfit:n*i.size+(Builtin.zeroCells z.cells m).toList.length<=cur.size:=by rw[ak8,hl,hcs,<-acG];exact aaR _ hroom
   have hst:=run_storeCells_at P g (n*i.size) e (Builtin.zeroCells z.cells m).toList 0 cur w hg (by grind) h1;simp only[abj]at hst;refine⟨⟨some ⟨g,0,none⟩,n+m,cap⟩,w.setRow g (cur.toList.take (n*i.size)++(Builtin.zeroCells z.cells m).toList++cur.toList.drop (n*i.size+(Builtin.zeroCells z.cells m).toList.length)).toArray,?_,⟨hlen,.inr ⟨g,cap,_,rfl,hbg,setRow_heap w g cur _ e _ hg,hroom,hcm,?_,?_⟩⟩,⟨rfl,rfl,rfl,by simp,λk _ hk=>setRow_other w g k _ (λe=>hk (by simp[Value.ownBlock,e]))⟩,λg' hg'=>.inl (by simpa[Value.ownBlock]using hg')⟩
   ·by_cases hm:m=0
    ·subst hm;simp only[Nat.zero_mul,abj]at hl hst|-;have h0:Builtin.zeroCells z.cells 0 = #[]:=Array.eq_empty_of_size_eq_zero hl;rw[h0]at hst|-;simp[Builtin.append_,run_underlying ht,run_underlying hu,sizeOf,typeInfo,hi,hz,zeroValue,asInt,asIntOf,wrap_small 0 (by omega) (by omega),hnc,Addr.add_lit,storeCells];exact(setRow_self w g cur e (0,0) hg).symm
    ·have hne:¬(m*i.size=0):=Nat.mul_ne_zero hm (by omega);simp[Builtin.append_,run_underlying ht,run_underlying hu,sizeOf,typeInfo,hi,hz,zeroValue,asInt,asIntOf,hwrap,hm0,hmb,hroom,hne,Addr.add_lit,hst]
   ·grind
   grind
  ·have holds:∀j u,xs[j]?=some u->w.cell? ((⟨g,0,none⟩:Addr).add j)=some u:=hown.cells (g:=g) rfl;have hn:¬(n+m<=cap):=hroom;have hne:¬(m*i.size=0):=Nat.mul_ne_zero (by omega) (by omega);have h63':¬(9223372036854775807<((n:Int)+(m:Int))):=by omega
   have h48':¬(281474976710656<Builtin.nextslicecap (n+m) cap*i.bytes):=by have:=growslice_fits (show cap<n+m by omega) hbytes;omega
   have hfo:=run_firstCells_some (P:=P) w.drew i.size n ⟨g,0,none⟩ n cap xs hown.1 (by simp_all);have hgr:=grown cap (by omega) (Value.ownBlock (.slice (some ⟨g,0,none⟩) n cap));refine⟨⟨some ⟨w.heap.size,0,none⟩,n+m,grownCap w (n+m) cap e⟩,_,?_,hgr.1,hgr.2,λg hg=>.inr ?_⟩
   ·simp[Builtin.append_,run_underlying ht,run_underlying hu,sizeOf,typeInfo,hi,hz,zeroValue,asInt,asIntOf,hwrap,hm0,hmb,hn,hne,h48',h63',hfo,Question.forced,newRow,grownCap,Hd.val]
   ·simp[Value.ownBlock]at hg;omega
section
variable {P:Program} {ρ:cV} {L:List HA} {o:Oper}
theorem YB(z:Array Value)(m:Nat):Builtin.zeroCells z m=madeCells z (m*z.size):=rfl
theorem OT{t u e:TypeId}{ku:IntKind}{sz by_:Nat}{s x:Operand}{ty:Ty}{ci:Nat}{K:List Nat}{xs:List ty.den}{h:Hd}{l:Int}{v:ty.den}{r:ty.Refs}{z:Value}(hpure:ty.pureB=true)(j:Nat)
  (hj:L[j]?=some (.own ty e ci K xs h)) (ho:o.op=.call { callee:=.builtin .append,args:=#[s,x],argTypes:=#[t,u]}) (ht:P.underlying t=some (.slice e)) (hu:P.underlying u=some (.int ku)) (hi:TI P e sz by_ z) (hs:sz=ty.sz) (hsz:Nat.ble 1 sz=true)
  (hz:z.cells=(ty.fill v r).toArray) (hse:aJ ρ s=h.val) (hxe:aJ ρ x=.int .i64 l)
  (hroom:decide (0<=l/\(xs.length+l.toNat)*by_<=140737488355328/\xs.length+l.toNat<=maxLen)=true) (hci:Nat.ble 2 ci=true) (he:Nat.blt e 1048576=true) :
  cJ P ρ o L [ci] Hd.val (λh'=>[.own ty e ci K (xs++List.replicate l.toNat v) h']):=by
 intro a ev w c next Q ha hL hk
 have htihi:=hi;clear hi;obtain⟨inf,hi,hzz,hs1,hb1⟩:=htihi.get;obtain⟨rs,hr1,hown,hcol⟩:=hL.at hj;obtain⟨h0,hb2,h63⟩:=aaq hroom;obtain⟨m,rfl⟩:∃m:Nat,l=m:=⟨l.toNat,by omega⟩
 simp only[ZH]at hb2 h63|-;have hszc:z.cells.size=inf.size:=by rw[hz,aeu,ty.fill_length,<-hs,<-hs1]
 have hzero:(Builtin.zeroCells z.cells m).toList=cellsOf ty (List.replicate m v) (List.replicate m r):=by grind[yc,YB,List.size_toArray]
 replace hown:w.ownsRow 0 e inf.size h.val xs.length (cellsOf ty xs rs):=by rw[hs1,hs];exact hown.plain he
 have hsz':=Zh hsz;obtain⟨h',w',hrun,ho',hg,hblk⟩:=Cj (P:=P) (ty:=o.type) (m:=m) ht hu hi hzz hszc (by omega) hown (by rw[hzero];exact iz ty) (by omega) (by grind);have hex:(execOp ev o).run P w=.ok (.value h'.val) w':=by simp[execOp,ho,ha,hse,hxe,resolve,invoke,builtin,hrun,Result.andThen]
 rw[hex];have hst:=wb hci hg hcol;refine hk h' w' _ hst (aj.cons (show(HA.own ty e ci K (xs++List.replicate m v) h').holds w' _ from⟨rs++List.replicate m r,?_,?_,Br hblk hcol⟩) (aj.nil _ _))
 ·exact(hr1.mono λx y _=>bD.pure ty x y hpure).append (tn (bD.pure ty v r hpure) m)
 ·rw[dU ty hr1.length,<-hzero,ZD,adE,<-hs,<-hs1];exact w9 ho'
end
def L6(w:World)(ty:Ty)(ys:List ty.den)(s:Hd):Prop:=∃rs:List ty.Refs,ys.length=rs.length/\s.n=ys.length/\(ys.length=0\/∃b o,s.a=some ⟨b,o,none⟩/\∀j u,(cellsOf ty ys rs)[j]?=some u->w.cell? ⟨b,o+j,none⟩=some u)
theorem E1{w:World}{c:aS}{ty:Ty}{K:List Nat}{ys:List ty.den}{s:Hd}(h:HA.holds w c (.rep ty K ys s)):L6 w ty ys s:=by obtain⟨rs,hr,hn,hle,hm,hc⟩:=h;refine⟨rs,hr.length,hn,?_⟩;grind[lj]
theorem akq{w:World}{ty:Ty}{xs:List ty.den}{s u:Hd}{lo hi:Int}(hsz:ty.sz=1)(h:L6 w ty xs u)(hp:kQ s u 1 lo hi)(hb:lo<=hi/\hi<=xs.length):L6 w ty ((xs.take hi.toNat).drop lo.toNat) s:=by
 obtain⟨rs,hl,hn,hc⟩:=h;obtain⟨h0,hsn,hpt⟩:=hp;have hlen:((xs.take hi.toNat).drop lo.toNat).length=hi.toNat-lo.toNat:=by grind
 refine⟨(rs.take hi.toNat).drop lo.toNat,by simp[hl],by grind,?_⟩;by_cases hlt:lo<hi
 ·obtain⟨b,o,ha,hu⟩:=hpt hlt;right;refine⟨_,_,ha,λj v hv=>?_⟩;rcases hc with hc|⟨b',o',hua,hcell⟩
  ·omega
  grind[dR,pS,iu,Addr.mk.injEq]
 grind
theorem Kv{P:Program}{w:World}{dT sT ty e e':TypeId}(hu:P.underlying dT=some (.slice e'))(hs:(P.info? e').map (·.size)=some 1){h d s:Hd}{n:Nat}{xs ys:List Value}{lo hi:Int}(hown:w.ownsRow 0 e 1 h.val n xs)
  (hp:kQ d h 1 lo hi) (hb:lo<=hi/\hi<=n) (hsn:s.n=ys.length) (hsc:ys.length=0\/∃a,s.a=some a/\∀j u,ys[j]?=some u->w.cell? (a.add j)=some u) (h1:∀v∈ys,v.oneCell'=true) :
  ∃w',(Builtin.copy_ #[dT,sT] ty #[d.val,s.val]).run P w=.ok (.int .i64 ((min (hi-lo).toNat ys.length:Nat):Int)) w' /\
   w'.ownsRow 0 e 1 h.val n (xs.take lo.toNat++ys.take (min (hi-lo).toNat ys.length)++xs.drop (lo.toNat+min (hi-lo).toNat ys.length))/\w.grownBy w' h.val.ownBlock:=by
 obtain⟨h0,hdn,hpt⟩:=hp;obtain⟨k,hk⟩:∃k,k=min (hi-lo).toNat ys.length:=⟨_,rfl⟩
 rw[<-hk];by_cases hk0:k=0
 ·refine⟨w,?_,?_,⟨rfl,rfl,rfl,Z0 _,λ_ _ _=>rfl⟩⟩
  ·rw[hk0];exact run_copy_none w dT sT ty e' d.a s.a d.n d.cap s.n s.cap hu hs (by grind)
  ·rw[hk0];simpa using hown
 ·obtain⟨b,o,hda,hpat⟩:=hpt (by omega);rcases hsc with hsc|⟨a,hsa,hcell⟩
  ·omega
  ·have hlk:(ys.take k).length=k:=by grind
   rcases hown.2 with⟨hv,hn0⟩|⟨g,cap,cur,hv,hbg,hg,hnc,hcm,hcs,htake⟩
   ·omega
   ·simp only[Hd.val,Value.slice.injEq]at hv;obtain⟨v1,v2,v3⟩:=hv;simp only[dR,v1,aep,aj7,Addr.mk.injEq,alE]at hpat;obtain⟨rfl,rfl⟩:=hpat;have hxl:xs.length=n:=by grind
    have hr:=run_copy_row (P:=P) w dT sT ty e' g lo.toNat d.n d.cap a s.n s.cap cur e (ys.take k) hu hs hg (by grind)
     (λj v hv=>hcell j v (by grind)) (by grind) (λv hv=>h1 v (ajj hv))
    refine⟨w.setRow g (cur.toList.take lo.toNat++ys.take k++cur.toList.drop (lo.toNat+(ys.take k).length)).toArray,?_,⟨?_,.inr ⟨g,cap,_,by grind,hbg,setRow_heap w g cur _ e _ hg,hnc,hcm,?_,?_⟩⟩,⟨rfl,rfl,rfl,by simp,λk _ hk=>setRow_other w g k _ (λe=>hk (by simp[Hd.val,v1,Value.ownBlock,e]))⟩⟩
    ·simpa only[Hd.val,hda,hsa,hlk,goInt]using hr
    ·grind
    ·grind
    ·have hcl:cur.toList.length=cap:=by grind
     rw[aep]at htake;have e1:xs.take lo.toNat=cur.toList.take lo.toNat:=by grind
     have e2:xs.drop (lo.toNat+k)=(cur.toList.drop (lo.toNat+k)).take (n-(lo.toNat+k)):=by rw[<-htake,ad0]
     have l1:(cur.toList.take lo.toNat++ys.take k).length=lo.toNat+k:=by grind
     rw[e1,e2,hlk,aep,acE,l1,aaU (by omega)]
section
variable {P:Program} {ρ:cV} {L:List HA} {o:Oper}
theorem akN{t u e e':TypeId}{sz by_:Nat}{x y:Operand}{ty:Ty}{ci:Nat}{K:List Nat}{xs ys:List ty.den}{h d s:Hd}{lo hi:Int}{z:Value}(hpure:ty.pureB=true)(h1:Nat.beq ty.sz 1=true)(j:Nat)
  (hj:L[j]?=some (.own ty e ci K xs h)) (hd:∀w c,aj w c L->kQ d h 1 lo hi) (hsrc:∀w c,aj w c L->L6 w ty ys s) (ho:o.op=.call { callee:=.builtin .copy,args:=#[x,y],argTypes:=#[t,u]}) (ht:P.underlying t=some (.slice e')) (hi':TI P e' sz by_ z) (hs:Nat.beq sz 1=true)
  (hx:aJ ρ x=d.val) (hy:aJ ρ y=s.val) (hb:decide (lo<=hi/\hi<=xs.length)=true) (hci:Nat.ble 2 ci=true) (he:Nat.blt e 1048576=true) :
  cJ P ρ o L [ci] (λ_:Unit=>.int .i64 ((min (hi-lo).toNat ys.length:Nat):Int)) (λ_=>[.own ty e ci K (xs.take lo.toNat++ys.take (min (hi-lo).toNat ys.length)++xs.drop (lo.toNat+min (hi-lo).toNat ys.length)) h]):=by
 intro a ev w c next Q ha hL hk
 have htihi:=hi';clear hi';obtain⟨inf,hi',hzz,hs1,hb1⟩:=htihi.get;obtain⟨rs,hr1,hown,hcol⟩:=hL.at hj;obtain⟨rs2,hl2,hn2,hc2⟩:=hsrc w c hL;obtain⟨hb1,hb2⟩:=aaq hb;have hsz1:=f9 h1;have hs':=f9 hs;have hlc:(cellsOf ty ys rs2).length=ys.length:=by rw[cE ty hl2,hsz1,aep]
 replace hown:w.ownsRow 0 e 1 h.val xs.length (cellsOf ty xs rs):=by rw[<-hsz1];exact hown.plain he
 obtain⟨w',hrun,ho',hg⟩:=Kv (P:=P) (ty:=o.type) (sT:=u) ht (by grind) hown (hd w c hL) ⟨hb1,hb2⟩ (ys:=cellsOf ty ys rs2) (by rw[hlc];exact hn2) (by grind[id,eN]) (iz ty);rw[hlc]at hrun ho';have hex:(execOp ev o).run P w=.ok (.value (.int .i64 ((min (hi-lo).toNat ys.length:Nat):Int))) w':=by simp[execOp,ho,ha,hx,hy,resolve,invoke,builtin,hrun,Result.andThen]
 rw[hex];have hst:=wb hci hg hcol;have hlo:=(hd w c hL).1;have hlen:(xs.take lo.toNat++ys.take (min (hi-lo).toNat ys.length)++xs.drop (lo.toNat+min (hi-lo).toNat ys.length)).length=xs.length:=by grind
 refine hk () w' _ hst (aj.cons (show(HA.own ty e ci K _ h).holds w' _ from⟨rs.take lo.toNat++rs2.take (min (hi-lo).toNat ys.length)++rs.drop (lo.toNat+min (hi-lo).toNat ys.length),?_,?_,Br (λg hg=>.inl hg) hcol⟩) (aj.nil _ _))
 ·exact jj (by have:=hr1.length;grind) λj x y _ _=>bD.pure ty x y hpure
 ·have:=hr1.length;rw[hlen,dU ty (by grind),dU ty (by grind),iu ty _ hr1.length,iu ty _ hl2,pS ty _ hr1.length,hsz1];simp only[aep];exact w9 ho'
theorem Pc{t e:TypeId}{x y:Operand}{klo:IntKind}{i:Int}{ty:Ty}{ci:Nat}{K:List Nat}{xs:List ty.den}{h:Hd}{sz by_:Nat}{z:Value}(k:Nat)(hk:L[k]?=some (.own ty e ci K xs h))(ho:o.op=.slice t x (some y) none none)
  (ht:P.underlying t=some (.slice e)) (hti:TI P e sz by_ z) (hs:sz=ty.sz) (h1:Nat.beq sz 1=true) (hx:aJ ρ x=h.val) (hlo:aJ ρ y=.int klo i) (hb:decide (0<=i/\i<=(xs.length:Int)/\(xs.length:Int)<=xs.length)=true) (he:Nat.blt e 1048576=true) :
  cJ P ρ o L [] (λ_:Unit=>(h.cut i.toNat (xs.length:Int).toNat sz).val) (λ_=>[.rep ty (ci::K) ((xs.take (xs.length:Int).toNat).drop i.toNat) (h.cut i.toNat (xs.length:Int).toNat sz),.pure (kQ (h.cut i.toNat (xs.length:Int).toNat sz) h 1 i xs.length)]):=λa ev w c next Q ha hL hn=>by
 obtain⟨h0,hj,_⟩:=aaq hb;refine yK (L:=.rep ty (ci::K) xs h::L) (i:=i) (klo:=klo) (khi:=.i64) (j:=xs.length) 0 rfl ho ht hti hs hx hlo rfl hb a ev w c next Q ha (aj.cons (BT (hL.at hk)) hL) λy w' c' hst hF=>hn () w' c' hst (aj.cons (hF.at (k:=0) rfl) (aj.cons ?_ (aj.nil _ _)))
 obtain⟨ys,hr,hown,hcol⟩:(HA.own ty e ci K xs h).holds w c:=hL.at hk;have hs1:=f9 h1;refine⟨h0,by simp only[Hd.cut];omega,λhlt=>?_⟩;rcases(hown.plain he).2 with⟨hv,hn0⟩|⟨g,cap,cur,hv,_,_,hnc,_⟩
 ·omega
 grind[Hd.cut,dR,Value.slice.injEq,eN]
end
end Go.Sm
