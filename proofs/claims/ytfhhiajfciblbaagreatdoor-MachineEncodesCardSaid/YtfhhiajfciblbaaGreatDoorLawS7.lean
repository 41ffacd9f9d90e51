/- Laws for the row. No condition. -/
import Derived.Test.YtfhhiajfciblbaaGreatDoorLawG1
import Derived.KernelRfl
namespace Go.Proofs.YtfhhiajfciblbaaGreatDoor
open Go.Sm
set_option linter.unusedSimpArgs false
set_option linter.unusedVariables false
set_option linter.unusedSectionVars false
set_option maxRecDepth 4000
variable {s:aF} {i k b pc a:Nat} {c:CC} {st:List Int} {w:Int} {d:Df} {fs:List Fr} {f:Fr} {t:Th} {W:List jn} {e x:ce} {sd:List bW} {r:List Nd}
abbrev Mk:Type:=aJ
abbrev Tn:Type:=aE
def BW(m:Mk):Prop:=(∀x∈m.1.1,aY x.2.1)/\aY m.2.2
theorem C4{m:Mk}{a c:Int}{n:Nat}(h:BW m)(hn:n<=1000000):BW ((m.1.1.set i (a,((n:Int),c)),m.1.2),m.2):=
  ⟨λx hx=>by
    rcases aci hx with hx|rfl
    ·exact h.1 x hx
    ·exact⟨by show _<=(n:Int);omega,by show(n:Int)<=_;omega⟩,h.2⟩
def Gw(b:Nat)(m m':Mk):Prop:=m'.1.2=m.1.2/\m.1.1.length<=m'.1.1.length/\m'.1.1.length<=m.1.1.length+b/\m'.2.1.length<=m.2.1.length+b/\(BW m->BW m')
def qh(m:Mk)(b:Nat):Prop:=m.1.1.length+b<=1000000/\m.2.1.length+b<=1000000/\m.1.2.2.2.1.length<=1000000/\m.1.2.2.2.2.1.length<=1000000/\m.1.2.2.2.2.2.1.length<=1000000/\m.1.2.2.2.2.2.2.1.length<=1000000/\m.1.2.2.2.2.2.2.2.length<=1000000
theorem u9(m:Mk):Gw 0 m m:=⟨rfl,by omega,by omega,by omega,id⟩
theorem ku{c:Nat}{m n o:Mk}(h:Gw a m n)(h':Gw b n o)(hc:a+b=c):Gw c m o:=by obtain⟨a1,a2,a3,a4,a5⟩:=h;obtain⟨b1,b2,b3,b4,b5⟩:=h';exact⟨b1.trans a1,by omega,by omega,by omega,λh=>b5 (a5 h)⟩
theorem VD{m n:Mk}(h:Gw a m n)(hc:a<=b):Gw b m n:=⟨h.1,h.2.1,by have:=h.2.2.1;omega,by have:=h.2.2.2.1;omega,h.2.2.2.2⟩
theorem jK{c:Nat}{m n:Mk}(h:qh m c)(g:Gw a m n)(hc:a+b<=c):qh n b:=by obtain⟨h1,h2,h3⟩:=h;obtain⟨a1,a2,a3,a4,_⟩:=g;refine⟨by omega,by omega,?_⟩;grind
theorem sX{c:Nat}{m:Mk}(h:qh m c)(hc:b<=c):qh m b:=jK h (u9 m) (by omega)
theorem mY{m:Mk}(h:qh m 1)(a b c:Int)(hb:BW m->aY b:=by exactλ_=>⟨by omega,by omega⟩):∃m',aI m a b c=some m'/\Gw 1 m m'/\m'.1.1.length=m.1.1.length+1:=by
  unfold aI;rw[dz (aT (by have:=h.1;grind) (by omega))];refine⟨_,rfl,⟨rfl,by simp,by simp,by simp,λh=>⟨λx hx=>?_,h.2⟩⟩,by simp⟩;rcases aa1.1 hx with hx|hx
  ·exact h.1 x hx
  · rw[aaH.1 hx]
    exact hb h
theorem sN{m:Mk}(h:qh m 1)(s:jn):∃r m',cw m s=some (r,m')/\Gw 1 m m'/\aY r:=by
  unfold cw;have h2:=h.2.1;obtain⟨r,hr,hr1,hr2,hr3⟩:=tV m.2.1 (by omega) s;rw[hr];simp only[f7,Qz2];by_cases hz:r<0
  · rw[az hz,f9,dz (aT (by grind) (by omega))]
    simp only[f7,Qz2]
    obtain⟨q,hq,q1,q2,_⟩:=tV (m.2.1++[s]) (by grind) s
    rw[hq]
    rw[aaL,acg]at q2
    exact⟨_,_,rfl,⟨rfl,by simp,by simp,by simp,λh=>h⟩,⟨by omega,by omega⟩⟩
  · rw[bN hz,aax]
    simp only[f7,Qz2]
    rw[hr]
    exact⟨_,_,rfl,⟨rfl,by simp,by simp,by simp,λh=>h⟩,⟨by omega,by omega⟩⟩
theorem wx(l:List (jn×Int))(h:l.length<=1000000):dt l=some (l.map (·.1)):=vl l (by omega)
theorem xj{a:Nd} :ac (a::r) (0:Int)=some a:=rfl
theorem acY{a b:Nd} :ac (a::b::r) (1:Int)=some b:=rfl
theorem ass{a b c:Nd} :ac (a::b::c::r) (2:Int)=some c:=rfl
def pN:Nat->Tn->Option Nat
  |0,_=>none
  | k+1,n=>
    if n.1=32 then(if aY n.2.2.1 then some 1 else none)else if n.1=33 then some 2 else if n.1=34 then some 1 else if n.1=35 then some 1 else if n.1=36 then some 1
    else if 26<=n.1/\n.1<=31 then(match n.2.2.2 with
      |a::b::_=>(pN k a.tup).bind λx=>(pN k b.tup).bind λy=>some (x+y+1)
      |_=>none)
    else none
theorem Oa:∀(k:Nat) (m:Mk) (n:Tn) (b:Nat),pN k n=some b->qh m b->∃m',da k m n=some m'/\Gw b m m':=by
  intro k;induction k with
  |zero=>intro m n b h;cases h
  | succ k ih=>
    intro m n b h hr;obtain⟨kind,t,num,kids⟩:=n;unfold pN at h;dsimp only at h;show∃m',iN (da k) m (kind,t,num,kids)=some m'/\Gw b m m';unfold iN;dsimp only;by_cases h32:kind=32
    · rw[if_pos h32]at h
      by_cases hn:aY num
      · rw[if_pos hn]at h
        cases h
        obtain⟨m',h1,h2,_⟩:=mY hr 0 num 0 (λ_=>hn)
        grind
      · rw[if_neg hn]at h
        cases h
    rw[if_neg h32]at h;rw[bf h32,aax];by_cases h33:kind=33
    · rw[if_pos h33]at h
      cases h
      obtain⟨r,m1,h1,h2,h64⟩:=sN (sX hr (by omega)) t
      obtain⟨m',h3,h4,_⟩:=mY (jK hr h2 (by omega)) 1 r 0 (λ_=>h64)
      rw[bt h33,f9,h1]
      simp only[f7,Qz2,h3]
      exact⟨m',rfl,ku h2 h4 rfl⟩
    rw [if_neg h33]at h;rw[bf h33,aax];have hget:∃m',((dt m.1.2.2.2.1).bind λr5=>(bP r5 t).bind λr6=>(aI m 16 r6 0).bind λr7=>some r7)=some m'/\(1<=b->Gw 1 m m'):=by
      rw[wx _ hr.2.2.1];simp only[f7,Qz2];obtain⟨r,hr1,q1,q2,_⟩:=tV (m.1.2.2.2.1.map (·.1)) (by have:=hr.2.2.1;grind) t;have h64:aY r:=⟨by omega,by have:=hr.2.2.1;rw[aee]at q2;omega⟩
      rw[hr1];simp only[f7,Qz2];by_cases hb:1<=b
      · obtain⟨m',h3,h4,_⟩:=mY (sX hr hb) 16 r 0 (λ_=>h64)
        grind
      · unfold aI
        rw[dz (aT (by have:=hr.1;grind) (by omega))]
        exact⟨_,rfl,λh=>absurd h hb⟩
    obtain⟨mg,hg1,hg2⟩:=hget;by_cases h34:kind=34
    ·grind
    rw[if_neg h34]at h;rw[bf h34];simp only[aax,f7,Qz2];by_cases h35:kind=35
    ·grind
    rw[if_neg h35]at h;rw[bf h35];simp only[aax];by_cases h36:kind=36
    · rw[if_pos h36]at h
      cases h
      obtain⟨m',h1,h2,_⟩:=mY hr 3 0 0
      grind
    rw[if_neg h36]at h;rw[bf h36];simp only[aax];by_cases hk:26<=kind/\kind<=31;rotate_left
    ·grind
    rw[if_pos hk]at h;rcases kids with _|⟨x,_|⟨y,r⟩⟩
    ·cases h
    ·cases h
    dsimp only at h;cases hx:pN k x.tup with
    |none=>grind
    |some bx=>
    cases hy:pN k y.tup with
    |none=>grind
    |some bY=>
    rw[hx,hy]at h;cases h;obtain⟨m1,h1,h2⟩:=ih m x.tup bx hx (sX hr (by omega));obtain⟨m2,h3,h4⟩:=ih m1 y.tup bY hy (jK hr h2 (by omega));have g12:=ku h2 h4 rfl;simp only[xj,acY,f7,Qz2];rw[show da k m (x.tup.1,x.tup.2.1,x.tup.2.2.1,x.tup.2.2.2)=some m1 from h1];simp only[f7,Qz2];rw[show da k m1 (y.tup.1,y.tup.2.1,y.tup.2.2.1,y.tup.2.2.2)=some m2 from h3];simp only[f7,Qz2];have ei:∃v,ac ([7,8,9,4,5,6]:List Int) (ae (kind-26))=some v:=by rw[aM (by omega) (by omega)];exact⟨_,bH 0 (by omega) (by grind)⟩
    obtain⟨v,hv⟩:=ei;obtain⟨m3,h5,h6,_⟩:=mY (jK hr g12 (by omega)) v 0 0;simp only[hv,f7,Qz2,h5];exact⟨m3,rfl,ku g12 h6 rfl⟩
def sW(f:Tn->Option Nat):List Nd->Option Nat
  |[]=>some 0
  |x::r=>(f x.tup).bind λa=>(sW f r).bind λb=>some (a+b)
def uO(kb:Tn->Option Nat)(n:Tn):Option Nat:=
  if n.1=9 then(match n.2.2.2 with|a::_=>(pN 64 a.tup).bind λx=>some (x+2)|_=>none)
  else if n.1=10 then(match n.2.2.2 with|_::a::_=>(pN 64 a.tup).bind λx=>some (x+1)|_=>none)
  else if n.1=11\/n.1=12 then(match n.2.2.2 with
    |[a,b]=>(pN 64 a.tup).bind λx=>(kb b.tup).bind λy=>some (x+y+3)
    |[a,b,c]=>(pN 64 a.tup).bind λx=>(kb b.tup).bind λy=>(kb c.tup).bind λz=>some (x+y+z+3)
    |_=>none)
  else if n.1=15\/n.1=22\/n.1=24 then(match n.2.2.2 with|a::_=>(pN 64 a.tup).bind λx=>some (x+1)|_=>none)
  else if n.1=16\/n.1=23 then(match n.2.2.2 with|_::_=>some 2|_=>none)
  else if aY n.2.2.1 then some 2 else none
def BS:Nat->Tn->Option Nat
  |0,_=>none
  |k+1,n=>sW (uO (BS k)) n.2.2.2
def tf:Nat->Tn->Option Nat
  |0,_=>none
  |k+1,n=>(sW (tf k) n.2.2.2).bind λx=>some (x+1)
def mU(n:Int)(m:Mk):Cy:=(n,m.1.1,m.1.2.1,m.1.2.2.1,m.1.2.2.2.1,m.1.2.2.2.2.1,m.1.2.2.2.2.2.1,m.1.2.2.2.2.2.2.1,m.1.2.2.2.2.2.2.2,m.2)
theorem SA{f:Cy->Option (Cy⊕Mk)}(kids:List Nd)(hk:kids.length<=1048576)(cost:Tn->Option Nat)(step:Mk->Tn->Option Mk)(hs:∀m n b,cost n=some b->qh m b->∃m',step m n=some m'/\Gw b m m')
    (hstep:∀(i:Nat) (m m':Mk),i<kids.length->step m (kids.getD i (Nd.mk 0 [] 0 [])).tup=some m'->f (mU (i:Int) m)=some (.inl (mU ((i:Int)+1) m'))) (hend:∀m,f (mU (kids.length:Int) m)=some (.inr m))
    {m:Mk}  (hb:sW cost kids=some b) (hr:qh m b):∃m',Itr.it f (mU 0 m)=some m'/\Gw b m m':=by
  obtain⟨r,h1,h2⟩:=gz (f:=f) (λs=>kids.length-s.1.toNat) (λs=>∃(i:Nat) (m1:Mk) (a rb:Nat),s=mU (i:Int) m1/\i<=kids.length/\Gw a m m1/\sW cost (kids.drop i)=some rb/\a+rb=b) (λr=>Gw b m r)
    (λs hs'=>by
      obtain⟨i,m1,a,rb,rfl,hi,hg,hsum,hab⟩:=hs';rcases abL i kids.length with hlt|hge
      · right
        rw[alq hlt]at hsum
        unfold sW at hsum
        cases hc:cost kids[i].tup with
        |none=>grind
        |some x=>
        cases hd:sW cost (kids.drop (i+1))with
        |none=>grind
        |some y=>
        rw[hc,hd]at hsum;cases hsum;obtain⟨m2,h3,h4⟩:=hs m1 _ x hc (jK hr hg (by omega));have he:=hstep i m1 m2 hlt (by grind);exact⟨_,he,⟨i+1,m2,a+x,y,rfl,by omega,ku hg h4 rfl,hd,by omega⟩,by show kids.length-((i:Int)+1).toNat<kids.length-(i:Int).toNat;omega⟩
      · left
        have:i=kids.length:=by omega
        subst this
        refine⟨m1,hend m1,?_⟩
        rw[afw]at hsum
        cases hsum
        grind) (s:=mU 0 m) ⟨0,m,0,b,rfl,by omega,u9 m,hb,by omega⟩ (by grind)
  grind
theorem Dv{f:Tn->Option Nat}(hf:∀n b,f n=some b->1<=b):∀{l:List Nd} {b:Nat},sW f l=some b->l.length<=b
  |[],_,_=>by simp
  | x::r,b,h=>by
    unfold sW at h;cases hc:f x.tup with
    |none=>grind
    |some a=>
    cases hd:sW f r with
    |none=>grind
    |some y=>
    rw[hc,hd]at h;cases h;have h1:=hf _ _ hc;have h2:=Dv hf hd;grind
theorem aap{n:Tn}(h:tf k n=some b):1<=b:=by
  cases k with
  |zero=>cases h
  | succ k=>
    unfold tf at h;cases hs:sW (tf k) n.2.2.2 with
    |none=>grind
    |some x=>grind
theorem u6:∀(k:Nat) (m:Mk) (n:Tn) (b:Nat),tf k n=some b->qh m b->∃m',cN k m n=some m'/\Gw b m m':=by
  intro k;induction k with
  |zero=>intro m n b h;cases h
  | succ k ih=>
    intro m n b h hr;unfold tf at h;cases hs:sW (tf k) n.2.2.2 with
    |none=>grind
    |some x=>
    rw [hs]at h;cases h;have hlen:=Dv (λn b h=>aap h) hs;have hr1:=hr.1;show∃m',ji (cN k) m n=some m'/\Gw (x+1) m m';unfold ji;have loop:∀m1:Mk,qh m1 x->∃m',Itr.it (fB (cN k) n) (mU 0 m1)=some m'/\Gw x m1 m':=λm1 hm1=>
      SA n.2.2.2 (by omega) (tf k) (cN k) ih
        (λi m m' hi he=>by unfold fB;simp only[mU,show(i:Int)<(n.2.2.2.length:Int)by omega,af1,f9,aO (Nd.mk 0 [] 0 []) hi,f7];rw[show cN k _ _=some m' from he];simp only[f7,Qz2,bM (n:=n.2.2.2.length) (by omega) hi])
        (λm=>by unfold fB;simp only[mU,al8,afj,aax]) hs hm1
    cases hk:(bif bif bif n.1==9 then true else n.1==33 then true else n.1==19 then true else n.1==20)
    · simp only[aax,f7,Qz2]
      obtain⟨m',h1,h2⟩:=loop m (sX hr (by omega))
      exact⟨m',h1,VD h2 (by omega)⟩
    · obtain⟨r,m1,h1,h2,_⟩:=sN (sX hr (by omega)) n.2.1
      simp only[f9,h1,f7,Qz2]
      obtain⟨m',h3,h4⟩:=loop m1 (jK hr h2 (by omega))
      exact⟨m',h3,ku h2 h4 (by omega)⟩
theorem Hu{kb:Tn->Option Nat}{n:Tn}(h:uO kb n=some b):1<=b:=by
  obtain⟨kind,t,num,kids⟩:=n;unfold uO at h;dsimp only at h;repeat' split at h
  all_goals first
    |(cases h;done)
    |(cases h;omega)
    | (simp only[acu,no]at h
       grind)
theorem Y4(self:Mk->Tn->Option Mk)(m:Mk)(n:Tn):d7 self m n =
    (ac n.2.2.2 (0:Int)).bind λ_=>(ac n.2.2.2 (0:Int)).bind λv2=>(cv m v2.tup).bind λr3=>(aI r3 11 0 0).bind λr4=>
    (ac n.2.2.2 (1:Int)).bind λ_=>(ac n.2.2.2 (1:Int)).bind λv6=>(self r4 v6.tup).bind λr7=>
    (bif n.1==(12:Int)then aI r7 10 (m.1.1.length:Int) 0 else some r7).bind λm8=>
    bif decide ((n.2.2.2.length:Int)<(3:Int))then
      (ac m8.1.1 (r3.1.1.length:Int)).bind λ_=>(ac m8.1.1 (r3.1.1.length:Int)).bind λv11=>some ((m8.1.1.set (r3.1.1.length:Int).toNat (v11.1,((m8.1.1.length:Int),v11.2.2)),m8.1.2),m8.2)
    else
      (aI m8 10 0 0).bind λr12=>(ac r12.1.1 (r3.1.1.length:Int)).bind λ_=>(ac r12.1.1 (r3.1.1.length:Int)).bind λv14=>
      (ac n.2.2.2 (2:Int)).bind λ_=>(ac n.2.2.2 (2:Int)).bind λv16=>
      (self ((r12.1.1.set (r3.1.1.length:Int).toNat (v14.1,((r12.1.1.length:Int),v14.2.2)),r12.1.2),r12.2) v16.tup).bind λr17=>
      (ac r17.1.1 (m8.1.1.length:Int)).bind λ_=>(ac r17.1.1 (m8.1.1.length:Int)).bind λv19=>some ((r17.1.1.set (m8.1.1.length:Int).toNat (v19.1,((r17.1.1.length:Int),v19.2.2)),r17.1.2),r17.2):=by
  unfold d7;dsimp only[Qz2];congr 1;funext _;congr 1;funext v2;show(cv m v2.tup).bind _=_;congr 1;funext r3;congr 1;funext r4;congr 1;grind
section
variable {self:Mk->Tn->Option Mk} {kb:Tn->Option Nat} (hself:∀m n b,kb n=some b->qh m b->∃m',self m n=some m'/\Gw b m m')
include hself
theorem X2{m:Mk}{n:Tn}(hk:n.1=11\/n.1=12)(h:uO kb n=some b)(hr:qh m b):∃m',d7 self m n=some m'/\Gw b m m':=by
  obtain⟨kind,t,num,kids⟩:=n;dsimp only at hk;unfold uO at h;dsimp only at h;rw[if_neg (by omega),if_neg (by omega),if_pos hk]at h;have main:∀(x y:Nd) (rest:List Nd) (bx bY bz:Nat),kids=x::y::rest->pN 64 x.tup=some bx->kb y.tup=some bY->bx+bY+bz+3<=b->(rest=[]\/∃z,rest=[z]/\kb z.tup=some bz)->∃m',d7 self m (kind,t,num,kids)=some m'/\Gw b m m':=by
    intro x y rest bx bY bz hkids hx hy hsum hrest;subst hkids;rw[Y4];simp only[xj,acY,f7,Qz2];obtain⟨m1,h1,g1⟩:=Oa 64 m x.tup bx hx (sX hr (by omega));rw[show cv m x.tup=some m1 from h1];simp only[f7,Qz2];obtain⟨m2,h2,g2,l2⟩:=mY (jK (b:=1) hr g1 (by omega)) 11 0 0;rw[h2];simp only[f7,Qz2];have g12:=ku g1 g2 rfl;obtain⟨m3,h3,g3⟩:=hself m2 y.tup bY hy (jK hr g12 (by omega));rw[h3];simp only[f7,Qz2];have g13:=ku g12 g3 rfl;have hs8:∃m4,(bif kind==(12:Int)then aI m3 10 (m.1.1.length:Int) 0 else some m3)=some m4/\Gw 1 m3 m4:=by
      cases kind==(12:Int)
      ·exact⟨m3,rfl,VD (u9 m3) (by omega)⟩
      · obtain⟨m4,h4,g4,_⟩:=mY (jK (b:=1) hr g13 (by omega)) 10 (m.1.1.length:Int) 0 (λ_=>⟨by omega,by have:=hr.1;omega⟩)
        grind
    obtain⟨m4,h4,g4⟩:=hs8;rw[h4];simp only[f7,Qz2];have g14:=ku g13 g4 rfl;have hz:m1.1.1.length<m4.1.1.length:=by have:=g3.2.1;have:=g4.2.1;omega
    rcases hrest with rfl|⟨z,rfl,hz2⟩
    · rw[show decide (((([x,y]:List Nd).length:Nat):Int)<3)=true from rfl]
      simp only[f9,aO (0,0,0) hz,f7,Qz2]
      exact⟨_,rfl,⟨g14.1,by have:=g14.2.1;grind,by have:=g14.2.2.1;grind,by have:=g14.2.2.2;grind,λh=>C4 (g14.2.2.2.2 h) (by have:=g14.2.2.1;have:=hr.1;omega)⟩⟩
    · rw[show decide (((([x,y,z]:List Nd).length:Nat):Int)<3)=false from rfl]
      simp only[aax]
      obtain⟨m5,h5,g5,l5⟩:=mY (jK (b:=1) hr g14 (by omega)) 10 0 0
      rw[h5]
      have hz5:m1.1.1.length<m5.1.1.length:=by omega
      simp only[f7,Qz2,aO (0,0,0) hz5,ass]
      have g15:=ku g14 g5 rfl
      generalize hq:((m5.1.1.set (m1.1.1.length:Int).toNat ((m5.1.1.getD m1.1.1.length (0,0,0)).1,((m5.1.1.length:Int),(m5.1.1.getD m1.1.1.length (0,0,0)).2.2)),m5.1.2),m5.2)=m6
      have hq1:m6.1.1.length=m5.1.1.length:=by grind
      have hq2:m6.1.2=m5.1.2:=by rw[<-hq]
      have hq3:m6.2=m5.2:=by rw[<-hq]
      have g16:Gw (bx+1+bY+1+1) m m6:=⟨by rw[hq2];exact g15.1,by rw[hq1];exact g15.2.1,by rw[hq1];have:=g15.2.2.1;omega,by rw[hq3];have:=g15.2.2.2.1;omega,λh=>by rw[<-hq];exact C4 (g15.2.2.2.2 h) (by have:=g15.2.2.1;have:=hr.1;omega)⟩
      obtain⟨m7,h7,g7⟩:=hself m6 z.tup bz hz2 (jK hr g16 (by omega))
      rw[h7]
      have hz7:m4.1.1.length<m7.1.1.length:=by have:=g7.2.1;omega
      simp only[f7,Qz2,aO (0,0,0) hz7]
      have g17:=ku g16 g7 rfl
      exact⟨_,rfl,⟨g17.1,by have:=g17.2.1;grind,by have:=g17.2.2.1;grind,by have:=g17.2.2.2;grind,λh=>C4 (g17.2.2.2.2 h) (by have:=g17.2.2.1;have:=hr.1;omega)⟩⟩
  rcases kids with _|⟨x,_|⟨y,_|⟨z,_|⟨u,r⟩⟩⟩⟩
  ·cases h
  ·cases h
  · dsimp only at h
    simp only[acu,no]at h
    obtain⟨bx,hx,bY,hy,hb⟩:=h
    exact main x y [] bx bY 0 rfl hx hy (by omega) (.inl rfl)
  · dsimp only at h
    simp only[acu,no]at h
    obtain⟨bx,hx,bY,hy,bz,hz,hb⟩:=h
    exact main x y [z] bx bY bz rfl hx hy (by omega) (.inr ⟨z,rfl,hz⟩)
  ·cases h
theorem ana(m:Mk)(n:Tn)(b:Nat)(h:uO kb n=some b)(hr:qh m b):∃m',cY self m n=some m'/\Gw b m m':=by
  by_cases hk:n.1=11\/n.1=12
  · obtain⟨m',h1,h2⟩:=X2 hself hk h hr
    refine⟨m',?_,h2⟩
    unfold cY
    dsimp only
    rw[wx _ hr.2.2.2.1]
    grind
  have hb:=Hu h;obtain⟨kind,t,num,kids⟩:=n;dsimp only at hk;unfold uO at h;dsimp only at h;unfold cY;dsimp only;rw[wx _ hr.2.2.2.1];simp only[f7,Qz2];have emit2:∀(m1:Mk) (a:Nat) (x y z:Int),Gw a m m1->a+1<=b->(BW m1->aY y)->∃m',aI m1 x y z=some m'/\Gw b m m':=λm1 a x y z g hab hy=>by obtain⟨m',h3,h4,_⟩:=mY (jK (b:=1) hr g hab) x y z hy;exact⟨m',h3,VD (ku g h4 rfl) hab⟩
  have val:∀(x:Nd) (bx:Nat),pN 64 x.tup=some bx->bx<=b->∃m',cv m (x.tup.1,x.tup.2.1,x.tup.2.2.1,x.tup.2.2.2)=some m'/\Gw bx m m':=λx bx hx hle=>Oa 64 m x.tup bx hx (sX hr hle);have ix:∀l:List jn,l.length<=1000000->∃r,bP l t=some r/\aY r:=λl hl=>by obtain⟨r,hr,q1,q2,_⟩:=tV l (by omega) t;exact⟨r,hr,by omega,by omega⟩
  by_cases h9:kind=9
  · rw[if_pos h9]at h
    rcases kids with _|⟨x,r⟩
    ·cases h
    simp only[acu,no]at h
    obtain⟨bx,hx,hb'⟩:=h
    obtain⟨m1,h1,g1⟩:=val x bx hx (by omega)
    obtain⟨q,m2,h2,g2,h64⟩:=sN (jK (b:=1) hr g1 (by omega)) t
    obtain⟨m3,h3,g3⟩:=emit2 m2 (bx+1) 2 q 0 (ku g1 g2 rfl) (by omega) (λ_=>h64)
    rw[bt h9]
    simp only[f9,xj,f7,Qz2,h1,h2,h3]
    grind
  rw[if_neg h9]at h;rw[bf h9,aax];by_cases h10:kind=10
  · rw[if_pos h10]at h
    rcases kids with _|⟨p,_|⟨x,r⟩⟩
    ·cases h
    ·cases h
    simp only[acu,no]at h
    obtain⟨bx,hx,hb'⟩:=h
    obtain⟨m1,h1,g1⟩:=val x bx hx (by omega)
    have hrm:=jK (b:=1) hr g1 (by omega)
    obtain⟨q,hq,q1,q2,_⟩:=tV (m1.1.2.2.2.1.map (·.1)) (by have:=hrm.2.2.1;grind) p.tup.2.1
    obtain⟨m3,h3,g3⟩:=emit2 m1 bx 17 q 0 g1 (by omega) (λ_=>⟨by omega,by have:=hrm.2.2.1;rw[aee]at q2;omega⟩)
    rw[bt h10]
    simp only[f9,xj,acY,f7,Qz2,h1,wx _ hrm.2.2.1,hq,h3]
    grind
  rw[if_neg h10,if_neg hk]at h;rw[bf h10,aax,show(kind==11)=false by grind,show(kind==12)=false by grind];simp only[aax,f7,Qz2];have simple:∀(l:List jn) (op:Int),l.length<=1000000->∃m',((bP l t).bind λr=>(aI m op r 0).bind λr'=>some r')=some m'/\Gw b m m':=λl op hl=>by obtain⟨q,hq,q64⟩:=ix l hl;obtain⟨m3,h3,g3⟩:=emit2 m 0 op q 0 (u9 m) (by omega) (λ_=>q64);grind
  obtain⟨r1,r2,r3,r4,r5,r6,r7⟩:=hr;by_cases h13:kind=13
  · rw[bt h13,f9]
    exact simple _ 18 r7
  rw[bf h13,aax];by_cases h14:kind=14
  · rw[bt h14,f9]
    exact simple _ 12 r7
  rw[bf h14,aax];by_cases h15:kind=15
  · rw[if_pos (.inl h15)]at h
    rcases kids with _|⟨x,r⟩
    ·cases h
    simp only[acu,no]at h
    obtain⟨bx,hx,hb'⟩:=h
    obtain⟨m1,h1,g1⟩:=val x bx hx (by omega)
    obtain⟨q,hq,q64⟩:=ix (m.1.2.2.2.2.1.map (·.1)) (by simpa using r4)
    obtain⟨m3,h3,g3⟩:=emit2 m1 bx 19 q 0 g1 (by omega) (λ_=>q64)
    rw[bt h15]
    simp only[f9,xj,f7,Qz2,h1,hq,h3]
    grind
  rw[bf h15,aax];by_cases h16:kind=16
  · rw[if_neg (by omega),if_pos (.inl h16)]at h
    rcases kids with _|⟨x,r⟩
    ·cases h
    cases h
    obtain⟨q,hq,q64⟩:=ix (m.1.2.2.2.2.1.map (·.1)) (by simpa using r4)
    obtain⟨p,m2,h2,g2,p64⟩:=sN (m:=m) ⟨by omega,by omega,r3,r4,r5,r6,r7⟩ x.tup.2.1
    obtain⟨m3,h3,g3⟩:=emit2 m2 1 20 q p g2 (by omega) (λ_=>q64)
    rw[bt h16]
    simp only[f9,xj,f7,Qz2,hq,h2,h3]
    grind
  rw[bf h16,aax];by_cases h17:kind=17
  · rw[bt h17,f9]
    exact simple _ 21 r5
  rw[bf h17,aax];by_cases h18:kind=18
  · rw[bt h18,f9]
    exact simple _ 22 r5
  rw[bf h18,aax];have loc:∀(op:Int) (g:Int->Int×Int),(∀r,aY r->aY (g r).1)->2<=b->∃m',((cw m t).bind λr=>(aI r.2 op (g r.1).1 (g r.1).2).bind λr'=>some r')=some m'/\Gw b m m':=λop g hg64 h2b=>by obtain⟨p,m2,h2,g2,p64⟩:=sN (m:=m) ⟨by omega,by omega,r3,r4,r5,r6,r7⟩ t;obtain⟨m3,h3,g3⟩:=emit2 m2 1 op (g p).1 (g p).2 g2 (by omega) (λ_=>hg64 p p64);grind
  by_cases h19:kind=19
  · rw[if_neg (by omega),if_neg (by omega)]at h
    by_cases hn:aY num
    rotate_left
    · rw[if_neg hn]at h
      cases h
    rw[if_pos hn]at h
    cases h
    rw[bt h19,f9]
    exact loc 23 (λr=>(num,r)) (λ_ _=>hn) (by omega)
  rw[bf h19,aax];by_cases h20:kind=20
  · rw[if_neg (by omega),if_neg (by omega)]at h
    by_cases hn:aY num
    rotate_left
    · rw[if_neg hn]at h
      cases h
    rw[if_pos hn]at h
    cases h
    rw[bt h20,f9]
    exact loc 24 (λr=>(r,0)) (λ_ h=>h) (by omega)
  rw[bf h20,aax];by_cases h21:kind=21
  · rw[if_neg (by omega),if_neg (by omega)]at h
    by_cases hn:aY num
    rotate_left
    · rw[if_neg hn]at h
      cases h
    obtain⟨m3,h3,g3⟩:=emit2 m 0 25 num 0 (u9 m) (by omega) (λ_=>hn)
    grind
  rw[bf h21,aax];by_cases h22:kind=22
  · rw[if_pos (.inr (.inl h22))]at h
    rcases kids with _|⟨x,r⟩
    ·cases h
    simp only[acu,no]at h
    obtain⟨bx,hx,hb'⟩:=h
    obtain⟨m1,h1,g1⟩:=val x bx hx (by omega)
    obtain⟨q,hq,q64⟩:=ix m1.1.2.2.2.2.2.2.1 (by rw[g1.1];exact r6)
    obtain⟨m3,h3,g3⟩:=emit2 m1 bx 26 q 0 g1 (by omega) (λ_=>q64)
    rw[bt h22]
    simp only[f9,xj,f7,Qz2,h1,hq,h3]
    grind
  rw[bf h22,aax];by_cases h23:kind=23
  · rw[if_neg (by omega),if_pos (.inr h23)]at h
    rcases kids with _|⟨x,r⟩
    ·cases h
    cases h
    obtain⟨q,hq,q64⟩:=ix m.1.2.2.2.2.2.2.1 r6
    obtain⟨p,m2,h2,g2,p64⟩:=sN (m:=m) ⟨by omega,by omega,r3,r4,r5,r6,r7⟩ x.tup.2.1
    obtain⟨m3,h3,g3⟩:=emit2 m2 1 27 q p g2 (by omega) (λ_=>q64)
    rw[bt h23]
    simp only[f9,xj,f7,Qz2,hq,h2,h3]
    grind
  rw[bf h23,aax];by_cases h24:kind=24
  · rw[if_pos (.inr (.inr h24))]at h
    rcases kids with _|⟨x,r⟩
    ·cases h
    simp only[acu,no]at h
    obtain⟨bx,hx,hb'⟩:=h
    obtain⟨m1,h1,g1⟩:=val x bx hx (by omega)
    obtain⟨m3,h3,g3⟩:=emit2 m1 bx 14 m1.2.2 (ae ((m1.1.2.1.length:Int)-1)) g1 (by omega) (λh=>h.2)
    rw[bt h24]
    simp only[f9,xj,f7,Qz2,h1,h3]
    exact⟨_,rfl,g3.1,g3.2.1,g3.2.2.1,g3.2.2.2.1,λh=>⟨(g3.2.2.2.2 h).1,jC _⟩⟩
  rw[bf h24,aax];rw[if_neg (by omega),if_neg (by omega)]at h;by_cases hn:aY num;rotate_left
  · rw[if_neg hn]at h
    cases h
  obtain⟨m3,h3,g3⟩:=emit2 m 0 15 num 0 (u9 m) (by omega) (λ_=>hn);grind
end
theorem afh:∀(k:Nat) (m:Mk) (n:Tn) (b:Nat),BS k n=some b->qh m b->∃m',cI k m n=some m'/\Gw b m m':=by
  intro k;induction k with
  |zero=>intro m n b h;cases h
  | succ k ih=>
    intro m n b h hr;have h':sW (uO (BS k)) n.2.2.2=some b:=h;have hlen:=Dv (λn b h=>Hu h) h';have hr1:=hr.1;show∃m',iL (cI k) m n=some m'/\Gw b m m';unfold iL;exact SA n.2.2.2 (by omega) (uO (BS k)) (cY (cI k)) (λm n b h hr=>ana ih m n b h hr)
      (λi m m' hi he=>by unfold im;simp only[mU,show(i:Int)<(n.2.2.2.length:Int)by omega,af1,f9,aO (Nd.mk 0 [] 0 []) hi,f7];rw[show cY _ _ _=some m' from he];simp only[f7,Qz2,bM (n:=n.2.2.2.length) (by omega) hi])
      (λm=>by unfold im;simp only[mU,al8,afj,aax]) h' hr
structure GoodN(d:Df)(n:Tn)(u:List be):Prop where
 parse:dL d.2=some (n,0,0)
 name:n.2.1=d.1
 kids:n.2.2.2.length<=64
 len:n.2.1.length<=64
 lens:∀k∈n.2.2.2,k.tup.2.1.length<=64
 found:fN n=some u
 uses:u.length<=64
 proc:n.1=5\/n.1=6->∃k r bm bb,n.2.2.2=k::r/\tf 64 n=some bm/\BS 64 k.tup=some bb/\bm<=200/\bb<=200
 num:aY n.2.2.1/\∀k∈n.2.2.2,aY k.tup.2.2.1
def pP(d:Df):Prop:=∃n u,GoodN d n u
def Kq(d:Df):Bool:=match dL d.2 with
 |some (n,a,e)=>a==0&&e==0&&n.2.1==d.1&&Nat.ble n.2.2.2.length 64&&Nat.ble n.2.1.length 64&&n.2.2.2.all (λk=>Nat.ble k.tup.2.1.length 64) &&
  (match fN n with|some u=>Nat.ble u.length 64|none=>false) &&
  (bif n.1==5||n.1==6 then(match n.2.2.2 with|k::_=>(match tf 64 n with|some b=>Nat.ble b 200|none=>false)&&(match BS 64 k.tup with|some b=>Nat.ble b 200|none=>false) | []=>false)else true)&&(decide (aY n.2.2.1)&&n.2.2.2.all (λk=>decide (aY k.tup.2.2.1)))
 |none=>false
theorem Sf(h:Kq d=true):pP d:=by
 unfold Kq at h;split at h
 ·rename_i n a e hp;simp only[aas]at h;obtain⟨⟨⟨⟨⟨⟨⟨⟨h1,h2⟩,h3⟩,h4⟩,h5⟩,h6⟩,h7⟩,h8⟩,h9⟩:=h;have hnum:aY n.2.2.1/\∀k∈n.2.2.2,aY k.tup.2.2.1:=⟨abh h9.1,λk hk=>abh (aaB.1 h9.2 k hk)⟩
  clear h9;split at h7
  ·rename_i u hu;refine⟨n,u,?_,by simpa using h3,aaA h4,aaA h5,λk hk=>?_,hu,aaA h7,λhk=>?_,hnum⟩
   ·grind
   ·simp_all
   ·rw[show(n.1==5||n.1==6)=true by grind]at h8;simp only[f9]at h8;split at h8
    ·rename_i k r hkids;simp only[aas]at h8;obtain⟨g1,g2⟩:=h8;split at g1
     ·rename_i bm hbm;split at g2
      ·simp_all
      ·cases g2
     ·cases g1
    ·cases h8
  ·cases h7
 ·cases h
theorem ye{R:Type}{f:Int->Option (Int⊕R)}(n:Nat)(hn:n<=1048576)(hstep:∀i:Nat,i<n->(∃r,f (i:Int)=some (.inr r))\/f (i:Int)=some (.inl ((i:Int)+1)))(hend:∃r,f (n:Int)=some (.inr r)):∃r,Itr.it f (0:Int)=some r:=by
 obtain⟨r,h1,_⟩:=gz (f:=f) (λs=>n-s.toNat) (λs=>∃i:Nat,s=(i:Int)/\i<=n) (λ_=>True)
  (λs hs=>by
   obtain⟨i,rfl,hi⟩:=hs;rcases abL i n with hlt|hge
   ·rcases hstep i hlt with⟨r,h⟩|h
    ·grind
    ·exact .inr ⟨_,h,⟨i+1,rfl,by omega⟩,by grind⟩
   ·obtain⟨r,h⟩:=hend;grind) (s:=0) ⟨0,rfl,by omega⟩ (by grind)
 grind
section
variable (l:List Df) (hl:l.length<=24) (hg:∀d∈l,pP d)
include hl hg
theorem aco(h:i<l.length):∃n u,GoodN (l.getD i ([],[])) n u:=hg _ (by simp[h])
theorem yB(h0:0<l.length)(nm:jn):∃r d,bQ l nm=some r/\d∈l/\ac l (if(0:Int)>r then 0 else r)=some d:=by
 rcases vI l (by omega) nm with⟨h1,_⟩|⟨i,h1,h2,h3,_⟩
 ·exact⟨-1,l.getD 0 ([],[]),h1,by simp[h0],by rw[if_pos (by omega)];exact aO _ h0⟩
 ·exact⟨i,l.getD i ([],[]),h1,by simp[h2],by rw[if_neg (by omega)];exact aO _ h2⟩
theorem B0(h:d∈l):∃n u,GoodN d n u/\eZ d.2=some n:=by obtain⟨n,u,h⟩:=hg d h;refine⟨n,u,h,?_⟩;unfold eZ;rw[h.parse];rfl
theorem CR(hi:i<l.length):∃e,gR l (i:Int)=some e/\(e=0->∀j,j<i->(l.getD j ([],[])).1≠(l.getD i ([],[])).1):=by
 unfold gR;obtain⟨n,u,h⟩:=aco l hl hg hi;simp only[aO ([],[]) hi,f7,h.parse,h.name,acM,acd,aax];rw[show((0:Int) != 0)=false from rfl];simp only[aax];obtain⟨fr,hf,hf2⟩:=HL n (by have:=h.kids;omega);have hk:=h.kids;obtain⟨z,hz⟩:=ye (f:=fD fr) fr.length (by omega)
  (λk hk'=>by
   unfold fD;obtain⟨b,hb,_⟩:=EH (fr.take k) (by grind) (fr.getD k []);simp only[az (show(k:Int)<(fr.length:Int)by omega),f9,aO [] hk',f7,af,az (show 0<=(k:Int)/\(k:Int)<=(fr.length:Int)by omega),aaR,hb,bM (n:=fr.length) (by omega) hk'];grind)
  ⟨_,by unfold fD;rw[bN (by omega)];rfl⟩
 have hend:∃e,((gm n).bind λr9=>(Itr.it (fD r9) 0).bind λz15=>match z15 with|Sum.inl _=>some 0|Sum.inr t16=>some t16)=some e:=by rw[hf];simp only[f7,Qz2,hz];rcases z with z|z<;>exact⟨_,rfl⟩
 grind[vI]
theorem YT(hi:i<l.length):∃e,lI l (i:Int)=some e:=by
 unfold lI;obtain⟨n,u,h,ht⟩:=B0 l hl hg (show l.getD i ([],[])∈l by simp[hi]);simp only[aO ([],[]) hi,f7,ht,h.found];have hu:=h.uses;have h0:0<l.length:=by omega
 obtain⟨z1,hz1⟩:=ye (f:=g9 l u) u.length (by omega)
  (λk hk=>by
   unfold g9;obtain⟨r,d,h1,h2,h3⟩:=yB l hl hg h0 (u.getD k (0,0,[],[])).2.2.1;simp only[az (show(k:Int)<(u.length:Int)by omega),f9,aO (0,0,[],[]) hk,f7,h1,bM (n:=u.length) (by omega) hk];grind)
  ⟨_,by unfold g9;rw[bN (by omega)];rfl⟩
 obtain⟨z2,hz2⟩:=ye (f:=gS l u) u.length (by omega)
  (λk hk=>by
   unfold gS;obtain⟨r,d,h1,h2,h3⟩:=yB l hl hg h0 (u.getD k (0,0,[],[])).2.2.1;obtain⟨n',u',_,ht'⟩:=B0 l hl hg h2;simp only[az (show(k:Int)<(u.length:Int)by omega),f9,aO (0,0,[],[]) hk,f7,h1,h3,ht',bM (n:=u.length) (by omega) hk];grind)
  ⟨_,by unfold gS;rw[bN (by omega)];rfl⟩
 obtain⟨z3,hz3⟩:=ye (f:=gZ l u) u.length (by omega)
  (λk hk=>by
   unfold gZ;obtain⟨r,d,h1,h2,h3⟩:=yB l hl hg h0 (u.getD k (0,0,[],[])).2.2.1;obtain⟨n',u',g',ht'⟩:=B0 l hl hg h2;obtain⟨fr,hf,hf2⟩:=HL n' (by have:=g'.kids;omega);obtain⟨b,hb,_⟩:=EH fr (by have:=g'.kids;omega) (u.getD k (0,0,[],[])).2.2.2;simp only[az (show(k:Int)<(u.length:Int)by omega),f9,aO (0,0,[],[]) hk,f7,h1,h3,ht',bM (n:=u.length) (by omega) hk];grind)
  ⟨_,by unfold gZ;rw[bN (by omega)];rfl⟩
 rw[hz1];rcases z1 with z1|z1
 ·simp only[f7,Qz2,hz2];rcases z2 with z2|z2
  ·simp only[f7,Qz2,hz3];rcases z3 with z3|z3<;>exact⟨_,rfl⟩
  grind
 simp_all
end
def Bs(d:Df):List jn:=match dL d.2 with
 |some r=>(match fN r.1 with|some u=>u.map (·.2.2.1)|none=>[])
 |none=>[]
def BU(l:List Df):List jn:=l.flatMap Bs
def q9(W bE:List jn):Nat:=(W.filter λw=>!decide (w∈bE)).length
theorem G7{n:Tn}{u:List be}(h:GoodN d n u):Bs d=u.map (·.2.2.1):=by unfold Bs;rw[h.parse];dsimp only;rw[h.found]
theorem Px{l:List Df}(hg:∀d∈l,pP d):(BU l).length<=64*l.length:=by
 induction l with
 |nil=>simp[BU]
 |cons d r ih=>
  obtain⟨n,u,h⟩:=hg d (by simp);have h1:=ih λd hd=>hg d (by simp[hd]);have h2:(Bs d).length<=64:=by rw[G7 h];simpa using h.uses
  unfold BU at h1|-;grind
theorem Yt{p q:jn->Bool}(h:∀y,q y=true->p y=true):(W.filter q).length<=(W.filter p).length:=by
 induction W with
 |nil=>simp
 |cons y r ih=>
  grind
theorem YU{p q:jn->Bool}(h:∀y,q y=true->p y=true){x:jn}(hx:x∈W)(hp:p x=true)(hq:q x=false):(W.filter q).length+1<=(W.filter p).length:=by
 induction W with
 |nil=>cases hx
 |cons y r ih=>
  rcases aaK.1 hx with rfl|hx
  ·rw[List.filter_cons_of_neg (by simp[hq]),List.filter_cons_of_pos hp];have:=Yt (W:=r) h;grind
  grind
theorem amA{bE r:List jn}{x:jn}(hx:x∈W)(ho:x∉bE)(hr:∀y,y∈r↔y∈bE\/y=x):q9 W r+1<=q9 W bE:=by refine YU (λy hy=>?_) hx (by simp[ho]) (by simp[hr]);grind
def AH(W:List jn)(bE todo:List jn):Prop:=bE.length+q9 W bE<=W.length/\todo.length+q9 W bE<=W.length+1
theorem aqt(hW:W.length<=2000)(calls:Bool)(u:List be)(hu:u.length<=64)(hin:∀x∈u,x.2.2.1∈W){bE todo:List jn}(h:AH W bE todo):∃r,Itr.it (eR calls u) (bE,todo,0)=some r/\AH W r.1 r.2/\todo.length<=r.2.length:=by
 refine gz (f:=eR calls u) (λs=>u.length-s.2.2.toNat) (λs=>∃i:Nat,s.2.2=(i:Int)/\i<=u.length/\AH W s.1 s.2.1/\todo.length<=s.2.1.length) (λr=>AH W r.1 r.2/\todo.length<=r.2.length)
  (fun s hs=>by
   obtain⟨o,t,s2⟩:=s;obtain⟨i,h1,hi,hr,htl⟩:=hs;dsimp only at h1 hr htl;subst h1;unfold eR;rcases abL i u.length with hlt|hge
   ·right;have hx:=hin _ (show u.getD i (0,0,[],[])∈u by simp[hlt]);have hp:∃r,lO calls u (o,t,(i:Int))=some r/\AH W r.1 r.2/\t.length<=r.2.length:=by
     unfold lO;obtain⟨ho1,ho2⟩:=hr;obtain⟨b,hb,hb2⟩:=EH o (by omega) (u.getD i (0,0,[],[])).2.2.1;obtain⟨r,hr1,hr2,hr3⟩:=Z0 o (by omega) (u.getD i (0,0,[],[])).2.2.1;have add:b=false->AH W r (t++[(u.getD i (0,0,[],[])).2.2.1]):=by intro hbf;have:=amA (W:=W) hx (λhm=>by grind) hr2;exact⟨by omega,by grind⟩
     have eap:aH t.length ([(u.getD i (0,0,[],[])).2.2.1]:List jn).length 16=true:=aT (by grind) (by omega);cases calls
     ·simp only[abR,acd,aax,f9,f7,Qz2,aO (0,0,[],[]) hlt,hb];cases b
      ·simp only[abR,f9,hr1,f7,Qz2,eap,af];grind
      ·exact⟨_,rfl,⟨ho1,ho2⟩,by simp⟩
     ·simp only[abR,acd,aax,f9,f7,Qz2,aO (0,0,[],[]) hlt];cases (u.getD i (0,0,[],[])).1==14
      ·exact⟨_,rfl,⟨ho1,ho2⟩,by simp⟩
      ·simp only[f9,f7,Qz2,hb];cases b
       ·simp only[abR,f9,hr1,f7,Qz2,eap,af];grind
       ·exact⟨_,rfl,⟨ho1,ho2⟩,by simp⟩
    obtain⟨r,hp1,hp2,hp3⟩:=hp;simp only[az (show(i:Int)<(u.length:Int)by omega),f9,hp1,f7,Qz2,bM (n:=u.length) (by omega) hlt];exact⟨_,rfl,⟨i+1,rfl,by omega,hp2,by grind⟩,by grind⟩
   ·left;simp only[bN (show¬(i:Int)<(u.length:Int)by omega),aax];grind) ⟨0,rfl,by omega,h,by simp⟩ (by grind)
theorem Eb(l:List Df)(hl:l.length<=24)(hg:∀d∈l,pP d)(nm:jn)(calls:Bool):∃r,il l nm calls=some r/\r.length<=1536:=by
 unfold il;have hW:=Px hg;generalize hWe:BU l=W at hW;have hin:∀d∈l,∀x∈Bs d,x∈W:=λd hd x hx=>by rw[<-hWe];exact List.mem_flatMap.2 ⟨d,hd,hx⟩
 obtain⟨r,h1,h2⟩:=gz (f:=kq l calls) (λs=>W.length+2-s.2.2.toNat) (λs=>∃i:Nat,s.2.2=(i:Int)/\i<=s.2.1.length/\AH W s.1 s.2.1) (λr=>r.length<=W.length)
  (λs hs=>by
   obtain⟨o,t,s2⟩:=s;obtain⟨i,h1,hi,hr⟩:=hs;dsimp only at h1 hi hr;subst h1;have hr0:=hr;obtain⟨ho1,ho2⟩:=hr0;unfold kq;rcases abL i t.length with hlt|hge
   ·right;have hp:∃r,((ac t (i:Int)).bind λ_=>(ac t (i:Int)).bind λv5=>(bQ l v5).bind λr6=>bif decide (r6<(0:Int))then some (o,t)else(ac l r6).bind λ_=>(ac l r6).bind λv8=>(eZ v8.2).bind λr9=>(fN r9).bind λr10=>Itr.it (eR calls r10) (o,t,0))=some r/\AH W r.1 r.2/\t.length<=r.2.length:=by
     simp only[aO [] hlt,f7];rcases vI l (by omega) (t.getD i [])with⟨q1,_⟩|⟨j,q1,q2,q3,_⟩
     ·simp_all
     ·obtain⟨n,u,g,ht⟩:=B0 l hl hg (show l.getD j ([],[])∈l by simp[q2]);rw[q1];simp only[f7,Qz2,bN (show¬(j:Int)<0 by omega),aax,aO ([],[]) q2,ht,g.found];obtain⟨r,e1,e2,e4⟩:=aqt (by omega) calls u g.uses (λx hx=>hin _ (show l.getD j ([],[])∈l by simp[q2]) _ (by rw[G7 g];grind)) hr;grind
    obtain⟨r,hp1,hp2,hp3⟩:=hp;have:=hp2.2;refine⟨(r.1,r.2,(i:Int)+1),?_,⟨i+1,rfl,by grind,hp2⟩,by grind⟩;rw[az (show(i:Int)<(t.length:Int)by omega),f9];refine(aba (λz:Option Y0=>z.bind _) hp1).trans ?_;simp only[f7,Qz2,bM (n:=t.length) (by omega) hlt]
   grind) (s:=([],[nm],0)) ⟨0,rfl,by simp,by have:q9 W []<=W.length:=List.length_filter_le _ _;exact⟨by grind,by grind⟩⟩ (by grind)
 grind
def I6(l:List Df):Prop:=∀i j,i<l.length->j<i->(l.getD j ([],[])).1≠(l.getD i ([],[])).1
section
variable (l:List Df) (hl:l.length<=24) (hg:∀d∈l,pP d)
include hl hg
theorem acv:∃k e,l8 l=some (k,e)/\(e=0->I6 l):=by
 unfold l8;rw[bN (by omega),aax];rcases gG (f:=ir l) l.length (by omega) (λi=>gR l (i:Int)=some 0) (λi=>((i:Int),(gR l (i:Int)).getD 1))
  (λi hi _=>by
   unfold ir;obtain⟨e,he,_⟩:=CR l hl hg hi;simp only[az (show(i:Int)<(l.length:Int)by omega),f9,he,f7,Qz2,bM (n:=l.length) (by omega) hi,no,afy];grind)
  (λ_=>by unfold ir;grind)with⟨hP,he⟩|⟨i,hi,_,hP,he⟩
 rotate_left
 ·rw[he];obtain⟨e,he,_⟩:=CR l hl hg hi;grind
 rw[he];have huniq:I6 l:=by intro i j hi hj;obtain⟨e,he,h⟩:=CR l hl hg hi;grind
 simp only[f7,Qz2];obtain⟨z2,hz2⟩:=ye (f:=iu l) l.length (by omega)
  (λi hi=>by
   unfold iu;obtain⟨e,he⟩:=YT l hl hg hi;simp only[az (show(i:Int)<(l.length:Int)by omega),f9,he,f7,Qz2,bM (n:=l.length) (by omega) hi];grind)
  ⟨_,by unfold iu;rw[bN (by omega)];rfl⟩
 obtain⟨z3,hz3⟩:=ye (f:=iF l) l.length (by omega)
  (λi hi=>by
   unfold iF;obtain⟨r,hr,hr2⟩:=Eb l hl hg (l.getD i ([],[])).1 true;obtain⟨b,hb,_⟩:=EH r (by omega) (l.getD i ([],[])).1;simp only[az (show(i:Int)<(l.length:Int)by omega),f9,aO ([],[]) hi,hr,hb,f7,bM (n:=l.length) (by omega) hi];grind)
  ⟨_,by unfold iF;rw[bN (by omega)];rfl⟩
 rw[hz2];rcases z2 with z2|z2
 ·simp only[f7,Qz2,hz3];rcases z3 with z3|z3
  ·grind
  grind
 grind
theorem aaq(nm:jn):∃s e,mi l nm=some (s,e)/\(e=0->I6 l/\(∀d∈s,d∈l)/\s.length<=1537/\∃d∈s,d.1=nm):=by
 unfold mi;obtain⟨k,e,hc,hc2⟩:=acv l hl hg;rw[hc];simp only[f7,Qz2];by_cases he:e=0;rotate_left
 ·rw[nt he];grind
 rw[nf he,aax];rcases vI l (by omega) nm with⟨q1,_⟩|⟨j,q1,q2,q3,_⟩
 ·rw[q1];exact⟨[],6,rfl,λh=>(by cases h)⟩
 rw[q1];simp only[f7,Qz2,bN (show¬(j:Int)<0 by omega),aax];obtain⟨r,hr,hr2⟩:=Eb l hl hg nm false;obtain⟨r4,p1,p2,p3⟩:=Z0 r (by omega) nm;rw[hr];simp only[f7,Qz2,p1];have h0:0<l.length:=by omega
 obtain⟨z,hz1,hz2⟩:=gz (f:=lq l r4) (λs=>r4.length-s.2.toNat) (λs=>∃i:Nat,s.2=(i:Int)/\i<=r4.length/\s.1.length=i/\(∀d∈s.1,d∈l)/\∀k,k<i->r4.getD k []=nm->l.getD j ([],[])∈s.1) (λs=>(∀d∈s,d∈l)/\s.length<=r4.length/\l.getD j ([],[])∈s)
  (λs hs=>by
   obtain⟨o,s2⟩:=s;obtain⟨i,h1,hi,ho,hin,hk⟩:=hs;dsimp only at h1 ho hin hk;subst h1;unfold lq;rcases abL i r4.length with hlt|hge
   ·right;obtain⟨ri,d,a1,a2,a3⟩:=yB l hl hg h0 (r4.getD i []);simp only[az (show(i:Int)<(r4.length:Int)by omega),f9,aO [] hlt,f7,a1,a3,bM (n:=r4.length) (by omega) hlt];rw[dz (aT (by grind) (by omega))];refine⟨_,rfl,⟨i+1,rfl,by omega,by simp[ho],λd' hd' => ?_,λk hk' hnm=>?_⟩,by grind⟩
    ·grind
    ·rcases abL k i with hlt2|hge2
     ·grind
     ·have:k=i:=by omega
      subst this;rw[hnm,q1]at a1;cases a1;rw[if_neg (by omega),aO ([],[]) q2]at a3;grind
   ·left;have:i=r4.length:=by omega
    subst this;simp only[bN (show¬(r4.length:Int)<(r4.length:Int)by omega),aax];obtain⟨k,hk1,hk2⟩:=adT.1 ((p2 nm).2 (.inr rfl));grind) (s:=([],0)) ⟨0,rfl,by omega,rfl,λd hd=>(by cases hd),λk hk=>absurd hk (by omega)⟩ (by grind)
 grind
theorem amO(hu:I6 l){d':Df}(h:d∈l)(h':d'∈l)(hn:d.1=d'.1):d=d':=by
 obtain⟨i,hi,rfl⟩:=adT.1 h;obtain⟨j,hj,rfl⟩:=adT.1 h';rcases ala i j with hl|hl|hl
 ·have:=hu j i hj hl;grind
 ·subst hl;rfl
 ·have:=hu i j hi hl;grind
end
section
variable (s:List Df) (hl:s.length<=1537) (hg:∀d∈s,pP d)
include hl hg
theorem Z5(nm:jn):∃c,lM s nm=some c/\c.1=[]/\c.2.1=[]/\c.2.2.1=[]/\c.2.2.2.1.length<=98368/\c.2.2.2.2.1.length<=1537/\c.2.2.2.2.2.1.length<=1537/\c.2.2.2.2.2.2.1.length<=1537/\c.2.2.2.2.2.2.2.length<=1538/\(∀v∈c.2.2.2.1,aY v.2) /\
  ∀x∈c.2.2.2.2.2.2.2,x=nm\/∃d∈s,d.1=x/\∃n u,GoodN d n u/\n.1=5:=by
 unfold lM
 obtain ⟨c,h1,h2⟩:=gz (f:=kT s) (λy=>s.length-y.1.toNat)
  (λy=>∃i:Nat,y.1=(i:Int)/\i<=s.length/\y.2.1=[]/\y.2.2.1=[]/\y.2.2.2.1=[]/\y.2.2.2.2.1.length<=64*i/\y.2.2.2.2.2.1.length<=i/\y.2.2.2.2.2.2.1.length<=i/\y.2.2.2.2.2.2.2.1.length<=i/\y.2.2.2.2.2.2.2.2.length<=i/\(∀v∈y.2.2.2.2.1,aY v.2)/\∀x∈y.2.2.2.2.2.2.2.2,∃d∈s,d.1=x/\∃n u,GoodN d n u/\n.1=5)
  (λc=>c.1=[]/\c.2.1=[]/\c.2.2.1=[]/\c.2.2.2.1.length<=64*s.length/\c.2.2.2.2.1.length<=s.length/\c.2.2.2.2.2.1.length<=s.length/\c.2.2.2.2.2.2.1.length<=s.length/\c.2.2.2.2.2.2.2.length<=s.length/\(∀v∈c.2.2.2.1,aY v.2)/\∀x∈c.2.2.2.2.2.2.2,∃d∈s,d.1=x/\∃n u,GoodN d n u/\n.1=5)
  (fun y hy=>by
   obtain⟨y0,c1,c2,c3,c4,c5,c6,c7,c8⟩:=y;obtain⟨i,h1,hi,e1,e2,e3,b4,b5,b6,b7,b8,hv4,hx⟩:=hy;dsimp only at h1 e1 e2 e3 b4 b5 b6 b7 b8 hv4 hx;subst h1 e1 e2 e3;unfold kT;rcases abL i s.length with hlt|hge
   ·right;have hmem:s.getD i ([],[])∈s:=by simp[hlt]
    obtain⟨n,u,g⟩:=hg _ hmem;have hk:=g.kids
    have hp:∃c:aC,mB s ((i:Int),[],[],[],c4,c5,c6,c7,c8)=some c/\c.1=[]/\c.2.1=[]/\c.2.2.1=[]/\c.2.2.2.1.length<=64*(i+1)/\c.2.2.2.2.1.length<=i+1/\c.2.2.2.2.2.1.length<=i+1/\c.2.2.2.2.2.2.1.length<=i+1/\c.2.2.2.2.2.2.2.length<=i+1/\(∀v∈c.2.2.2.1,aY v.2)/\∀x∈c.2.2.2.2.2.2.2,∃d∈s,d.1=x/\∃n u,GoodN d n u/\n.1=5:=by
     unfold mB;simp only[aO ([],[]) hlt,f7,g.parse];by_cases h0:n.1=0
     ·obtain⟨r,q1,q2,q3⟩:=Rs c4 (by omega) (n.2.1,n.2.2.1);rw[bt h0,f9,q1];refine⟨_,rfl,rfl,rfl,rfl,by grind,by grind,by grind,by grind,by grind,λv hv=>?_,hx⟩;rcases q3 v hv with h|rfl
      ·exact hv4 v h
      ·exact g.num.1
     rw[bf h0,aax];by_cases h1:n.1=1
     ·rw [bt h1,f9];obtain⟨c,w1,w2⟩:=gz (f:=kV (n,0,0)) (λy=>n.2.2.2.length-y.1.toNat)
       (λy=>∃(k:Nat) (v:List (jn×Int)),y=((k:Int),[],[],[],v,c5,c6,c7,c8)/\k<=n.2.2.2.length/\v.length=c4.length+k/\∀z∈v,aY z.2)
       (λc=>∃v:List (jn×Int),c=([],[],[],v,c5,c6,c7,c8)/\v.length=c4.length+n.2.2.2.length/\∀z∈v,aY z.2)
       (λy hy=>by
        obtain⟨k,v,rfl,hk1,hv,hz⟩:=hy;unfold kV;rcases abL k n.2.2.2.length with hlt2|hge2
        ·right;have hkl:=g.lens _ (show n.2.2.2.getD k (Nd.mk 0 [] 0 [])∈n.2.2.2 by simp[hlt2]);have hnl:=g.len;obtain⟨r,q1,q2,q3⟩:=Rs v (by omega) ((n.2.1++ni)++(n.2.2.2.getD k (Nd.mk 0 [] 0 [])).tup.2.1,(n.2.2.2.getD k (Nd.mk 0 [] 0 [])).tup.2.2.1);have hS:ni.length=1:=rfl;simp only[az (show(k:Int)<(n.2.2.2.length:Int)by omega),f9,aO (Nd.mk 0 [] 0 []) hlt2,f7,af,az (show n.2.1.length+ni.length<=9223372036854775807 by omega),az (show(n.2.1++ni).length+(n.2.2.2.getD k (Nd.mk 0 [] 0 [])).tup.2.1.length<=9223372036854775807 by grind),q1,bM (n:=n.2.2.2.length) (by omega) hlt2];refine⟨_,rfl,⟨k+1,r,rfl,by omega,by omega,λz hzr=>?_⟩,by grind⟩;rcases q3 z hzr with h|rfl
         ·exact hz z h
         ·exact g.num.2 _ (by simp[hlt2])
        grind) (s:=(0,[],[],[],c4,c5,c6,c7,c8)) ⟨0,c4,rfl,by omega,by omega,hv4⟩ (by grind)
      grind
     rw[bf h1,aax];by_cases h2:n.1=2
     ·rw[bt h2,f9,dz (aT (by grind) (by omega))];grind
     rw[bf h2,aax];by_cases h3:n.1=3
     ·rw[bt h3,f9,dz (aT (by grind) (by omega))];grind
     rw[bf h3,aax];by_cases h4:n.1=4
     ·rw[bt h4,f9,dz (aT (by grind) (by omega))];grind
     rw[bf h4,aax];by_cases h5:n.1=5
     ·rw[bt h5,f9,dz (aT (by grind) (by omega))];refine⟨_,rfl,rfl,rfl,rfl,by grind,by grind,by grind,by grind,by grind,hv4,λx hxm=>?_⟩;rcases aa1.1 hxm with hxm|hxm
      ·exact hx x hxm
      ·rw[aaH.1 hxm];exact⟨_,hmem,g.name.symm,n,u,g,h5⟩
     rw[bf h5,aax];grind
    obtain⟨c,hp1,hp2,hp3,hp4,hp5,hp6,hp7,hp8,hp9,hp10,hp11⟩:=hp;simp only[az (show(i:Int)<(s.length:Int)by omega),f9,hp1,f7,Qz2,bM (n:=s.length) (by omega) hlt];exact⟨_,rfl,⟨i+1,rfl,by omega,hp2,hp3,hp4,hp5,hp6,hp7,hp8,hp9,hp10,hp11⟩,by grind⟩
   ·left;simp only[bN (show¬(i:Int)<(s.length:Int)by omega),aax];grind)
  (s:=(0,[],[],[],[],[],[],[],[])) ⟨0,rfl,by omega,rfl,rfl,rfl,by simp,by simp,by simp,by simp,by simp,λv hv=>(by cases hv),λx hx=>(by cases hx)⟩ (by grind)
 obtain⟨p1,p2,p3,p4,p5,p6,p7,p8,p9,p10⟩:=h2;rw[h1];simp only[f7,Qz2];rw[dz (aT (by grind) (by omega))];grind
end
def B4(c:aC):Prop:=c.2.1.length<=100000/\c.2.2.1.length<=100000/\c.2.2.2.1.length<=100000/\c.2.2.2.2.1.length<=100000/\c.2.2.2.2.2.1.length<=100000/\c.2.2.2.2.2.2.1.length<=100000/\c.2.2.2.2.2.2.2.length<=100000
theorem UF{c:aC}(h:B4 c):kA c:=by obtain⟨h1,h2,h3,h4,h5,h6,h7⟩:=h;exact⟨by omega,by omega,by omega,by omega,by omega,by omega,by omega⟩
theorem A7:B4 ([],[],[],[],[],[],[],[]):=⟨by simp,by simp,by simp,by simp,by simp,by simp,by simp⟩
theorem alj{s:List Df}{n:Tn}{u:List be}(hs:s.length<=1537)(g:GoodN d n u)(hk:n.1=5\/n.1=6){m:Mk}{j:Nat}(hi:i<m.1.2.2.2.2.2.2.2.length)(hj:bQ s (m.1.2.2.2.2.2.2.2.getD i [])=some (j:Int))(hjl:j<s.length)(hd:s.getD j ([],[])=d)
  (h1:m.1.1.length<=401*i) (h2:m.1.2.1.length<=i) (h3:m.1.2.2.1.length<=i) (h4:m.1.2.2.2.1.length<=98368) (h5:m.1.2.2.2.2.1.length<=1537) (h6:m.1.2.2.2.2.2.1.length<=1537) (h7:m.1.2.2.2.2.2.2.1.length<=1537) (h8:m.1.2.2.2.2.2.2.2.length<=1538) :
  ∃m':Mk,lQ (mU (i:Int) m) (s,0)=some (mU 0 m').2/\m'.1.1.length<=401*(i+1)/\m'.1.2.1.length<=i+1/\m'.1.2.2.1.length<=i+1/\m'.1.2.2.2=m.1.2.2.2/\((∀x∈m.1.1,aY x.2.1)->∀x∈m'.1.1,aY x.2.1):=by
 obtain⟨k,r,bm,bb,e1,e2,e3,e4,e5⟩:=g.proc hk;unfold lQ;simp only[mU,aO [] hi,f7,hj,aO ([],[]) hjl,hd,g.parse];rw[dz (aT (by grind) (by omega))];obtain⟨m1,a1,a2⟩:=u6 64 ((m.1.1,m.1.2.1++([(m.1.1.length:Int)]:List Int),m.1.2.2.1,m.1.2.2.2.1,m.1.2.2.2.2.1,m.1.2.2.2.2.2.1,m.1.2.2.2.2.2.2.1,m.1.2.2.2.2.2.2.2),([]:List jn),0) n bm e2
  ⟨by grind,by grind,by grind,by grind,by grind,by grind,by grind⟩
 rw[show lS _ _=some m1 from a1];obtain⟨c1,c2,c3,c4,c5⟩:=a2;dsimp only[List.length_nil]at c1 c2 c3 c4;obtain⟨m2,d1,d2⟩:=afh 64 m1 k.tup bb e3 ⟨by omega,by omega,by grind,by grind,by grind,by grind,by grind⟩;simp only[f7,Qz2,e1,xj];rw[show ln m1 (k.tup.1,k.tup.2.1,k.tup.2.2.1,k.tup.2.2.2)=some m2 from d1];simp only[f7,Qz2];obtain⟨f1,f2,f3,f4,f5⟩:=d2;have g2:m2.1.2=(m.1.2.1++([(m.1.1.length:Int)]:List Int),m.1.2.2):=f1.trans c1;have he:∃m3:Mk,(bif decide ((ae ((i:Int)+(1:Int)))<(m2.1.2.2.2.2.2.2.2.length:Int))then(aI m2 13 0 0).bind λr21=>some (mU 0 r21).2 else(aI m2 28 0 0).bind λr22=>some (mU 0 r22).2)=some (mU 0 m3).2/\Gw 1 m2 m3:=by
  have room:qh m2 1:=⟨by omega,by omega,by grind,by grind,by grind,by grind,by grind⟩
  cases decide ((ae ((i:Int)+(1:Int)))<(m2.1.2.2.2.2.2.2.2.length:Int))
  ·obtain⟨m3,q1,q2,_⟩:=mY room 28 0 0;grind
  ·obtain⟨m3,q1,q2,_⟩:=mY room 13 0 0;grind
 obtain⟨m3,q1,q2⟩:=he;obtain⟨p1,p2,p3,p4,p5⟩:=q2;have g3:=p1.trans g2;have l2:m3.1.2.1.length=m.1.2.1.length+1:=by rw[g3];simp
 have l3:m3.1.2.2.1=m.1.2.2.1:=by rw[g3]
 have l4:m3.1.2.2.2=m.1.2.2.2:=by rw[g3]
 refine⟨((m3.1.1,m3.1.2.1,m3.1.2.2.1++([(m3.2.1.length:Int)]:List Int),m3.1.2.2.2),m3.2),?_,by grind,by grind,by grind,l4,λh=>(p5 (f5 (c5 ⟨h,by show aY 0;exact⟨by omega,by omega⟩⟩))).1⟩;refine(aba (λz:Option Bj=>z.bind _) q1).trans ?_;simp only[f7,Qz2,mU];rw[dz (aT (by grind) (by omega))]
structure NumC(c:aC):Prop where
 i:∀x∈c.1,aY x.2.1
 v:∀v∈c.2.2.2.1,aY v.2
 n:∀l∈c.2.2.2.2.2.2.2,l.length<=1048576
theorem Fy:NumC ([],[],[],[],[],[],[],[]):=⟨λx hx=>(by cases hx),λx hx=>(by cases hx),λx hx=>(by cases hx)⟩
theorem Wb(l:List Df)(hl:l.length<=24)(hg:∀d∈l,pP d)(nm:jn)(hnm:nm.length<=1048576):∃c e,iC l nm=some (c,e)/\B4 c/\c.1.length<=512/\NumC c:=by
 unfold iC;obtain⟨s,e,hs,hs2⟩:=aaq l hl hg nm;rw[hs];simp only[f7,Qz2];by_cases he:e=0;rotate_left
 ·rw[nt he];exact⟨_,_,rfl,A7,by simp,Fy⟩
 obtain⟨hu,hsl,hsn,d0,hd0,hd0n⟩:=hs2 he;subst he;simp only[adj,aax];have hgs:∀d∈s,pP d:=λd hd=>hg d (hsl d hd);have bc:∀d∈s,∃j:Nat,bQ s d.1=some (j:Int)/\j<s.length/\s.getD j ([],[])=d:=by
  intro d hd;rcases vI s (by omega) d.1 with⟨q1,q2⟩|⟨j,q1,q2,q3,_⟩
  ·obtain⟨k,hk,rfl⟩:=adT.1 hd;grind
  ·exact⟨j,q1,q2,amO l hl hg hu (hsl _ (by simp[q2])) (hsl d hd) q3⟩
 obtain⟨j0,i1,i2,i3⟩:=bc d0 hd0;rw[hd0n]at i1;obtain⟨n0,u0,g0⟩:=hgs d0 hd0;rw[i1];simp only[f7,Qz2,aO ([],[]) i2,i3,g0.parse];by_cases h6:n0.1=6;rotate_left
 ·rw[nt h6];exact⟨_,_,rfl,A7,by simp,Fy⟩
 rw [nf h6,aax];obtain⟨c,t1,t2,t3,t4,t5,t6,t7,t8,t9,t10v,t10⟩:=Z5 s hsn hgs nm;rw[t1];simp only[f7,Qz2];obtain⟨z,z1,z2⟩:=gz (f:=kp (s,0)) (λy=>c.2.2.2.2.2.2.2.length-y.1.toNat)
  (λy=>∃(i:Nat) (m:Mk),y=mU (i:Int) m/\i<=c.2.2.2.2.2.2.2.length/\m.1.1.length<=401*i/\m.1.2.1.length<=i/\m.1.2.2.1.length<=i/\m.1.2.2.2=c.2.2.2/\∀x∈m.1.1,aY x.2.1)
  (λr=>∃m:Mk,r=(mU 0 m).2/\m.1.2.1.length<=1538/\m.1.2.2.1.length<=1538/\m.1.2.2.2=c.2.2.2/\∀x∈m.1.1,aY x.2.1)
  (λy hy=>by
   obtain⟨i,m,rfl,hi,b1,b2,b3,b4,b5⟩:=hy;have bn:m.1.2.2.2.2.2.2.2=c.2.2.2.2.2.2.2:=by rw[b4]
   unfold kp;rcases abL i c.2.2.2.2.2.2.2.length with hlt|hge
   ·right;have hx:=t10 (c.2.2.2.2.2.2.2.getD i []) (by simp[hlt]);have hfind:∃(d:Df) (n:Tn) (u:List be) (j:Nat),GoodN d n u/\(n.1=5\/n.1=6)/\bQ s (c.2.2.2.2.2.2.2.getD i [])=some (j:Int)/\j<s.length/\s.getD j ([],[])=d:=by
     rcases hx with hx|⟨d,hd,hdn,n,u,g,h5⟩
     ·grind
     ·obtain⟨j,q1,q2,q3⟩:=bc d hd;grind
    obtain⟨d,n,u,j,g,hk,q1,q2,q3⟩:=hfind;obtain⟨m',v1,v2,v3,v4,v5,v6⟩:=alj hsn g hk (i:=i) (m:=m) (by grind) (by grind) q2 q3 b1 b2 b3 (by grind) (by grind) (by grind) (by grind) (by grind);refine⟨mU ((i+1:Nat):Int) m',?_,⟨i+1,m',rfl,by omega,v2,v3,v4,v5.trans b4,v6 b5⟩,by show _-((i+1:Nat):Int).toNat<_-(i:Int).toNat;omega⟩;rw[v1];simp only[mU,bn,show(i:Int)<(c.2.2.2.2.2.2.2.length:Int)by omega,af1,f9,f7,Qz2,bM (n:=c.2.2.2.2.2.2.2.length) (by omega) hlt];rfl
   ·left;have:i=c.2.2.2.2.2.2.2.length:=by omega
    subst this;refine⟨(mU 0 m).2,?_,m,rfl,by omega,by omega,b4,b5⟩;simp only[mU,bn,al8,afj,aax]) (s:=mU 0 (c,[],0)) ⟨0,(c,[],0),rfl,by omega,by rw[t2];simp,by rw[t3];simp,by rw[t4];simp,rfl,λx hx=>(by rw[t2]at hx;cases hx)⟩ (by grind)
 obtain⟨m,rfl,b2,b3,b4,b5⟩:=z2;have hnum:NumC m.1:=by
  refine⟨b5,λv hv=>?_,λx hx=>?_⟩
  ·rw[b4]at hv;exact t10v v hv
  ·rw[b4]at hx;rcases t10 x hx with rfl|⟨d,_,rfl,n,u,g,_⟩
   ·exact hnm
   ·have:=g.len;rw[g.name]at this;omega
 by_cases h512:(512:Int)<(m.1.1.length:Int)
 ·refine⟨([],[],[],[],[],[],[],[]),4,(aba (λz:Option Bj=>z.bind _) z1).trans ?_,A7,by simp,Fy⟩;simp only[f7,Qz2,mU,h512,af1,f9]
 ·refine⟨m.1,0,(aba (λz:Option Bj=>z.bind _) z1).trans ?_,⟨by omega,by omega,by rw[b4];omega,by rw[b4];omega,by rw[b4];omega,by rw[b4];omega,by rw[b4];omega⟩,by omega,hnum⟩;simp only[f7,Qz2,mU,h512,afj,aax]
set_option maxRecDepth 100000
def gr(kind i v:Int):Bool:=match cF kind i v with
 |some p=>p.all Kq&&Nat.ble p.length 6
 |none=>false
def kC(kind:Int)(n:Nat):Bool:=[0,1,2].all λi=>(List.range n).all λv=>gr kind i (v:Int)
theorem arQ:kC 0 8=true:=by kernel_rfl
theorem arv:kC 1 8=true:=by kernel_rfl
theorem arI:kC 2 8=true:=by kernel_rfl
theorem arJ:kC 3 8=true:=by kernel_rfl
theorem ard:kC 4 8=true:=by kernel_rfl
theorem ary:kC 5 8=true:=by kernel_rfl
theorem arw:kC 6 3=true:=by kernel_rfl
theorem aqW:kC 7 3=true:=by kernel_rfl
theorem arn:kC 8 2=true:=by kernel_rfl
theorem arf:kC 9 2=true:=by kernel_rfl
theorem ans:kC 10 3=true:=by kernel_rfl
theorem aoI:kC 11 3=true:=by kernel_rfl
theorem apF:kC 12 3=true:=by kernel_rfl
theorem aqe:kC 13 18=true:=by kernel_rfl
theorem P8:Kq (qB,lF)=true:=by kernel_rfl
set_option maxRecDepth 4000
theorem RN(v n:Nat):Int.tmod (v:Int) (n:Int)=((v%n:Nat):Int):=by grind
theorem Z9(v n:Nat):Int.tdiv (v:Int) (n:Int)=((v / n:Nat):Int):=by grind
theorem tm2(v:Nat):Int.tmod (v:Int) 2=((v%2:Nat):Int):=RN v 2
theorem tm4(v:Nat):Int.tmod (v:Int) 4=((v%4:Nat):Int):=RN v 4
theorem tm9(v:Nat):Int.tmod (v:Int) 9=((v%9:Nat):Int):=RN v 9
theorem td2(v:Nat)(h:v<4096):ae (Int.tdiv (v:Int) 2)=((v / 2:Nat):Int):=by grind[Int.tdiv,Z9,aM]
theorem td9(v:Nat)(h:v<4096):ae (Int.tdiv (v:Int) 9)=((v / 9:Nat):Int):=by grind[Int.tdiv,Z9,aM]
theorem pK(k i:Int){v w:Nat}(hv:v<4096)(hw:w<4096)(h1:v%2=w%2)(h2:v / 2%4=w / 2%4):cD k i (v:Int)=cD k i (w:Int):=by
 have h3:v / 2%2=w / 2%2:=by omega
 unfold cD;simp only[tm2,tm4,td2 v hv,td2 w hw,h1,h2,h3]
theorem jV{kind:Int}{n:Nat}(h:kC kind n=true){r:Nat}(hi:i<3)(hr:r<n):gr kind (i:Int) (r:Int)=true:=by unfold kC at h;have h1:=aaB.1 h (i:Int) (by grind);grind
theorem lW(k i v:Int)(hk:k=0\/k=1\/k=2\/k=3\/k=4\/k=5):cF k i v=cD k i v:=by
 unfold cF bC;rcases hk with rfl|rfl|rfl|rfl|rfl|rfl<;>simp only[Int.reduceBEq,f9,aax,f7,Qz2]
 ·cases cD 0 i v<;>rfl
 ·cases cD 1 i v<;>rfl
 ·cases cD 2 i v<;>rfl
 ·cases cD 3 i v<;>rfl
 ·cases cD 4 i v<;>rfl
 ·cases cD 5 i v<;>rfl
theorem vz(k i v w:Int)(h:bC k i v=bC k i w)(hn:bC k i w≠some (.inl ())):cF k i v=cF k i w:=by
 unfold cF;rw[h];cases hp:bC k i w with
 |none=>rfl
 |some z=>
  grind
theorem vD(k i w:Int)(hk:k=6\/k=7\/k=8\/k=9\/k=10\/k=11\/k=12):bC k i w≠some (.inl ()):=by intro hp;unfold bC at hp;rcases hk with rfl|rfl|rfl|rfl|rfl|rfl|rfl<;>simp[af,Bool.cond_eq_ite,acu]at hp
section
variable {i v:Nat} (hi:i<3) (hv:v<4096)
include hi hv
theorem asy:gr 0 (i:Int) (v:Int)=true:=by rw[<-jV arQ hi (show v%8<8 by omega)];unfold gr;rw[lW _ _ _ (by omega),lW _ _ _ (by omega),pK 0 (i:Int) (w:=v%8) hv (by omega) (by omega) (by omega)]
theorem asm:gr 1 (i:Int) (v:Int)=true:=by rw[<-jV arv hi (show v%8<8 by omega)];unfold gr;rw[lW _ _ _ (by omega),lW _ _ _ (by omega),pK 1 (i:Int) (w:=v%8) hv (by omega) (by omega) (by omega)]
theorem ast:gr 2 (i:Int) (v:Int)=true:=by rw[<-jV arI hi (show v%8<8 by omega)];unfold gr;rw[lW _ _ _ (by omega),lW _ _ _ (by omega),pK 2 (i:Int) (w:=v%8) hv (by omega) (by omega) (by omega)]
theorem asd:gr 3 (i:Int) (v:Int)=true:=by rw[<-jV arJ hi (show v%8<8 by omega)];unfold gr;rw[lW _ _ _ (by omega),lW _ _ _ (by omega),pK 3 (i:Int) (w:=v%8) hv (by omega) (by omega) (by omega)]
theorem asz:gr 4 (i:Int) (v:Int)=true:=by rw[<-jV ard hi (show v%8<8 by omega)];unfold gr;rw[lW _ _ _ (by omega),lW _ _ _ (by omega),pK 4 (i:Int) (w:=v%8) hv (by omega) (by omega) (by omega)]
theorem asf:gr 5 (i:Int) (v:Int)=true:=by rw[<-jV ary hi (show v%8<8 by omega)];unfold gr;rw[lW _ _ _ (by omega),lW _ _ _ (by omega),pK 5 (i:Int) (w:=v%8) hv (by omega) (by omega) (by omega)]
theorem asr:gr 6 (i:Int) (v:Int)=true:=by rw[<-jV arw hi (show v%3<3 by omega)];grind[gr,bC,vz,vD]
theorem asx:gr 7 (i:Int) (v:Int)=true:=by rw[<-jV aqW hi (show v%3<3 by omega)];grind[gr,bC,vz,vD]
theorem asp:gr 8 (i:Int) (v:Int)=true:=by
 rw[<-jV arn hi (show v%2<2 by omega)];unfold gr;have e1:v%2%2=v%2:=by omega
 rw[vz 8 (i:Int) (v:Int) ((v%2:Nat):Int) (by unfold bC;grind) (vD _ _ _ (by omega))]
theorem asq:gr 9 (i:Int) (v:Int)=true:=by
 rw[<-jV arf hi (show v%2<2 by omega)];unfold gr;have e1:v%2%2=v%2:=by omega
 rw[vz 9 (i:Int) (v:Int) ((v%2:Nat):Int) (by unfold bC;grind) (vD _ _ _ (by omega))]
theorem arp:gr 10 (i:Int) (v:Int)=true:=by rw[<-jV ans hi (show v%3<3 by omega)];grind[gr,bC,vz,vD]
theorem arb:gr 11 (i:Int) (v:Int)=true:=by rw[<-jV aoI hi (show v%3<3 by omega)];grind[gr,bC,vz,vD]
theorem arA:gr 12 (i:Int) (v:Int)=true:=by rw[<-jV apF hi (show v%3<3 by omega)];grind[gr,bC,vz,vD]
theorem arm:gr 13 (i:Int) (v:Int)=true:=by
 rw[<-jV aqe hi (show v%18<18 by omega)];unfold gr;have e1:v%18%9=v%9:=by omega
 have e2:v%18 / 9%2=v / 9%2:=by omega
 have e3:cF 13 (i:Int) (v:Int)=cF 13 (i:Int) ((v%18:Nat):Int):=by unfold cF bC;simp only[Int.reduceBEq,aax,f7,Qz2,tm2,tm9,td9 v hv,td9 (v%18) (by omega),e1,e2]
 rw[e3]
end
theorem aqd{v:Nat}(hk:k<14)(hi:i<3)(hv:v<4096):∃p,cF (k:Int) (i:Int) (v:Int)=some p/\(∀d∈p,pP d)/\p.length<=6:=by
 have h:gr (k:Int) (i:Int) (v:Int)=true:=by
  have:k=0\/k=1\/k=2\/k=3\/k=4\/k=5\/k=6\/k=7\/k=8\/k=9\/k=10\/k=11\/k=12\/k=13:=by omega
  rcases this with rfl|rfl|rfl|rfl|rfl|rfl|rfl|rfl|rfl|rfl|rfl|rfl|rfl|rfl
  ·exact asy hi hv
  ·exact asm hi hv
  ·exact ast hi hv
  ·exact asd hi hv
  ·exact asz hi hv
  ·exact asf hi hv
  ·exact asr hi hv
  ·exact asx hi hv
  ·exact asp hi hv
  ·exact asq hi hv
  ·exact arp hi hv
  ·exact arb hi hv
  ·exact arA hi hv
  ·exact arm hi hv
 unfold gr at h;split at h
 ·rename_i p hp;simp only[aas]at h;exact⟨p,hp,λd hd=>Sf (aaB.1 h.1 d hd),aaA h.2⟩
 ·cases h
theorem mf{x n:Int}(hx:aY x)(hn:0<n)(hn2:n<=9223372036854775807):∃r,cK x n=some r/\0<=r/\r<n:=by
 unfold cK;obtain⟨h1,h2⟩:=hx;have fin:∀y:Int,0<=y->∃r,(some y:Option Int).bind (λs1=>af (!(n==0)) (some (Int.tmod s1 n)))=some r/\0<=r/\r<n:=by
  intro y hy;refine⟨Int.tmod y n,?_,?_,?_⟩
  ·simp only[f7,Qz2];rw[dz (by grind)]
  ·rw[ad2 hy];exact Int.emod_nonneg _ (by omega)
  ·rw[ad2 hy];exact Int.emod_lt_of_pos _ hn
 grind[az,aM]
theorem at_ok{l:List Int}(hl:∀x∈l,aY x)(i:Int){n:Int}(hn:0<n)(hn2:n<=9223372036854775807):∃r,iB l i n=some r/\0<=r/\r<n:=by
 unfold iB;rw[zr];by_cases h:i<0\/(l.length:Int)<=i
 ·grind
 ·rw[bN h,aax,bH 0 (by omega) (by omega)];grind[mf,eE]
theorem Vx(l:List Int)(hl:∀x∈l,aY x):∃p,kH l=some p/\(∀d∈p,pP d)/\p.length<=24:=by
 unfold kH;obtain⟨a,ha,ha1,ha2⟩:=at_ok hl 0 (n:=3) (by omega) (by omega);obtain⟨o,h1,h2,h3⟩:=gz (f:=kn l) (λs=>4-s.2.2.toNat) (λs=>∃i:Nat,s.2.2=(i:Int)/\(i:Int)<=a+1/\(∀d∈s.1,pP d)/\s.1.length<=7*i) (λr=>(∀d∈r,pP d)/\r.length<=24)
  (λs hs=>by
   obtain⟨o,b,s2⟩:=s;obtain⟨i,e1,hi,hg,hlen⟩:=hs;dsimp only at e1 hg hlen;subst e1;unfold kn;have ew:ae ((1:Int)+a)=a+1:=by rw[aM (by omega) (by omega)];omega
   simp only[ha,f7,Qz2,ew];by_cases hlt:(i:Int)<a+1
   ·right;obtain⟨r,hr,hr1,hr2⟩:=at_ok hl (ae ((1:Int)+(i:Int))) (n:=4096) (by omega) (by omega);obtain⟨rn,rfl⟩:∃rn:Nat,r=(rn:Int):=⟨r.toNat,by omega⟩
    have et:Int.tmod (rn:Int) 14=((rn%14:Nat):Int):=RN rn 14;have ed:ae (Int.tdiv (rn:Int) 14)=((rn / 14:Nat):Int):=by grind[Int.tdiv,Z9,aM]
    obtain⟨p,hp,hp1,hp2⟩:=aqd (k:=rn%14) (i:=i) (v:=rn / 14) (by omega) (by omega) (by omega);have ew2:ae ((i:Int)+1)=((i+1:Nat):Int):=by rw[aM (by omega) (by omega)];omega
    have a1:∀m n:Nat,m+n<=100->aH m n 32=true:=λm n h=>aT (by omega) (by omega);simp only[az hlt,f9,hr,f7,Qz2,et,ed,hp,af,show(!((14:Int)==0))=true from rfl,a1 o.length p.length (by omega),a1 (o++p).length ([(qB,lF)]:List Df).length (by grind),ew2];have hop:∀d∈o++p,pP d:=λd hd=>(aa1.1 hd).elim (hg d) (hp1 d);cases (bif((rn%14:Nat):Int)==(9:Int)then !b else false)
    ·exact⟨_,rfl,⟨i+1,rfl,by omega,hop,by grind⟩,by grind⟩
    ·refine⟨_,rfl,⟨i+1,rfl,by omega,λd hd=>?_,by grind⟩,by grind⟩;grind[List.mem_singleton,Sf,P8]
   grind) (s:=([],false,0)) ⟨0,rfl,by omega,λd hd=>(by cases hd),by simp⟩ (by grind)
 rw [h1];obtain⟨by_,hb,hb1,hb2⟩:=at_ok hl 4 (n:=64) (by omega) (by omega);simp only[f7,Qz2,hb];unfold ox;obtain⟨r,g1,g2,g3⟩:=gz (f:=kG o by_) (λs=>o.length-s.2.toNat) (λs=>∃i:Nat,s.2=(i:Int)/\i<=o.length/\s.1.length=i/\∀d∈s.1,d∈o) (λr=>(∀d∈r,d∈o)/\r.length<=o.length)
  (λs hs=>by
   obtain⟨q,s2⟩:=s;obtain⟨i,e1,hi,hlen,hin⟩:=hs;dsimp only at e1 hlen hin;subst e1;unfold kG;rcases abL i o.length with hlt|hge
   ·right;obtain⟨c,hc,hc1,hc2⟩:=mf (x:=by_) (n:=(o.length:Int)) ⟨by omega,by omega⟩ (by omega) (by omega);have ew:ae ((i:Int)+c)=(i:Int)+c:=aM (by omega) (by omega);have em:Int.tmod ((i:Int)+c) (o.length:Int)=((i:Int)+c)%(o.length:Int):=ad2 (by omega);have m0:=Int.emod_nonneg ((i:Int)+c) (show(o.length:Int)≠0 by omega);have m1:=Int.emod_lt_of_pos ((i:Int)+c) (show(0:Int)<(o.length:Int)by omega);generalize((i:Int)+c)%(o.length:Int)=md at em m0 m1;have ew2:ae ((o.length:Int)-1)=(o.length:Int)-1:=aM (by omega) (by omega);have ew3:ae ((o.length:Int)-1-md)=(o.length:Int)-1-md:=aM (by omega) (by omega);simp only[az (show(i:Int)<(o.length:Int)by omega),f9,hc,f7,Qz2,af,show(!((o.length:Int)==0))=true by grind,show(!((2:Int)==0))=true from rfl,ew,em,ew2,ew3,bM (n:=o.length) (by omega) hlt];have fin:∀k:Int,0<=k->k<o.length->∃s',((some k:Option Int).bind λs5=>(ac o s5).bind λ_=>(ac o s5).bind λv7=>bif aH q.length ([v7]:List Df).length 32 then some (q++([v7]:List Df))else none).bind (λs3=>(some (Sum.inl (s3,(i:Int)+1)):Option (Mh⊕List Df)))=some (Sum.inl s')/\(∃i:Nat,s'.2=(i:Int)/\i<=o.length/\s'.1.length=i/\∀d∈s'.1,d∈o)/\o.length-s'.2.toNat<o.length-i:=by
     intro k k0 k1;simp only[f7,Qz2,bH ([],[]) k0 k1];rw[show aH q.length ([o.getD k.toNat ([],[])]:List Df).length 32=true from aT (by grind) (by omega)];refine⟨_,rfl,⟨i+1,rfl,by omega,by simp[hlen],λd hd=>?_⟩,by grind⟩;grind
    cases (Int.tmod by_ 2 != 0)
    ·simp_all
    ·exact fin ((o.length:Int)-1-md) (by omega) (by omega)
   grind) (s:=([],0)) ⟨0,rfl,by omega,rfl,λd hd=>(by cases hd)⟩ (by grind)
 grind
theorem PG(l:List Int)(hl:∀x∈l,aY x):∃c,j5 l=some c/\B4 c/\c.1.length<=512/\NumC c:=by unfold j5;obtain⟨p,hp,hp1,hp2⟩:=Vx l hl;rw[hp];simp only[f7,Qz2];obtain⟨c,e,hc,hc1,hc2⟩:=Wb p hp2 hp1 HV (by decide);rw[hc];exact⟨c,rfl,hc1,hc2⟩
theorem aov{x:Int}(h:aY x):∃e,lc x=some e:=by
 unfold lc;obtain⟨r,e1,g,k⟩:=mf h (n:=4096) (by omega) (by omega);obtain⟨n,rfl⟩:∃n:Nat,r=(n:Int):=⟨r.toNat,by omega⟩
 have q1:ae (Int.tdiv (n:Int) 4)=((n / 4:Nat):Int):=by grind[Int.tdiv,Z9,aM]
 have q2:ae (Int.tdiv (n:Int) 20)=((n / 20:Nat):Int):=by grind[Int.tdiv,Z9,aM]
 have q3:Int.tmod ((n / 4:Nat):Int) 5=((n / 4%5:Nat):Int):=RN (n / 4) 5;have q4:Int.tmod ((n / 20:Nat):Int) 4=((n / 20%4:Nat):Int):=RN (n / 20) 4;rw[e1];simp only[f7,Qz2,af,show(!((4:Int)==0))=true from rfl,show(!((5:Int)==0))=true from rfl,show(!((20:Int)==0))=true from rfl,f9,q1,q2,q3,q4];rw[aO (xs:=([0,0,1,8,4]:List Int)) 0 (show n / 4%5<5 by omega),aO (xs:=([0,0,2,8]:List Int)) 0 (show n / 20%4<4 by omega)];simp_all
set_option maxRecDepth 100000
theorem U1:oW=some true:=by kernel_rfl
set_option maxRecDepth 4000
theorem aqp(l:List Int)(hl:l.length<=1048576)(x:Int):oF l x=some (decide (x∈l)):=by
 unfold oF;rcases gG (f:=jN l x) l.length (by omega) (λi=>¬l.getD i 0=x) (λi=>true)
  (λi hi _=>by
   unfold jN;simp only[az (show(i:Int)<(l.length:Int)by omega),f9,aO 0 hi,f7,Qz2,bM (n:=l.length) (by omega) hi];grind)
  (λ_=>by unfold jN;grind)with⟨hP,he⟩|⟨i,hi,_,hP,he⟩
 ·grind[bN,List.mem_iff_getElem]
 grind
def mc(c:CC)(s:aF)(k:Nat):Bool:=
 if(bK s k).2.2.2=true then decide ((bK s k).2.1.length=0/\(bK s k).2.2.1=0)
 else decide (0<=(bK s k).2.2.1/\(bK s k).2.2.1<=1048576/\(0<=bO s\/jR (fE c (bK s k)) (bK s k).1.length=true))
def nC(s:aF)(k:Nat):Prop:=-1<=s.2.2.2.1.getD k 0/\s.2.2.2.1.getD k 0<s.1.length
instance (s:aF)(k:Nat):Decidable (nC s k):=by unfold nC;infer_instance
def dP(s:aF):Nat->Int
 |0=>0
 |n+1=>if(bK s n).2.2.2=true then dP s n else dP s n+1
def uY(c:CC)(s:aF):Prop:=(1<=s.1.length/\s.1.length<=65)/\(∀k,k<s.2.2.2.1.length->nC s k)/\(∀k,k<s.1.length->mc c s k=true)/\dP s s.1.length<=5
instance (c:CC)(s:aF):Decidable (uY c s):=by unfold uY;infer_instance
theorem Ms(s:aF):∀n,0<=dP s n/\dP s n<=n:=by
 intro n;induction n with
 |zero=>simp[dP]
 |succ n ih=>unfold dP;grind
theorem arR(hc:bi c)(t:Th)(hn:t.1.length<=8)(h:∀g∈t.1,xx c g):Itr.it (fM c t) 0=some (.inl ()):=by
 rcases gG (f:=fM c t) t.1.length (by omega) (λ_=>True) (λ_=>false)
  (λi hi _=>by
   left;refine⟨trivial,?_⟩;unfold fM;obtain⟨k,pc,h1,h2,h3,h4⟩:=h _ (eE (0,[]) hi);have hp:=Pf (sI hc.2.1 hc.2.2.2) h3;have hl:ac c.2.2.1 (k:Int)=some (c.2.2.1.getD k 0):=aO 0 (by have:=h3.1;have:=hc.2.1.1.2.1;omega);simp only[az (show(i:Int)<(t.1.length:Int)by omega),f9,aO (0,[]) hi,f7,h1,zr,bN (show¬((pc:Int)<0\/(c.1.length:Int)<=(pc:Int))by omega),hp,hl,nf h4,aax,bM (n:=t.1.length) (by omega) hi])
  (λ_=>by unfold fM;grind)with⟨_,he⟩|⟨i,_,_,hP,_⟩
 ·exact he
 grind
theorem alg(hc:bi c)(hs:StOk c s)(hk:k<s.1.length):me c (bK s k) (decide ((0:Int)<=s.2.2.2.2.2.2.2.2.2.1))=some (mc c s k):=by
 unfold me mc;rcases qS hs hk with⟨h1,h2⟩|⟨h1,fs,f,st,w,h2,h3⟩
 ·simp only[h1,h2,al9,f9,ace,En,yX];simp_all
 ·obtain⟨k',pc,hA⟩:=mh (s:=s) (i:=k) (by rw[mN hk,h2]) h3;have hfr:=arR hc (fs++[f],st,w,false) (by have:=h3.n;grind) h3.fr;have hx:fE c (fs++[f],st,w,false)=eF c f.1.toNat:=by rw[fE,fH]
  have hxi:ac c.1 f.1=some (eF c f.1.toNat):=by rw[hA.pc1];exact aO _ hA.pc2
  have hn:=h3.n;have hm:=h3.m;have efr:ac (fs++[f]) (fs.length:Int)=some f:=by simp[ac]
  have emx:(if(0:Int)>(fs.length:Int)then(0:Int)else(fs.length:Int))=(fs.length:Int):=by grind
  have ewl:ae (((fs.length+1:Nat):Int)-1)=(fs.length:Int):=by rw[aM (by omega) (by omega)];omega
  have esd:=Mv (eF c f.1.toNat) (fs.length+1) (by omega);grind[bO,Bool.false_eq_true,List.length_append,List.length_singleton,bN,decide_false,Bool.not_false]
theorem Mo(hc:bi c)(hs:StOk c s)(hsm:dN s):∃b,lK c s=some b/\(b=true↔uY c s):=by
 unfold lK;have hn:=hs.n;rw[nf (show(s.2.1.length:Int)=c.2.2.2.1.length by rw[hs.fit.vars]),nf (show(s.2.2.1.length:Int)=c.2.2.2.2.1.length by rw[hs.fit.qs]),nf (show(s.2.2.2.1.length:Int)=c.2.2.2.2.2.1.length by rw[hs.fit.own]),nf (show(s.2.2.2.2.1.length:Int)=c.2.2.2.2.2.2.1.length by rw[hs.fit.files])];simp only[aax,zr];by_cases h1:1<=s.1.length/\s.1.length<=65;rotate_left
 ·rw[az (by omega)];exact⟨false,rfl,λh=>(by cases h),λh=>absurd h.1 h1⟩
 rw [bN (by omega)];simp only[aax];have l1:Itr.it (fh c s) 0=some (.inl ()):=by
  rcases gG (f:=fh c s) s.2.2.1.length (by have:=hsm.2.2.2.1;omega) (λ_=>True) (λ_=>false)
   (λi hi _=>by
    left;refine⟨trivial,?_⟩;unfold fh;have hq:=hs.fit.qs;have hcap:=hs.cap i (by omega);simp only[az (show(i:Int)<(s.2.2.1.length:Int)by omega),f9,aO [] hi,aO ([],0) (show i<c.2.2.2.2.1.length by omega),f7,bN (show¬(c.2.2.2.2.1.getD i ([],0)).2<((s.2.2.1.getD i []).length:Int)by omega),aax,bM (n:=s.2.2.1.length) (by have:=hsm.2.2.2.1;omega) hi])
   (λ_=>by unfold fh;grind)with⟨_,he⟩|⟨i,_,_,hP,_⟩
  ·exact he
  grind
 rw[l1];simp only[f7,Qz2];have ho:=hsm.2.2.2.2.2.1;rcases gG (f:=gV s) s.2.2.2.1.length (by omega) (nC s) (λ_=>false)
  (λi hi _=>by
   unfold gV;dsimp only;simp only[az (show(i:Int)<(s.2.2.2.1.length:Int)by omega),f9,aO 0 hi,f7,Qz2,bM (n:=s.2.2.2.1.length) (by omega) hi];by_cases hz:s.2.2.2.1.getD i 0 < -1
   ·right;rw[az hz];exact⟨by unfold nC;omega,rfl⟩
   rw[bN hz];simp only[abR,f9,aax,f7,Qz2];by_cases h:nC s i
   ·left;have h':=h;unfold nC at h';grind
   ·right;have h':=h;unfold nC at h';grind)
  (λ_=>by unfold gV;grind)with⟨hO,he⟩|⟨i,hi,_,hP,he⟩
 rotate_left
 ·rw[he];exact⟨false,rfl,λh=>(by cases h),λh=>absurd (h.2.1 i hi) hP⟩
 rw [he];simp only[f7,Qz2];obtain⟨z,z1,z2⟩:=gz (f:=kS c s) (λy=>s.1.length-y.2.toNat) (λy=>∃k:Nat,y=(dP s k,(k:Int))/\k<=s.1.length/\∀j,j<k->mc c s j=true)
  (λr=>(r=.inl (dP s s.1.length)/\∀j,j<s.1.length->mc c s j=true)\/(r=.inr false/\∃j,j<s.1.length/\¬mc c s j=true))
  (λy hy=>by
   obtain⟨k,rfl,hk,hj⟩:=hy;unfold kS;rcases abL k s.1.length with hlt|hge
   ·simp only[az (show(k:Int)<(s.1.length:Int)by omega),f9,cL (mN hlt),f7,Qz2,alg hc hs hlt,bM (n:=s.1.length) (by omega) hlt];cases hb:mc c s k
    ·grind
    ·right;have hl:=Ms s k;have hj':∀j,j<k+1->mc c s j=true:=λj hjk=>by
      grind
     refine⟨(dP s (k+1),((k+1:Nat):Int)),?_,⟨k+1,rfl,by omega,hj'⟩,by grind⟩;rw[show dP s (k+1)=if(bK s k).2.2.2=true then dP s k else dP s k+1 from rfl];cases (bK s k).2.2.2
     ·simp only[abR,acd,f9,aax,f7,Qz2,ady,aca,aM (x:=dP s k+1) (by omega) (by omega)];rfl
     grind
   grind) (s:=(0,0)) ⟨0,rfl,by omega,λj hj=>absurd hj (by omega)⟩ (by grind)
 rw[z1];rcases z2 with⟨rfl,hS⟩|⟨rfl,j,hj,hP⟩
 ·simp only[f7,Qz2];exact⟨_,rfl,λh=>⟨h1,hO,hS,by simpa using h⟩,λh=>by simpa using h.2.2.2⟩
 ·exact⟨false,rfl,λh=>(by cases h),λh=>absurd (h.2.2.1 j hj) hP⟩
def ajs(s:aF):Prop:=(0<=s.2.2.2.2.2.1/\s.2.2.2.2.2.1<=1048576)/\(0<=s.2.2.2.2.2.2.1/\s.2.2.2.2.2.2.1<=64)/\0<=s.2.2.2.2.2.2.2.1.1/\0<=s.2.2.2.2.2.2.2.1.2.1/\0<=s.2.2.2.2.2.2.2.1.2.2/\0<=s.2.2.2.2.2.2.2.2.2.2.1
theorem P5(hc:bi c)(hs:StOk c s)(hsm:dN s)(ho : -1<=bO s/\bO s<=4) :
  ∃v,gO c s=some v/\(v=0->uY c s/\(bO s<0->0<(eP c s).length/\(s.2.2.2.2.2.2.2.2.1 = -1\/s.2.2.2.2.2.2.2.2.1∈eP c s))):=by
 obtain⟨k,err,v2,v3⟩:=zi c hc.2.2.2;have herr:err=0:=by
  rcases v3 with⟨h,_⟩|⟨_,h,_⟩|⟨_,_,h,_⟩|⟨_,_,_,h⟩
  ·have:=hc.1;omega
  ·exact absurd hc.2.1 h
  ·exact absurd hc.2.2.1 h
  ·exact h
 subst herr;unfold gO;dsimp only;rw[v2];obtain⟨b1,r1,p2⟩:=Mo hc hs hsm;simp only[f7,Qz2,adj,aax,r1];cases b1
 ·simp_all
 have hsh:=p2.1 rfl;unfold bO at ho;have ew:ae (s.2.2.2.2.2.2.2.2.2.1+1)=s.2.2.2.2.2.2.2.2.2.1+1:=aM (by omega) (by omega);simp only[acd,abR,f9,aax,yX,zr,f7,Qz2,ew];by_cases hg:ajs s;rotate_left
 ·refine⟨1,?_,λh=>(by cases h)⟩;unfold ajs at hg;grind
 obtain⟨g1,g2,g3,g4,g5,g6⟩:=hg;rw[bN (show¬(((s.2.2.2.2.2.1<0\/1048576<s.2.2.2.2.2.1)\/s.2.2.2.2.2.2.1<0)\/64<s.2.2.2.2.2.2.1)by omega),bN (show¬(((((s.2.2.2.2.2.2.2.1.1<0\/s.2.2.2.2.2.2.2.1.2.1<0)\/s.2.2.2.2.2.2.2.1.2.2<0)\/s.2.2.2.2.2.2.2.2.2.2.1<0)\/s.2.2.2.2.2.2.2.2.2.1 < -1)\/4<s.2.2.2.2.2.2.2.2.2.1)by omega)];simp only[acd,abR,f9,aax,f7,Qz2];by_cases hz:0<=s.2.2.2.2.2.2.2.2.2.1
 ·rw[az hz];simp only[f9];cases s.2.2.2.2.2.2.2.2.1 != -1
  ·exact⟨0,rfl,λ_=>⟨hsh,λh=>absurd hz (by unfold bO at h;omega)⟩⟩
  grind
 rw[bN hz];have hel:(eP c s).length<=1048576:=akB (qH _ _) hs.n;simp only[aax,BC hc hs,f7,Qz2];have h0:ac s.1 0=some (bK s 0):=cL (mN hsh.1.1);cases hq:(bif bif !(s.2.2.2.2.2.2.2.2.2.2.2==([]:List UInt8))then true else s.2.2.2.2.2.2.2.2.2.2.1 != (0:Int)then true else s.2.2.2.2.2.2.1==(0:Int));rotate_left
 ·simp_all
 simp only[abR,f9,aax,h0,f7,Qz2];cases (bK s 0).2.2.2;rotate_left
 ·simp_all
 simp only[aax];by_cases hl:0<(eP c s).length;rotate_left
 ·simp_all
 rw[bf (show¬((eP c s).length:Int)=0 by omega)];simp only[abR,Bool.true_and,aax];by_cases hp:s.2.2.2.2.2.2.2.2.1 = -1
 ·simp_all
 ·rw[nt hp];simp only[f9,aqp _ hel,f7,Qz2];by_cases hm:s.2.2.2.2.2.2.2.2.1∈eP c s
  ·simp_all
  simp_all
abbrev Pt4:Type:=Int×Int×Int×List Int
def kB(c:CC)(e:ce)(s:aF)(k:Nat):Pt4:=
 let x:=fE c (bK s k)
 let pc:=(uj (bK s k)).1
 if x.1=23 then(1,(k:Int),pc,List.replicate x.2.1.toNat 1)
 else if x.1=19/\(c.2.2.2.2.1.getD x.2.1.toNat ([],0)).2=0/\1<(gt c s x.2.1).length then(2,(k:Int),pc,List.replicate (gt c s x.2.1).length 1)
 else if x.1=24/\0<e.2.2 then(3,(k:Int),pc,[ae (16-e.2.2),e.2.2])
 else if x.1=26/\0<e.2.1 then(4,(k:Int),pc,[ae (16-e.2.1),e.2.1])
 else(0,(k:Int),pc,[1])
def AP(c:CC)(s:aF):Int:=if s.2.2.2.2.2.2.2.2.1<0 then(eP c s).getD 0 0 else s.2.2.2.2.2.2.2.2.1
def gQ(c:CC)(e:ce)(s:aF):Pt4:=
 if s.2.2.2.2.2.2.2.2.1<0/\1<(eP c s).length then(0,-1,-1,List.replicate (eP c s).length 1)else kB c e s (AP c s).toNat
theorem DM{n:Nat}{p:Nat->Bool}{x:Int}:x∈qX n p↔∃k,k<n/\p k=true/\x=(k:Int):=by unfold qX;grind
structure GoOn(c:CC)(s:aF):Prop where
 ok:StOk c s
 n:s.1.length<=65
 en:0<(eP c s).length
 pk:s.2.2.2.2.2.2.2.2.1 = -1\/s.2.2.2.2.2.2.2.2.1∈eP c s
theorem EM(h:GoOn c s):∃k:Nat,AP c s=(k:Int)/\k<s.1.length/\AC c s k=true:=by
 have hm:AP c s∈eP c s:=by
  unfold AP;split
  ·exact eE 0 h.en
  ·rcases h.pk with hp|hp
   ·omega
   ·exact hp
 obtain⟨k,h1,h2,h3⟩:=DM.1 hm;grind
theorem ET(hs:StOk c s)(hk:k<s.1.length)(h:AC c s k=true):∃fs f st w,bK s k=(fs++[f],st,w,false)/\Run1 c fs f st:=by
 rcases qS hs hk with⟨h1,h2⟩|⟨h1,h2⟩
 ·unfold AC at h;grind
 ·exact h2
theorem FR{f:Hj->Option (Hj⊕Pt4)}(n:Nat)(hn:n<=1000)(a b d:Int)(hstep:∀i,i<n->∀l:List Int,aH l.length 1 8=true->f ((i:Int),a,b,d,l)=some (.inl ((i:Int)+1,a,b,d,l++[1])))(hend:∀l,f ((n:Int),a,b,d,l)=some (.inr (a,b,d,l))) :
  Itr.it f (0,a,b,d,[])=some (a,b,d,List.replicate n 1):=
 eC (f:=f) (λy=>n-y.1.toNat) (λ_=>(a,b,d,List.replicate n 1)) (λy=>∃i:Nat,y=((i:Int),a,b,d,List.replicate i 1)/\i<=n)
  (λy hy=>by
   obtain⟨i,rfl,hi⟩:=hy;rcases abL i n with hlt|hge
   ·right;refine⟨(((i+1:Nat):Int),a,b,d,List.replicate (i+1) 1),?_,⟨i+1,rfl,by omega⟩,by grind,rfl⟩;rw[hstep i hlt _ (aT (by grind) (by omega)),afK];rfl
   grind) (s:=(0,a,b,d,[])) ⟨0,rfl,by omega⟩ (by grind)
theorem aea(hc:bi c)(e:ce)(a:List bW)(hs:StOk c s)(hn:s.1.length<=65)(hk:k<s.1.length)(ht:bK s k=(fs++[f],st,w,false))(hr:Run1 c fs f st) :
  gW (fE c (bK s k)) (k:Int) f (c,e,s,a)=some (kB c e s k):=by
 unfold gW kB;obtain⟨p,hpn,hO,hx⟩:=D0 hc hs hk (by rw[ht]);rw[hx]at hO;have hpc:(uj (bK s k)).1=f.1:=by rw[ht,fH]
 dsimp only;rw[hpc];generalize fE c (bK s k)=x at *;obtain⟨op,u,b⟩:=x;obtain⟨o1,o2,o3,o4,o5,o6,o7,o8,o9,o10,o11,o12⟩:=hO;dsimp only at o1 o2 o3 o4 o5 o6 o7 o8 o9 o10 o11 o12|-;by_cases h23:op=23
 ·obtain⟨g1,g2⟩:=o9 h23;rw[bt h23,if_pos h23];obtain⟨n,rfl⟩:∃n:Nat,u=(n:Int):=⟨u.toNat,by omega⟩
  simp only[f9,aaR];have hlp:=FR (f:=fX (op,((n:Nat):Int),b)) n (by omega) 1 (k:Int) f.1
   (λi hi l hl=>by
    unfold fX;simp only[az (show(i:Int)<(n:Int)by omega),f9,af,acg,hl,bM (n:=n) (by omega) hi])
   (λl=>by unfold fX;grind)
  rw[hlp]
 rw[bf h23,if_neg h23];simp only[aax];by_cases h19:op=19
 ·obtain⟨g1,g2⟩:=o7 (.inl h19);have ec:ac c.2.2.2.2.1 u=some (c.2.2.2.2.1.getD u.toNat ([],0)):=bH _ g1 (by omega);have hl:(gt c s u).length<=s.1.length:=qH _ _;rw[bt h19];simp only[f9,ec,f7,Qz2,Om hs,En,yX];by_cases h1:(c.2.2.2.2.1.getD u.toNat ([],0)).2=0/\1<(gt c s u).length
  ·rw[az (show(c.2.2.2.2.1.getD u.toNat ([],0)).2=0/\(1:Int)<((gt c s u).length:Int)by omega),if_pos ⟨h19,h1.1,h1.2⟩];simp only[f9];have hlp:=FR (f:=fU (gt c s u)) (gt c s u).length (by omega) 2 (k:Int) f.1
    (λi hi l hl=>by
     unfold fU;simp only[az (show(i:Int)<((gt c s u).length:Int)by omega),f9,af,acg,hl,bM (n:=(gt c s u).length) (by omega) hi])
    (λl=>by unfold fU;grind)
   rw[hlp]
  ·rw[bN (show¬((c.2.2.2.2.1.getD u.toNat ([],0)).2=0/\(1:Int)<((gt c s u).length:Int))by omega),if_neg (λh=>h1 h.2),if_neg (by omega),if_neg (by omega)];rfl
 rw[bf h19,if_neg (λh=>h19 h.1)];simp only[aax];by_cases h24:op=24
 ·rw[bt h24];simp only[f9];by_cases hz:0<e.2.2
  ·grind
  grind
 rw[bf h24,if_neg (λh=>h24 h.1)];simp only[aax];by_cases h26:op=26
 ·grind
 grind
theorem uZ(hc:bi c)(e:ce)(a:List bW)(h:GoOn c s):eU (c,e,s,a)=some (gQ c e s):=by
 unfold eU gQ;have hl:(eP c s).length<=s.1.length:=qH _ _;have hn:=h.n;obtain⟨k,w1,w2,w3⟩:=EM h;obtain⟨fs,f,st,w,ht,hr⟩:=ET h.ok w2 w3;have et:ac s.1 (k:Int)=some (fs++[f],st,w,false):=by rw[<-ht];exact cL (mN w2)
 have el:=acJ fs f (by have:=hr.n;omega);have hat:cg (c,e,s,a) (k:Int)=some (fE c (bK s k)):=by have h:=IA (e:=e) (a:=a) h.ok w2;unfold q8 at h;grind
 simp only[BC hc h.ok,f7,Qz2];have rest:((ac s.1 (k:Int)).bind λ_=>(ac s.1 (k:Int)).bind λv9=>(ac v9.1 (ae ((v9.1.length:Int)-(1:Int)))).bind λ_=>(ac v9.1 (ae ((v9.1.length:Int)-(1:Int)))).bind λv11=>(cg (c,e,s,a) (k:Int)).bind λr12=>((gW r12 (k:Int) v11 (c,e,s,a):Option cQ)).bind λs13=>some s13)=some (kB c e s k):=by simp only[et,f7,Qz2,el,hat,aea hc e a h.ok h.n w2 ht hr]
 by_cases hp:s.2.2.2.2.2.2.2.2.1<0
 ·by_cases h2:1<(eP c s).length
  ·rw[az hp,if_pos ⟨hp,h2⟩,az (show(1:Int)<((eP c s).length:Int)by omega)];have hlp:=FR (f:=fT (eP c s)) (eP c s).length (by omega) 0 (-1) (-1)
    (λi hi l hl=>by
     unfold fT;simp only[az (show(i:Int)<((eP c s).length:Int)by omega),f9,af,acg,hl,bM (n:=(eP c s).length) (by omega) hi])
    (λl=>by unfold fT;grind)
   grind
  ·rw[az hp,if_neg (λh=>h2 h.2),bN (show¬(1:Int)<((eP c s).length:Int)by omega)];have e0:ac (eP c s) 0=some (k:Int):=by
    have:AP c s=(eP c s).getD 0 0:=by unfold AP;rw[if_pos hp]
    rw[<-w1,this];exact aO 0 h.en
   simp_all
 ·rw[bN hp,if_neg (λh=>hp h.1)];have:s.2.2.2.2.2.2.2.2.1=(k:Int):=by rw[<-w1];unfold AP;rw[if_neg hp]
  grind
theorem D6(hc:bi c)(e:ce)(hs:StOk c s)(hsm:dN s)(ho : -1<=bO s/\bO s<=4):∃v,dG c e s=some v/\(v=0->bO s<0/\GoOn c s/\uY c s):=by
 unfold dG;obtain⟨v,v2,v3⟩:=P5 hc hs hsm ho;rw[v2];simp only[f7,Qz2];by_cases hv:v=0;rotate_left
 ·grind
 rw[nf hv];obtain⟨b,b2,b3⟩:=Dr e;simp only[aax,b2,f7,Qz2];cases b
 ·grind
 simp only[acd,aax];by_cases hz:0<=bO s
 ·have hz':(0:Int)<=s.2.2.2.2.2.2.2.2.2.1:=hz;grind
 ·have hz':¬(0:Int)<=s.2.2.2.2.2.2.2.2.2.1:=hz;rw[bN hz'];obtain⟨h1,h2⟩:=v3 hv;obtain⟨h3,h4⟩:=h2 (by omega);exact⟨0,rfl,λ_=>⟨by omega,⟨hs,h1.1.2,h3,h4⟩,h1⟩⟩
theorem ZR(hc:bi c)(e:ce)(hs:StOk c s)(hsm:dN s)(ho : -1<=bO s/\bO s<=4):∃p v,iH c e s=some (p,v)/\p.2.2.2.length<=70:=by
 unfold iH;obtain⟨v,v2,v3⟩:=D6 hc e hs hsm ho;rw[v2];simp only[f7,Qz2];by_cases hv:v=0;rotate_left
 ·rw[nt hv];grind
 obtain⟨h1,h2,h3⟩:=v3 hv;rw[nf hv];simp only[aax,f7,Qz2,uZ hc e [] h2];refine⟨_,0,rfl,?_⟩;have hn:=h2.n;have hl:(eP c s).length<=s.1.length:=qH _ _;unfold gQ;split
 ·grind
 ·obtain⟨k,w1,w2,w3⟩:=EM h2;obtain⟨fs,f,st,w,ht,hr⟩:=ET h2.ok w2 w3;obtain⟨p,hpn,hO,hx⟩:=D0 hc h2.ok w2 (by rw[ht]);rw[hx]at hO;rw[w1,aaR];have hrl:∀u,(gt c s u).length<=s.1.length:=λu=>qH _ _;unfold kB;dsimp only;split
  ·rename_i h23;obtain⟨g1,g2⟩:=hO.2.2.2.2.2.2.2.2.1 h23;grind
  grind
abbrev yS:Type:=List Int×List (List Int)×List Int×List Int×Int×Int×(Int×Int×Int)×Int×Int×Int×List UInt8
def fF(i:Nat)(f:Fr)(st:List Int)(x:ce)(k:Int)(r:yS):List bW×Bool×List Int×List Int×yS:=
 let st1:=st.take (st.length-1)
 let v:=st.getD (st.length-1) 0
 if x.1=16 then(if 16<=st.length then([(0,x.2.1,false)],false,f.2,st,r)else([(0,x.2.1,false)],true,f.2,st++[r.1.getD x.2.1.toNat 0],r))
 else if x.1=17 then(if st.length=0 then([(0,x.2.1,true)],false,f.2,st,r)else([(0,x.2.1,true)],true,f.2,st1,(r.1.set x.2.1.toNat v,r.2)))
 else if x.1=20 then([(1,x.2.1,true)],true,f.2.set x.2.2.toNat ((r.2.1.getD x.2.1.toNat []).getD 0 0),st,(r.1,r.2.1.set x.2.1.toNat ((r.2.1.getD x.2.1.toNat []).drop 1),r.2.2))
 else if x.1=21 then([(2,x.2.1,true)],true,f.2,st,(r.1,r.2.1,r.2.2.1.set x.2.1.toNat (i:Int),r.2.2.2))
 else if x.1=22 then([(2,x.2.1,true)],r.2.2.1.getD x.2.1.toNat 0==(i:Int),f.2,st,(r.1,r.2.1,r.2.2.1.set x.2.1.toNat (-1),r.2.2.2))
 else if x.1=23 then([],true,f.2.set x.2.2.toNat k,st,r)
 else if x.1=24 then([(4,0,k==1)],true,f.2.set x.2.1.toNat (ae (r.2.2.2.2.1+k)),st,(r.1,r.2.1,r.2.2.1,r.2.2.2.1,ae (r.2.2.2.2.1+k),r.2.2.2.2.2))
 else if x.1=25 then([(4,0,false)],true,f.2,st,r)
 else if x.1=26 then(if st.length=0 then([(3,x.2.1,true)],false,f.2,st,r)else if k=0 then([(3,x.2.1,true)],true,f.2,st1,(r.1,r.2.1,r.2.2.1,r.2.2.2.1.set x.2.1.toNat v,r.2.2.2.2))else([(3,x.2.1,true)],true,f.2,st1,r))
 else([(3,x.2.1,false)],true,f.2.set x.2.2.toNat (r.2.2.2.1.getD x.2.1.toNat 0),st,r)
def sS(s:aF)(i:Nat)(fs:List Fr)(f:Fr)(st:List Int)(w:Int)(x:ce)(k:Int):aF:=
 let q:=fF i f st x k s.2
 (s.1.set i (fs++[(f.1,q.2.2.1)],q.2.2.2.1,w,false),q.2.2.2.2)
theorem OD(h:s.1[i]?=some t):(s.1.set i t,s.2)=s:=by rw[ny h]
def jl(op:Int):Prop:=op=16\/op=17\/op=20\/op=21\/op=22\/op=23\/op=24\/op=25\/op=26\/op=27
theorem ara(hc:bi c)(h:AtP c s i fs f st w x k pc)(hf:Fit1 c s)(hop:jl x.1)(hq:x.1=20->0<(s.2.2.1.getD x.2.1.toNat []).length)(hl:∀l∈s.2.2.1,l.length<=1048576)(j:Int) :
  cE x (c,e,s,sd) (i:Int) j=some (.inl ((fF i f st x j s.2).1,(fF i f st x j s.2).2.1,(ic 0 (c,e,sS s i fs f st w x j,sd)).2)):=by
 obtain⟨ht,hn,hm,hpc1,hpc2,hpr,hlo,hx⟩:=h;have hF:=hc.2.2.1 k pc hpc2 hpr;rw[hx]at hF;obtain⟨⟨h0,_⟩,_,hO⟩:=hF;have et:=cL ht;have efr:∀g:Fr,ac (fs++[g]) (fs.length:Int)=some g:=λg=>by simp[ac]
 have esa:=ny ht;have ela:∀g:Fr,((fs++[g]).length:Int)=(fs.length:Int)+1:=λg=>by simp
 have ewl:ae ((fs.length:Int)+1-1)=(fs.length:Int):=by rw[aM (by omega) (by omega)];omega
 have edl:decide (0<=(fs.length:Int)/\(fs.length:Int)<(fs.length:Int)+1-0)=true:=az (by omega);have epop:=za (c:=c) (e:=e) (a:=sd) ht (by omega);obtain⟨op,a,b⟩:=x;obtain⟨fv,fq,fo,ff⟩:=hf;unfold cE sS fF;obtain⟨o1,o2,o3,o4,o5,o6,o7,o8,o9,o10,o11,o12⟩:=hO;dsimp only at hop h0 o1 o2 o3 o4 o5 o6 o7 o8 o9 o10 o11 o12 hq|-;rcases hop with h|h|h|h|h|h|h|h|h|h
 ·subst h;obtain⟨g1,g2⟩:=o6 (.inl rfl);have ei:ac s.2.1 a=some (s.2.1.getD a.toNat 0):=bH 0 g1 (by omega);simp only[ei,f7,Qz2,f9,Int.reduceBEq,aax,ace,AQ ht];by_cases hv:16<=st.length
  ·rw[if_pos hv,if_pos hv,OD ht];rfl
  ·rw[if_neg hv,if_neg hv];rfl
 ·subst h;obtain⟨g1,g2⟩:=o6 (.inr rfl);have ei:ac s.2.1 a=some (s.2.1.getD a.toNat 0):=bH 0 g1 (by omega);simp only[epop,f7,Qz2,f9,Int.reduceBEq,aax,ace,aca,Int.reduceEq];by_cases hv:st.length=0
  ·rw[if_pos hv,if_pos hv,OD ht];rfl
  ·rw[if_neg hv,if_neg hv];have ei':ac (bA s i (fs++[f],st.take (st.length-1),w,false)).2.1 a=some (s.2.1.getD a.toNat 0):=ei;simp only[f9,ei',f7,Qz2];rfl
 ·subst h;obtain⟨g1,g2⟩:=o7 (.inr rfl);obtain⟨g3,g4⟩:=o12 (.inl rfl);have hq:=hq rfl;have ei:ac s.2.2.1 a=some (s.2.2.1.getD a.toNat []):=bH [] g1 (by omega);have ej:ac f.2 b=some (f.2.getD b.toNat 0):=bH 0 g3 (by omega);have ek:ac (s.2.2.1.getD a.toNat []) 0=some ((s.2.2.1.getD a.toNat []).getD 0 0):=bH (k:=0) 0 (by omega) (by omega);have hlen:(s.2.2.1.getD a.toNat []).length<=1048576:=hl _ (eE [] (by omega));simp only[et,ei,ej,ek,efr,ela,ewl,edl,ka ht,f7,Qz2,acM,af,f9,Int.reduceBEq,aax,ace,aca,Int.reduceEq,aaR,px,adH];rw[az (show 0<=a/\a<(s.2.2.1.length:Int)-0 by omega),az (show(0:Int)<=1/\(1:Int)<=((s.2.2.1.getD a.toNat []).length:Int)/\((s.2.2.1.getD a.toNat []).length:Int)<=((s.2.2.1.getD a.toNat []).length:Int)by omega),List.take_length,
   aT (by grind) (by omega)]
  rfl
 ·subst h;obtain⟨g1,g2⟩:=o8 (.inl rfl);have ei:ac s.2.2.2.1 a=some (s.2.2.2.1.getD a.toNat 0):=bH 0 g1 (by omega);simp only[ei,f7,Qz2,f9,Int.reduceBEq,aax,ace,aca,Int.reduceEq,esa];rfl
 ·subst h;obtain⟨g1,g2⟩:=o8 (.inr rfl);have ei:ac s.2.2.2.1 a=some (s.2.2.2.1.getD a.toNat 0):=bH 0 g1 (by omega);simp only[ei,f7,Qz2,f9,Int.reduceBEq,aax,ace,aca,Int.reduceEq,esa];rfl
 ·subst h;obtain⟨g3,g4⟩:=o12 (.inr (.inl rfl));have ej:ac f.2 b=some (f.2.getD b.toNat 0):=bH 0 g3 (by omega);simp only[et,ej,efr,ela,ewl,edl,ka ht,f7,Qz2,acM,af,f9,Int.reduceBEq,aax,ace,aca,Int.reduceEq,aaR,px,adH];rfl
 ·subst h;obtain⟨g3,g4⟩:=o1 (.inr (.inr rfl));have ej:ac f.2 a=some (f.2.getD a.toNat 0):=bH 0 g3 (by omega);simp only[et,ej,efr,ela,ewl,edl,ka ht,f7,Qz2,acM,af,f9,Int.reduceBEq,aax,ace,aca,Int.reduceEq,aaR,px,adH];rfl
 ·subst h;simp only[f9,Int.reduceBEq,aax,ace,aca,Int.reduceEq,esa];rfl
 ·subst h;obtain⟨g1,g2⟩:=o11 (.inl rfl);have ei:ac s.2.2.2.2.1 a=some (s.2.2.2.2.1.getD a.toNat 0):=bH 0 g1 (by omega);simp only[epop,f7,Qz2,f9,Int.reduceBEq,aax,ace,aca,Int.reduceEq];by_cases hv:st.length=0
  ·rw[if_pos hv,if_pos hv,OD ht];rfl
  ·rw[if_neg hv,if_neg hv];have ei':ac (bA s i (fs++[f],st.take (st.length-1),w,false)).2.2.2.2.1 a=some (s.2.2.2.2.1.getD a.toNat 0):=ei;by_cases hj:j=0
   ·rw[if_pos hj];simp only[f9,bt hj,ei',f7,Qz2];rfl
   ·rw[if_neg hj];simp only[f9,bf hj,aax];rfl
 ·subst h;obtain⟨g1,g2⟩:=o11 (.inr rfl);obtain⟨g3,g4⟩:=o12 (.inr (.inr rfl));have ei:ac s.2.2.2.2.1 a=some (s.2.2.2.2.1.getD a.toNat 0):=bH 0 g1 (by omega);have ej:ac f.2 b=some (f.2.getD b.toNat 0):=bH 0 g3 (by omega);simp only[et,ei,ej,efr,ela,ewl,edl,ka ht,f7,Qz2,acM,af,f9,Int.reduceBEq,aax,aca,Int.reduceEq,aaR,px,adH];rfl
theorem anZ(hn:s.1.length<=1048576):Itr.it (eD (c,e,s,sd)) (0,0)=some (dP s s.1.length):=
 eC (f:=eD (c,e,s,sd)) (λy=>s.1.length-y.2.toNat) (λ_=>dP s s.1.length) (λy=>∃k:Nat,y=(dP s k,(k:Int))/\k<=s.1.length)
  (λy hy=>by
   obtain⟨k,rfl,hk⟩:=hy;rcases abL k s.1.length with hlt|hge
   ·right;refine⟨(dP s (k+1),((k+1:Nat):Int)),?_,⟨k+1,rfl,by omega⟩,by grind,rfl⟩;have hl:=Ms s k;rw[show dP s (k+1)=if(bK s k).2.2.2=true then dP s k else dP s k+1 from rfl];unfold eD;simp only[az (show(k:Int)<(s.1.length:Int)by omega),f9,cL (mN hlt),f7,Qz2,bM (n:=s.1.length) (by omega) hlt];cases (bK s k).2.2.2
    ·simp only[abR,f9,f7,Qz2,ady,aca,aM (x:=dP s k+1) (by omega) (by omega)];rfl
    grind
   ·left;have:k=s.1.length:=by omega
    subst this;unfold eD;grind) (s:=(0,0)) ⟨0,rfl,by omega⟩ (by grind)
def uw(c:CC)(p:Int):Th:=([(c.2.1.getD p.toNat 0,List.replicate (c.2.2.1.getD p.toNat 0).toNat 0)],[],0,false)
def oK(s:aF)(i:Nat)(fs:List Fr)(f:Fr)(st:List Int)(w:Int):aF:=bA s i (fs++[(ae (f.1+1),f.2)],st,w,false)
abbrev xr:Type:=List Int×List bW×Bool×aF
def uE(c:CC)(s:aF)(i:Nat)(fs:List Fr)(f:Fr)(st:List Int)(w:Int)(p:Int):xr:=
 if 5<=dP s s.1.length then([],[(5,0,true)],false,s)
 else([(s.1.length:Int),(i:Int)],[(5,0,true),(5,(s.1.length:Int)+1,true)],true,((oK s i fs f st w).1++[uw c p],(oK s i fs f st w).2))
theorem DC{n:Nat}(h:n<=1048576):gM (n:Int)=some (5,(n:Int)+1,true):=by unfold gM;rw[Int.add_comm,aM (by omega) (by omega)]
theorem asl(hc:bi c)(h:AtP c s i fs f st w x k pc)(hop:x.1=18)(hn:s.1.length<=1048575) :
  jp (c,e,s,sd) (i:Int) x.2.1=some ((uE c s i fs f st w x.2.1).1,(uE c s i fs f st w x.2.1).2.1,(uE c s i fs f st w x.2.1).2.2.1,(c,e,(uE c s i fs f st w x.2.1).2.2.2,sd)):=by
 obtain⟨ht,hnf,hm,hpc1,hpc2,hpr,hlo,hx⟩:=h;have hF:=hc.2.2.1 k pc hpc2 hpr;rw[hx]at hF;obtain⟨⟨h0,_⟩,_,hO⟩:=hF;obtain⟨op,a,b⟩:=x;obtain⟨o1,o2,o3,o4,o5,o6,o7,o8,o9,o10,o11,o12⟩:=hO;obtain⟨hl512,hLi,hAF,hSm⟩:=hc;obtain⟨g1,g2⟩:=o3 (.inr hop);have ei:ac c.2.1 a=some (c.2.1.getD a.toNat 0):=bH 0 g1 g2;have ej:ac c.2.2.1 a=some (c.2.2.1.getD a.toNat 0):=bH 0 g1 (by have:=hLi.1.2.1;grind);obtain⟨_,_,_,_,q5,q6⟩:=hLi.2.2.1 a.toNat (by grind);have hi:=fc ht;unfold jp uE;dsimp only;simp only[anZ (show s.1.length<=1048576 by omega),f7,Qz2];by_cases h5:5<=dP s s.1.length
 ·grind
 ·rw[if_neg h5,bN (by omega)];have ewn:ae (((s.1.length+1:Nat):Int)-1)=(s.1.length:Int):=by rw[aM (by omega) (by omega)];omega
  have eml:decide (0<=c.2.2.1.getD a.toNat 0/\c.2.2.1.getD a.toNat 0*8<=281474976710656/\c.2.2.1.getD a.toNat 0<=maxLen)=true:=az (by refine⟨q5,by omega,?_⟩;simp only[maxLen];omega);have epl:∀t,(bA s i t).1.length=s.1.length:=λt=>by unfold bA;simp
  have a1:aH s.1.length 1 64=true:=aT (by omega) (by omega);have a2:aH 1 1 24=true:=aT (by omega) (by omega);simp only[aax,l7 (c:=c) (e:=e) (a:=sd) ht (by omega),ei,ej,f7,Qz2,af,f9,aaL,acg,epl,ewn,eml,a1,a2,DC (show s.1.length<=1048576 by omega)];rfl
theorem vb(hi:i<s.1.length):bK (bA s i t) i=t:=by unfold bK bA;simp[hi]
theorem nV{q:Nat}(h:q≠i):bK (bA s i t) q=bK s q:=by unfold bK bA;grind
theorem cT :(bA s i t).1.length=s.1.length:=by unfold bA;simp
theorem afq{fr:List Fr}{st':List Int}{b:Bool}(ht:s.1[i]?=some (fr,st,w,b))(ch:Int):gt c (bA s i (fr,st',w,b)) ch=gt c s ch:=by
 unfold gt;rw[cT];congr 1;funext q;unfold MO;by_cases h:q=i
 ·subst h;rw[vb (fc ht),fK ht];rfl
 ·rw[nV h]
theorem XW(hs:StOk c s)(ht:abj c t):StOk c (bA s i t):=
 ⟨by rw[cT];exact hs.n,λu hu=>by
  rcases aci hu with h|h
  ·exact hs.th u h
  grind,⟨hs.fit.vars,hs.fit.qs,hs.fit.own,hs.fit.files⟩,hs.cap⟩
def mJ(c:CC)(s:aF)(i:Nat)(fs:List Fr)(f:Fr)(st:List Int)(w:Int)(a j:Int):xr:=
 if st.length=0 then([],[(1,a,true)],false,s)
 else
  let v:=st.getD (st.length-1) 0
  let s1:=bA s i (fs++[(ae (f.1+1),f.2)],st.take (st.length-1),w,false)
  if 0<(c.2.2.2.2.1.getD a.toNat ([],0)).2 then([(i:Int)],[(1,a,true)],true,(s1.1,s1.2.1,s1.2.2.1.set a.toNat (s.2.2.1.getD a.toNat []++[v]),s1.2.2.2))
  else
   let to:=(gt c s a).getD j.toNat 0
   let t:=bK s to.toNat
   ([to,(i:Int)],[(1,a,true),(5,to+1,true)],true,bA s1 to.toNat (t.1.dropLast++[(ae ((uj t).1+1),(uj t).2.set (fE c t).2.2.toNat v)],t.2))
structure Takes(c:CC)(s:aF)(i q:Nat)(gs:List Fr)(g:Fr)(tt:List Int)(tw:Int)(y:ce):Prop where
 t:s.1[q]?=some (gs++[g],tt,tw,false)
 ne:q≠i
 n:gs.length<8
 pc:ac c.1 g.1=some y
 yi:y=fE c (bK s q)
 lo:ac g.2 y.2.2=some (g.2.getD y.2.2.toNat 0)
 run:Run1 c gs g tt
 at_:∃k pc,AtP c s q gs g tt tw y k pc
 op:y.1=20
theorem C6(hc:bi c)(hs:StOk c s)(h:AtP c s i fs f st w x k pc)(hop:x.1=19){j:Int}(hj:0<=j/\j<(gt c s x.2.1).length) :
  ∃q gs g tt tw y,(gt c s x.2.1).getD j.toNat 0=((q:Nat):Int)/\q<s.1.length/\Takes c s i q gs g tt tw y:=by
 have hm:(gt c s x.2.1).getD j.toNat 0∈gt c s x.2.1:=eE 0 (by omega);obtain⟨q,q1,q2,q3⟩:=DM.1 hm;have hq:(q8 c (bK s q)).1=20:=by unfold MO at q2;grind
 rcases qS hs q1 with⟨h1,h2⟩|⟨h1,gs,g,tt,tw,h2,h3⟩
 ·unfold q8 at hq;grind
 ·have ht:s.1[q]?=some (gs++[g],tt,tw,false):=by rw[mN q1,h2]
  obtain⟨p,pc',hA⟩:=mh ht h3;have hF:=hc.2.2.1 p pc' hA.pc2 hA.pr;rw[hA.x]at hF;have hx:q8 c (bK s q)=eF c g.1.toNat:=by rw[h2];show fE c (gs++[g],tt,tw,false)=_;unfold fE;rw[fH]
  rw[hx]at hq;obtain⟨l1,l2⟩:=hF.2.2.2.2.2.2.2.2.2.2.2.2.2 (.inl hq);refine⟨q,gs,g,tt,tw,eF c g.1.toNat,q3,q1,ht,?_,hA.n,?_,?_,bH 0 l1 (by rw[hA.lo];exact l2),h3,⟨p,pc',hA⟩,hq⟩
  ·rintro rfl;have e2:=h.t;rw[ht]at e2;have e3:gs++[g]=fs++[f]:=by grind
   have e4:g=f:=by simp_all
   rw[e4,h.pc1]at hq;rw[aaR,h.x,hop]at hq;cases hq
  ·rw[hA.pc1];exact aO _ hA.pc2
  ·rw[h2];unfold fE;rw[fH]
theorem ap1(hc:bi c)(hs:StOk c s)(hl:∀l∈s.2.2.1,l.length<=1048575)(h:AtP c s i fs f st w x k pc)(hop:x.1=19){j:Int}
  (hj:¬0<(c.2.2.2.2.1.getD x.2.1.toNat ([],0)).2->0<=j/\j<(gt c s x.2.1).length) :
  jP (c,e,s,sd) (i:Int) j x.2.1=some ((mJ c s i fs f st w x.2.1 j).1,(mJ c s i fs f st w x.2.1 j).2.1,(mJ c s i fs f st w x.2.1 j).2.2.1,(c,e,(mJ c s i fs f st w x.2.1 j).2.2.2,sd)):=by
 have hA:=h;obtain⟨ht,hnf,hm,hpc1,hpc2,hpr,hlo,hx⟩:=h;have hF:=hc.2.2.1 k pc hpc2 hpr;rw[hx]at hF;obtain⟨⟨h0,_⟩,_,hO⟩:=hF;have epop:=za (c:=c) (e:=e) (a:=sd) ht (by omega);obtain⟨op,a,b⟩:=x;obtain⟨o1,o2,o3,o4,o5,o6,o7,o8,o9,o10,o11,o12⟩:=hO;obtain⟨g1,g2⟩:=o7 (.inl hop);have ei:ac c.2.2.2.2.1 a=some (c.2.2.2.2.1.getD a.toNat ([],0)):=bH _ g1 g2;have eq:ac s.2.2.1 a=some (s.2.2.1.getD a.toNat []):=bH [] g1 (by have:=hs.fit.qs;grind);have hi:=fc ht;unfold jP mJ;dsimp only;simp only[epop,f7,Qz2];by_cases hv:st.length=0
 ·grind
 rw[if_neg hv,if_neg hv];have et1:∀t',(bA s i t').1[i]?=some t':=λt'=>adu hi;have en:=l7 (c:=c) (e:=e) (a:=sd) (et1 (fs++[f],st.take (st.length-1),w,false)) (by omega);rw[fR]at en;simp only[aax,ei,f7,Qz2,acd];by_cases hcap:0<(c.2.2.2.2.1.getD a.toNat ([],0)).2
 ·rw[az hcap,if_pos hcap];have hq:(s.2.2.1.getD a.toNat []).length<=1048575:=hl _ (eE [] (by have:=hs.fit.qs;grind));have a1:aH (s.2.2.1.getD a.toNat []).length 1 8=true:=aT (by omega) (by omega);have a2:aH 0 (s.2.2.1.getD a.toNat []).length 8=true:=aT (by omega) (by omega);have eq':∀t',ac (bA s i t').2.2.1 a=some (s.2.2.1.getD a.toNat []):=λ_=>eq;have ed:∀t',decide (0<=a/\a<((bA s i t').2.2.1.length:Int)-0)=true:=λt'=>az (by show 0<=a/\a<(s.2.2.1.length:Int)-0;have:=hs.fit.qs;grind);simp only[f9,en,eq',ed,af,f7,Qz2,acg,al9,acG,a1,a2,adH,acM]
 ·rw[bN hcap,if_neg hcap];obtain⟨q,gs,g,tt,tw,y,w1,w2,w3⟩:=C6 hc hs hA hop (hj hcap);have hth:abj c (fs++[f],st.take (st.length-1),w,false):=by
   rcases qS hs hi with⟨z1,z2⟩|⟨z1,fs',f',st',w',z2,z3⟩
   ·rw[fK ht]at z1;cases z1
   ·rw[fK ht]at z2;injection z2 with z4 z5;injection z5 with z6 z7;subst z6;exact .inr ⟨rfl,fs',f',z4,⟨z3.n,by rw[adx];omega,z3.fr⟩⟩
  have er:=Om (c:=c) (e:=e) (a:=sd) (XW (s:=s) (i:=i) hs hth) a;rw[afq ht]at er;have ej:ac (gt c s a) j=some ((gt c s a).getD j.toNat 0):=bH 0 (hj hcap).1 (hj hcap).2;rw[w1]at ej;have eq0:bK s q=(gs++[g],tt,tw,false):=fK w3.t;have eq1:∀t',ac (bA s i t').1 (q:Int)=some (gs++[g],tt,tw,false):=λt'=>cL (by unfold bA;rw[ae9 (Ne.symm w3.ne)];exact w3.t);have efr2:∀g:Fr,ac (gs++[g]) (gs.length:Int)=some g:=λg=>by simp[ac]
  have ela2:∀g:Fr,((gs++[g]).length:Int)=(gs.length:Int)+1:=λg=>by simp
  have hgn:=w3.n;have ewl2:ae ((gs.length:Int)+1-1)=(gs.length:Int):=by rw[aM (by omega) (by omega)];omega
  have ed:∀t',decide ((0:Int)<=(q:Int)/\(q:Int)<((bA s i t').1.length:Int)-0)=true:=λt'=>az (by rw[cT];omega);have enq:∀(t':Th) (u:List Int),bF (c,e,((bA s i t').1.set q (gs++[(g.1,u)],tt,tw,false),(bA s i t').2),sd) (q:Int)=some (c,e,bA (bA s i t') q (gs++[(ae (g.1+1),u)],tt,tw,false),sd):=λt' u=>by have:=l7 (c:=c) (e:=e) (a:=sd) (s:=bA (bA s i t') q (gs++[(g.1,u)],tt,tw,false)) (i:=q) (fs:=gs) (f:=(g.1,u)) (st:=tt) (w:=tw) (b:=false) (adu (by grind)) (by omega);rw[fR]at this;exact this
  have a3:aH 1 1 24=true:=aT (by omega) (by omega);have hz:((gs.length:Int)+1==0)=false:=by grind
  simp only[aax,er,ej,f7,Qz2,en,eq1,ela2,ewl2,efr2,px,acM,f9,adH,aaR,ed,pY,af,hz,w3.pc,w3.lo,az (show(0:Int)<=(gs.length:Int)/\(gs.length:Int)<(gs.length:Int)+1-0 by omega),w1,eq0,fH,akK,acg,a3,enq,DC (show q<=1048576 by have:=hs.n;omega)];have hy:=w3.yi;simp_all
end Go.Proofs.YtfhhiajfciblbaaGreatDoor
