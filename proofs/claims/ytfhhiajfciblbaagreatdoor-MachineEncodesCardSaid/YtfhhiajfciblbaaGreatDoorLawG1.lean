/- Laws for the row. No condition. -/
import Derived.Test.YtfhhiajfciblbaaGreatDoorFn
namespace Go.Proofs.YtfhhiajfciblbaaGreatDoor
open Go.Sm
variable {i pc j:Nat} {α R S:Type} {st b:List Int} {w a op:Int} {c:aC}
instance instItr:Itr:=itF
theorem Hn{S R:Type}(f:S->Option (S⊕R))(m:S->Nat)(F:S->R)(inv:S->Prop)
  (hstep:∀s,inv s->f s=some (.inr (F s))\/∃s',f s=some (.inl s')/\inv s'/\m s'<m s/\F s'=F s):∀(k:Nat) (s:S),inv s->m s<k->qR f k s=some (F s)
 |0,s,_,h=>by omega
 |k+1,s,hs,h=>by
  rcases hstep s hs with h1|⟨s',h1,h2,h3,h4⟩
  ·simp only[qR,h1,f7,Qz2]
  ·simp only[qR,h1,f7,Qz2];rw[Hn f m F inv hstep k s' h2 (by omega),h4]
theorem eC{f:S->Option (S⊕R)}(m:S->Nat)(F:S->R)(inv:S->Prop)
  (hstep:∀s,inv s->f s=some (.inr (F s))\/∃s',f s=some (.inl s')/\inv s'/\m s'<m s/\F s'=F s) {s:S} (hs:inv s) (hm:m s<9223372036854775808):Itr.it f s=some (F s):=
 Hn f m F inv hstep FA s hs hm
def FZ{α A R:Type}(g:A->α->A⊕R)(h:A->R):List α->A->R
 |[],a=>h a
 |x::r,a=>match g a x with
  |.inl a'=>FZ g h r a'
  |.inr z=>z
theorem ali{A:Type}{f:S->Option (S⊕R)}(mk:Int->A->S)(xs:List α)(g:A->α->A⊕R)(h:A->R)(I:Nat->A->Prop)(hn:xs.length<9223372036854775808)
  (hstep:∀(i:Nat) (x:α) (a:A),xs[i]?=some x->I i a->f (mk i a)=some (match g a x with|.inl a'=>.inl (mk ((i:Int)+1) a')|.inr z=>.inr z)/\∀a',g a x=.inl a'->I (i+1) a')
  (hend:∀a,I xs.length a->f (mk xs.length a)=some (.inr (h a))) {a:A} (ha:I 0 a):Itr.it f (mk 0 a)=some (FZ g h xs a):=by
 have gen:∀(k j:Nat) (a:A),k+j=xs.length->I k a->∀n,j<n->qR f n (mk (k:Int) a)=some (FZ g h (xs.drop k) a):=by
  intro k j;induction j generalizing k with
  | zero=>
   intro a hk hI n hn;cases n with
   |zero=>omega
   |succ n=>
    have hk:k=xs.length:=by omega
    subst hk;simp only[qR,hend a hI,f7,Qz2,afw,FZ]
  | succ j ih=>
   intro a hk hI n hn;cases n with
   |zero=>omega
   |succ n=>
    have hlt:k<xs.length:=by omega
    obtain⟨h1,h2⟩:=hstep k xs[k] a (abB hlt) hI;rw[alq hlt];simp only[qR,h1,f7,Qz2,FZ];grind
 have:=gen 0 xs.length a (by omega) ha FA hn;show qR f FA (mk 0 a)=_;grind
theorem Ql{A:Type}{f:S->Option (S⊕R)}(mk:Int->A->S)(xs:List α)(g:A->α->A)(h:A->R)(I:Nat->A->Prop)(hn:xs.length<9223372036854775808)
  (hstep:∀(i:Nat) (x:α) (a:A),xs[i]?=some x->I i a->f (mk i a)=some (.inl (mk ((i:Int)+1) (g a x)))/\I (i+1) (g a x))
  (hend:∀a,I xs.length a->f (mk xs.length a)=some (.inr (h a))) {a:A} (ha:I 0 a):Itr.it f (mk 0 a)=some (h (xs.foldl g a)):=by
 have:=ali mk xs (λa x=>(.inl (g a x):A⊕R)) h I hn (λi x a hx hI=>⟨(hstep i x a hx hI).1,λa' e=>by grind⟩) hend ha;rw[this];congr 1;have gen:∀(l:List α) (a:A),FZ (λa x=>(.inl (g a x):A⊕R)) h l a=h (l.foldl g a):=by
  intro l;induction l with
  |nil=>intro a;rfl
  |cons x l ih=>intro a;exact ih (g a x)
 exact gen xs a
theorem aM{x:Int}(h1 : -9223372036854775808<=x)(h2:x<=9223372036854775807):ae x=x:=by rw[ae,IntKind.wrap_i64];omega
theorem cL{xs:List α}{x:α}(h:xs[i]?=some x):ac xs (i:Int)=some x:=by simp[ac,h]
theorem dz{b:Bool}{m:Option α}(h:b=true):af b m=m:=by subst h;rfl
theorem aT{m k b:Nat}(h:(m+k)*b<=140737488355328)(hb:1<=b):aH m k b=true:=by unfold aH;rw[aeM];refine⟨h,?_⟩;have:m+k<=(m+k)*b:=alL _ hb;simp only[maxLen];omega
theorem fc{xs:List α}{x:α}(h:xs[i]?=some x):i<xs.length:=(abC.1 h).1
theorem az{p:Prop}[Decidable p](h:p):decide p=true:=afz h
theorem bN{p:Prop}[Decidable p](h:¬p):decide p=false:=decide_eq_false h
theorem bt{b:Int}(h:a=b):(a==b)=true:=air.2 h
theorem bf{b:Int}(h:¬a=b):(a==b)=false:=aeQ.2 h
theorem nt{b:Int}(h:¬a=b):(a != b)=true:=bne_iff_ne.2 h
theorem nf{b:Int}(h:a=b):(a != b)=false:=aed.2 h
theorem gz{f:S->Option (S⊕R)}(m:S->Nat)(inv:S->Prop)(Q:R->Prop)
  (hstep:∀s,inv s->(∃r,f s=some (.inr r)/\Q r)\/∃s',f s=some (.inl s')/\inv s'/\m s'<m s) {s:S} (hs:inv s) (hm:m s<9223372036854775808):∃r,Itr.it f s=some r/\Q r:=by
 have gen:∀(k:Nat) (s:S),inv s->m s<k->∃r,qR f k s=some r/\Q r:=by
  intro k;induction k with
  |zero=>grind
  |succ k ih=>
   intro s hs h;rcases hstep s hs with⟨r,h1,h2⟩|⟨s',h1,h2,h3⟩
   ·exact⟨r,by simp only[qR,h1,f7,Qz2],h2⟩
   ·obtain⟨r,e1,e2⟩:=ih s' h2 (by omega);exact⟨r,by simp only[qR,h1,f7,Qz2];exact e1,e2⟩
 exact gen FA s hs hm
set_option linter.unusedSimpArgs false
set_option linter.unusedVariables false
theorem aO{xs:List α}(d:α)(h:i<xs.length):ac xs (i:Int)=some (xs.getD i d):=by simp[ac,h]
theorem bH{xs:List α}{k:Int}(d:α)(h0:0<=k)(h:k<xs.length):ac xs k=some (xs.getD k.toNat d):=by grind[ac]
theorem bM{n:Nat}(hn:n<9223372036854775808)(h:i<n):ae ((i:Int)+1)=(i:Int)+1:=aM (by omega) (by omega)
theorem aeV{n:Nat}(hn:n<9223372036854775808)(h:i<n)(h0:0<i):ae ((i:Int)-1)=((i-1:Nat):Int):=by rw[aM (by omega) (by omega)];omega
theorem X1{f:Int->Option (Int⊕(Unit⊕R))}(a n:Nat)(ha:a<=n)(hn:n<9223372036854775808)(P:Nat->Prop)(Z:Nat->R)
  (hstep:∀i:Nat,a<=i->i<n->(∀j,a<=j->j<i->P j)->(P i/\f (i:Int)=some (.inl ((i:Int)+1)))\/(¬P i/\f (i:Int)=some (.inr (.inr (Z i)))))
  (hend:(∀j,a<=j->j<n->P j)->f (n:Int)=some (.inr (.inl ()))) :
  ((∀j,a<=j->j<n->P j)/\Itr.it f (a:Int)=some (.inl ()))\/∃i,a<=i/\i<n/\(∀j,a<=j->j<i->P j)/\¬P i/\Itr.it f (a:Int)=some (.inr (Z i)):=by
 obtain⟨r,h1,h2⟩:=gz (f:=f) (λs=>n-s.toNat) (λs=>∃i:Nat,s=(i:Int)/\a<=i/\i<=n/\∀j,a<=j->j<i->P j)
  (λr=>((∀j,a<=j->j<n->P j)/\r=.inl ())\/∃i,a<=i/\i<n/\(∀j,a<=j->j<i->P j)/\¬P i/\r=.inr (Z i))
  (λs hs=>by
   obtain⟨i,rfl,hia,hi,hP⟩:=hs;rcases abL i n with hlt|hge
   ·rcases hstep i hia hlt hP with⟨hp,he⟩|⟨hp,he⟩
    ·refine .inr ⟨_,he,⟨i+1,by simp,by omega,by omega,λj hj0 hj=>?_⟩,?_⟩
     ·grind
     grind
    ·exact .inl ⟨_,he,.inr ⟨i,hia,hlt,hP,hp,rfl⟩⟩
   ·have:i=n:=by omega
    simp_all) (s:=(a:Int)) ⟨a,rfl,by omega,ha,λj hj0 hj=>by omega⟩ (by grind)
 grind
theorem gG{f:Int->Option (Int⊕(Unit⊕R))}(n:Nat)(hn:n<9223372036854775808)(P:Nat->Prop)(Z:Nat->R)
  (hstep:∀i:Nat,i<n->(∀j,j<i->P j)->(P i/\f (i:Int)=some (.inl ((i:Int)+1)))\/(¬P i/\f (i:Int)=some (.inr (.inr (Z i)))))
  (hend:(∀j,j<n->P j)->f (n:Int)=some (.inr (.inl ()))) :
  ((∀j,j<n->P j)/\Itr.it f (0:Int)=some (.inl ()))\/∃i,i<n/\(∀j,j<i->P j)/\¬P i/\Itr.it f (0:Int)=some (.inr (Z i)):=by
 rcases X1 (f:=f) 0 n (by omega) hn P Z (λi _ hi hP=>hstep i hi λj hj=>hP j (by omega) hj) (λhP=>hend λj hj=>hP j (by omega) hj)with⟨h1,h2⟩|⟨i,_,h1,h2,h3,h4⟩
 ·grind
 grind
theorem jh{xs:List α}(d:α)(h:i<xs.length):xs.take (i+1)=xs.take i++[xs.getD i d]:=by simp_all
theorem vl(l:List (List UInt8×Int))(h:l.length<=1048576):dt l=some (l.map (·.1)):=by
 unfold dt;have:=eC (f:=lg l) (λs=>l.length-s.2.toNat) (λ_=>l.map (·.1)) (λs=>∃i:Nat,s=((l.take i).map (·.1),(i:Int))/\i<=l.length)
  (λs hs=>by
   obtain⟨i,rfl,hi⟩:=hs;unfold lg;rcases abL i l.length with hlt|hge
   ·right;refine⟨((l.take (i+1)).map (·.1),((i+1:Nat):Int)),?_,⟨i+1,rfl,by omega⟩,?_,rfl⟩
    ·simp only[az (show(i:Int)<(l.length:Int)by omega),f9,aO ([],0) hlt,f7];rw[dz (aT (by grind) (by omega)),bM (n:=l.length) (by omega) hlt,jh ([],0) hlt];simp
    grind
   grind) (s:=([],0)) ⟨0,rfl,by omega⟩ (by grind)
 rw[this];rfl
def Oh(l:List (List UInt8)):Prop:=∀i,i<l.length->0<i->Op.bytesLess (l.getD (i-1) []) (l.getD i [])=true
theorem mL(l:List (List UInt8))(h:l.length<=1048576):∃b,dI l=some b/\(b=true↔Oh l):=by
 unfold dI;rcases gG (f:=fA l) (l.length-1) (by omega) (λi=>Op.bytesLess (l.getD i []) (l.getD (i+1) [])=true) (λ_=>false)
  (λi hi hP=>by
   have e:ae ((i:Int)+1)=((i+1:Nat):Int):=by rw[bM (n:=l.length) (by omega) (by omega)];rfl
   unfold fA;simp only[e,az (show((i+1:Nat):Int)<(l.length:Int)by omega),f9,aO [] (show i<l.length by omega),aO [] (show i+1<l.length by omega),f7];grind)
  (λhP=>by
   grind[fA,aM,bN])with⟨hP,he⟩|⟨i,hi,_,hP,he⟩
 ·rw[he];refine⟨true,rfl,⟨λ_ i hi h0=>?_,λ_=>rfl⟩⟩;grind
 ·rw[he];refine⟨false,rfl,⟨λh=>(by cases h),λh=>?_⟩⟩;exact absurd (h (i+1) (by omega) (by omega)) (by simpa using hP)
def xJ(c:aC)(i:Nat):Prop:=
 (i=0->c.2.1.getD 0 0=0)/\(0<i->c.2.1.getD (i-1) 0<c.2.1.getD i 0)/\0<=c.2.1.getD i 0/\c.2.1.getD i 0<c.1.length/\0<=c.2.2.1.getD i 0/\c.2.2.1.getD i 0<=512
def aeR(c:aC):Prop:=∀i,i<c.2.2.2.2.1.length->0<=(c.2.2.2.2.1.getD i ([],0)).2/\(c.2.2.2.2.1.getD i ([],0)).2<=3
def adA(c:aC):Prop:=1<=c.2.1.length/\c.2.2.1.length=c.2.1.length/\c.2.2.2.2.2.2.2.length=c.2.1.length
def agV(c:aC):Prop:=Oh (c.2.2.2.1.map (·.1))/\Oh (c.2.2.2.2.1.map (·.1))/\Oh c.2.2.2.2.2.1/\Oh c.2.2.2.2.2.2.1
def ov(c:aC):Prop:=adA c/\agV c/\(∀i,i<c.2.1.length->xJ c i)/\aeR c
def kA(c:aC):Prop:=c.2.1.length<=1048576/\c.2.2.1.length<=1048576/\c.2.2.2.1.length<=1048576/\c.2.2.2.2.1.length<=1048576/\c.2.2.2.2.2.1.length<=1048576/\c.2.2.2.2.2.2.1.length<=1048576/\c.2.2.2.2.2.2.2.length<=1048576
theorem ad3(c:aC)(hl:c.1.length<=512)(hs:kA c)(hp:adA c)(i:Nat)(hi:i<c.2.1.length)(hP:∀j,j<i->xJ c j) :
  (xJ c i/\d6 c (i:Int)=some (.inl ((i:Int)+1)))\/(¬xJ c i/\d6 c (i:Int)=some (.inr (.inr false))):=by
 obtain⟨p1,p2,p3⟩:=hp;obtain⟨s1,s2,s3⟩:=hs;have hi2:i<c.2.2.1.length:=by omega
 unfold d6 qo;generalize hb:c.2.1.getD i 0=b;generalize hq:c.2.2.1.getD i 0=q;have e1:=aO (0:Int) hi;have e2:=aO (0:Int) hi2;rw[hb]at e1;rw[hq]at e2;rcases Nat.eq_zero_or_pos i with rfl|h0
 ·have hB:xJ c 0↔(b=0/\(0:Int)<c.1.length/\0<=q/\q<=512):=by
   unfold xJ;grind
  have e1':ac c.2.1 0=some b:=e1;have e2':ac c.2.2.1 0=some q:=e2;rw[hB];simp only[az (show((0:Nat):Int)<(c.2.1.length:Int)by omega),bN (show¬(0:Int)<((0:Nat):Int)by omega),f9,aax,f7,Qz2,e1,e2,show(((0:Nat):Int)==(0:Int))=true from rfl];by_cases h1:b<0
  ·right;exact⟨by omega,by simp[h1]⟩
  by_cases h2:0<b
  ·right;exact⟨by omega,by simp[h1,h2]⟩
  by_cases h3:(c.1.length:Int)<=b
  ·right;exact⟨by omega,by simp[h1,h2,h3]⟩
  by_cases h4:q<0
  ·right;exact⟨by omega,by simp[h1,h2,h3,h4]⟩
  by_cases h5:512<q
  ·right;exact⟨by omega,by simp[h1,h2,h3,h4,h5]⟩
  left;refine⟨by omega,?_⟩;simp[h1,h2,h3,h4,h5];rfl
 ·have hpr:i-1<c.2.1.length:=by omega
  have e3:=aO (0:Int) hpr;generalize ha:c.2.1.getD (i-1) 0=a;rw[ha]at e3;have hbp:=hP (i-1) (by omega);unfold xJ at hbp;rw[ha]at hbp;obtain⟨_,_,ha0,ha1,_,_⟩:=hbp;have hB:xJ c i↔(a+1<=b/\b<c.1.length/\0<=q/\q<=512):=by unfold xJ;grind
  rw[hB];have ew:ae (a+1)=a+1:=aM (by omega) (by omega);simp only[az (show(i:Int)<(c.2.1.length:Int)by omega),az (show(0:Int)<(i:Int)by omega),f9,aeV (n:=c.2.1.length) (by omega) hi h0,e3,ew,f7,Qz2,e1,e2,show((i:Int)==(0:Int))=false by grind];by_cases h1:b<a+1
  ·right;exact⟨by omega,by simp[h1]⟩
  by_cases h3:(c.1.length:Int)<=b
  ·right;exact⟨by omega,by simp[h1,h3]⟩
  by_cases h4:q<0
  ·right;exact⟨by omega,by simp[h1,h3,h4]⟩
  by_cases h5:512<q
  ·right;exact⟨by omega,by simp[h1,h3,h4,h5]⟩
  left;refine⟨by omega,?_⟩;simp[h1,h3,h4,h5];exact bM (n:=c.2.1.length) (by omega) hi
theorem abe(c:aC)(hs:kA c):(aeR c/\Itr.it (dW c) 0=some (.inl ()))\/(¬aeR c/\Itr.it (dW c) 0=some (.inr false)):=by
 have hn:c.2.2.2.2.1.length<=1048576:=hs.2.2.2.1;rcases gG (f:=dW c) c.2.2.2.2.1.length (by omega) (λi=>0<=(c.2.2.2.2.1.getD i ([],0)).2/\(c.2.2.2.2.1.getD i ([],0)).2<=3) (λ_=>false)
  (λi hi _=>by
   unfold dW;have e:=aO (([],0):List UInt8×Int) hi;generalize c.2.2.2.2.1.getD i ([],0)=x at e|-;simp only[az (show(i:Int)<(c.2.2.2.2.1.length:Int)by omega),f9,e,f7,Qz2,bM (n:=c.2.2.2.2.1.length) (by omega) hi];grind)
  (λ_=>by unfold dW;grind)with⟨hP,he⟩|⟨i,hi,_,hP,he⟩
 ·exact .inl ⟨hP,he⟩
 ·exact .inr ⟨λh=>hP (h i hi),he⟩
theorem H1(c:aC)(hl:c.1.length<=512)(hs:kA c):∃b,lC c=some b/\(b=true↔ov c):=by
 have hs0:=hs;obtain⟨s1,s2,s3,s4,s5,s6,s7⟩:=hs0;unfold lC;dsimp only;by_cases hp:adA c
 ·have p1:¬((c.2.1.length:Int)<1):=by have:=hp.1;omega
  have p2:(c.2.2.1.length:Int)=c.2.1.length:=by have:=hp.2.1;omega
  have p3:(c.2.2.2.2.2.2.2.length:Int)=c.2.1.length:=by have:=hp.2.2;omega
  obtain⟨b1,g1,k1⟩:=mL (c.2.2.2.1.map (·.1)) (by simpa using s3);obtain⟨b2,g2,k2⟩:=mL (c.2.2.2.2.1.map (·.1)) (by simpa using s4);obtain⟨b3,g3,k3⟩:=mL c.2.2.2.2.2.1 s5;obtain⟨b4,g4,k4⟩:=mL c.2.2.2.2.2.2.1 s6;have q2:((c.2.2.1.length:Int) != (c.2.1.length:Int))=false:=by simp[p2]
  have q3:((c.2.2.2.2.2.2.2.length:Int) != (c.2.1.length:Int))=false:=by simp[p3]
  simp only[bN p1,q2,q3,aax,f9,abR,vl _ s3,f7,Qz2,g1];cases b1
  ·exact⟨false,rfl,λh=>(by cases h),λh=>(by have:=k1.2 h.2.1.1;cases this)⟩
  simp only[acd,abR,aax,f9,vl _ s4,f7,Qz2,g2];cases b2
  ·exact⟨false,rfl,λh=>(by cases h),λh=>(by have:=k2.2 h.2.1.2.1;cases this)⟩
  simp only[acd,abR,aax,f9,f7,Qz2,g3];cases b3
  ·exact⟨false,rfl,λh=>(by cases h),λh=>(by have:=k3.2 h.2.1.2.2.1;cases this)⟩
  simp only[acd,abR,aax,f9,f7,Qz2,g4];cases b4
  ·exact⟨false,rfl,λh=>(by cases h),λh=>(by have:=k4.2 h.2.1.2.2.2;cases this)⟩
  simp only[acd,aax];have hinc:agV c:=⟨k1.1 rfl,k2.1 rfl,k3.1 rfl,k4.1 rfl⟩
  rcases gG (f:=d6 c) c.2.1.length (by omega) (xJ c) (λ_=>false) (ad3 c hl hs hp) (λ_=>by unfold d6;grind)with⟨hP,he⟩|⟨i,hi,_,hP,he⟩
  ·rw[he];simp only[f7,Qz2];rcases abe c hs with⟨hc,he⟩|⟨hc,he⟩
   ·rw[he];exact⟨true,rfl,λ_=>⟨hp,hinc,hP,hc⟩,λ_=>rfl⟩
   ·rw[he];exact⟨false,rfl,λh=>(by cases h),λh=>absurd h.2.2.2 hc⟩
  ·rw[he];exact⟨false,rfl,λh=>(by cases h),λh=>absurd (h.2.2.1 i hi) hP⟩
 ·refine⟨false,?_,λh=>(by cases h),λh=>absurd h.1 hp⟩;by_cases p1:(c.2.1.length:Int)<1
  ·grind
  rw[bN p1];by_cases p2:(c.2.2.1.length:Int)=c.2.1.length
  ·have p3:¬((c.2.2.2.2.2.2.2.length:Int)=c.2.1.length):=λh=>hp ⟨by omega,by omega,by omega⟩;grind
  grind
def rT(b:List Int):Prop:=1<=b.length/\b.length<=1048576/\b.getD 0 0=0/\∀i,i<b.length->0<i->b.getD (i-1) 0<b.getD i 0
def lz(b:List Int)(pc:Int)(k:Nat):Prop:=k<b.length/\b.getD k 0<=pc/\(k+1<b.length->pc<b.getD (k+1) 0)
theorem am3(h:rT b):∀d i,i+d+1<b.length->b.getD i 0<b.getD (i+d+1) 0:=by
 intro d;induction d with
 |zero=>intro i hi;have:=h.2.2.2 (i+1) (by omega) (by omega);grind
 |succ d ih=>
  intro i hi;have h1:=ih i (by omega);have h2:=h.2.2.2 (i+d+1+1) (by omega) (by omega);grind
theorem wW(h:rT b)(hij:i<j)(hj:j<b.length):b.getD i 0<b.getD j 0:=by have:=am3 h (j-i-1) i (by omega);grind
theorem pU(h:rT b)(hij:i<=j)(hj:j<b.length):b.getD i 0<=b.getD j 0:=by
 rcases akS hij with h1|h1
 ·exact Int.le_of_lt (wW h h1 hj)
 grind
theorem MD(h:rT b)(hi:i<b.length):0<=b.getD i 0:=by have:=pU h (afX i) hi;rw[h.2.2.1]at this;exact this
theorem sI(h:ov c)(hs:kA c):rT c.2.1:=⟨h.1.1,hs.1,(h.2.2.1 0 h.1.1).1 rfl,λi hi h0=>(h.2.2.1 i hi).2.1 h0⟩
theorem Pw(h:rT b){pc:Int}{k:Nat}(h1:lz b pc j)(h2:lz b pc k):j=k:=by
 obtain⟨a1,a2,a3⟩:=h1;obtain⟨b1,b2,b3⟩:=h2;rcases ala j k with hl|hl|hl
 ·have:=a3 (by omega);have:=pU h (show j+1<=k by omega) b1;omega
 ·exact hl
 ·have:=b3 (by omega);have:=pU h (show k+1<=j by omega) a1;omega
theorem Z3(h:rT b){pc:Int}(hp:0<=pc):∃k,lz b pc k:=by
 have gen:∀n,n<b.length->(∃k,k<=n/\b.getD k 0<=pc/\(k+1<=n->pc<b.getD (k+1) 0)):=by
  intro n;induction n with
  |zero=>intro _;exact⟨0,by omega,by rw[h.2.2.1];exact hp,by omega⟩
  |succ n ih=>
   grind
 obtain⟨k,h1,h2,h3⟩:=gen (b.length-1) (by have:=h.1;omega);have:=h.1;exact⟨k,by omega,h2,λhk=>h3 (by omega)⟩
theorem Pf{pc:Int}{k:Nat}(h:rT c.2.1)(hk:lz c.2.1 pc k):ga c pc=some (k:Int):=by
 obtain⟨k1,k2,k3⟩:=hk;unfold ga;have hl:=h.2.1;have:=eC (f:=lT c pc) (λs=>k-s.toNat) (λ_=>(k:Int)) (λs=>∃j:Nat,s=(j:Int)/\j<=k)
  (λs hs=>by
   obtain⟨j,rfl,hj⟩:=hs;unfold lT;have e:ae ((j:Int)+1)=((j+1:Nat):Int):=by rw[bM (n:=c.2.1.length) (by omega) (by omega)];rfl
   rw[e];by_cases hn:j+1<c.2.1.length
   ·simp only[az (show((j+1:Nat):Int)<(c.2.1.length:Int)by omega),f9,aO 0 hn,f7,Qz2];rcases akS hj with hl2|hl2
    ·right;refine⟨((j+1:Nat):Int),?_,⟨j+1,rfl,by omega⟩,by simp;omega,(by trivial)⟩;rw[az (akI (pU h (show j+1<=k by omega) k1) k2)];rfl
    grind
   grind) (s:=0) ⟨0,rfl,by omega⟩ (by grind)
 rw[this];rfl
theorem apZ{pc:Int}{k:Nat}(h:rT c.2.1)(hk:lz c.2.1 pc k):oP c pc=some (k:Int):=by
 obtain⟨k1,k2,k3⟩:=hk;unfold oP;have hl:=h.2.1;have:=eC (f:=mX c pc) (λs=>c.2.1.length-s.2.toNat) (λ_=>(k:Int)) (λs=>∃j:Nat,s.2=(j:Int)/\j<=c.2.1.length/\s.1=if j<=k then(j:Int)-1 else(k:Int))
  (λs hs=>by
   obtain⟨s1,s2⟩:=s;obtain⟨j,h1,hj,h2⟩:=hs;dsimp only at h1 h2;subst h1 h2;unfold mX;by_cases hn:j<c.2.1.length
   ·right;simp only[az (show(j:Int)<(c.2.1.length:Int)by omega),f9,aO 0 hn,f7,Qz2,bM (n:=c.2.1.length) (by omega) hn];by_cases hjk:j<=k
    ·rw[az (akI (pU h hjk k1) k2)];refine⟨_,rfl,⟨j+1,rfl,by omega,?_⟩,by grind,(by trivial)⟩;grind
    ·rw[bN (by have:=k3 (by omega);have:=pU h (show k+1<=j by omega) hn;omega)];refine⟨_,rfl,⟨j+1,rfl,by omega,?_⟩,by grind,(by trivial)⟩;grind
   grind) (s:=(-1,0)) ⟨0,rfl,by omega,by simp⟩ (by grind)
 rw[this];rfl
theorem abK(x y:Int):rC x y=some (decide (x<y)):=by unfold rC qx;simp
theorem asj{n:Nat}(h:n<4611686018427387904):d9 .u64 (IntKind.u64.wrap (n:Int)) (1:Int)=((n / 2:Nat):Int):=by rw[IntKind.wrap_u64,show(n:Int)%18446744073709551616=n by omega];show Int.fdiv (n:Int) (2 ^ (min (1:Int).toNat 64))=_;grind
theorem V2{pc:Int}{k:Nat}(h:rT b)(hk:lz b pc k)(hp:0<=pc):gf b pc=some (if b.getD k 0=pc then((k:Int),true)else((k:Int)+1,false)):=by
 obtain⟨k1,k2,k3⟩:=hk;have hl:=h.2.1;unfold gf;generalize hr:(if b.getD k 0=pc then k else k+1)=r;have hrn:r<=b.length:=by grind
 have lo:∀j,j<r->b.getD j 0<pc:=by
  intro j hj;rw[<-hr]at hj;split at hj
  ·have:=wW h hj k1;omega
  ·have:=pU h (show j<=k by omega) k1;omega
 have hi:∀j,r<=j->j<b.length->pc<=b.getD j 0:=by
  intro j hj hjn;rw[<-hr]at hj;split at hj
  ·have:=pU h hj hjn;omega
  ·have:=k3 (by omega);have:=pU h (show k+1<=j by omega) hjn;omega
 have:=eC (f:=gy b pc) (λs=>s.2.toNat-s.1.toNat) (λ_=>(r:Int)) (λs=>∃x y:Nat,s=((x:Int),(y:Int))/\x<=r/\r<=y/\y<=b.length)
  (λs hs=>by
   obtain⟨x,y,rfl,hx,hy,hyn⟩:=hs;unfold gy;by_cases hxy:x<y
   ·right;have e1:ae ((x:Int)+(y:Int))=((x+y:Nat):Int):=by rw[aM (by omega) (by omega)];omega
    have e2:ae (((x+y) / 2:Nat):Int)=(((x+y) / 2:Nat):Int):=aM (by omega) (by omega);have e3:ae ((((x+y) / 2:Nat):Int)+1)=(((x+y) / 2+1:Nat):Int):=by rw[aM (by omega) (by omega)];omega
    have hm:(x+y) / 2<b.length:=by omega
    simp only[az (show(x:Int)<(y:Int)by omega),az (show(0:Int)<=1 by omega),af,f9,e1,asj (show x+y<4611686018427387904 by omega),e2,e3,aO 0 hm,f7,Qz2,abK];by_cases hb:b.getD ((x+y) / 2) 0<pc
    ·rw[az hb];refine⟨_,rfl,⟨(x+y) / 2+1,y,rfl,?_,hy,hyn⟩,by grind,(by trivial)⟩;grind
    ·rw[bN hb];refine⟨_,rfl,⟨x,(x+y) / 2,rfl,hx,?_,by omega⟩,by grind,(by trivial)⟩;grind
   grind) (s:=(0,(b.length:Int))) ⟨0,b.length,rfl,by omega,hrn,by omega⟩ (by grind)
 rw[this];simp only[f7,Qz2];by_cases he:b.getD k 0=pc
 ·grind[az,aO,Bool.not_true]
 grind[nJ,az,aO,Bool.not_false,bne_self_eq_false]
theorem akA{pc:Int}{k:Nat}(h:rT c.2.1)(hk:lz c.2.1 pc k)(hp:0<=pc):gx c pc=some (k:Int):=by unfold gx;have:=h.2.1;have:=hk.1;rw[V2 h hk hp];grind[Bool.not_false,aM]
def wL(a lo hi:Int):Prop:=lo<=a/\a<hi
def G1(op:Int):Int:=(ym.getD op.toNat ([],0)).2
def iQ(c:aC)(k:Nat):Int:=if k+1<c.2.1.length then c.2.1.getD (k+1) 0 else c.1.length
def K6(c:aC)(k:Nat)(x:Int×Int×Int):Prop:=
 (x.1=1\/x.1=2\/x.1=24->wL x.2.1 0 (c.2.2.1.getD k 0))/\(x.1=10\/x.1=11->wL x.2.1 (c.2.1.getD k 0) (iQ c k))/\(x.1=12\/x.1=18->wL x.2.1 0 c.2.1.length) /\
 (x.1=14->0<=x.2.1/\x.2.2=k)/\(x.1=15->wL x.2.1 1 100)/\(x.1=16\/x.1=17->wL x.2.1 0 c.2.2.2.1.length)/\(x.1=19\/x.1=20->wL x.2.1 0 c.2.2.2.2.1.length) /\
 (x.1=21\/x.1=22->wL x.2.1 0 c.2.2.2.2.2.1.length)/\(x.1=23->wL x.2.1 2 7)/\(x.1=25->wL x.2.1 1 10)/\(x.1=26\/x.1=27->wL x.2.1 0 c.2.2.2.2.2.2.1.length) /\
 (x.1=20\/x.1=23\/x.1=27->wL x.2.2 0 (c.2.2.1.getD k 0))
def ajd(c:aC)(k:Nat)(pc:Int)(x:Int×Int×Int):Prop:=
 (G1 x.1<2->x.2.2=0)/\(G1 x.1<1->x.2.1=0)/\(x.1=13->k+1≠c.2.1.length)/\(x.1=28->k+1=c.2.1.length)/\(pc+1=iQ c k->x.1=13\/x.1=28)
def WX(c:aC)(k:Nat)(pc:Int)(x:Int×Int×Int):Prop:=(0<=x.1/\x.1<29)/\ajd c k pc x/\K6 c k x
theorem apA(h0:0<=op)(h1:op<29):op=0\/op=1\/op=2\/op=3\/op=4\/op=5\/op=6\/op=7\/op=8\/op=9\/op=10\/op=11\/op=12\/op=13\/op=14\/op=15\/op=16\/op=17\/op=18\/op=19\/op=20\/op=21\/op=22\/op=23\/op=24\/op=25\/op=26\/op=27\/op=28:=by omega
theorem yX(p q:Prop)[Decidable p][Decidable q]:(bif decide p then decide q else false)=decide (p/\q):=by grind
theorem zr(p q:Prop)[Decidable p][Decidable q]:(bif decide p then true else decide q)=decide (p\/q):=by grind
theorem En(a b:Int):(a==b)=decide (a=b):=by grind
theorem arC(a b:Int):(a != b)=decide (a≠b):=by grind
theorem ari(p:Prop)[Decidable p]:(!decide p)=decide (¬p):=by grind
theorem YB(a lo hi:Int):bJ a lo hi=some (decide (lo<=a/\a<=hi)):=by unfold bJ;rw[yX]
theorem PH(h0:0<=op)(h1:op<29):jY op=some (G1 op):=by rcases apA h0 h1 with h|h|h|h|h|h|h|h|h|h|h|h|h|h|h|h|h|h|h|h|h|h|h|h|h|h|h|h|h<;>subst h<;>rfl
theorem apk(p q:Bool):((bif p then some q else some false).bind λr=>(some (Sum.inr (bif p then r else false)):Option (α⊕Bool)))=some (Sum.inr (p&&q)):=by grind
theorem ao2(c:aC)(k:Nat)(hs:kA c)(hL:ov c)(hk:k<c.2.1.length)(x:Int×Int×Int)(h0:0<=x.1)(h1:x.1<29)(he:1<=iQ c k)(he2:iQ c k<=512) :
  ∃r,nP x (c.2.2.1.getD k 0) c (k:Int) (iQ c k)=some r/\((match r with|.inl _=>true|.inr b=>b)=true↔K6 c k x):=by
 obtain⟨op,a,b⟩:=x;obtain⟨s1,s2,s3,s4,s5,s6,s7⟩:=hs;obtain⟨_,_,_,_,l1,l2⟩:=hL.2.2.1 k hk;have hn':(c.2.2.2.2.2.2.2.length:Int)=c.2.1.length:=by have:=hL.1.2.2;omega
 have eb:ac c.2.1 (k:Int)=some (c.2.1.getD k 0):=aO 0 hk;have w1:ae (c.2.2.1.getD k 0-1)=c.2.2.1.getD k 0-1:=aM (by omega) (by omega);have w2:ae (iQ c k-1)=iQ c k-1:=aM (by omega) (by omega);have w3:ae ((c.2.2.2.2.2.2.2.length:Int)-1)=(c.2.2.2.2.2.2.2.length:Int)-1:=aM (by omega) (by omega);have w4:ae ((c.2.2.2.1.length:Int)-1)=(c.2.2.2.1.length:Int)-1:=aM (by omega) (by omega);have w5:ae ((c.2.2.2.2.1.length:Int)-1)=(c.2.2.2.2.1.length:Int)-1:=aM (by omega) (by omega);have w6:ae ((c.2.2.2.2.2.1.length:Int)-1)=(c.2.2.2.2.2.1.length:Int)-1:=aM (by omega) (by omega);have w7:ae ((c.2.2.2.2.2.2.1.length:Int)-1)=(c.2.2.2.2.2.2.1.length:Int)-1:=aM (by omega) (by omega);have le (n m:Int):n<=m-1↔n<m:=by omega
 have l99 (n:Int):n<=99↔n<100:=by omega
 have l9 (n:Int):n<=9↔n<10:=by omega
 have l6 (n:Int):n<=6↔n<7:=by omega
 unfold nP;rcases apA h0 h1 with h|h|h|h|h|h|h|h|h|h|h|h|h|h|h|h|h|h|h|h|h|h|h|h|h|h|h|h|h;all_goals
  dsimp only at h
  subst h
  simp only[Int.reduceBEq,f9,aax,f7,Qz2,YB,w1,w2,w3,w4,w5,w6,w7,eb,le,l99,l9,l6,apk]
  refine⟨_,rfl,?_⟩
  simp[K6,wL,En,hn']
theorem aaM(c:aC)(hl:c.1.length<=512)(hs:kA c)(h:ov c)(k:Nat)(pc:Nat)(hk:lz c.2.1 (pc:Int) k)(hpc:pc<c.1.length) :
  ∃b,mK c (pc:Int)=some b/\(b=true↔WX c k pc (c.1.getD pc (0,0,0))):=by
 obtain⟨hk1,hk2,hk3⟩:=hk;have hB:=sI h hs;have hs1:=hs.1;unfold mK;have e1:=aO ((0,0,0):Int×Int×Int) hpc;generalize c.1.getD pc (0,0,0)=x at e1|-;simp only[e1,f7,Qz2];by_cases hop:0<=x.1/\x.1<29;rotate_left
 ·refine⟨false,?_,λh=>(by cases h),λh=>absurd h.1 hop⟩;grind
 rw[zr,bN (by omega),aax];have hb:=h.1.1;have e3:ac c.2.2.1 (k:Int)=some (c.2.2.1.getD k 0):=aO 0 (by have:=h.1.2.1;omega);have ew:ae ((k:Int)+1)=(k:Int)+1:=aM (by omega) (by omega);have ew2:ae ((pc:Int)+1)=(pc:Int)+1:=aM (by omega) (by omega);have he:(bif decide ((k:Int)+1<(c.2.1.length:Int))then(ac c.2.1 ((k:Int)+1)).bind λ_=>(ac c.2.1 ((k:Int)+1)).bind λv8=>some v8 else some (c.1.length:Int))=some (iQ c k):=by
  unfold iQ;by_cases h1:k+1<c.2.1.length
  ·rw[az (by omega),if_pos h1,f9,show(k:Int)+1=((k+1:Nat):Int)from rfl,aO 0 h1];rfl
  grind
 have hend:1<=iQ c k/\iQ c k<=512:=by
  unfold iQ;split
  ·rename_i h1;have h2:=wW hB (show 0<k+1 by omega) h1;rw[hB.2.2.1]at h2;have h3:=(h.2.2.1 (k+1) h1).2.2.2.1;omega
  ·omega
 obtain⟨r,hr,hr2⟩:=ao2 c k hs h hk1 x hop.1 hop.2 hend.1 hend.2;have ho:=PH hop.1 hop.2;simp only[apZ hB ⟨hk1,hk2,hk3⟩,f7,Qz2,ew,ew2,he,ho];rw[show(bif !bif decide (G1 x.1<2)then x.2.2 != 0 else false then some (G1 x.1)else some 0)=some (bif !bif decide (G1 x.1<2)then x.2.2 != 0 else false then G1 x.1 else 0)by grind];simp only[f7,Qz2];unfold WX ajd;generalize G1 x.1=o at *;by_cases h0:o<2/\x.2.2≠0
 ·rw[az h0.1,nt h0.2];grind
 rw[show(bif decide (o<2)then x.2.2 != 0 else false)=false by grind];simp only[f9,aax,abR,En,arC,yX,zr,ari];by_cases h1:(o<2->x.2.2=0)/\(o<1->x.2.1=0)/\(x.1=13->k+1≠c.2.1.length)/\(x.1=28->k+1=c.2.1.length)/\((pc:Int)+1=iQ c k->x.1=13\/x.1=28)
 rotate_left
 ·rw[az (by omega)];grind
 rw[bN (by omega),aax];simp only[e3,f7,Qz2,hr];have hall:∀{p:Prop},(p↔K6 c k x)->(p↔(0<=x.1/\x.1<29)/\((o<2->x.2.2=0)/\(o<1->x.2.1=0)/\(x.1=13->k+1≠c.2.1.length)/\(x.1=28->k+1=c.2.1.length)/\((pc:Int)+1=iQ c k->x.1=13\/x.1=28))/\K6 c k x):=
  λhp=>⟨λh=>⟨hop,h1,hp.1 h⟩,λh=>hp.2 h.2.2⟩
 rcases r with s|b
 ·grind
 grind
def eF(c:aC)(pc:Nat):Int×Int×Int:=c.1.getD pc (0,0,0)
def Pm(c:aC):Prop:=∀k pc:Nat,pc<c.1.length->lz c.2.1 (pc:Int) k->WX c k pc (eF c pc)
def VE(c:aC)(e:Int):Prop:=
 (512<c.1.length/\e=4)\/(c.1.length<=512/\¬ov c/\e=1)\/(c.1.length<=512/\ov c/\¬Pm c/\e=2)\/(c.1.length<=512/\ov c/\Pm c/\e=0)
theorem Zc(c:aC)(hs:kA c):∃k e,gK c=some (k,e)/\VE c e:=by
 unfold gK;by_cases hl:c.1.length<=512;rotate_left
 ·rw[az (by omega)];exact⟨0,4,rfl,.inl ⟨by omega,rfl⟩⟩
 rw[bN (by omega),aax];obtain⟨b,hb,hb2⟩:=H1 c hl hs;rw[hb];cases b
 ·exact⟨0,1,rfl,.inr (.inl ⟨hl,λh=>(by grind),rfl⟩)⟩
 have hL:=hb2.1 rfl;have hB:=sI hL hs;simp only[f7,Qz2,acd,aax];rcases gG (f:=iD c) c.1.length (by omega) (λpc=>∀k,lz c.2.1 (pc:Int) k->WX c k pc (eF c pc)) (λi=>((i:Int),2))
  (λi hi _=>by
   unfold iD;obtain⟨k,hk⟩:=Z3 hB (show(0:Int)<=(i:Int)by omega);obtain⟨b,hb,hb2⟩:=aaM c hl hs hL k i hk hi;rw[az (show(i:Int)<(c.1.length:Int)by omega),f9,hb];simp only[f7,Qz2];cases b
   ·right;exact⟨λh=>(by have:=hb2.2 (h k hk);cases this),rfl⟩
   ·left;refine⟨λk' hk'=>by rw[Pw hB hk' hk];exact hb2.1 rfl,?_⟩;rw[bM (n:=c.1.length) (by omega) hi];rfl)
  (λ_=>by unfold iD;grind)with⟨hP,he⟩|⟨i,hi,_,hP,he⟩
 ·rw[he];exact⟨_,0,rfl,.inr (.inr (.inr ⟨hl,hL,λk pc hpc hk=>hP pc hpc k hk,rfl⟩))⟩
 ·rw[he];exact⟨_,2,rfl,.inr (.inr (.inl ⟨hl,hL,λh=>hP λk hk=>h k i hi hk,rfl⟩))⟩
theorem Og(hs:kA c)(h:ov c){k:Nat}(hk:k<c.2.1.length):c.2.1.getD k 0<iQ c k/\iQ c k<=c.1.length:=by
 unfold iQ;split
 ·rename_i h1;have h2:=wW (sI h hs) (show k<k+1 by omega) h1;have h3:=(h.2.2.1 (k+1) h1).2.2.2.1;omega
 ·have h3:=(h.2.2.1 k hk).2.2.2.1;omega
theorem uI(hs:kA c)(h:ov c){k:Nat}(hpc:pc<c.1.length):lz c.2.1 (pc:Int) k↔k<c.2.1.length/\c.2.1.getD k 0<=pc/\(pc:Int)<iQ c k:=by unfold lz iQ;grind
theorem zi(c:aC)(hs:kA c):∃k e,gK c=some (k,e)/\VE c e:=by obtain⟨k,e',h3,h4⟩:=Zc c hs;exact⟨k,e',h3,h4⟩
abbrev CC:Type:=aC
abbrev aF:Type:=ax
abbrev Fr:Type:=Int×List Int
abbrev Th:Type:=aj
abbrev ce:Type:=Int×Int×Int
def bi(c:CC):Prop:=c.1.length<=512/\ov c/\Pm c/\kA c
def xx(c:CC)(f:Fr):Prop:=∃k pc:Nat,f.1=(pc:Int)/\pc<c.1.length/\lz c.2.1 (pc:Int) k/\(f.2.length:Int)=c.2.2.1.getD k 0
def fl(n:Int)(r:aX):wq:=(n,r.1.1,r.1.2.1,r.1.2.2.1,r.1.2.2.2.1,r.1.2.2.2.2.1,r.1.2.2.2.2.2.1,r.1.2.2.2.2.2.2.1,r.1.2.2.2.2.2.2.2,r.2.1.1,r.2.1.2.1,r.2.1.2.2,r.2.2.1.1,r.2.2.1.2.1,r.2.2.1.2.2.1,r.2.2.1.2.2.2.1,r.2.2.1.2.2.2.2.1,r.2.2.1.2.2.2.2.2.1,r.2.2.1.2.2.2.2.2.2.1,r.2.2.1.2.2.2.2.2.2.2.1.1,r.2.2.1.2.2.2.2.2.2.2.1.2.1,r.2.2.1.2.2.2.2.2.2.2.1.2.2,r.2.2.1.2.2.2.2.2.2.2.2.1,r.2.2.1.2.2.2.2.2.2.2.2.2.1,r.2.2.1.2.2.2.2.2.2.2.2.2.2.1,r.2.2.1.2.2.2.2.2.2.2.2.2.2.2,r.2.2.2)
def NC(s:aF)(a:Int):aF:=(s.1,s.2.1,s.2.2.1,s.2.2.2.1,s.2.2.2.2.1,s.2.2.2.2.2.1,s.2.2.2.2.2.2.1,(s.2.2.2.2.2.2.2.1.1,ae (s.2.2.2.2.2.2.2.1.2.1+a),s.2.2.2.2.2.2.2.1.2.2),s.2.2.2.2.2.2.2.2)
def sU(s:aF)(o site:Int)(w:List UInt8):aF:=(s.1,s.2.1,s.2.2.1,s.2.2.2.1,s.2.2.2.2.1,s.2.2.2.2.2.1,s.2.2.2.2.2.2.1,s.2.2.2.2.2.2.2.1,s.2.2.2.2.2.2.2.2.1,o,site,w)
def bA(s:aF)(i:Nat)(t:Th):aF:=(s.1.set i t,s.2)
def OP(op a b:Int):Int:=if op=4 then ae (a+b)else if op=5 then ae (a-b)else if op=6 then ae (a*b)else if op=7 then(if a<b then 1 else 0)else if op=8 then(if a<=b then 1 else 0)else(if a=b then 1 else 0)
def nv(c:CC)(kind:Int)(s:aF)(i:Nat)(fs:List Fr)(f:Fr)(st:List Int)(w:Int)(x:ce):Option aF:=
 let pu (v:Int):Option aF:=if 16<=st.length then none else some (bA s i (fs++[(ae (f.1+1),f.2)],st++[v],w,false))
 let po (g:Int->aF):Option aF:=if st.length=0 then none else some (g (st.getD (st.length-1) 0))
 let st1:=st.take (st.length-1)
 if x.1=0 then pu x.2.1 else if x.1=1 then pu (f.2.getD x.2.1.toNat 0)else if x.1=3 then pu kind
 else if x.1=2 then po λv=>bA s i (fs++[(ae (f.1+1),f.2.set x.2.1.toNat v)],st1,w,false)
 else if x.1=10 then some (bA s i (fs++[(x.2.1,f.2)],st,w,false))
 else if x.1=11 then po λv=>bA s i (fs++[(if v=0 then x.2.1 else ae (f.1+1),f.2)],st1,w,false)
 else if x.1=12 then if 8<=fs.length+1 then none else some (bA s i (fs++[(ae (f.1+1),f.2)]++[(c.2.1.getD x.2.1.toNat 0,List.replicate (c.2.2.1.getD x.2.1.toNat 0).toNat 0)],st,w,false))
 else if x.1=13 then some (bA s i (fs,st,w,false))
 else if x.1=14 then po λv=>let s':=bA s i (fs++[(ae (f.1+1),f.2)],st1,w,false);if v=0 then sU s' 1 x.2.1 (c.2.2.2.2.2.2.2.getD x.2.2.toNat [])else s'
 else if x.1=15 then some (NC (bA s i (fs++[(ae (f.1+1),f.2)],st,w,false)) x.2.1)
 else if st.length<2 then none else some (bA s i (fs++[(ae (f.1+1),f.2)],st.take (st.length-2)++[OP x.1 (st.getD (st.length-2) 0) (st.getD (st.length-1) 0)],w,false))
theorem acJ(fs:List α)(f:α)(h:fs.length<9223372036854775807):ac (fs++[f]) (ae (((fs++[f]).length:Int)-1))=some f:=by rw[aM (by grind) (by grind)];simp[ac]
theorem px(fs:List α)(f g:α):(fs++[f]).set fs.length g=fs++[g]:=by simp
theorem Zv(fs:List α)(f:α):(fs++[f]).take fs.length=fs:=by simp
theorem ny{xs:List α}{v:α}(h:xs[i]?=some v):xs.set i v=xs:=by apply ac7;grind
set_option maxRecDepth 4000
theorem aqj(h0:0<=op)(h1:op<16):op=0\/op=1\/op=2\/op=3\/op=10\/op=11\/op=12\/op=13\/op=14\/op=15\/(op=4\/op=5\/op=6\/op=7\/op=8\/op=9):=by omega
structure AtP(c:CC)(s:aF)(i:Nat)(fs:List Fr)(f:Fr)(st:List Int)(w:Int)(x:ce)(k pc:Nat):Prop where
 t:s.1[i]?=some (fs++[f],st,w,false)
 n:fs.length<8
 m:st.length<=16
 pc1:f.1=(pc:Int)
 pc2:pc<c.1.length
 pr:lz c.2.1 (pc:Int) k
 lo:(f.2.length:Int)=c.2.2.1.getD k 0
 x:eF c pc=x
abbrev bW:Type:=Int×Int×Bool
theorem BY{s:aF}{t t':Th}(h:s.1[i]?=some t):(bA s i t').1[i]?=some t':=by show(s.1.set i t')[i]?=some t';grind
theorem fR{s:aF}{t t':Th}:bA (bA s i t) i t'=bA s i t':=by
 show((s.1.set i t).set i t',s.2)=(s.1.set i t',s.2)
 simp_all
theorem ka{s:aF}{t:Th}(h:s.1[i]?=some t):decide ((0:Int)<=(i:Int)/\(i:Int)<(s.1.length:Int)-0)=true:=by grind
theorem AQ{c:CC}{e:ce}{s:aF}{a:List bW}{fr:List Fr}{b:Bool}(h:s.1[i]?=some (fr,st,w,b))(v:Int) :
  fp (c,e,s,a) (i:Int) v=some (if 16<=st.length then(false,(c,e,s,a))else(true,(c,e,bA s i (fr,st++[v],w,b),a))):=by
 unfold fp;simp only[cL h,f7,Qz2,af,ka h,f9,adH,acM];by_cases hv:16<=st.length
 ·grind
 ·rw[bN (show¬(16:Int)<=(st.length:Int)by omega),if_neg hv,show aH st.length ([v]:List Int).length 8=true from aT (by grind) (by omega)];rfl
theorem za{c:CC}{e:ce}{s:aF}{a:List bW}{fr:List Fr}{b:Bool}(h:s.1[i]?=some (fr,st,w,b))(hm:st.length<=1048576) :
  cO (c,e,s,a) (i:Int)=some (if st.length=0 then(0,false,(c,e,s,a))else(st.getD (st.length-1) 0,true,(c,e,bA s i (fr,st.take (st.length-1),w,b),a))):=by
 unfold cO;have ew1:ae ((st.length:Int)-1)=(st.length:Int)-1:=aM (by omega) (by omega);have eto1:((st.length:Int)-1).toNat=st.length-1:=by omega
 simp only[cL h,f7,Qz2,af,ka h,f9,adH,acM,aaR,ny h,ew1];by_cases hv:st.length=0
 ·grind
 ·rw[show((st.length:Int)==0)=false by grind,if_neg hv,bH 0 (by omega) (by omega),az (show 0<=(st.length:Int)-1/\(st.length:Int)-1<=st.length by omega),eto1];rfl
theorem l7{c:CC}{e:ce}{s:aF}{a:List bW}{fs:List Fr}{f:Fr}{b:Bool}(h:s.1[i]?=some (fs++[f],st,w,b))(hn:fs.length<1048576) :
  bF (c,e,s,a) (i:Int)=some (c,e,bA s i (fs++[(ae (f.1+1),f.2)],st,w,b),a):=by
 unfold bF;have efr:∀g:Fr,ac (fs++[g]) (fs.length:Int)=some g:=λg=>by simp[ac]
 have ela:∀g:Fr,((fs++[g]).length:Int)=(fs.length:Int)+1:=λg=>by simp
 have ewl:ae ((fs.length:Int)+1-1)=(fs.length:Int):=by rw[aM (by omega) (by omega)];omega
 simp only[cL h,f7,Qz2,af,ka h,f9,adH,acM,ela,ewl,efr,aaR,px];rfl
theorem YA{c:CC}{e:ce}{s:aF}{a:List bW}{fs:List Fr}{f:Fr}{b:Bool}(h:s.1[i]?=some (fs++[f],st,w,b))(hn:fs.length<1048576)(v:Int) :
  gN (c,e,s,a) (i:Int) v=some (c,e,bA s i (fs++[(v,f.2)],st,w,b),a):=by
 unfold gN;have efr:∀g:Fr,ac (fs++[g]) (fs.length:Int)=some g:=λg=>by simp[ac]
 have ela:∀g:Fr,((fs++[g]).length:Int)=(fs.length:Int)+1:=λg=>by simp
 have ewl:ae ((fs.length:Int)+1-1)=(fs.length:Int):=by rw[aM (by omega) (by omega)];omega
 simp only[cL h,f7,Qz2,af,ka h,f9,adH,acM,ela,ewl,efr,aaR,px];rfl
theorem arg{c:CC}{e:ce}{s:aF}{a:List bW}{fr:List Fr}{b:Bool}(h:s.1[i]?=some (fr,st,w,b))(hm:st.length<=16)(ho:op=4\/op=5\/op=6\/op=7\/op=8\/op=9) :
  kP (c,e,s,a) op (i:Int)=some (if st.length<2 then(false,(c,e,s,a))else(true,(c,e,bA s i (fr,st.take (st.length-2)++[OP op (st.getD (st.length-2) 0) (st.getD (st.length-1) 0)],w,b),a))):=by
 unfold kP;simp only[cL h,f7,Qz2];by_cases hv:st.length<2
 ·grind
 rw[bN (show¬(st.length:Int)<2 by omega),if_neg hv];have h1:(bA s i (fr,st.take (st.length-1),w,b)).1[i]?=some (fr,st.take (st.length-1),w,b):=BY h;have e1:(st.take (st.length-1)).length=st.length-1:=by simp
 have e2:(st.take (st.length-1)).getD (st.length-1-1) 0=st.getD (st.length-2) 0:=by grind
 have e3:(st.take (st.length-1)).take (st.length-1-1)=st.take (st.length-2):=by grind
 have h2:(bA s i (fr,st.take (st.length-2),w,b)).1[i]?=some (fr,st.take (st.length-2),w,b):=BY h;simp only[aax,za h (by omega),if_neg (show¬st.length=0 by omega),f7,Qz2,za h1 (by omega),e1,if_neg (show¬st.length-1=0 by omega),fR,e2,e3];have hop:∀x y:Int,(bif op==(4:Int)then some (ae (x+y))else bif op==(5:Int)then some (ae (x-y))else bif op==(6:Int)then some (ae (x*y))else bif op==(7:Int)then(dv (decide (x<y))).bind λr6=>some r6 else bif op==(8:Int)then(dv (decide (x<=y))).bind λr7=>some r7 else bif op==(9:Int)then(dv (x==y)).bind λr8=>some r8 else some 0)=some (OP op x y):=by intro x y;unfold dv OP;grind
 simp only[hop,f7,Qz2,AQ h2,fR];grind
theorem aq7{c:CC}(hc:bi c){e:ce}{s:aF}{a:List bW}{fs:List Fr}{f:Fr}{x:ce}{k:Nat}(h:AtP c s i fs f st w x k pc)(hop:x.1<16) :
  f0 (c,e,s,a) x (i:Int)=some (match nv c e.1 s i fs f st w x with|none=>(false,(c,e,s,a))|some s'=>(true,(c,e,s',a))):=by
 obtain⟨ht,hn,hm,hpc1,hpc2,hpr,hlo,hx⟩:=h;have hF:=hc.2.2.1 k pc hpc2 hpr;rw[hx]at hF;obtain⟨⟨h0,_⟩,_,hO⟩:=hF;have et:=cL ht;have efr:∀g:Fr,ac (fs++[g]) (fs.length:Int)=some g:=λg=>by simp[ac]
 have ela:∀g:Fr,((fs++[g]).length:Int)=(fs.length:Int)+1:=λg=>by simp
 have ewl:ae ((fs.length:Int)+1-1)=(fs.length:Int):=by rw[aM (by omega) (by omega)];omega
 have pt:∀t',(bA s i t').1[i]?=some t':=λt'=>BY ht;obtain⟨op,u,b⟩:=x;obtain⟨o1,o2,o3,o4,o5,o6,o7,o8,o9,o10,o11,o12⟩:=hO;obtain⟨hl512,hLi,hAF,hSm⟩:=hc;obtain⟨l1,l2,l3,l4,l5,l6⟩:=hLi.2.2.1 k hpr.1;dsimp only at hop h0 o1 o2 o3 o4 o5 o6 o7 o8 o9 o10 o11 o12;unfold f0 od;rcases aqj h0 hop with h|h|h|h|h|h|h|h|h|h|h
 ·subst h;simp only[Int.reduceBEq,f9,aax,f7,Qz2,AQ ht,nv,ace];by_cases hv:16<=st.length
  ·grind
  ·rw[if_neg hv,if_neg hv];simp only[acd,aax,f7,Qz2];rw[show bF _ _=_ from l7 (e:=e) (a:=a) (pt (fs++[f],st++[u],w,false)) (by omega),fR];rfl
 ·subst h;have ei:ac f.2 u=some (f.2.getD u.toNat 0):=by
   obtain⟨g1,g2⟩:=o1 (.inl rfl);exact bH 0 g1 (by omega)
  simp only[Int.reduceBEq,f9,aax,f7,Qz2,et,ela,ewl,efr,ei,AQ ht,nv,ace,Int.reduceEq,aca];by_cases hv:16<=st.length
  ·grind
  ·rw[if_neg hv,if_neg hv];simp only[acd,aax,f7,Qz2];rw[show bF _ _=_ from l7 (e:=e) (a:=a) (pt (fs++[f],st++[f.2.getD u.toNat 0],w,false)) (by omega),fR];rfl
 ·subst h;have ei:∀v:Int,ac f.2 u=some (f.2.getD u.toNat 0):=by
   obtain⟨g1,g2⟩:=o1 (.inr (.inl rfl));exactλ_=>bH 0 g1 (by omega)
  simp only[Int.reduceBEq,f9,aax,f7,Qz2,nv,ace,Int.reduceEq,aca,za ht (show st.length<=1048576 by omega)];by_cases hv:st.length=0
  ·grind
  ·rw[if_neg hv,if_neg hv];simp only[acd,aax,f7,Qz2,cL (pt _),ela,ewl,efr,ei 0,af,ka (pt _),f9,adH,acM,az (show 0<=(fs.length:Int)/\(fs.length:Int)<(fs.length:Int)+1-0 by omega),aaR,px];refine(aba (λo:Option aA=>o.bind λr33=>some (true,r33)) (l7 (c:=c) (e:=e) (a:=a) (s:=bA (bA s i (fs++[f],st.take (st.length-1),w,false)) i (fs++[(f.1,f.2.set u.toNat (st.getD (st.length-1) 0))],st.take (st.length-1),w,false)) (BY (pt _)) (by omega))).trans ?_;rw[fR,fR];rfl
 ·subst h;simp only[Int.reduceBEq,f9,aax,f7,Qz2,AQ ht,nv,ace,Int.reduceEq,aca];by_cases hv:16<=st.length
  ·grind
  ·rw[if_neg hv,if_neg hv];simp only[acd,aax,f7,Qz2];rw[show bF _ _=_ from l7 (e:=e) (a:=a) (pt (fs++[f],st++[e.1],w,false)) (by omega),fR];rfl
 ·subst h;simp only[Int.reduceBEq,f9,aax,f7,Qz2,nv,ace,Int.reduceEq,aca,YA ht (show fs.length<1048576 by omega)]
 ·subst h;simp only[Int.reduceBEq,f9,aax,f7,Qz2,nv,ace,Int.reduceEq,aca,za ht (show st.length<=1048576 by omega)];by_cases hv:st.length=0
  ·grind
  ·rw[if_neg hv,if_neg hv];simp only[acd,aax];by_cases hz:st.getD (st.length-1) 0=0
   ·rw[if_pos hz,bt hz];simp only[f9,YA (pt _) (show fs.length<1048576 by omega),f7,Qz2,fR]
   ·rw[if_neg hz,bf hz];simp only[aax,f7,Qz2];rw[show bF _ _=_ from l7 (e:=e) (a:=a) (pt (fs++[f],st.take (st.length-1),w,false)) (by omega),fR];rfl
 ·subst h;obtain⟨g1,g2⟩:=o3 (.inl rfl);have ei:ac c.2.1 u=some (c.2.1.getD u.toNat 0):=bH 0 g1 g2;have ej:ac c.2.2.1 u=some (c.2.2.1.getD u.toNat 0):=bH 0 g1 (by have:=hLi.1.2.1;omega);obtain⟨_,_,_,_,q5,q6⟩:=hLi.2.2.1 u.toNat (by omega);simp only[Int.reduceBEq,f9,aax,f7,Qz2,nv,ace,Int.reduceEq,aca,et,ela];by_cases hv:8<=fs.length+1
  ·grind
  ·rw[bN (show¬(8:Int)<=(fs.length:Int)+1 by omega),if_neg hv];simp only[aax,l7 ht (show fs.length<1048576 by omega),f7,Qz2,cL (pt _),af,ka (pt _),f9,adH,acM,ei,ej,aaR];rw[az (show 0<=c.2.2.1.getD u.toNat 0/\c.2.2.1.getD u.toNat 0*8<=281474976710656/\c.2.2.1.getD u.toNat 0<=maxLen by refine⟨q5,by omega,?_⟩;simp only[maxLen];omega),show aH (fs++[(ae (f.1+1),f.2)]).length ([(c.2.1.getD u.toNat 0,List.replicate (c.2.2.1.getD u.toNat 0).toNat 0)]:List Fr).length 32=true from aT (by grind) (by omega)];simp only[f9,f7,Qz2];rw[<-fR (t:=(fs++[(ae (f.1+1),f.2)],st,w,false)) (t':=(fs++[(ae (f.1+1),f.2)]++[(c.2.1.getD u.toNat 0,List.replicate (c.2.2.1.getD u.toNat 0).toNat 0)],st,w,false))];rfl
 ·subst h;have et2:(fs++[f]).take fs.length=fs:=Zv fs f;simp only[Int.reduceBEq,f9,aax,f7,Qz2,nv,ace,Int.reduceEq,aca,et,ela,ewl,af,ka ht,adH,acM,aaR,et2];rw[az (show 0<=(fs.length:Int)/\(fs.length:Int)<=(fs.length:Int)+1 by omega)];rfl
 ·subst h;obtain⟨g1,g2⟩:=o4 rfl;have ei:ac c.2.2.2.2.2.2.2 b=some (c.2.2.2.2.2.2.2.getD b.toNat []):=by
   rw[g2];exact bH [] (by omega) (by have:=hLi.1.2.2;have:=hpr.1;omega)
  simp only[Int.reduceBEq,f9,aax,f7,Qz2,nv,ace,Int.reduceEq,aca,za ht (show st.length<=1048576 by omega)];by_cases hv:st.length=0
  ·grind
  ·rw[if_neg hv,if_neg hv];simp only[acd,aax];by_cases hz:st.getD (st.length-1) 0=0
   ·rw[if_pos hz,bt hz];simp only[f9,ei,f7,Qz2];refine(aba (λo:Option aA=>o.bind λr33=>some (true,r33)) (l7 (c:=c) (e:=e) (a:=a) (s:=sU (bA s i (fs++[f],st.take (st.length-1),w,false)) 1 u (c.2.2.2.2.2.2.2.getD b.toNat [])) (pt _) (by omega))).trans ?_;rw[show bA (sU (bA s i (fs++[f],st.take (st.length-1),w,false)) 1 u (c.2.2.2.2.2.2.2.getD b.toNat [])) i (fs++[(ae (f.1+1),f.2)],st.take (st.length-1),w,false)=sU (bA (bA s i (fs++[f],st.take (st.length-1),w,false)) i (fs++[(ae (f.1+1),f.2)],st.take (st.length-1),w,false)) 1 u (c.2.2.2.2.2.2.2.getD b.toNat [])from rfl,fR];rfl
   ·rw[if_neg hz,bf hz];simp only[aax,f7,Qz2];rw[show bF _ _=_ from l7 (e:=e) (a:=a) (pt (fs++[f],st.take (st.length-1),w,false)) (by omega),fR];rfl
 ·subst h;simp only[Int.reduceBEq,f9,aax,f7,Qz2,nv,ace,Int.reduceEq,aca];exact aba (λo:Option aA=>o.bind λr33=>some (true,r33)) (l7 (c:=c) (e:=e) (a:=a) (s:=NC s u) ht (by omega))
 ·have hne:∀m:Int,(m<4\/9<m)->(op==m)=false/\¬op=m:=λm hm=>⟨by rw[aeQ];omega,by omega⟩
  simp only[f7,Qz2,nv,aax,arg ht hm h,aca,(hne 0 (by omega)).1,(hne 1 (by omega)).1,(hne 2 (by omega)).1,(hne 3 (by omega)).1,(hne 10 (by omega)).1,(hne 11 (by omega)).1,(hne 12 (by omega)).1,(hne 13 (by omega)).1,(hne 14 (by omega)).1,(hne 15 (by omega)).1,(hne 0 (by omega)).2,(hne 1 (by omega)).2,(hne 2 (by omega)).2,(hne 3 (by omega)).2,(hne 10 (by omega)).2,(hne 11 (by omega)).2,(hne 12 (by omega)).2,(hne 13 (by omega)).2,(hne 14 (by omega)).2,(hne 15 (by omega)).2];by_cases hv:st.length<2
  ·grind
  ·rw[if_neg hv,if_neg hv];simp only[acd,aax,f7,Qz2];rw[show bF _ _=_ from l7 (e:=e) (a:=a) (pt (fs++[f],st.take (st.length-2)++[OP op (st.getD (st.length-2) 0) (st.getD (st.length-1) 0)],w,false)) (by omega),fR];rfl
structure Run1(c:CC)(fs:List Fr)(f:Fr)(st:List Int):Prop where
 n:fs.length<8
 m:st.length<=16
 fr:∀g∈fs++[f],xx c g
theorem mh{c:CC}{s:aF}{fs:List Fr}{f:Fr}(ht:s.1[i]?=some (fs++[f],st,w,false))(h:Run1 c fs f st):∃k pc,AtP c s i fs f st w (eF c f.1.toNat) k pc:=by obtain⟨k,pc,h1,h2,h3,h4⟩:=h.fr f (by simp);exact⟨k,pc,ht,h.n,h.m,h1,h2,h3,h4,by rw[h1];rfl⟩
theorem QZ{c:CC}(hc:bi c){k:Nat}(hpc:pc<c.1.length)(hk:lz c.2.1 (pc:Int) k)(h13:(eF c pc).1≠13)(h28:(eF c pc).1≠28){l:List Int}(hl:(l.length:Int)=c.2.2.1.getD k 0) :
  xx c (ae ((pc:Int)+1),l):=by
 obtain⟨hl512,hL,hA,hS⟩:=hc;have hF:=hA k pc hpc hk;have h1:=(uI hS hL hpc).1 hk;have h2:=(Og hS hL h1.1).2;have hlt:(pc:Int)+1<iQ c k:=by have:=hF.2.1.2.2.2.2;grind
 rw[aM (by omega) (by omega)];exact⟨k,pc+1,by simp,by omega,(uI hS hL (by omega)).2 ⟨h1.1,by omega,by omega⟩,hl⟩
theorem ak1{c:CC}(hc:bi c){k:Nat}(hk:k<c.2.1.length)(ha:wL a (c.2.1.getD k 0) (iQ c k)){l:List Int}(hl:(l.length:Int)=c.2.2.1.getD k 0):xx c (a,l):=by obtain⟨hl512,hL,hA,hS⟩:=hc;have h2:=(Og hS hL hk).2;have h3:=MD (sI hL hS) hk;obtain⟨g1,g2⟩:=ha;refine⟨k,a.toNat,by simp;omega,by omega,(uI hS hL (by omega)).2 ⟨hk,by omega,by omega⟩,hl⟩
theorem Gm{c:CC}(hc:bi c){a:Nat}(ha:a<c.2.1.length):xx c (c.2.1.getD a 0,List.replicate (c.2.2.1.getD a 0).toNat 0):=by
 obtain⟨hl512,hL,hA,hS⟩:=hc;have h2:=(Og hS hL ha)
 have h3:=MD (sI hL hS) ha;obtain⟨_,_,_,_,q5,q6⟩:=hL.2.2.1 a ha;refine⟨a,(c.2.1.getD a 0).toNat,(Int.toNat_of_nonneg h3).symm,by omega,(uI hS hL (by omega)).2 ⟨ha,by omega,by omega⟩,?_⟩;grind
def ut(s s':aF):Prop:=
 s'.2.1=s.2.1/\s'.2.2.1=s.2.2.1/\s'.2.2.2.1=s.2.2.2.1/\s'.2.2.2.2.1=s.2.2.2.2.1/\s'.2.2.2.2.2.1=s.2.2.2.2.2.1/\s'.2.2.2.2.2.2.1=s.2.2.2.2.2.2.1/\s'.2.2.2.2.2.2.2.1.1=s.2.2.2.2.2.2.2.1.1/\s'.2.2.2.2.2.2.2.1.2.2=s.2.2.2.2.2.2.2.1.2.2/\s'.2.2.2.2.2.2.2.2.1=s.2.2.2.2.2.2.2.2.1
theorem mE{s:aF}{t:Th}:ut s (bA s i t):=⟨rfl,rfl,rfl,rfl,rfl,rfl,rfl,rfl,rfl⟩
theorem T1{s t u:aF}(h:ut s t)(h':ut t u):ut s u:=by obtain⟨a1,a2,a3,a4,a5,a6,a7,a8,a9⟩:=h;obtain⟨b1,b2,b3,b4,b5,b6,b7,b8,b9⟩:=h';exact⟨b1.trans a1,b2.trans a2,b3.trans a3,b4.trans a4,b5.trans a5,b6.trans a6,b7.trans a7,b8.trans a8,b9.trans a9⟩
theorem D3{c:CC}(hc:bi c){kind:Int}{s s':aF}{fs:List Fr}{f:Fr}{x:ce}{k:Nat}(h:AtP c s i fs f st w x k pc)(hr:Run1 c fs f st)(hop:x.1<16)(hb:x.1=13->fs≠[])
  (he:nv c kind s i fs f st w x=some s'):∃fs' f' st',s'.1=s.1.set i (fs'++[f'],st',w,false)/\Run1 c fs' f' st'/\ut s s':=by
 obtain⟨ht,hn,hm,hpc1,hpc2,hpr,hlo,hx⟩:=h;have hF:=hc.2.2.1 k pc hpc2 hpr;rw[hx]at hF;obtain⟨⟨h0,_⟩,_,hO⟩:=hF;have hfs:∀g∈fs,xx c g:=λg hg=>hr.fr g (by simp[hg]);have nx:x.1≠13->∀l:List Int,(l.length:Int)=c.2.2.1.getD k 0->∀g∈fs++[(ae (f.1+1),l)],xx c g:=by grind[List.mem_singleton,QZ]
 have jm:∀a,wL a (c.2.1.getD k 0) (iQ c k)->∀g∈fs++[(a,f.2)],xx c g:=by
  intro a ha g hg;rcases aa1.1 hg with hg|hg
  ·exact hfs g hg
  ·rw[aaH]at hg;rw[hg];exact ak1 hc hpr.1 ha hlo
 obtain⟨op,u,b⟩:=x;obtain⟨o1,o2,o3,o4,o5,o6,o7,o8,o9,o10,o11,o12⟩:=hO;dsimp only at hop h0 hb nx o1 o2 o3 o4 o5 o6 o7 o8 o9 o10 o11 o12;have pu:∀v:Int,op≠13->(if 16<=st.length then none else some (bA s i (fs++[(ae (f.1+1),f.2)],st++[v],w,false)))=some s'->∃fs' f' st',s'.1=s.1.set i (fs'++[f'],st',w,false)/\Run1 c fs' f' st'/\ut s s':=by
  intro v h13 hv;by_cases h16:16<=st.length
  ·grind
  ·rw[if_neg h16]at hv;cases hv;exact⟨fs,_,_,rfl,⟨hn,by simp;omega,nx h13 f.2 hlo⟩,mE⟩
 unfold nv at he;rcases aqj h0 hop with h|h|h|h|h|h|h|h|h|h|h
 ·subst h;grind
 ·subst h;grind
 ·subst h;simp only[Int.reduceEq,aca,ace]at he;by_cases hv:st.length=0
  ·grind
  rw[if_neg hv]at he;cases he;exact⟨fs,_,_,rfl,⟨hn,by grind,nx (by omega) _ (by grind)⟩,mE⟩
 ·subst h;grind
 ·subst h;simp only[Int.reduceEq,aca,ace]at he;cases he;exact⟨fs,_,_,rfl,⟨hn,hm,jm _ (o2 (.inl rfl))⟩,mE⟩
 ·subst h;simp only[Int.reduceEq,aca,ace]at he;by_cases hv:st.length=0
  ·grind
  rw[if_neg hv]at he;cases he;refine⟨fs,_,_,rfl,⟨hn,by grind,?_⟩,mE⟩;grind
 ·subst h;simp only[Int.reduceEq,aca,ace]at he;by_cases hv:8<=fs.length+1
  ·grind
  rw[if_neg hv]at he;cases he;obtain⟨g1,g2⟩:=o3 (.inl rfl);refine⟨_,_,_,rfl,⟨by grind,hm,?_⟩,mE⟩;grind[List.mem_singleton,Gm]
 ·subst h;simp only[Int.reduceEq,aca,ace]at he;cases he;rcases akw fs with h|⟨fs',f',rfl⟩
  ·grind
  rw[akz]at *;exact⟨fs',f',st,rfl,⟨by grind,hm,hfs⟩,mE⟩
 ·subst h;simp only[Int.reduceEq,aca,ace]at he;by_cases hv:st.length=0
  ·grind
  rw[if_neg hv]at he;cases he;refine⟨fs,(ae (f.1+1),f.2),st.take (st.length-1),?_,⟨hn,by grind,nx (by omega) _ hlo⟩,?_⟩
  ·split<;>rfl
  ·split
   ·exact⟨rfl,rfl,rfl,rfl,rfl,rfl,rfl,rfl,rfl⟩
   ·exact mE
 ·subst h;simp only[Int.reduceEq,aca,ace]at he;cases he;exact⟨fs,_,_,rfl,⟨hn,hm,nx (by omega) _ hlo⟩,⟨rfl,rfl,rfl,rfl,rfl,rfl,rfl,rfl,rfl⟩⟩
 ·have hne:∀m:Int,(m<4\/9<m)->¬op=m:=λm hm=>by omega
  simp only[hne 0 (by omega),hne 1 (by omega),hne 2 (by omega),hne 3 (by omega),hne 10 (by omega),hne 11 (by omega),hne 12 (by omega),hne 13 (by omega),hne 14 (by omega),hne 15 (by omega),aca]at he;by_cases hv:st.length<2
  ·grind
  rw[if_neg hv]at he;cases he;exact⟨fs,_,_,rfl,⟨hn,by grind,nx (by omega) _ hlo⟩,mE⟩
def aal(t:Th):Prop:=t.1.length<=1048576/\t.2.1.length<=1048576/\∀f∈t.1,f.2.length<=1048576
def dN(s:aF):Prop:=s.1.length<=1048576/\(∀t∈s.1,aal t)/\s.2.1.length<=1048576/\s.2.2.1.length<=1048576/\(∀q∈s.2.2.1,q.length<=1048576)/\s.2.2.2.1.length<=1048576/\s.2.2.2.2.1.length<=1048576
theorem eE{xs:List α}(d:α)(h:i<xs.length):xs.getD i d∈xs:=by simp[h]
theorem arS(t:Th)(h:aal t):Itr.it (iT t) (0,([]:List Fr),([]:List Int)++t.2.1,t.2.2)=some t:=by
 obtain⟨h1,h2,h3⟩:=h;exact eC (f:=iT t) (λs=>t.1.length-s.1.toNat) (λ_=>t) (λs=>∃i:Nat,s=((i:Int),t.1.take i,t.2.1,t.2.2)/\i<=t.1.length)
  (λs hs=>by
   obtain⟨i,rfl,hi⟩:=hs;unfold iT;rcases abL i t.1.length with hlt|hge
   ·right;refine⟨(((i+1:Nat):Int),t.1.take (i+1),t.2.1,t.2.2),?_,⟨i+1,rfl,by omega⟩,by grind,rfl⟩;have hf:=h3 _ (eE (0,[]) hlt);have e1:aH ([]:List Int).length (t.1.getD i (0,[])).2.length 8=true:=aT (by grind) (by omega);have e2:aH (t.1.take i).length ([((t.1.getD i (0,[])).1,([]:List Int)++(t.1.getD i (0,[])).2)]:List Fr).length 32=true:=aT (by grind) (by omega);simp only[az (show(i:Int)<(t.1.length:Int)by omega),f9,aO (0,[]) hlt,f7,af,e1,e2,bM (n:=t.1.length) (by omega) hlt,jh (0,[]) hlt];rfl
   grind) (s:=(0,[],t.2.1,t.2.2)) ⟨0,rfl,by omega⟩ (by grind)
theorem aqX(s:aF)(hs:dN s)(z:py)(hz:z.1=[]):Itr.it (iR s) (0,z)=some (s.1,z.2):=by
 obtain⟨h1,h2,h3⟩:=hs;refine eC (f:=iR s) (λy=>s.1.length-y.1.toNat) (λ_=>(s.1,z.2)) (λy=>∃i:Nat,y=((i:Int),s.1.take i,z.2)/\i<=s.1.length)
  (λy hy=>by
   obtain⟨i,rfl,hi⟩:=hy;unfold iR;rcases abL i s.1.length with hlt|hge
   ·right;refine⟨(((i+1:Nat):Int),s.1.take (i+1),z.2),?_,⟨i+1,rfl,by omega⟩,by grind,rfl⟩;have ht:=h2 _ (eE ([],[],0,false) hlt);have e1:aH ([]:List Int).length (s.1.getD i ([],[],0,false)).2.1.length 8=true:=aT (by simp only[al9];have:=ht.2.1;omega) (by omega);have e2:aH (s.1.take i).length ([s.1.getD i ([],[],0,false)]:List Th).length 64=true:=aT (by grind) (by omega);simp only[az (show(i:Int)<(s.1.length:Int)by omega),f9,aO ([],[],0,false) hlt,f7,af,e1,arS _ ht,e2,bM (n:=s.1.length) (by omega) hlt,jh ([],[],0,false) hlt];rfl
   grind) ⟨0,?_,by omega⟩ (by grind)
 grind
theorem arP(s:aF)(hs:dN s)(z:py)(hz:z.2.2.1=[]):Itr.it (iV s) (0,z)=some (z.1,z.2.1,s.2.2.1,z.2.2.2):=by
 obtain⟨_,_,_,h1,h2,_⟩:=hs;refine eC (f:=iV s) (λy=>s.2.2.1.length-y.1.toNat) (λ_=>(z.1,z.2.1,s.2.2.1,z.2.2.2)) (λy=>∃i:Nat,y=((i:Int),z.1,z.2.1,s.2.2.1.take i,z.2.2.2)/\i<=s.2.2.1.length)
  (λy hy=>by
   obtain⟨i,rfl,hi⟩:=hy;unfold iV;rcases abL i s.2.2.1.length with hlt|hge
   ·right;refine⟨(((i+1:Nat):Int),z.1,z.2.1,s.2.2.1.take (i+1),z.2.2.2),?_,⟨i+1,rfl,by omega⟩,by grind,rfl⟩;have ht:=h2 _ (eE [] hlt);have e1:aH ([]:List Int).length (s.2.2.1.getD i []).length 8=true:=aT (by grind) (by omega);have e2:aH (s.2.2.1.take i).length ([([]:List Int)++s.2.2.1.getD i []]:List (List Int)).length 24=true:=aT (by grind) (by omega);simp only[az (show(i:Int)<(s.2.2.1.length:Int)by omega),f9,aO [] hlt,f7,af,e1,e2,bM (n:=s.2.2.1.length) (by omega) hlt,jh [] hlt];rfl
   grind) ⟨0,?_,by omega⟩ (by grind)
 grind
theorem uX(s:aF)(hs:dN s):eu s=some s:=by unfold eu;have h:=hs;obtain⟨h1,h2,h3,h4,h5,h6,h7⟩:=h;have e1:aH ([]:List Int).length s.2.1.length 8=true:=aT (by grind) (by omega);have e2:aH ([]:List Int).length s.2.2.2.1.length 8=true:=aT (by grind) (by omega);have e3:aH ([]:List Int).length s.2.2.2.2.1.length 8=true:=aT (by grind) (by omega);dsimp only;rw[aqX s hs _ rfl];simp only[f7,Qz2,af,e1,e2,e3,f9];rw[arP s hs _ rfl];rfl
def uj(t:Th):Fr:=t.1.getLastD (0,[])
def bK(s:aF)(i:Nat):Th:=s.1.getD i ([],[],0,false)
def fE(c:CC)(t:Th):ce:=eF c (uj t).1.toNat
def bO(s:aF):Int:=s.2.2.2.2.2.2.2.2.2.1
def jR(x:ce)(n:Nat):Bool:=decide ((16<=x.1/\x.1<29)\/(x.1=13/\n=1))
def gc(c:CC)(s:aF)(i:Nat)(o:Int):aF:=
 let k:=((ga c (uj (bK s i)).1).getD 0).toNat
 if(bK s i).2.2.2=false then sU s o (ae ((uj (bK s i)).1-c.2.1.getD k 0)) (c.2.2.2.2.2.2.2.getD k [])else sU s o s.2.2.2.2.2.2.2.2.2.2.1 s.2.2.2.2.2.2.2.2.2.2.2
def db(c:CC)(kind:Int)(i:Nat):Nat->aF->Bool×aF
 | m,s=>
  if 0<=bO s then(true,s)else if jR (fE c (bK s i)) (bK s i).1.length then(true,s)else match m with
   |0=>(false,gc c s i 3)
   |m+1=>match nv c kind s i (bK s i).1.dropLast (uj (bK s i)) (bK s i).2.1 (bK s i).2.2.1 (fE c (bK s i))with
    |none=>(false,gc c s i 4)
    |some s'=>db c kind i m s'
def tB(c:CC)(s:aF)(i:Nat):Prop:=∃fs f st w,s.1[i]?=some (fs++[f],st,w,false)/\Run1 c fs f st
theorem fH(fs:List Fr)(f:Fr)(r:List Int×Int×Bool):uj (fs++[f],r)=f:=by unfold uj;simp
theorem fK{s:aF}{t:Th}(h:s.1[i]?=some t):bK s i=t:=by unfold bK;simp[h]
theorem Mv(x:ce)(n:Nat)(hn:1<=n):gk x (n:Int)=some (jR x n):=by
 unfold gk nE jR;simp only[yX,f7,Qz2,En];by_cases h1:16<=x.1/\x.1<29
 ·grind
 ·rw[bN h1];simp only[aax];congr 1;grind
theorem X6{c:CC}(hc:bi c){s:aF}{fs:List Fr}{f:Fr}{x:ce}{k:Nat}(h:AtP c s i fs f st w x k pc) :
  gx c f.1=some (k:Int)/\ga c f.1=some (k:Int)/\ac c.2.2.2.2.2.2.2 (k:Int)=some (c.2.2.2.2.2.2.2.getD k [])/\ac c.2.1 (k:Int)=some (c.2.1.getD k 0):=by
 have hB:=sI hc.2.1 hc.2.2.2;have h3:=hc.2.1.1.2.2;rw[h.pc1];exact⟨akA hB h.pr (by omega),Pf hB h.pr,aO [] (by have:=h.pr.1;omega),aO 0 h.pr.1⟩
theorem By{c:CC}(hc:bi c){s:aF}{fs:List Fr}{f:Fr}{x:ce}{k:Nat}(h:AtP c s i fs f st w x k pc)(o:Int):gc c s i o=sU s o (ae (f.1-c.2.1.getD k 0)) (c.2.2.2.2.2.2.2.getD k []):=by unfold gc;simp only[fK h.t,fH,(X6 hc h).2.1,afy,aaR,ace]
theorem OR{c:CC}(hc:bi c){e:ce}{s:aF}{a:List bW}{fs:List Fr}{f:Fr}{x:ce}{k:Nat}(h:AtP c s i fs f st w x k pc)(o:Int) :
  bZ (c,e,s,a) o (i:Int)=some (c,e,gc c s i o,a):=by
 rw[By hc h];unfold bZ;have efr:∀g:Fr,ac (fs++[g]) (fs.length:Int)=some g:=λg=>by simp[ac]
 have ela:∀g:Fr,((fs++[g]).length:Int)=(fs.length:Int)+1:=λg=>by simp
 have ewl:ae ((fs.length:Int)+1-1)=(fs.length:Int):=by have:=h.n;rw[aM (by omega) (by omega)];omega
 obtain⟨q1,q2,q3,q4⟩:=X6 hc h;simp only[cL h.t,f7,Qz2,ela,ewl,efr,q2,q3,q4,az (show(0:Int)<(fs.length:Int)+1 by omega),f9];rfl
theorem adB{c:CC}{e:ce}{s:aF}{a:List bW}{fs:List Fr}{f:Fr}{x:ce}{k:Nat}(h:AtP c s i fs f st w x k pc) :
  cg (c,e,s,a) (i:Int)=some x:=by
 unfold cg;have hx:ac c.1 f.1=some x:=by rw[h.pc1,<-h.x];exact aO _ h.pc2
 have efr:∀g:Fr,ac (fs++[g]) (fs.length:Int)=some g:=λg=>by simp[ac]
 have ela:∀g:Fr,((fs++[g]).length:Int)=(fs.length:Int)+1:=λg=>by simp
 have ewl:ae ((fs.length:Int)+1-1)=(fs.length:Int):=by have:=h.n;rw[aM (by omega) (by omega)];omega
 simp only[cL h.t,f7,Qz2,ela,ewl,efr,hx,show((fs.length:Int)+1==0)=false by grind,aax]
theorem wM{c:CC}(hc:bi c){s:aF}{fs:List Fr}{f:Fr}{x:ce}{k:Nat}(h:AtP c s i fs f st w x k pc)(hs:jR x (fs.length+1)=false):x.1<16/\(x.1=13->fs≠[]):=by have hF:=hc.2.2.1 k pc h.pc2 h.pr;rw[h.x]at hF;have h0:=hF.1;unfold jR at hs;grind
theorem ZL{c:CC}(hc:bi c){kind:Int}{s s':aF}{fs:List Fr}{f:Fr}{x:ce}{k:Nat}(h:AtP c s i fs f st w x k pc)(hr:Run1 c fs f st)(hs:jR x (fs.length+1)=false)(he:nv c kind s i fs f st w x=some s'):tB c s' i:=by obtain⟨h1,h2⟩:=wM hc h hs;obtain⟨fs',f',st',g1,g2,g3⟩:=D3 hc h hr h1 h2 he;exact⟨fs',f',st',w,by rw[g1];exact adu (fc h.t),g2⟩
theorem tN(c:CC)(kind:Int)(m:Nat){s:aF}{fs:List Fr}{f:Fr}{x:ce}{k:Nat}(h:AtP c s i fs f st w x k pc) :
  db c kind i m s=(if 0<=bO s then(true,s)else if jR x (fs.length+1)then(true,s)else match m with
   |0=>(false,gc c s i 3)
   |m+1=>match nv c kind s i fs f st w x with
    |none=>(false,gc c s i 4)
    |some s'=>db c kind i m s'):=by
 have hx:fE c (fs++[f],st,w,false)=x:=by unfold fE;rw[fH,h.pc1];exact h.x
 rw[db.eq_def];simp only[fK h.t,hx,fH,aaL,acg,akK]
def yR(s:aF):aF:=(s.1,s.2.1,s.2.2.1,s.2.2.2.1,s.2.2.2.2.1,s.2.2.2.2.2.1,s.2.2.2.2.2.2.1,(s.2.2.2.2.2.2.2.1.1,s.2.2.2.2.2.2.2.1.2.1,ae (s.2.2.2.2.2.2.2.1.2.2+1)),s.2.2.2.2.2.2.2.2)
def oh(c:CC)(s:aF)(i:Nat):aF×List bW:=
 let t:=bK s i
 let x:=fE c t
 if x.1=25 then(bA s i (t.1,t.2.1,ae (s.2.2.2.2.2.1+x.2.1),t.2.2.2),[(4,0,false)])
 else if x.1=21 then(if 0<=s.2.2.2.1.getD x.2.1.toNat 0 then yR s else s,[(2,x.2.1,false)])
 else if x.1=20 then(s,if(c.2.2.2.2.1.getD x.2.1.toNat ([],0)).2=0 then [(1,x.2.1,true)]else [])
 else(s,[])
def bR(c:CC)(kind:Int)(i:Nat)(s:aF):aF×List bW:=
 if(db c kind i 64 s).1=true/\bO (db c kind i 64 s).2<0 then oh c (db c kind i 64 s).2 i else((db c kind i 64 s).2,[])
def oa(m:List ((Int×Int×Bool)×Bool))(a:bW):List ((Int×Int×Bool)×Bool):=
 dl ah (.sc .bool) (a.1,a.2.1,false) (bif(dF ah (.sc .bool) (a.1,a.2.1,false) m).getD false then true else a.2.2) m
structure Fit1(c:CC)(s:aF):Prop where
 vars:s.2.1.length=c.2.2.2.1.length
 qs:s.2.2.1.length=c.2.2.2.2.1.length
 own:s.2.2.2.1.length=c.2.2.2.2.2.1.length
 files:s.2.2.2.2.1.length=c.2.2.2.2.2.2.1.length
theorem aeD{c:CC}{s s':aF}(h:Fit1 c s)(k:ut s s'):Fit1 c s':=by obtain⟨a1,a2,a3,a4,a5,a6,a7,a8,a9⟩:=k;exact⟨by rw[a1];exact h.1,by rw[a2];exact h.2,by rw[a3];exact h.3,by rw[a4];exact h.4⟩
theorem wJ(s:aF):ut s s:=⟨rfl,rfl,rfl,rfl,rfl,rfl,rfl,rfl,rfl⟩
theorem DO(s:aF)(o k:Int)(w:List UInt8):ut s (sU s o k w):=⟨rfl,rfl,rfl,rfl,rfl,rfl,rfl,rfl,rfl⟩
theorem AW{c:CC}(hc:bi c)(kind:Int):∀(m:Nat) {s:aF} {fs:List Fr} {f:Fr} {st:List Int} {w:Int},s.1[i]?=some (fs++[f],st,w,false)->Run1 c fs f st ->
  ∃fs' f' st',(db c kind i m s).2.1=s.1.set i (fs'++[f'],st',w,false)/\Run1 c fs' f' st'/\ut s (db c kind i m s).2/\(bO (db c kind i m s).2<0->(db c kind i m s).1=true/\jR (eF c f'.1.toNat) (fs'.length+1)=true):=by
 intro m;induction m with
 |zero=>
  intro s fs f st w ht hr;obtain⟨k,pc,hA⟩:=mh ht hr;rw[tN c kind 0 hA];by_cases h1:0<=bO s
  ·rw[if_pos h1];exact⟨fs,f,st,(ny ht).symm,hr,wJ s,λh=>absurd h1 (by grind)⟩
  rw[if_neg h1];by_cases h2:jR (eF c f.1.toNat) (fs.length+1)=true
  ·rw[if_pos h2];exact⟨fs,f,st,(ny ht).symm,hr,wJ s,λ_=>⟨rfl,h2⟩⟩
  rw[if_neg h2];dsimp only;rw[By hc hA];exact⟨fs,f,st,(ny ht).symm,hr,DO ..,λh=>absurd h (by unfold bO sU;grind)⟩
 | succ m ih=>
  intro s fs f st w ht hr;obtain⟨k,pc,hA⟩:=mh ht hr;rw[tN c kind (m+1) hA];by_cases h1:0<=bO s
  ·rw[if_pos h1];exact⟨fs,f,st,(ny ht).symm,hr,wJ s,λh=>absurd h1 (by grind)⟩
  rw[if_neg h1];by_cases h2:jR (eF c f.1.toNat) (fs.length+1)=true
  ·rw[if_pos h2];exact⟨fs,f,st,(ny ht).symm,hr,wJ s,λ_=>⟨rfl,h2⟩⟩
  rw[if_neg h2];obtain⟨hop,hb⟩:=wM hc hA (by simpa using h2);cases hsil:nv c kind s i fs f st w (eF c f.1.toNat)with
  |none=>
   dsimp only;rw[By hc hA];exact⟨fs,f,st,(ny ht).symm,hr,DO ..,λh=>absurd h (by unfold bO sU;grind)⟩
  |some s' =>
   dsimp only;obtain⟨fs1,f1,st1,g1,g2,g3⟩:=D3 hc hA hr hop hb hsil;obtain⟨fs2,f2,st2,j1,j2,j3,j4⟩:=ih (s:=s') (w:=w) (by grind) g2;exact⟨fs2,f2,st2,by rw[j1,g1,List.set_set],j2,T1 g3 j3,j4⟩
def ic(n:Int)(r:aA):Av:=(n,r.1.1,r.1.2.1,r.1.2.2.1,r.1.2.2.2.1,r.1.2.2.2.2.1,r.1.2.2.2.2.2.1,r.1.2.2.2.2.2.2.1,r.1.2.2.2.2.2.2.2,r.2.1.1,r.2.1.2.1,r.2.1.2.2,r.2.2.1.1,r.2.2.1.2.1,r.2.2.1.2.2.1,r.2.2.1.2.2.2.1,r.2.2.1.2.2.2.2.1,r.2.2.1.2.2.2.2.2.1,r.2.2.1.2.2.2.2.2.2.1,r.2.2.1.2.2.2.2.2.2.2.1.1,r.2.2.1.2.2.2.2.2.2.2.1.2.1,r.2.2.1.2.2.2.2.2.2.2.1.2.2,r.2.2.1.2.2.2.2.2.2.2.2.1,r.2.2.1.2.2.2.2.2.2.2.2.2.1,r.2.2.1.2.2.2.2.2.2.2.2.2.2.1,r.2.2.1.2.2.2.2.2.2.2.2.2.2.2,r.2.2.2)
theorem ak9{c:CC}(hc:bi c){e:ce}{s:aF}{a:List bW}{fs:List Fr}{f:Fr}{x:ce}{k:Nat}(h:AtP c s i fs f st w x k pc)(hf:Fit1 c s)(ha:a.length<=1048576) :
  gu (c,e,s,a) x (i:Int)=some (c,e,(oh c s i).1,a++(oh c s i).2):=by
 have hF:=hc.2.2.1 k pc h.pc2 h.pr;rw[h.x]at hF;have hx:fE c (bK s i)=x:=by rw[fK h.t];unfold fE;rw[fH,h.pc1];exact h.x
 unfold oh;dsimp only;rw[hx];obtain⟨op,u,b⟩:=x;obtain⟨_,_,o1,o2,o3,o4,o5,o6,o7,o8,o9,o10,o11,o12⟩:=hF;dsimp only at o1 o2 o3 o4 o5 o6 o7 o8 o9 o10 o11 o12;have eap:∀v:bW,aH a.length ([v]:List bW).length 24=true:=λv=>aT (by grind) (by omega);unfold gu;dsimp only;by_cases h25:op=25
 ·subst h25;simp only[Int.reduceBEq,f9,aax,ace,cL h.t,f7,Qz2,eap,af,fK h.t,aaR];rfl
 rw[bf h25,if_neg h25];by_cases h21:op=21
 ·subst h21;obtain⟨q1,q2⟩:=o8 (.inl rfl);have eo:ac s.2.2.2.1 u=some (s.2.2.2.1.getD u.toNat 0):=bH 0 q1 (by have:=hf.own;omega);grind[oH,ic,yR,Int.reduceBEq,af]
 rw[bf h21,if_neg h21];by_cases h20:op=20
 ·subst h20;obtain⟨q1,q2⟩:=o7 (.inr rfl);grind[ac,Int.reduceBEq,af]
 grind
theorem Z1(i:Int)(n:Int)(r:aA):iA i (ic n r) =
  bif decide (r.2.2.1.2.2.2.2.2.2.2.2.2.1<(0:Int))then
   (cg r i).bind λr2=>(ac r.2.2.1.1 i).bind λ_=>(ac r.2.2.1.1 i).bind λv4=>(gk r2 (v4.1.length:Int)).bind λr5=>
   bif r5 then(gu r r2 i).bind λr6=>some (Sum.inr r6)
   else bif n==(64:Int)then(bZ r 3 i).bind λr7=>some (Sum.inr r7)
   else(eu r.2.2.1).bind λr8=>(f0 r r2 i).bind λr9=>
    bif !r9.1 then(bZ (r9.2.1,r9.2.2.1,r8,r9.2.2.2.2) 4 i).bind λr10=>some (Sum.inr r10)
    else some (Sum.inl (ic (ae (n+1)) r9.2))
  else some (Sum.inr r):=rfl
theorem yj{c:CC}(hc:bi c){f:Fr}(h:xx c f):f.2.length<=512:=by obtain⟨k,pc,_,_,h3,h4⟩:=h;obtain⟨_,_,_,_,q5,q6⟩:=hc.2.1.2.2.1 k h3.1;omega
theorem XX{c:CC}(hc:bi c){s s':aF}(hs:dN s){fs:List Fr}{f:Fr}(h:s'.1=s.1.set i (fs++[f],st,w,false))(hr:Run1 c fs f st)(k:ut s s'):dN s':=by
 obtain⟨h1,h2,h3,h4,h5,h6,h7⟩:=hs;obtain⟨a1,a2,a3,a4,a5,a6,a7,a8,a9⟩:=k;unfold dN;rw[h,a1,a2,a3,a4];refine⟨by simpa using h1,λt ht=>?_,h3,h4,h5,h6,h7⟩;rcases aci ht with ht|rfl
 ·exact h2 t ht
 ·have:=hr.n;have:=hr.m;exact⟨by grind,by grind,λg hg=>by have:=yj hc (hr.fr g hg);omega⟩
theorem Rv{c:CC}(hc:bi c)(e:ce)(a:List bW)(ha:a.length<=1048576){s0:aF}(hs:tB c s0 i)(hf:Fit1 c s0)(hsm:dN s0) :
  fL (c,e,s0,a) (i:Int)=some (c,e,(bR c e.1 i s0).1,a++(bR c e.1 i s0).2):=by
 obtain⟨r,h1,h2⟩:=gz (f:=iA (i:Int)) (λy=>65-y.1.toNat) (λy=>∃(n:Nat) (s:aF),y=ic (n:Int) (c,e,s,a)/\n<=64/\tB c s i/\Fit1 c s/\dN s/\db c e.1 i (64-n) s=db c e.1 i 64 s0)
  (λr=>r=(c,e,(bR c e.1 i s0).1,a++(bR c e.1 i s0).2))
  (λy hy=>by
   obtain⟨n,s,rfl,hn,⟨fs,f,st,w,ht,hr⟩,hf,hsm,hq⟩:=hy;obtain⟨k,pc,hA⟩:=mh ht hr;unfold bR;rw[<-hq,tN c e.1 (64-n) hA];have eat:cg (c,e,s,a) (i:Int)=some (eF c f.1.toNat):=adB hA;have eov:=λo=>OR hc (e:=e) (a:=a) hA o;have esi:=λhop=>aq7 hc (e:=e) (a:=a) hA hop;have est:=ak9 hc (e:=e) hA hf ha;have esd:=Mv (eF c f.1.toNat) (fs.length+1) (by omega);have ela:((fs++[f]).length:Int)=((fs.length+1:Nat):Int):=by simp
   have et:=cL ht;have ecp:=uX s hsm;rw[Z1];by_cases ho:0<=bO s
   ·left;grind[bO]
   rw[if_neg ho];have hlt:s.2.2.2.2.2.2.2.2.2.1<(0:Int):=by unfold bO at ho;omega
   simp only[hlt,af1,f9,eat,et,f7,Qz2,ela,esd];by_cases hst:jR (eF c f.1.toNat) (fs.length+1)=true
   ·left;grind
   have hst':jR (eF c f.1.toNat) (fs.length+1)=false:=by grind
   obtain⟨hop,hb⟩:=wM hc hA hst';have hov:∀o:Int,0<=o->¬bO (gc c s i o)<0:=by intro o h0;rw[By hc hA];unfold bO sU;grind
   rw[hst'];rcases akS hn with hn|hn;rotate_left
   ·left;simp_all
   obtain⟨m,hm⟩:∃m,64-n=m+1:=⟨63-n,by omega⟩
   rw[hm];have h64:((n:Int)==64)=false:=by grind
   simp only[aax,ady,aca,h64,ecp,f7,Qz2,esi hop];cases hsil:nv c e.1 s i fs f st w (eF c f.1.toNat)with
   |none=>
    left;grind
   |some s' =>
    right;obtain⟨fs1,f1,st1,g1,g2,g3⟩:=D3 hc hA hr hop hb hsil;refine⟨ic ((n+1:Nat):Int) (c,e,s',a),?_,⟨n+1,s',rfl,by omega,ZL hc hA hr hst' hsil,aeD hf g3,XX hc hsm g1 g2 g3,?_⟩,by show 65-((n+1:Nat):Int).toNat<65-(n:Int).toNat;omega⟩
    ·simp only[acd,aax];rw[bM (n:=64) (by omega) hn];rfl
    ·rw[show 64-(n+1)=m by omega]) (s:=ic 0 (c,e,s0,a)) ⟨0,s0,rfl,by omega,hs,hf,hsm,rfl⟩ (by grind)
 unfold fL;dsimp only;refine Eq.trans h1 ?_;rw[h2]
def abj(c:CC)(t:Th):Prop:=(t.2.2.2=true/\t.1=[])\/(t.2.2.2=false/\∃fs f,t.1=fs++[f]/\Run1 c fs f t.2.1)
structure StOk(c:CC)(s:aF):Prop where
 n:s.1.length<=1048576
 th:∀t∈s.1,abj c t
 fit:Fit1 c s
 cap:∀j,j<c.2.2.2.2.1.length->((s.2.2.1.getD j []).length:Int)<=(c.2.2.2.2.1.getD j ([],0)).2
def qX(n:Nat)(p:Nat->Bool):List Int:=((List.range n).filter p).map Int.ofNat
theorem Yh(n:Nat)(p:Nat->Bool):qX (n+1) p=if p n then qX n p++[(n:Int)]else qX n p:=by grind[qX,List.range_succ]
theorem qH(n:Nat)(p:Nat->Bool):(qX n p).length<=n:=by unfold qX;grind
theorem Ye{f:List Int×Int->Option ((List Int×Int)⊕List Int)}(n:Nat)(p:Nat->Bool)(hn:n<=1048576)
  (hstep:∀k,k<n->∀bE:List Int,aH bE.length 1 8=true->f (bE,(k:Int))=some (.inl (if p k then bE++[(k:Int)]else bE,(k:Int)+1)))
  (hend:∀bE,f (bE,(n:Int))=some (.inr bE)):Itr.it f ([],(0:Int))=some (qX n p):=
 eC (f:=f) (λy=>n-y.2.toNat) (λ_=>qX n p) (λy=>∃k:Nat,y=(qX k p,(k:Int))/\k<=n)
  (λy hy=>by
   obtain⟨k,rfl,hk⟩:=hy;rcases abL k n with hlt|hge
   ·right;refine⟨(qX (k+1) p,((k+1:Nat):Int)),?_,⟨k+1,rfl,by omega⟩,by grind,rfl⟩;grind[qH,aT,Yh]
   grind) (s:=([],0)) ⟨0,rfl,by omega⟩ (by grind)
def q8(c:CC)(t:Th):ce:=if t.2.2.2=true then(29,0,0)else fE c t
def MO(c:CC)(s:aF)(ch:Int)(k:Nat):Bool:=(q8 c (bK s k)).1==20&&(q8 c (bK s k)).2.1==ch
def gt(c:CC)(s:aF)(ch:Int):List Int:=qX s.1.length (MO c s ch)
def AC(c:CC)(s:aF)(k:Nat):Bool:=
 let t:=bK s k
 let x:=q8 c t
 if t.2.2.2=true then false
 else if x.1=21 then decide (s.2.2.2.1.getD x.2.1.toNat 0<0)
 else if x.1=19 then(if(c.2.2.2.2.1.getD x.2.1.toNat ([],0)).2=0 then decide (0<(gt c s x.2.1).length)else decide (((s.2.2.1.getD x.2.1.toNat []).length:Int)<(c.2.2.2.2.1.getD x.2.1.toNat ([],0)).2))
 else if x.1=20 then decide (0<(s.2.2.1.getD x.2.1.toNat []).length)
 else if x.1=25 then decide (t.2.2.1<=s.2.2.2.2.2.1)
 else true
def eP(c:CC)(s:aF):List Int:=qX s.1.length (AC c s)
theorem mN{s:aF}{k:Nat}(h:k<s.1.length):s.1[k]?=some (bK s k):=by unfold bK;simp[h]
theorem qS{c:CC}{s:aF}(hs:StOk c s){k:Nat}(h:k<s.1.length):((bK s k).2.2.2=true/\(bK s k).1=[])\/((bK s k).2.2.2=false/\∃fs f st w,bK s k=(fs++[f],st,w,false)/\Run1 c fs f st):=by
 rcases hs.th (bK s k) (eE _ h)with h|⟨h1,fs,f,h2,h3⟩
 ·exact .inl h
 grind
theorem IA{c:CC}{e:ce}{s:aF}{a:List bW}(hs:StOk c s){k:Nat}(h:k<s.1.length) :
  cg (c,e,s,a) (k:Int)=some (if(bK s k).2.2.2=true then(28,0,0)else q8 c (bK s k)):=by
 rcases qS hs h with⟨h1,h2⟩|⟨h1,fs,f,st,w,h2,h3⟩
 ·unfold cg;simp only[cL (mN h),f7,Qz2,h1,h2,al9,ace];rfl
 ·obtain⟨k',pc,hA⟩:=mh (s:=s) (i:=k) (by rw[mN h,h2]) h3;grind[q8,fE,adB,Bool.false_eq_true,fH]
theorem Om{c:CC}{e:ce}{s:aF}{a:List bW}(hs:StOk c s)(ch:Int):dK (c,e,s,a) ch=some (gt c s ch):=by unfold dK gt;rw[Ye s.1.length (MO c s ch) hs.n (λk hk bE ho=>by unfold gD;simp only[az (show(k:Int)<(s.1.length:Int)by omega),f9,cL (mN hk),f7,Qz2,IA hs hk,bM (n:=s.1.length) (by have:=hs.n;omega) hk];grind[MO,bK,q8,af]) (λbE=>by unfold gD;grind)];rfl
theorem D0{c:CC}(hc:bi c){s:aF}(hs:StOk c s){k:Nat}(h:k<s.1.length)(he:(bK s k).2.2.2=false):∃p,p<c.2.1.length/\K6 c p (q8 c (bK s k))/\q8 c (bK s k)=fE c (bK s k):=by
 rcases qS hs h with⟨h1,h2⟩|⟨h1,fs,f,st,w,h2,h3⟩
 ·grind
 ·obtain⟨p,pc,hA⟩:=mh (s:=s) (i:=k) (by rw[mN h,h2]) h3;have hF:=hc.2.2.1 p pc hA.pc2 hA.pr;rw[hA.x]at hF;rw[h2];refine⟨p,hA.pr.1,?_,rfl⟩;show K6 c p (fE c (fs++[f],st,w,false));rw[fE,fH];exact hF.2.2
theorem BC{c:CC}(hc:bi c){e:ce}{s:aF}{a:List bW}(hs:StOk c s):eO (c,e,s,a)=some (eP c s):=by
 unfold eO eP
 rw [Ye s.1.length (AC c s) hs.n (λk hk bE ho=>by
  unfold kh;have et:=cL (mN hk);have hp:jz (c,e,s,a) (k:Int)=some (AC c s k):=by
   unfold jz AC;dsimp only;simp only[et,f7,Qz2,IA hs hk];cases he:(bK s k).2.2.2;rotate_left
   ·rfl
   obtain⟨p,hpn,hO,-⟩:=D0 hc hs hk he;generalize q8 c (bK s k)=x at *;obtain⟨op,u,b⟩:=x;obtain⟨o1,o2,o3,o4,o5,o6,o7,o8,o9,o10,o11,o12⟩:=hO;dsimp only at o1 o2 o3 o4 o5 o6 o7 o8 o9 o10 o11 o12|-;simp only[ady,aca,aax];by_cases h21:op=21
   ·subst h21;obtain⟨q1,q2⟩:=o8 (.inl rfl);have eo:ac s.2.2.2.1 u=some (s.2.2.2.1.getD u.toNat 0):=bH 0 q1 (by have:=hs.fit.own;omega);grind
   rw[bf h21,if_neg h21];by_cases h19:op=19
   ·subst h19;obtain⟨q1,q2⟩:=o7 (.inl rfl);have ec:ac c.2.2.2.2.1 u=some (c.2.2.2.2.1.getD u.toNat ([],0)):=bH _ q1 (by omega);have eq:ac s.2.2.1 u=some (s.2.2.1.getD u.toNat []):=bH _ q1 (by have:=hs.fit.qs;omega);simp only[Int.reduceBEq,f9,aax,ace,ec,eq,f7,Qz2,Om hs];by_cases hz:(c.2.2.2.2.1.getD u.toNat ([],0)).2=0
    ·simp_all
    grind
   rw[bf h19,if_neg h19];by_cases h20:op=20
   ·subst h20;obtain⟨q1,q2⟩:=o7 (.inr rfl);have ec:ac c.2.2.2.2.1 u=some (c.2.2.2.2.1.getD u.toNat ([],0)):=bH _ q1 (by omega);have eq:ac s.2.2.1 u=some (s.2.2.1.getD u.toNat []):=bH _ q1 (by have:=hs.fit.qs;omega);have hcap:=hs.cap u.toNat (by omega);simp only[Int.reduceBEq,f9,aax,ace,ec,eq,f7,Qz2];by_cases hz:(0:Int)<(c.2.2.2.2.1.getD u.toNat ([],0)).2
    ·simp_all
    grind
   grind
  simp only[az (show(k:Int)<(s.1.length:Int)by omega),f9,f7,Qz2,hp,bM (n:=s.1.length) (by have:=hs.n;omega) hk];grind[AC,af]) (λbE=>by unfold kh;grind)]
 rfl
def lL(c:CC)(s:aF):Nat->Int
 |0=>-1
 |n+1=>if(q8 c (bK s n)).1=25/\(lL c s n<0\/(bK s n).2.2.1<lL c s n)then(bK s n).2.2.1 else lL c s n
def Ng(s:aF)(w:Int):aF:=(s.1,s.2.1,s.2.2.1,s.2.2.2.1,s.2.2.2.2.1,w,s.2.2.2.2.2.2)
def dZ(c:CC)(s:aF):aF:=
 if 0<=bO s then s else if s.2.2.2.2.2.2.1=0 then gc c s 0 3 else if 0<(eP c s).length then s else if 0<=lL c s s.1.length then Ng s (lL c s s.1.length)else gc c s 0 2
theorem ak0{f:Int×Int->Option ((Int×Int)⊕Int)}(c:CC)(s:aF)(hn:s.1.length<=1048576)
  (hstep:∀k,k<s.1.length->∀w:Int,f (w,(k:Int))=some (.inl (if(q8 c (bK s k)).1=25/\(w<0\/(bK s k).2.2.1<w)then(bK s k).2.2.1 else w,(k:Int)+1)))
  (hend:∀w,f (w,(s.1.length:Int))=some (.inr w)):Itr.it f (-1,(0:Int))=some (lL c s s.1.length):=
 eC (f:=f) (λy=>s.1.length-y.2.toNat) (λ_=>lL c s s.1.length) (λy=>∃k:Nat,y=(lL c s k,(k:Int))/\k<=s.1.length)
  (λy hy=>by
   obtain⟨k,rfl,hk⟩:=hy;rcases abL k s.1.length with hlt|hge
   ·right;refine⟨(lL c s (k+1),((k+1:Nat):Int)),?_,⟨k+1,rfl,by omega⟩,by grind,rfl⟩;rw[hstep k hlt];rfl
   grind) (s:=(-1,0)) ⟨0,rfl,by omega⟩ (by grind)
theorem Qr{c:CC}(hc:bi c){e:ce}{s:aF}{a:List bW}(hs:StOk c s)(hi:i<s.1.length)(o:Int):bZ (c,e,s,a) o (i:Int)=some (c,e,gc c s i o,a):=by
 rcases qS hs hi with⟨h1,h2⟩|⟨h1,fs,f,st,w,h2,h3⟩
 ·unfold bZ gc;dsimp only;rw[if_neg (by rw[h1];simp)];simp only[cL (mN hi),f7,Qz2,h2,al9];rfl
 ·obtain⟨k',pc,hA⟩:=mh (s:=s) (i:=i) (by rw[mN hi,h2]) h3;exact OR hc hA o
theorem Lm{c:CC}(hc:bi c){e:ce}{s:aF}{a:List bW}(hs:StOk c s)(h1:0<s.1.length):fY (c,e,s,a)=some (c,e,dZ c s,a):=by
 unfold fY dZ;dsimp only;by_cases ho:0<=bO s
 ·rw[if_pos ho];have:(0:Int)<=s.2.2.2.2.2.2.2.2.2.1:=ho;grind
 rw[if_neg ho];have:¬(0:Int)<=s.2.2.2.2.2.2.2.2.2.1:=ho;simp only[this,afj,aax];by_cases hf:s.2.2.2.2.2.2.1=0
 ·rw[if_pos hf,bt hf];simp only[f9];rw[show bZ (c,e,s,a) 3 0=_ from Qr hc hs h1 3];rfl
 rw[if_neg hf,bf hf];simp only[aax,BC hc hs,f7,Qz2];by_cases hl:0<(eP c s).length
 ·grind
 rw[if_neg hl,bN (by omega)];have hw:=ak0 (f:=fC (c,e,s,a)) c s hs.n (λk hk w=>by unfold fC;simp only[az (show(k:Int)<(s.1.length:Int)by omega),f9,cL (mN hk),f7,Qz2,IA hs hk,bM (n:=s.1.length) (by have:=hs.n;omega) hk];grind[bK,q8]) (λw=>by unfold fC;grind);simp only[aax,hw,f7,Qz2];by_cases hz:0<=lL c s s.1.length
 ·rw[if_pos hz,az hz];rfl
 ·rw[if_neg hz,bN hz];simp only[aax];rw[show bZ (c,e,s,a) 2 0=_ from Qr hc hs h1 2];rfl
set_option linter.unusedSectionVars false
abbrev qc:Type:=List UInt8×Int
def Us(l:List qc)(nm:List UInt8):Option qc:=l.find? λx=>x.1==nm
def BP(l:List qc)(nm:List UInt8)(n:Int):Int:=match Us l nm with|some x=>x.2|none=>n
theorem EZ{α:Type}{p:α->Bool}(d:α):∀{l:List α} {i:Nat},i<l.length->(∀j,j<i->p (l.getD j d)=false)->p (l.getD i d)=true->l.find? p=some (l.getD i d)
 |[],_,h,_,_=>by simp at h
 |x::r,0,_,_,h=>by grind
 |x::r,i+1,h,h1,h2=>by have hx:p x=false:=h1 0 (by omega);have:=EZ (p:=p) d (l:=r) (i:=i) (by simpa using h) (λj hj=>h1 (j+1) (by omega)) h2;grind
theorem aah{p:α->Bool}(d:α){l:List α}(h:∀j,j<l.length->p (l.getD j d)=false):l.find? p=none:=by grind[List.find?_eq_none,List.mem_iff_getElem]
theorem Yw(l:List qc)(hl:l.length<=1048576)(nm:List UInt8):ky l nm=some (match Us l nm with|some x=>(x.2,true)|none=>(0,false)):=by
 unfold ky Us;rcases gG (f:=iY l nm) l.length (by omega) (λi=>((l.getD i ([],0)).1==nm)=false) (λi=>((l.getD i ([],0)).2,true))
  (λi hi _=>by
   unfold iY;simp only[az (show(i:Int)<(l.length:Int)by omega),f9,aO ([],0) hi,f7,bM (n:=l.length) (by omega) hi];grind)
  (λ_=>by unfold iY;grind)with⟨hP,he⟩|⟨i,hi,hj,hP,he⟩
 ·rw[he,aah (([],0):qc) hP];rfl
 grind[EZ]
def Ah(s:aF)(l:List Int):aF:=(s.1,l,s.2.2)
def Di(s:aF)(l:List Int):aF:=(s.1,s.2.1,s.2.2.1,s.2.2.2.1,l,s.2.2.2.2.2)
def FK(s:aF)(l:List Int):aF:=(s.1,s.2.1,s.2.2.1,l,s.2.2.2.2)
def qC(c:CC)(l:List qc):List Int:=c.2.2.2.1.map λv=>BP l v.1 v.2
def oZ(c:CC)(l:List qc):List Int:=c.2.2.2.2.2.2.1.map λf=>BP l f 0
theorem zI{β:Type}{xs:List α}(g:α->β)(d:α)(h:i<xs.length):(xs.map g).take (i+1)=(xs.map g).take i++[g (xs.getD i d)]:=by rw[alc];simp[h]
section
variable (c:CC) (hs:kA c) (l:List qc) (hl:l.length<=1048576)
include hs hl
theorem apm(e:ce)(s:aF)(a:List bW):Itr.it (iq c l) (ic 0 (c,e,Ah s [],a))=some (ic 0 (c,e,Ah s (qC c l),a)).2:=by
 have hn:c.2.2.2.1.length<=1048576:=hs.2.2.1;refine eC (f:=iq c l) (λy=>c.2.2.2.1.length-y.1.toNat) (λ_=>(ic 0 (c,e,Ah s (qC c l),a)).2) (λy=>∃i:Nat,y=ic (i:Int) (c,e,Ah s ((qC c l).take i),a)/\i<=c.2.2.2.1.length)
  (λy hy=>by
   obtain⟨i,rfl,hi⟩:=hy;unfold iq;rcases abL i c.2.2.2.1.length with hlt|hge
   ·right;refine⟨ic ((i+1:Nat):Int) (c,e,Ah s ((qC c l).take (i+1)),a),?_,⟨i+1,rfl,by omega⟩,by show _-((i+1:Nat):Int).toNat<_-(i:Int).toNat;omega,rfl⟩;have e1:∀v:Int,aH ((qC c l).take i).length ([v]:List Int).length 8=true:=λv=>aT (by grind) (by omega)
    rw[show qC c l=c.2.2.2.1.map (λv=>BP l v.1 v.2)from rfl]at e1|-;rw[zI _ (([],0):qc) hlt];simp only[ic,Ah,show(i:Int)<(c.2.2.2.1.length:Int)by omega,af1,f9,aO ([],0) hlt,f7,Yw l hl,af,e1,bM (n:=c.2.2.2.1.length) (by omega) hlt];unfold BP;grind
   ·left;grind[qC,ic,List.take_of_length_le,decide_false]) ⟨0,rfl,by omega⟩ (by grind)
theorem akm(e:ce)(s:aF)(a:List bW):Itr.it (ig c l) (ic 0 (c,e,Di s [],a))=some (ic 0 (c,e,Di s (oZ c l),a)).2:=by
 have hn:c.2.2.2.2.2.2.1.length<=1048576:=hs.2.2.2.2.2.1;refine eC (f:=ig c l) (λy=>c.2.2.2.2.2.2.1.length-y.1.toNat) (λ_=>(ic 0 (c,e,Di s (oZ c l),a)).2) (λy=>∃i:Nat,y=ic (i:Int) (c,e,Di s ((oZ c l).take i),a)/\i<=c.2.2.2.2.2.2.1.length)
  (λy hy=>by
   obtain⟨i,rfl,hi⟩:=hy;unfold ig;rcases abL i c.2.2.2.2.2.2.1.length with hlt|hge
   ·right;refine⟨ic ((i+1:Nat):Int) (c,e,Di s ((oZ c l).take (i+1)),a),?_,⟨i+1,rfl,by omega⟩,by show _-((i+1:Nat):Int).toNat<_-(i:Int).toNat;omega,rfl⟩;have e1:∀v:Int,aH ((oZ c l).take i).length ([v]:List Int).length 8=true:=λv=>aT (by grind) (by omega)
    rw[show oZ c l=c.2.2.2.2.2.2.1.map (λf=>BP l f 0)from rfl]at e1|-;rw[zI _ ([]:List UInt8) hlt];simp only[ic,Di,show(i:Int)<(c.2.2.2.2.2.2.1.length:Int)by omega,af1,f9,aO [] hlt,f7,Yw l hl,af,e1,bM (n:=c.2.2.2.2.2.2.1.length) (by omega) hlt];unfold BP;grind
   ·left;grind[oZ,ic,List.take_of_length_le,decide_false]) ⟨0,rfl,by omega⟩ (by grind)
end
section
variable (c:CC) (hs:kA c)
include hs
theorem apV(e:ce)(s:aF)(a:List bW):Itr.it (iz c) (ic 0 (c,e,FK s [],a))=some (ic 0 (c,e,FK s (List.replicate c.2.2.2.2.2.1.length (-1)),a)).2:=by
 have hn:c.2.2.2.2.2.1.length<=1048576:=hs.2.2.2.2.1;refine eC (f:=iz c) (λy=>c.2.2.2.2.2.1.length-y.1.toNat) (λ_=>(ic 0 (c,e,FK s (List.replicate c.2.2.2.2.2.1.length (-1)),a)).2) (λy=>∃i:Nat,y=ic (i:Int) (c,e,FK s (List.replicate i (-1)),a)/\i<=c.2.2.2.2.2.1.length)
  (λy hy=>by
   obtain⟨i,rfl,hi⟩:=hy;unfold iz;rcases abL i c.2.2.2.2.2.1.length with hlt|hge
   ·right;refine⟨ic ((i+1:Nat):Int) (c,e,FK s (List.replicate (i+1) (-1)),a),?_,⟨i+1,rfl,by omega⟩,by show _-((i+1:Nat):Int).toNat<_-(i:Int).toNat;omega,rfl⟩;have e1:aH (List.replicate i (-1:Int)).length ([-1]:List Int).length 8=true:=aT (by grind) (by omega);rw[afK];simp only[ic,FK,show(i:Int)<(c.2.2.2.2.2.1.length:Int)by omega,af1,f9,af,e1,bM (n:=c.2.2.2.2.2.1.length) (by omega) hlt];rfl
   ·left;grind[ic]) ⟨0,rfl,by omega⟩ (by grind)
end
def s00(c:CC):aF:=([],[],List.replicate c.2.2.2.2.1.length [],[],[],0,64,(0,0,0),-1,-1,0,[])
def hZ(c:CC)(l:List qc):aF:=([([(c.2.1.getD (c.2.1.length-1) 0,List.replicate (c.2.2.1.getD (c.2.1.length-1) 0).toNat 0)],[],0,false)],qC c l,List.replicate c.2.2.2.2.1.length [],List.replicate c.2.2.2.2.2.1.length (-1),oZ c l,0,64,(0,0,0),-1,-1,0,[])
def dJ:aF:=([],[],[],[],[],0,0,(0,0,0),0,0,0,[])
def pF(c:CC)(e:ce)(l:List qc):aF:=dZ c (bR c e.1 0 (hZ c l)).1
def pT(e:ce):Prop:=0<=e.1/\e.1<4/\0<=e.2.1/\e.2.1<=8/\0<=e.2.2/\e.2.2<=8
theorem Dr(e:ce):∃b,jb e=some b/\(b=true↔pT e):=by refine⟨decide (0<=e.1/\e.1<4/\0<=e.2.1/\e.2.1<=8/\0<=e.2.2/\e.2.2<=8),?_,decide_eq_true_iff⟩;unfold jb;grind
theorem Aw{c:CC}(hc:bi c)(l:List qc):tB c (hZ c l) 0/\Fit1 c (hZ c l)/\dN (hZ c l):=by
 have hn:=hc.2.1.1.1;obtain⟨s1,s2,s3,s4,s5,s6,s7⟩:=hc.2.2.2;have hfr:xx c (c.2.1.getD (c.2.1.length-1) 0,List.replicate (c.2.2.1.getD (c.2.1.length-1) 0).toNat 0):=Gm hc (by omega);have hloc:=yj hc hfr;refine⟨⟨[],_,[],0,rfl,⟨by simp,by simp,λg hg=>?_⟩⟩,⟨by simp[hZ,qC],by simp[hZ],by simp[hZ],by simp[hZ,oZ]⟩,by simp[hZ],λt ht=>?_,by simpa[hZ,qC]using s3,by simpa[hZ]using s4,λq hq=>?_,by simpa[hZ]using s5,by simpa[hZ,oZ]using s6⟩
 ·grind
 ·simp only[hZ,aaH]at ht;rw[ht];refine⟨by simp,by simp,λg hg=>?_⟩;grind
 ·rw[aij hq];simp
theorem Dx{c:CC}(hc:bi c)(kind:Int){s:aF}(hs:StOk c s)(hr:tB c s i)(hsm:dN s):StOk c (bR c kind i s).1/\dN (bR c kind i s).1/\(bR c kind i s).1.1.length=s.1.length:=by
 obtain⟨fs,f,st,w,ht,hr⟩:=hr;obtain⟨fs',f',st',g1,g2,g3,g4⟩:=AW hc kind 64 ht hr;have base:∀(q:aF) (w':Int),q.1=s.1.set i (fs'++[f'],st',w',false)->q.2.1=s.2.1->q.2.2.1=s.2.2.1->q.2.2.2.1=s.2.2.2.1->q.2.2.2.2.1=s.2.2.2.2.1->StOk c q/\dN q/\q.1.length=s.1.length:=by
  intro q w' h1 h2 h3 h4 h5;refine⟨⟨by rw[h1];simpa using hs.n,λt ht=>?_,⟨by rw[h2];exact hs.fit.1,by rw[h3];exact hs.fit.2,by rw[h4];exact hs.fit.3,by rw[h5];exact hs.fit.4⟩,λj hj=>by rw[h3];exact hs.cap j hj⟩,?_,by rw[h1];simp⟩
  ·rw[h1]at ht;rcases aci ht with ht|rfl
   ·exact hs.th t ht
   ·exact .inr ⟨rfl,fs',f',rfl,g2⟩
  ·obtain⟨h1',h2',h3',h4',h5',h6',h7'⟩:=hsm;unfold dN;rw[h1,h2,h3,h4,h5];refine⟨by grind,λt ht=>?_,h3',h4',h5',h6',h7'⟩;rcases aci ht with ht|rfl
   ·exact h2' t ht
   ·have:=g2.n;have:=g2.m;exact⟨by grind,by grind,λg hg=>by have:=yj hc (g2.fr g hg);omega⟩
 unfold bR;generalize db c kind i 64 s=q at *;obtain⟨b,q⟩:=q;dsimp only at *;obtain⟨k1,k2,k3,k4,k5,k6,k7,k8,k9⟩:=g3;have ht':q.1[i]?=some (fs'++[f'],st',w,false):=by grind
 split
 ·unfold oh;dsimp only;split
  ·refine base _ (ae (q.2.2.2.2.2.1+(fE c (bK q i)).2.1)) ?_ k1 k2 k3 k4;show q.1.set i ((bK q i).1,(bK q i).2.1,_,(bK q i).2.2.2)=_;rw[fK ht',g1,List.set_set]
  split
  ·dsimp only;split
   ·exact base _ w g1 k1 k2 k3 k4
   grind
  split
  ·grind
  grind
 grind
theorem HD{c:CC}{s:aF}(hs:StOk c s)(hsm:dN s):StOk c (dZ c s)/\dN (dZ c s):=by
 have he:∀o,StOk c (gc c s 0 o)/\dN (gc c s 0 o):=by
  intro o;unfold gc;dsimp only;split
  ·exact⟨⟨hs.n,hs.th,⟨hs.fit.1,hs.fit.2,hs.fit.3,hs.fit.4⟩,hs.cap⟩,hsm⟩
  ·exact⟨⟨hs.n,hs.th,⟨hs.fit.1,hs.fit.2,hs.fit.3,hs.fit.4⟩,hs.cap⟩,hsm⟩
 unfold dZ;split
 ·grind
 split
 ·exact he 3
 split
 ·grind
 split
 ·exact⟨⟨hs.n,hs.th,⟨hs.fit.1,hs.fit.2,hs.fit.3,hs.fit.4⟩,hs.cap⟩,hsm⟩
 ·exact he 2
theorem Ju{c:CC}(hc:bi c)(l:List qc):StOk c (hZ c l):=by
 obtain⟨⟨fs,f,st,w,h1,h2⟩,hf,_⟩:=Aw hc l;refine⟨by simp[hZ],λt ht=>?_,hf,λj hj=>?_⟩
 ·have:t=(fs++[f],st,w,false):=by
   simp only[hZ,aaH]at ht;have h1':some (_:Th)=some (fs++[f],st,w,false):=h1;grind
  rw[this];exact .inr ⟨rfl,fs,f,rfl,h2⟩
 ·show((List.getD (List.replicate c.2.2.2.2.1.length []) j []).length:Int)<=_;have h0:=(hc.2.1.2.2.2 j hj).1;grind
theorem aly{c:CC}(hs:kA c)(h:VE c 0):bi c:=by
 rcases h with⟨_,h⟩|⟨_,_,h⟩|⟨_,_,_,h⟩|⟨h1,h2,h3,_⟩
 ·cases h
 ·cases h
 ·cases h
 ·exact⟨h1,h2,h3,hs⟩
theorem TT(c:CC)(hs:kA c)(e:ce)(l:List qc)(hl:l.length<=1048576):∃s f,ma c e l=some (s,f)/\dN s/\(f=0->bi c/\pT e/\s=pF c e l/\StOk c s)/\(f≠0->s=dJ):=by
 obtain⟨k,err,v2,v3⟩:=zi c hs;have hsn:dN dJ:=⟨by simp[dJ],λt ht=>by simp[dJ]at ht,by simp[dJ],by simp[dJ],λq hq=>by simp[dJ]at hq,by simp[dJ],by simp[dJ]⟩
 unfold ma;dsimp only;rw[v2];simp only[f7,Qz2];by_cases he:err=0;rotate_left
 ·rw[nt he];exact⟨dJ,err,rfl,hsn,λh=>absurd h he,λ_=>rfl⟩
 subst he;have hc:=aly hs v3;obtain⟨b,b2,b3⟩:=Dr e;simp only[adj,aax,b2,f7,Qz2];cases b
 ·exact⟨dJ,1,rfl,hsn,λh=>(by cases h),λ_=>rfl⟩
 have hp:=b3.1 rfl;simp only[acd,aax];by_cases h64:(64:Int)<l.length
 ·rw[az h64];exact⟨dJ,4,rfl,hsn,λh=>(by cases h),λ_=>rfl⟩
 rw[bN h64];simp only[aax];have hch:(c.2.2.2.2.1.length:Int)<=1048576:=by have:=hs.2.2.2.1;omega
 have hck:decide (0<=(c.2.2.2.2.1.length:Int)/\(c.2.2.2.2.1.length:Int)*24<=281474976710656/\(c.2.2.2.2.1.length:Int)<=maxLen)=true:=az ⟨by omega,by omega,by simp only[maxLen];omega⟩;have hn:=hc.2.1.1.1;have hn2:=hc.2.1.1.2.1;have hs1:=hs.1;have ew:ae ((c.2.1.length:Int)-1)=((c.2.1.length-1:Nat):Int):=by rw[aM (by omega) (by omega)];omega
 have eb:ac c.2.1 ((c.2.1.length-1:Nat):Int)=some (c.2.1.getD (c.2.1.length-1) 0):=aO 0 (by omega);have el:ac c.2.2.1 ((c.2.1.length-1:Nat):Int)=some (c.2.2.1.getD (c.2.1.length-1) 0):=aO 0 (by omega);obtain⟨_,_,_,_,q5,q6⟩:=hc.2.1.2.2.1 (c.2.1.length-1) (by omega);have hlk:decide (0<=c.2.2.1.getD (c.2.1.length-1) 0/\c.2.2.1.getD (c.2.1.length-1) 0*8<=281474976710656/\c.2.2.1.getD (c.2.1.length-1) 0<=maxLen)=true:=az ⟨q5,by omega,by simp only[maxLen];omega⟩;obtain⟨r1,r2,r3⟩:=Aw hc l;have so:=Ju hc l;obtain⟨st1,st2,st3⟩:=Dx hc e.1 so r1 r3;obtain⟨st4,st5⟩:=HD st1 st2;have hlen:0<(bR c e.1 0 (hZ c l)).1.1.length:=by rw[st3];simp[hZ]
 refine⟨pF c e l,0,?_,st5,λ_=>⟨hc,hp,rfl,st4⟩,λh=>absurd rfl h⟩
 ·refine(aba (λo:Option pZ=>o.bind _) (apm c hs l hl e ([],[],[],[],[],0,64,(0,0,0),-1,-1,0,[]) [])).trans ?_;simp only[f7,Qz2];refine(aba (λo:Option pZ=>o.bind _) (akm c hs l hl e (Ah ([],[],[],[],[],0,64,(0,0,0),-1,-1,0,[]) (qC c l)) [])).trans ?_;simp only[f7,Qz2,hck,af,f9];refine(aba (λo:Option pZ=>o.bind _) (apV c hs e (Di (Ah (s00 c) (qC c l)) (oZ c l)) [])).trans ?_;simp only[f7,Qz2,ic,ew,eb,el,hlk,f9];refine(aba (λo:Option aA=>o.bind _) (Rv hc e [] (by simp) r1 r2 r3)).trans ?_;simp only[f7,Qz2,Lm hc st1 hlen];rfl
abbrev jn:Type:=List UInt8
abbrev Df:Type:=aW
theorem QP{f:Int->Option (Int⊕(Unit⊕Int))}(xs:List α)(d:α)(p:α->Bool)(hn:xs.length<=1048576)
  (hstep:∀i,i<xs.length->f (i:Int)=some (bif p (xs.getD i d)then .inr (.inr (i:Int))else .inl ((i:Int)+1))) (hend:f (xs.length:Int)=some (.inr (.inl ()))) :
  ((∀j,j<xs.length->p (xs.getD j d)=false)/\Itr.it f 0=some (.inl ()))\/∃i,i<xs.length/\(∀j,j<i->p (xs.getD j d)=false)/\p (xs.getD i d)=true/\Itr.it f 0=some (.inr (i:Int)):=by
 rcases gG (f:=f) xs.length (by omega) (λi=>p (xs.getD i d)=false) (λi=>(i:Int))
  (λi hi _=>by
   grind) (λ_=>hend)with⟨h1,h2⟩|⟨i,h1,h2,h3,h4⟩
 ·grind
 grind
theorem vI(l:List Df)(hl:l.length<=1048576)(nm:jn) :
  (bQ l nm=some (-1)/\∀j,j<l.length->(l.getD j ([],[])).1≠nm)\/∃i:Nat,bQ l nm=some (i:Int)/\i<l.length/\(l.getD i ([],[])).1=nm/\∀j,j<i->(l.getD j ([],[])).1≠nm:=by
 unfold bQ;rcases QP (f:=iy l nm) l ([],[]) (λx=>x.1==nm) hl
  (λi hi=>by
   unfold iy;simp only[az (show(i:Int)<(l.length:Int)by omega),f9,aO ([],[]) hi,f7,bM (n:=l.length) (by omega) hi];grind)
  (by unfold iy;grind)with⟨h1,h2⟩|⟨i,h1,h2,h3,h4⟩
 ·grind
 grind
theorem tV(l:List jn)(hl:l.length<=1048576)(nm:jn):∃r,bP l nm=some r/\-1<=r/\r<l.length/\(r<0->nm∉l):=by
 unfold bP;rcases QP (f:=iE l nm) l [] (λx=>x==nm) hl
  (λi hi=>by
   unfold iE;simp only[az (show(i:Int)<(l.length:Int)by omega),f9,aO [] hi,f7,bM (n:=l.length) (by omega) hi];grind)
  (by unfold iE;grind)with⟨h1,h2⟩|⟨i,h1,h2,h3,h4⟩
 ·rw[h2];refine⟨-1,rfl,by omega,by omega,λ_ hm=>?_⟩;obtain⟨j,hj,rfl⟩:=adT.1 hm;grind
 ·rw[h4];exact⟨i,rfl,by omega,by omega,λh=>by omega⟩
theorem EH(l:List jn)(hl:l.length<=1048576)(w:jn):∃b,fk l w=some b/\(b=true↔w∈l):=by
 unfold fk;rcases gG (f:=jS l w) l.length (by omega) (λi=>(l.getD i []==w)=false) (λi=>true)
  (λi hi _=>by
   unfold jS;simp only[az (show(i:Int)<(l.length:Int)by omega),f9,aO [] hi,f7,bM (n:=l.length) (by omega) hi];grind)
  (λ_=>by unfold jS;grind)with⟨h1,h2⟩|⟨i,h1,h2,h3,h4⟩
 ·rw[h2];refine⟨false,rfl,λh=>(by cases h),λhm=>?_⟩;obtain⟨j,hj,rfl⟩:=adT.1 hm;grind
 ·rw[h4];refine⟨true,rfl,λ_=>?_,λ_=>rfl⟩;grind
where getD_mem' {α:Type} {xs:List α} {i:Nat} (d:α) (h:i<xs.length):xs.getD i d∈xs:=by simp[h]
theorem RG{f:Int->Option (Int⊕Int)}(n:Nat)(hn:n<=1048576)(p:Nat->Bool)
  (hstep:∀i,i<n->f ((i+1:Nat):Int)=some (bif p i then .inl (i:Int)else .inr ((i+1:Nat):Int))) (h0:f 0=some (.inr 0)):∃k:Nat,k<=n/\Itr.it f (n:Int)=some (k:Int):=by
 obtain⟨r,h1,h2⟩:=gz (f:=f) (λs=>s.toNat) (λs=>∃i:Nat,s=(i:Int)/\i<=n) (λr=>∃k:Nat,k<=n/\r=(k:Int))
  (λs hs=>by
   obtain⟨i,rfl,hi⟩:=hs;cases i with
   |zero=>grind
   |succ i=>
    have:=hstep i (by omega);cases hp:p i
    ·rw[hp]at this;exact .inl ⟨_,this,i+1,hi,rfl⟩
    ·rw[hp]at this;exact .inr ⟨_,this,⟨i,rfl,by omega⟩,by simp⟩) (s:=(n:Int)) ⟨n,rfl,by omega⟩ (by simp;omega)
 grind
theorem Z0(l:List jn)(hl:l.length<1048576)(w:jn):∃r,ly l w=some r/\(∀y,y∈r↔y∈l\/y=w)/\r.length<=l.length+1:=by
 unfold ly;obtain⟨b,hb,hb2⟩:=EH l (by omega) w;rw[hb];cases b
 ·simp only[f7,Qz2,aax];obtain⟨k,hk,he⟩:=RG (f:=my l w) l.length (by omega) (λi=>Op.bytesLess w (l.getD i []))
   (λi hi=>by
    unfold my;have e:ae (((i+1:Nat):Int)-1)=(i:Int):=by rw[aM (by omega) (by omega)];omega
    simp only[az (show(0:Int)<((i+1:Nat):Int)by omega),f9,e,aO [] hi,f7];grind)
   (by rfl)
  rw[he];simp only[f7,Qz2,af];have c1:decide (0<=(0:Int)/\(0:Int)<=(k:Int)/\(k:Int)<=l.length)=true:=az ⟨by omega,by omega,by omega⟩;have c2:decide (0<=(k:Int)/\(k:Int)<=(l.length:Int)/\(l.length:Int)<=l.length)=true:=az ⟨by omega,by omega,by omega⟩;have a1:∀m n:Nat,m+n<=2097152->aH m n 16=true:=λm n h=>aT (by omega) (by omega);rw[c1,c2];simp only[f9,aaR,acG,Int.toNat_zero,adi];rw[a1 _ _ (by grind),a1 _ _ (by grind),a1 _ _ (by grind)];refine⟨_,rfl,λy=>?_,by grind⟩;rw[List.take_length];constructor
  ·grind
  ·intro h;rcases h with h|h
   ·rw[<-adE k l]at h;grind
   grind
 grind
def aY(x:Int):Prop:=-9223372036854775808<=x/\x<=9223372036854775807
instance (x:Int):Decidable (aY x):=inferInstanceAs (Decidable (-9223372036854775808<=x/\x<=9223372036854775807))
theorem jC(x:Int):aY (ae x):=by unfold ae aY;rw[IntKind.wrap_i64];omega
theorem Rs(l:List (jn×Int))(hl:l.length<1048576)(w:jn×Int):∃r,lp l w=some r/\r.length=l.length+1/\∀v∈r,v∈l\/v=w:=by
 unfold lp;obtain⟨k,hk,he⟩:=RG (f:=mn l w) l.length (by omega) (λi=>!(Op.bytesLess (l.getD i ([],0)).1 w.1||(l.getD i ([],0)).1==w.1))
  (λi hi=>by
   unfold mn;have e:ae (((i+1:Nat):Int)-1)=(i:Int):=by rw[aM (by omega) (by omega)];omega
   simp only[az (show(0:Int)<((i+1:Nat):Int)by omega),f9,e,aO ([],0) hi,f7];grind)
  (by rfl)
 rw[he];simp only[f7,Qz2,af];have c1:decide (0<=(0:Int)/\(0:Int)<=(k:Int)/\(k:Int)<=l.length)=true:=az ⟨by omega,by omega,by omega⟩;have c2:decide (0<=(k:Int)/\(k:Int)<=(l.length:Int)/\(l.length:Int)<=l.length)=true:=az ⟨by omega,by omega,by omega⟩;have a1:∀m n:Nat,m+n<=2097152->aH m n 24=true:=λm n h=>aT (by omega) (by omega);rw[c1,c2];simp only[f9,aaR,acG,Int.toNat_zero,adi];rw[a1 _ _ (by grind),a1 _ _ (by grind),a1 _ _ (by grind)];refine⟨_,rfl,by grind,λv hv=>?_⟩;have h1:=λh:v∈l.take k=>aeC h;have h2:=λh:v∈l.drop k=>agF h;grind
theorem HL(n:aE)(hn:n.2.2.2.length<=1048576):∃r,gm n=some r/\r.length<=n.2.2.2.length:=by
 unfold gm;obtain⟨r,h1,h2⟩:=gz (f:=kK n) (λs=>n.2.2.2.length-s.2.toNat) (λs=>∃i:Nat,s.2=(i:Int)/\i<=n.2.2.2.length/\s.1.length<=i) (λr=>r.length<=n.2.2.2.length)
  (λs hs=>by
   obtain⟨o,s2⟩:=s;obtain⟨i,hi1,hi,ho⟩:=hs;dsimp only at hi1 ho;subst hi1;unfold kK;rcases abL i n.2.2.2.length with hlt|hge
   ·right;simp only[az (show(i:Int)<(n.2.2.2.length:Int)by omega),f9,aO (Nd.mk 0 [] 0 []) hlt,f7,bM (n:=n.2.2.2.length) (by omega) hlt];cases hb:(n.2.2.2.getD i (Nd.mk 0 [] 0 [])).tup.1==7
    ·exact⟨_,rfl,⟨i+1,rfl,by omega,by grind⟩,by grind⟩
    ·simp only[f9];rw[dz (aT (by grind) (by omega))];exact⟨_,rfl,⟨i+1,rfl,by omega,by grind⟩,by grind⟩
   grind) (s:=([],0)) ⟨0,rfl,by omega,by simp⟩ (by grind)
 grind
end Go.Proofs.YtfhhiajfciblbaaGreatDoor
