/- Laws for the row. No condition. -/
import Derived.Test.YtgghcmbaidihjaaGreatDoorFn
namespace Go.Proofs.YtgghcmbaidihjaaGreatDoor
open Go.Sm
variable {i pc:Nat} {α R S:Type} {st b l:List Int} {w a op:Int} {acc:List ((Int×Int×Bool)×Bool)} {c:aD}
instance instItr:Itr:=itF
theorem JD{S R:Type}(f:S->Option (S⊕R))(m:S->Nat)(F:S->R)(e:S->Prop)
  (d:∀s,e s->f s=some (.inr (F s))\/∃g,f s=some (.inl g)/\e g/\m g<m s/\F g=F s):∀(k:Nat) (s:S),e s->m s<k->ov f k s=some (F s)
 |0,s,_,h=>by omega
 |k+1,s,hs,h=>by
  rcases d s hs with j|⟨g,j,n,p,o⟩
  ·simp only[ov,j,f8,Qz2]
  ·simp only[ov,j,f8,Qz2];rw[JD f m F e d k g n (by omega),o]
theorem eM{f:S->Option (S⊕R)}(m:S->Nat)(F:S->R)(d:S->Prop)
  (e:∀s,d s->f s=some (.inr (F s))\/∃g,f s=some (.inl g)/\d g/\m g<m s/\F g=F s) {s:S} (hs:d s) (h:m s<9223372036854775808):Itr.it f s=some (F s):=
 JD f m F d e EL s hs h
def HK{α A R:Type}(g:A->α->A⊕R)(h:A->R):List α->A->R
 |[],a=>h a
 |x::r,a=>match g a x with
  |.inl d=>HK g h r d
  |.inr z=>z
theorem asH{A:Type}{f:S->Option (S⊕R)}(mk:Int->A->S)(xs:List α)(g:A->α->A⊕R)(h:A->R)(I:Nat->A->Prop)(r:xs.length<9223372036854775808)
  (d:∀(i:Nat) (x:α) (a:A),xs[i]?=some x->I i a->f (mk i a)=some (match g a x with|.inl o=>.inl (mk ((i:Int)+1) o)|.inr z=>.inr z)/\∀o,g a x=.inl o->I (i+1) o)
  (e:∀a,I xs.length a->f (mk xs.length a)=some (.inr (h a))) {a:A} (ha:I 0 a):Itr.it f (mk 0 a)=some (HK g h xs a):=by
 have gen:∀(k j:Nat) (a:A),k+j=xs.length->I k a->∀n,j<n->ov f n (mk (k:Int) a)=some (HK g h (xs.drop k) a):=by
  intro k j;induction j generalizing k with
  | zero=>
   intro a q p n r;cases n with
   |zero=>omega
   |succ n=>
    have q:k=xs.length:=by omega
    subst q;simp only[ov,e a p,f8,Qz2,aiI,HK]
  | succ j u=>
   intro a q p n r;cases n with
   |zero=>omega
   |succ n=>
    have m:k<xs.length:=by omega
    obtain⟨s,t⟩:=d k xs[k] a (acz m) p;rw[aqd m];simp only[ov,s,f8,Qz2,HK];grind
 have:=gen 0 xs.length a (by omega) ha EL r;show ov f EL (mk 0 a)=_;grind
theorem HH{A:Type}{f:S->Option (S⊕R)}(mk:Int->A->S)(xs:List α)(g:A->α->A)(h:A->R)(I:Nat->A->Prop)(m:xs.length<9223372036854775808)
  (d:∀(i:Nat) (x:α) (a:A),xs[i]?=some x->I i a->f (mk i a)=some (.inl (mk ((i:Int)+1) (g a x)))/\I (i+1) (g a x))
  (j:∀a,I xs.length a->f (mk xs.length a)=some (.inr (h a))) {a:A} (ha:I 0 a):Itr.it f (mk 0 a)=some (h (xs.foldl g a)):=by
 have:=asH mk xs (λa x=>(.inl (g a x):A⊕R)) h I m (λi x a n k=>⟨(d i x a n k).1,λp e=>by grind⟩) j ha;rw[this];congr 1;have gen:∀(l:List α) (a:A),HK (λa x=>(.inl (g a x):A⊕R)) h l a=h (l.foldl g a):=by
  intro l;induction l with
  |nil=>intro a;rfl
  |cons x l o=>intro a;exact o (g a x)
 exact gen xs a
theorem ay{x:Int}(d : -9223372036854775808<=x)(e:x<=9223372036854775807):ac x=x:=by rw[ac,IntKind.wrap_i64];omega
theorem aV{xs:List α}{x:α}(h:xs[i]?=some x):ae xs (i:Int)=some x:=by simp[ae,h]
theorem vY{b:Bool}{m:Option α}(h:b=true):af b m=m:=by subst h;rfl
theorem bh{m k b:Nat}(h:(m+k)*b<=140737488355328)(d:1<=b):aN m k b=true:=by unfold aN;rw[agD];refine⟨h,?_⟩;have:m+k<=(m+k)*b:=aqy _ d;simp only[maxLen];omega
theorem cG{xs:List α}{x:α}(h:xs[i]?=some x):i<xs.length:=(aeI.1 h).1
theorem ax{p:Prop}[Decidable p](h:p):decide p=true:=ahk h
theorem aP{p:Prop}[Decidable p](h:¬p):decide p=false:=decide_eq_false h
theorem bt{b:Int}(h:a=b):(a==b)=true:=aix.2 h
theorem bf{b:Int}(h:¬a=b):(a==b)=false:=ag6.2 h
theorem nt{b:Int}(h:¬a=b):(a != b)=true:=bne_iff_ne.2 h
theorem nf{b:Int}(h:a=b):(a != b)=false:=bne_eq_false_iff_eq.2 h
theorem fD{f:S->Option (S⊕R)}(m:S->Nat)(d:S->Prop)(Q:R->Prop)
  (e:∀s,d s->(∃r,f s=some (.inr r)/\Q r)\/∃g,f s=some (.inl g)/\d g/\m g<m s) {s:S} (hs:d s) (q:m s<9223372036854775808):∃r,Itr.it f s=some r/\Q r:=by
 have gen:∀(k:Nat) (s:S),d s->m s<k->∃r,ov f k s=some r/\Q r:=by
  intro k;induction k with
  |zero=>grind
  |succ k t=>
   intro s hs h;rcases e s hs with⟨r,j,n⟩|⟨g,j,n,u⟩
   ·exact⟨r,by simp only[ov,j,f8,Qz2],n⟩
   ·obtain⟨r,o,p⟩:=t g n (by omega);exact⟨r,by simp only[ov,j,f8,Qz2];exact o,p⟩
 exact gen EL s hs q
set_option linter.unusedSimpArgs false
set_option linter.unusedVariables false
theorem br{xs:List α}(d:α)(h:i<xs.length):ae xs (i:Int)=some (xs.getD i d):=by simp[ae,h]
theorem bL{xs:List α}{k:Int}(d:α)(e:0<=k)(h:k<xs.length):ae xs k=some (xs.getD k.toNat d):=by grind[ae]
theorem dN{n:Nat}(d:n<9223372036854775808)(h:i<n):ac ((i:Int)+1)=(i:Int)+1:=ay (by omega) (by omega)
theorem Q1{n:Nat}(e:n<9223372036854775808)(h:i<n)(d:0<i):ac ((i:Int)-1)=((i-1:Nat):Int):=by rw[ay (by omega) (by omega)];omega
theorem IB{f:Int->Option (Int⊕(Unit⊕R))}(a n:Nat)(ha:a<=n)(x:n<9223372036854775808)(P:Nat->Prop)(Z:Nat->R)
  (d:∀i:Nat,a<=i->i<n->(∀j,a<=j->j<i->P j)->(P i/\f (i:Int)=some (.inl ((i:Int)+1)))\/(¬P i/\f (i:Int)=some (.inr (.inr (Z i)))))
  (o:(∀j,a<=j->j<n->P j)->f (n:Int)=some (.inr (.inl ()))) :
  ((∀j,a<=j->j<n->P j)/\Itr.it f (a:Int)=some (.inl ()))\/∃i,a<=i/\i<n/\(∀j,a<=j->j<i->P j)/\¬P i/\Itr.it f (a:Int)=some (.inr (Z i)):=by
 obtain⟨r,u,v⟩:=fD (f:=f) (λs=>n-s.toNat) (λs=>∃i:Nat,s=(i:Int)/\a<=i/\i<=n/\∀j,a<=j->j<i->P j)
  (λr=>((∀j,a<=j->j<n->P j)/\r=.inl ())\/∃i,a<=i/\i<n/\(∀j,a<=j->j<i->P j)/\¬P i/\r=.inr (Z i))
  (λs hs=>by
   obtain⟨i,rfl,e,hi,m⟩:=hs;rcases afB i n with g|q
   ·rcases d i e g m with⟨p,h⟩|⟨p,h⟩
    ·refine .inr ⟨_,h,⟨i+1,by simp,by omega,by omega,λj k t=>?_⟩,?_⟩
     ·grind
     grind
    ·exact .inl ⟨_,h,.inr ⟨i,e,g,m,p,rfl⟩⟩
   ·have:i=n:=by omega
    simp_all) (s:=(a:Int)) ⟨a,rfl,by omega,ha,λj k t=>by omega⟩ (by grind)
 grind
theorem jU{f:Int->Option (Int⊕(Unit⊕R))}(n:Nat)(o:n<9223372036854775808)(P:Nat->Prop)(Z:Nat->R)
  (d:∀i:Nat,i<n->(∀j,j<i->P j)->(P i/\f (i:Int)=some (.inl ((i:Int)+1)))\/(¬P i/\f (i:Int)=some (.inr (.inr (Z i)))))
  (e:(∀j,j<n->P j)->f (n:Int)=some (.inr (.inl ()))) :
  ((∀j,j<n->P j)/\Itr.it f (0:Int)=some (.inl ()))\/∃i,i<n/\(∀j,j<i->P j)/\¬P i/\Itr.it f (0:Int)=some (.inr (Z i)):=by
 rcases IB (f:=f) 0 n (by omega) o P Z (λi _ hi g=>d i hi λj h=>g j (by omega) h) (λg=>e λj h=>g j (by omega) h)with⟨k,m⟩|⟨i,_,k,m,p,q⟩
 ·grind
 grind
theorem G9{xs:List α}(d:α)(h:i<xs.length):xs.take (i+1)=xs.take i++[xs.getD i d]:=by simp_all
theorem OI(l:List (List UInt8×Int))(h:l.length<=1048576):gJ l=some (l.map (·.1)):=by
 unfold gJ;have:=eM (f:=kz l) (λs=>l.length-s.2.toNat) (λ_=>l.map (·.1)) (λs=>∃i:Nat,s=((l.take i).map (·.1),(i:Int))/\i<=l.length)
  (λs hs=>by
   obtain⟨i,rfl,hi⟩:=hs;unfold kz;rcases afB i l.length with d|e
   ·right;refine⟨((l.take (i+1)).map (·.1),((i+1:Nat):Int)),?_,⟨i+1,rfl,by omega⟩,?_,rfl⟩
    ·simp only[ax (show(i:Int)<(l.length:Int)by omega),abv,br ([],0) d,f8];rw[vY (bh (by grind) (by omega)),dN (n:=l.length) (by omega) d,G9 ([],0) d];simp
    grind
   grind) (s:=([],0)) ⟨0,rfl,by omega⟩ (by grind)
 rw[this];rfl
theorem NX(l:List (List UInt8×Int))(h:l.length<=1048576):wj l=some (l.map (·.1)):=OI l h
def BH(l:List (List UInt8)):Prop:=∀i,i<l.length->0<i->Op.bytesLess (l.getD (i-1) []) (l.getD i [])=true
theorem av9(l:List (List UInt8))(h:l.length<=1048576):(BH l/\Itr.it (ip l) 0=some (.inl ()))\/(¬BH l/\Itr.it (ip l) 0=some (.inr (.inr (.inr false)))):=by
 rcases jU (f:=ip l) l.length (by omega) (λi=>0<i->Op.bytesLess (l.getD (i-1) []) (l.getD i [])=true) (λ_=>.inr (.inr false))
  (λi hi g=>by
   unfold ip;rcases Nat.eq_zero_or_pos i with rfl|d
   ·left;refine⟨λh=>by omega,?_⟩;simp only[ax (show((0:Nat):Int)<(l.length:Int)by omega),aP (show¬(0:Int)<((0:Nat):Int)by omega),abv,ab7,f8,Qz2];rfl
   ·have e:ac ((i:Int)-1)=((i-1:Nat):Int):=Q1 (n:=l.length) (by omega) hi d;simp only[ax (show(i:Int)<(l.length:Int)by omega),ax (show(0:Int)<(i:Int)by omega),abv,e,br [] hi,br [] (show i-1<l.length by omega),f8,dN (n:=l.length) (by omega) hi];grind)
  (λg=>by unfold ip;grind)with⟨g,j⟩|⟨i,hi,_,g,j⟩
 ·exact .inl ⟨λi hi d=>g i hi d,j⟩
 ·exact .inr ⟨λh=>g λd=>h i hi d,j⟩
def awP(c:aD)(i:Nat):Prop:=
 (i=0->c.2.1.getD 0 0=0)/\(0<i->c.2.1.getD (i-1) 0<c.2.1.getD i 0)/\0<=c.2.1.getD i 0/\c.2.1.getD i 0<c.1.length/\0<=c.2.2.1.getD i 0/\c.2.2.1.getD i 0<=512
def av7(c:aD):Prop:=∀i,i<c.2.2.2.2.1.length->0<=(c.2.2.2.2.1.getD i ([],0)).2/\(c.2.2.2.2.1.getD i ([],0)).2<=3
def ahS(c:aD):Prop:=1<=c.2.1.length/\c.2.2.1.length=c.2.1.length/\c.2.2.2.2.2.2.2.length=c.2.1.length
def alN(c:aD):Prop:=BH (c.2.2.2.1.map (·.1))/\BH (c.2.2.2.2.1.map (·.1))/\BH c.2.2.2.2.2.1/\BH c.2.2.2.2.2.2.1
def qe(c:aD):Prop:=ahS c/\alN c/\(∀i,i<c.2.1.length->awP c i)/\av7 c
def lN(c:aD):Prop:=c.2.1.length<=1048576/\c.2.2.1.length<=1048576/\c.2.2.2.1.length<=1048576/\c.2.2.2.2.1.length<=1048576/\c.2.2.2.2.2.1.length<=1048576/\c.2.2.2.2.2.2.1.length<=1048576/\c.2.2.2.2.2.2.2.length<=1048576
def Rh(c:aD)(i:Nat):Prop:=(0<i->c.2.1.getD (i-1) 0<c.2.1.getD i 0)/\0<=c.2.2.1.getD i 0/\c.2.2.1.getD i 0<=512
theorem at4(c:aD)(g:c.2.1.getD 0 0=0)(hl:c.2.1.getD (c.2.1.length-1) 0<c.1.length)(h:∀i,i<c.2.1.length->Rh c i):∀i,i<c.2.1.length->awP c i:=by
 have up:∀i,i<c.2.1.length->0<=c.2.1.getD i 0:=by
  intro i;induction i with
  |zero=>intro _;omega
  |succ i d=>intro hi;have:=d (by omega);have:=(h (i+1) hi).1 (by omega);grind
 have f:∀k i,i+k+1=c.2.1.length->c.2.1.getD i 0<=c.2.1.getD (c.2.1.length-1) 0:=by
  intro k;induction k with
  |zero=>grind
  |succ k d=>intro i hi;have:=d (i+1) (by omega);have:=(h (i+1) (by omega)).1 (by omega);grind
 intro i hi;have:=f (c.2.1.length-1-i) i (by omega);obtain⟨j,m,n⟩:=h i hi;exact⟨λe=>g,j,up i hi,by omega,m,n⟩
theorem acX(c:aD)(hs:lN c)(m:ahS c)(i:Nat)(hi:i<c.2.1.length) :
  (Rh c i/\iy c (i:Int)=some (.inl ((i:Int)+1)))\/(¬Rh c i/\iy c (i:Int)=some (.inr (.inr false))):=by
 obtain⟨o,p,r⟩:=m;obtain⟨s,t,u⟩:=hs;have d:i<c.2.2.1.length:=by omega
 unfold iy Rh;have f:=br (0:Int) hi;have g:=br (0:Int) d;generalize c.2.1.getD i 0=b at f|-;generalize c.2.2.1.getD i 0=q at g|-;have j:=dN (n:=c.2.1.length) (by omega) hi;rcases Nat.eq_zero_or_pos i with rfl|k
 ·grind
 ·have e:i-1<c.2.1.length:=by omega
  have h:=br (0:Int) e;generalize c.2.1.getD (i-1) 0=a at h|-;simp only[ax (show(i:Int)<(c.2.1.length:Int)by omega),ax (show(0:Int)<(i:Int)by omega),abv,Q1 (n:=c.2.1.length) (by omega) hi k,h,f8,Qz2,f,g,j];grind
theorem adh(c:aD)(hs:lN c):∃b,dL c.2.2.2.2.1=some b/\((!b)=true↔av7 c):=by
 have j:c.2.2.2.2.1.length<=1048576:=hs.2.2.2.1;unfold dL gb;rcases jU (f:=dr c.2.2.2.2.1) c.2.2.2.2.1.length (by omega) (λi=>0<=(c.2.2.2.2.1.getD i ([],0)).2/\(c.2.2.2.2.1.getD i ([],0)).2<=3) (λi=>(i:Int))
  (λi hi _=>by
   unfold dr vx;have e:=br (([],0):List UInt8×Int) hi;generalize c.2.2.2.2.1.getD i ([],0)=x at e|-;simp only[ax (show(i:Int)<(c.2.2.2.2.1.length:Int)by omega),abv,e,f8,Qz2,dN (n:=c.2.2.2.2.1.length) (by omega) hi];grind)
  (λ_=>by unfold dr;grind)with⟨d,g⟩|⟨i,hi,_,d,g⟩
 ·rw[g];exact⟨false,rfl,λ_=>d,λ_=>rfl⟩
 ·rw[g];refine⟨true,?_,λh=>(by cases h),λh=>absurd (h i hi) d⟩;simp_all
theorem Io(c:aD)(hl:c.1.length<=512)(hs:lN c):∃b,uD c=some b/\(b=true↔qe c):=by
 have s:=hs;obtain⟨N,O,I,J,P,Q,T⟩:=s;unfold uD;dsimp only;by_cases e:ahS c
 ·have u:((c.2.1.length:Int)==0)=false:=by have:=e.1;grind
  have x:(c.2.2.1.length:Int)=c.2.1.length:=by have:=e.2.1;omega
  have y:(c.2.2.2.2.2.2.2.length:Int)=c.2.1.length:=by have:=e.2.2;omega
  have G:((c.2.2.1.length:Int) != (c.2.1.length:Int))=false:=by simp[x]
  have H:((c.2.2.2.2.2.2.2.length:Int) != (c.2.1.length:Int))=false:=by simp[y]
  have n1:0<c.2.1.length:=e.1;have z:ae c.2.1 0=some (c.2.1.getD 0 0):=br 0 n1;have A:ae c.2.1 (ac ((c.2.1.length:Int)-1))=some (c.2.1.getD (c.2.1.length-1) 0):=by grind[ay,br]
  simp only[u,G,H,ab7,abv,aeN,z,f8,Qz2];by_cases k:c.2.1.getD 0 0=0;rotate_left
  ·refine⟨false,?_,λh=>(by cases h),λh=>absurd ((h.2.2.1 0 n1).1 rfl) k⟩;grind
  rw[nf k];simp only[ab7,abv,aeN,A,f8,Qz2];by_cases E:(c.1.length:Int)<=c.2.1.getD (c.2.1.length-1) 0
  ·refine⟨false,by grind,λh=>(by cases h),λh=>?_⟩;have:=(h.2.2.1 (c.2.1.length-1) (by omega)).2.2.2.1;omega
  rw[aP E];simp only[ab7,NX _ I,NX _ J,f8,Qz2];generalize v:[c.2.2.2.1.map (·.1),c.2.2.2.2.1.map (·.1),c.2.2.2.2.2.1,c.2.2.2.2.2.2.1]=L;have q:L.length=4:=by grind
  have d:(∀i,i<4->BH (L.getD i []))↔alN c:=by
   rw[<-v];constructor
   ·intro h;exact⟨h 0 (by omega),h 1 (by omega),h 2 (by omega),h 3 (by omega)⟩
   ·rintro⟨m,o,K,M⟩ i hi;grind
  have t:∀i,i<4->(L.getD i []).length<=1048576:=by grind
  rcases jU (f:=qw c (c.2.2.2.1.map (·.1)) (c.2.2.2.2.1.map (·.1))) 4 (by omega) (λi=>BH (L.getD i [])) (λ_=>false)
   (λi hi _=>by
    unfold qw;dsimp only;rw[v,q,ax (show(i:Int)<((4:Nat):Int)by omega)];simp only[abv,br [] (show i<L.length by omega),f8];rcases av9 (L.getD i []) (t i hi)with⟨m,o⟩|⟨m,o⟩
    ·left;refine⟨m,?_⟩;rw[o];simp only[f8,Qz2];rw[dN (n:=4) (by omega) hi]
    grind)
   (λ_=>by
    rfl)with⟨r,g⟩|⟨i,hi,_,r,g⟩
  ·rw[g];simp only[f8,Qz2];rcases jU (f:=iy c) c.2.1.length (by omega) (Rh c) (λ_=>false) (λi hi _=>acX c hs e i hi) (λ_=>by unfold iy;grind)with⟨p,g⟩|⟨i,hi,_,p,g⟩
   ·rw[g];simp only[f8,Qz2];obtain⟨b,F,j⟩:=adh c hs;rw[F];exact⟨!b,rfl,λh=>⟨e,d.1 r,at4 c k (by omega) p,j.1 h⟩,λh=>j.2 h.2.2.2⟩
   ·rw[g];refine⟨false,rfl,λh=>(by cases h),λh=>absurd ?_ p⟩;obtain⟨_,B,_,_,C,D⟩:=h.2.2.1 i hi;exact⟨B,C,D⟩
  ·rw[g];refine⟨false,rfl,λh=>(by cases h),λh=>absurd (d.2 h.2.1 i hi) r⟩
 ·refine⟨false,?_,λh=>(by cases h),λh=>absurd h.1 e⟩;by_cases u:(c.2.1.length:Int)=0
  ·grind
  rw[bf u];by_cases x:(c.2.2.1.length:Int)=c.2.1.length
  ·have y:¬((c.2.2.2.2.2.2.2.length:Int)=c.2.1.length):=λh=>e ⟨by omega,by omega,by omega⟩;grind
  grind
def AD(b:List Int):Prop:=1<=b.length/\b.length<=1048576/\b.getD 0 0=0/\∀i,i<b.length->0<i->b.getD (i-1) 0<b.getD i 0
def uO(b:List Int)(pc:Int)(k:Nat):Prop:=k<b.length/\b.getD k 0<=pc/\(k+1<b.length->pc<b.getD (k+1) 0)
theorem as6(h:AD b):∀d i,i+d+1<b.length->b.getD i 0<b.getD (i+d+1) 0:=by
 intro d;induction d with
 |zero=>intro i hi;have:=h.2.2.2 (i+1) (by omega) (by omega);grind
 |succ d e=>
  intro i hi;have f:=e i (by omega);have g:=h.2.2.2 (i+d+1+1) (by omega) (by omega);grind
theorem CY(h:AD b){j:Nat}(d:i<j)(e:j<b.length):b.getD i 0<b.getD j 0:=by have:=as6 h (j-i-1) i (by omega);grind
theorem Dx(h:AD b){j:Nat}(d:i<=j)(f:j<b.length):b.getD i 0<=b.getD j 0:=by
 rcases Nat.lt_or_eq_of_le d with e|e
 ·exact Int.le_of_lt (CY h e f)
 grind
theorem A2(h:AD b)(hi:i<b.length):0<=b.getD i 0:=by have:=Dx h (ahT i) hi;rw[h.2.2.1]at this;exact this
theorem wB(h:qe c)(hs:lN c):AD c.2.1:=⟨h.1.1,hs.1,(h.2.2.1 0 h.1.1).1 rfl,λi hi d=>(h.2.2.1 i hi).2.1 d⟩
theorem ag3(x y:Int):sS x y=some (decide (x<y)):=by unfold sS qR;simp
theorem ayp{n:Nat}(h:n<4611686018427387904):dD .u64 (IntKind.u64.wrap (n:Int)) (1:Int)=((n / 2:Nat):Int):=by rw[IntKind.wrap_u64,show(n:Int)%18446744073709551616=n by omega];show Int.fdiv (n:Int) (2 ^ (min (1:Int).toNat 64))=_;grind
theorem WS{pc:Int}{k:Nat}(h:AD b)(v:uO b pc k)(F:0<=pc):gi b pc=some (if b.getD k 0=pc then((k:Int),true)else((k:Int)+1,false)):=by
 obtain⟨p,G,D⟩:=v;have hl:=h.2.1;unfold gi;generalize o:(if b.getD k 0=pc then k else k+1)=r;have g:r<=b.length:=by grind
 have lo:∀j,j<r->b.getD j 0<pc:=by
  intro j d;rw[<-o]at d;split at d
  ·have:=CY h d p;omega
  ·have:=Dx h (show j<=k by omega) p;omega
 have hi:∀j,r<=j->j<b.length->pc<=b.getD j 0:=by
  intro j d e;rw[<-o]at d;split at d
  ·have:=Dx h d e;omega
  ·have:=D (by omega);have:=Dx h (show k+1<=j by omega) e;omega
 have:=eM (f:=go b pc) (λs=>s.2.toNat-s.1.toNat) (λ_=>(r:Int)) (λs=>∃x y:Nat,s=((x:Int),(y:Int))/\x<=r/\r<=y/\y<=b.length)
  (λs hs=>by
   obtain⟨x,y,rfl,A,C,m⟩:=hs;unfold go;by_cases B:x<y
   ·right;have q:ac ((x:Int)+(y:Int))=((x+y:Nat):Int):=by rw[ay (by omega) (by omega)];omega
    have t:ac (((x+y) / 2:Nat):Int)=(((x+y) / 2:Nat):Int):=ay (by omega) (by omega);have u:ac ((((x+y) / 2:Nat):Int)+1)=(((x+y) / 2+1:Nat):Int):=by rw[ay (by omega) (by omega)];omega
    have z:(x+y) / 2<b.length:=by omega
    simp only[ax (show(x:Int)<(y:Int)by omega),ax (show(0:Int)<=1 by omega),af,abv,q,ayp (show x+y<4611686018427387904 by omega),t,u,br 0 z,f8,Qz2,ag3];by_cases n:b.getD ((x+y) / 2) 0<pc
    ·rw[ax n];refine⟨_,rfl,⟨(x+y) / 2+1,y,rfl,?_,C,m⟩,by grind,(by trivial)⟩;grind
    ·rw[aP n];refine⟨_,rfl,⟨x,(x+y) / 2,rfl,A,?_,by omega⟩,by grind,(by trivial)⟩;grind
   grind) (s:=(0,(b.length:Int))) ⟨0,b.length,rfl,by omega,g,by omega⟩ (by grind)
 rw[this];simp only[f8,Qz2];by_cases E:b.getD k 0=pc
 ·grind[ax,br,Bool.not_true]
 grind[nS,ax,br,Bool.not_false,bne_self_eq_false]
theorem Ip{pc:Int}{k:Nat}(h:AD c.2.1)(d:uO c.2.1 pc k)(e:0<=pc):dU c pc=some (k:Int):=by unfold dU;have:=h.2.1;have:=d.1;rw[WS h d e];grind[Bool.not_false,ay]
def yz(a lo hi:Int):Prop:=lo<=a/\a<hi
def UU(op:Int):Int:=(uL.getD op.toNat ([],0)).2
def eI(c:aD)(k:Nat):Int:=if k+1<c.2.1.length then c.2.1.getD (k+1) 0 else c.1.length
def R1(c:aD)(k:Nat)(x:Int×Int×Int):Prop:=
 (x.1=1\/x.1=2\/x.1=24->yz x.2.1 0 (c.2.2.1.getD k 0))/\(x.1=10\/x.1=11->yz x.2.1 (c.2.1.getD k 0) (eI c k))/\(x.1=12\/x.1=18->yz x.2.1 0 c.2.1.length) /\
 (x.1=14->0<=x.2.1/\x.2.2=k)/\(x.1=15->yz x.2.1 1 100)/\(x.1=16\/x.1=17->yz x.2.1 0 c.2.2.2.1.length)/\(x.1=19\/x.1=20->yz x.2.1 0 c.2.2.2.2.1.length) /\
 (x.1=21\/x.1=22->yz x.2.1 0 c.2.2.2.2.2.1.length)/\(x.1=23->yz x.2.1 2 7)/\(x.1=25->yz x.2.1 1 10)/\(x.1=26\/x.1=27->yz x.2.1 0 c.2.2.2.2.2.2.1.length) /\
 (x.1=20\/x.1=23\/x.1=27->yz x.2.2 0 (c.2.2.1.getD k 0))
def anr(c:aD)(k:Nat)(pc:Int)(x:Int×Int×Int):Prop:=
 (UU x.1<2->x.2.2=0)/\(UU x.1<1->x.2.1=0)/\(x.1=13->k+1≠c.2.1.length)/\(x.1=28->k+1=c.2.1.length)/\(pc+1=eI c k->x.1=13\/x.1=28)
def EV(c:aD)(k:Nat)(pc:Int)(x:Int×Int×Int):Prop:=(0<=x.1/\x.1<29)/\anr c k pc x/\R1 c k x
theorem ayu(d:0<=op)(e:op<29):op=0\/op=1\/op=2\/op=3\/op=4\/op=5\/op=6\/op=7\/op=8\/op=9\/op=10\/op=11\/op=12\/op=13\/op=14\/op=15\/op=16\/op=17\/op=18\/op=19\/op=20\/op=21\/op=22\/op=23\/op=24\/op=25\/op=26\/op=27\/op=28:=by omega
theorem GL(p q:Prop)[Decidable p][Decidable q]:(bif decide p then decide q else false)=decide (p/\q):=by grind
theorem BQ(p q:Prop)[Decidable p][Decidable q]:(bif decide p then true else decide q)=decide (p\/q):=by grind
theorem KW(a b:Int):(a==b)=decide (a=b):=by grind
theorem axc(a b:Int):(a != b)=decide (a≠b):=by grind
theorem axP(p:Prop)[Decidable p]:(!decide p)=decide (¬p):=by grind
theorem aq4(c:aD)(k:Nat)(g:c.2.2.2.2.2.2.2.length=c.2.1.length)(x:Int×Int×Int)(e:0<=x.1)(f:x.1<29) :
  ∃r,C5 x (c.2.2.1.getD k 0) ((k:Int),c.2.1.getD k 0,eI c k) c=some r /\
   ((match r with|.inl s=>(s.1<=x.2.1/\x.2.1<s.2)/\(UU x.1<2\/(0<=x.2.2/\x.2.2<c.2.2.1.getD k 0))|.inr b=>b=true)↔R1 c k x):=by
 obtain⟨op,a,b⟩:=x;have d:(c.2.2.2.2.2.2.2.length:Int)=c.2.1.length:=by omega
 rcases ayu e f with h|h|h|h|h|h|h|h|h|h|h|h|h|h|h|h|h|h|h|h|h|h|h|h|h|h|h|h|h;all_goals
  dsimp only at h
  subst h
  refine⟨_,rfl,?_⟩
  simp[R1,yz,UU,uL,KW,d]
theorem ab1(c:aD)(hl:c.1.length<=512)(hs:lN c)(h:qe c)(k:Nat)(D:k<c.2.1.length)(pc:Nat)(g:pc<c.1.length) :
  ∃b,yb c ((k:Int),c.2.1.getD k 0,eI c k) (pc:Int)=some b/\(b=true↔EV c k pc (c.1.getD pc (0,0,0))):=by
 unfold yb;have j:=br ((0,0,0):Int×Int×Int) g;generalize c.1.getD pc (0,0,0)=x at j|-;simp only[j,f8,Qz2];by_cases d:0<=x.1/\x.1<29;rotate_left
 ·refine⟨false,?_,λh=>(by cases h),λh=>absurd h.1 d⟩;grind
 rw[BQ,aP (by omega),ab7,ax d];have C:=h.1.1;have B:=hs.1;obtain⟨q,t,hq⟩:∃q,ae uL x.1=some q/\q.2=UU x.1:=⟨_,bL ([],0) d.1 (by show x.1<((29:Nat):Int);omega),rfl⟩
 have u:ae c.2.2.1 (k:Int)=some (c.2.2.1.getD k 0):=br 0 (by have:=h.1.2.1;omega);have v:ac ((c.2.1.length:Int)-1)=(c.2.1.length:Int)-1:=ay (by omega) (by omega);have f:ac ((pc:Int)+1)=(pc:Int)+1:=ay (by omega) (by omega);obtain⟨r,z,A⟩:=aq4 c k h.1.2.2 x d.1 d.2;simp only[af,abv,t,u,f8,Qz2,v,f,hq,KW,axc,GL,BQ,axP,z];unfold EV anr;generalize UU x.1=o at *;by_cases e:(o<2->x.2.2=0)/\(o<1->x.2.1=0)/\(x.1=13->k+1≠c.2.1.length)/\(x.1=28->k+1=c.2.1.length)
 rotate_left
 ·rw[ax (by omega)];grind
 rw[aP (by omega),ab7];by_cases y:(pc:Int)+1=eI c k->x.1=13\/x.1=28;rotate_left
 ·simp_all
 rw[aP (by omega),ab7];have m:∀{p:Prop},(p↔R1 c k x)->(p↔(0<=x.1/\x.1<29)/\((o<2->x.2.2=0)/\(o<1->x.2.1=0)/\(x.1=13->k+1≠c.2.1.length)/\(x.1=28->k+1=c.2.1.length)/\((pc:Int)+1=eI c k->x.1=13\/x.1=28))/\R1 c k x):=
  λn=>⟨λh=>⟨d,⟨e.1,e.2.1,e.2.2.1,e.2.2.2,y⟩,n.1 h⟩,λh=>n.2 h.2.2⟩
 rcases r with s|b
 ·grind
 grind
def dG(c:aD)(pc:Nat):Int×Int×Int:=c.1.getD pc (0,0,0)
def Pr(c:aD):Prop:=∀k pc:Nat,pc<c.1.length->uO c.2.1 (pc:Int) k->EV c k pc (dG c pc)
def VE(c:aD)(e:Int):Prop:=
 (512<c.1.length/\e=4)\/(c.1.length<=512/\¬qe c/\e=1)\/(c.1.length<=512/\qe c/\¬Pr c/\e=2)\/(c.1.length<=512/\qe c/\Pr c/\e=0)
theorem vb(hs:lN c)(h:qe c){k:Nat}(f:k<c.2.1.length):c.2.1.getD k 0<eI c k/\eI c k<=c.1.length:=by
 unfold eI;split
 ·rename_i d;have g:=CY (wB h hs) (show k<k+1 by omega) d;have e:=(h.2.2.1 (k+1) d).2.2.2.1;omega
 ·have e:=(h.2.2.1 k f).2.2.2.1;omega
theorem pV(hs:lN c)(h:qe c){k:Nat}(d:pc<c.1.length):uO c.2.1 (pc:Int) k↔k<c.2.1.length/\c.2.1.getD k 0<=pc/\(pc:Int)<eI c k:=by unfold uO eI;grind
theorem ak5(c:aD)(hs:lN c):wc c=some ((List.range c.2.1.length).map λk:Nat=>((k:Int),c.2.1.getD k 0,eI c k)):=by
 have o:=hs.1;unfold wc;have:=eM (f:=rh c) (λs=>c.2.1.length-s.2.toNat) (λ_=>(List.range c.2.1.length).map λk:Nat=>((k:Int),c.2.1.getD k 0,eI c k))
  (λs=>∃i:Nat,s=((List.range i).map λk:Nat=>((k:Int),c.2.1.getD k 0,eI c k),(i:Int))/\i<=c.2.1.length)
  (λs hs=>by
   obtain⟨i,rfl,hi⟩:=hs;unfold rh;rcases afB i c.2.1.length with d|j
   ·right;refine⟨((List.range (i+1)).map λk:Nat=>((k:Int),c.2.1.getD k 0,eI c k),((i+1:Nat):Int)),?_,⟨i+1,rfl,by omega⟩,by grind,rfl⟩;have g:=dN (n:=c.2.1.length) (by omega) d;have h:(bif decide ((i:Int)+1<(c.2.1.length:Int))then(ae c.2.1 ((i:Int)+1)).bind λ_=>(ae c.2.1 ((i:Int)+1)).bind λm=>some m else some (c.1.length:Int))=some (eI c i):=by
     unfold eI;by_cases e:i+1<c.2.1.length
     ·rw[ax (by omega),if_pos e,abv,show(i:Int)+1=((i+1:Nat):Int)from rfl,br 0 e];rfl
     grind
    simp only[ax (show(i:Int)<(c.2.1.length:Int)by omega),abv,br 0 d,f8,Qz2,g,h];rw[vY (bh (by grind) (by omega)),aj7];simp
   grind) (s:=([],0)) ⟨0,rfl,by omega⟩ (by grind)
 rw[this];rfl
theorem Z3(c:aD)(hs:lN c):∃k e,nI c=some (k,e)/\VE c e:=by
 unfold nI;have F:=hs.1;by_cases hl:c.1.length<=512;rotate_left
 ·rw[ax (by omega)];exact⟨0,4,rfl,.inl ⟨by omega,rfl⟩⟩
 rw[aP (by omega),ab7];obtain⟨b,r,j⟩:=Io c hl hs;rw[r];cases b
 ·exact⟨0,1,rfl,.inr (.inl ⟨hl,λh=>(by grind),rfl⟩)⟩
 have g:=j.1 rfl;have y:=wB g hs;simp only[f8,Qz2,afg,ab7,ak5 c hs];have inner:∀k,k<c.2.1.length->((∀pc:Nat,c.2.1.getD k 0<=pc->(pc:Int)<eI c k->EV c k pc (dG c pc))/\Itr.it (gC c ((k:Int),c.2.1.getD k 0,eI c k)) (c.2.1.getD k 0)=some (.inl ())) \/
   ∃pc:Nat,c.2.1.getD k 0<=pc/\(pc:Int)<eI c k/\¬EV c k pc (dG c pc)/\Itr.it (gC c ((k:Int),c.2.1.getD k 0,eI c k)) (c.2.1.getD k 0)=some (.inr (.inr (.inr ((pc:Int),2)))):=by
  intro k d;obtain⟨a,ha⟩:∃a:Nat,c.2.1.getD k 0=(a:Int):=⟨(c.2.1.getD k 0).toNat,by have:=A2 y d;omega⟩
  obtain⟨e,m⟩:∃e:Nat,eI c k=(e:Int):=⟨(eI c k).toNat,by have:=A2 y d;have:=vb hs g d;omega⟩
  have s:=vb hs g d;rw[ha,m]at s|-;rcases IB (f:=gC c ((k:Int),(a:Int),(e:Int))) a e (by omega) (by omega) (λpc=>EV c k pc (dG c pc)) (λpc=>.inr (.inr ((pc:Int),2)))
   (λi B hi _=>by
    unfold gC;obtain⟨b,r,j⟩:=ab1 c hl hs g k d i (by omega);rw[ha,m]at r;rw[ax (show(i:Int)<(e:Int)by omega),abv,r];simp only[f8,Qz2];cases b
    ·right;exact⟨λh=>(by have:=j.2 h;cases this),rfl⟩
    ·left;refine⟨j.1 rfl,?_⟩;rw[dN (n:=e) (by omega) hi];rfl)
   (λ_=>by unfold gC;grind)with⟨q,m⟩|⟨i,D,hi,_,q,m⟩
  ·grind
  grind
 generalize v:((List.range c.2.1.length).map λk:Nat=>((k:Int),c.2.1.getD k 0,eI c k))=ps;have C:ps.length=c.2.1.length:=by grind
 have u:∀k,k<c.2.1.length->ae ps (k:Int)=some ((k:Int),c.2.1.getD k 0,eI c k):=by intro k d;rw[<-v];apply aV;simp[d]
 rcases jU (f:=nK c ps) c.2.1.length (by omega) (λk=>∀pc:Nat,c.2.1.getD k 0<=pc->(pc:Int)<eI c k->EV c k pc (dG c pc))
  (λk=>(((Itr.it (gC c ((k:Int),c.2.1.getD k 0,eI c k)) (c.2.1.getD k 0)).bind λz=>match z with|.inr (.inr (.inr x))=>some x.1|_=>none).getD 0,2))
  (λk d _=>by
   unfold nK;rw[ax (show(k:Int)<(ps.length:Int)by omega),abv,u k d];simp only[f8,Qz2];rcases inner k d with⟨o,p⟩|⟨pc,o,p,A,E⟩
   ·left;refine⟨o,?_⟩;rw[p];simp only[f8,Qz2];rw[dN (n:=c.2.1.length) (by omega) d]
   grind)
  (λ_=>by unfold nK;grind)with⟨q,m⟩|⟨k,d,_,q,m⟩
 ·rw[m];refine⟨_,0,rfl,.inr (.inr (.inr ⟨hl,g,λk pc t h=>?_,rfl⟩))⟩;obtain⟨o,p,A⟩:=(pV hs g t).1 h;grind
 ·rw[m];refine⟨_,2,rfl,.inr (.inr (.inl ⟨hl,g,λh=>q λpc o p=>?_,rfl⟩))⟩;have:=vb hs g d;exact h k pc (by omega) ((pV hs g (by omega)).2 ⟨d,o,p⟩)
abbrev CC:Type:=aD
abbrev aG:Type:=aJ
abbrev Fr:Type:=Int×List Int
abbrev Th:Type:=aM
abbrev bO:Type:=Int×Int×Int
def bC(c:CC):Prop:=c.1.length<=512/\qe c/\Pr c/\lN c
def yW(c:CC)(f:Fr):Prop:=∃k pc:Nat,f.1=(pc:Int)/\pc<c.1.length/\uO c.2.1 (pc:Int) k/\(f.2.length:Int)=c.2.2.1.getD k 0
def fl(n:Int)(r:aR):yw:=(n,r.1.1,r.1.2.1,r.1.2.2.1,r.1.2.2.2.1,r.1.2.2.2.2.1,r.1.2.2.2.2.2.1,r.1.2.2.2.2.2.2.1,r.1.2.2.2.2.2.2.2,r.2.1.1,r.2.1.2.1,r.2.1.2.2,r.2.2.1.1,r.2.2.1.2.1,r.2.2.1.2.2.1,r.2.2.1.2.2.2.1,r.2.2.1.2.2.2.2.1,r.2.2.1.2.2.2.2.2.1,r.2.2.1.2.2.2.2.2.2.1,r.2.2.1.2.2.2.2.2.2.2.1.1,r.2.2.1.2.2.2.2.2.2.2.1.2.1,r.2.2.1.2.2.2.2.2.2.2.1.2.2,r.2.2.1.2.2.2.2.2.2.2.2.1,r.2.2.1.2.2.2.2.2.2.2.2.2.1,r.2.2.1.2.2.2.2.2.2.2.2.2.2.1,r.2.2.1.2.2.2.2.2.2.2.2.2.2.2,r.2.2.2)
def aci(s:aG)(a:Int):aG:=(s.1,s.2.1,s.2.2.1,s.2.2.2.1,s.2.2.2.2.1,s.2.2.2.2.2.1,s.2.2.2.2.2.2.1,(s.2.2.2.2.2.2.2.1.1,ac (s.2.2.2.2.2.2.2.1.2.1+a),s.2.2.2.2.2.2.2.1.2.2),s.2.2.2.2.2.2.2.2)
def vw(s:aG)(o d:Int)(w:List UInt8):aG:=(s.1,s.2.1,s.2.2.1,s.2.2.2.1,s.2.2.2.2.1,s.2.2.2.2.2.1,s.2.2.2.2.2.2.1,s.2.2.2.2.2.2.2.1,s.2.2.2.2.2.2.2.2.1,o,d,w)
def cq(s:aG)(i:Nat)(t:Th):aG:=(s.1.set i t,s.2)
def IG(op a b:Int):Int:=if op=4 then ac (a+b)else if op=5 then ac (a-b)else if op=6 then ac (a*b)else if op=7 then(if a<b then 1 else 0)else if op=8 then(if a<=b then 1 else 0)else(if a=b then 1 else 0)
def lR(c:CC)(kind:Int)(s:aG)(i:Nat)(fs:List Fr)(f:Fr)(st:List Int)(w:Int)(x:bO):Option aG:=
 let h (v:Int):Option aG:=if 16<=st.length then none else some (cq s i (fs++[(ac (f.1+1),f.2)],st++[v],w,false))
 let e (g:Int->aG):Option aG:=if st.length=0 then none else some (g (st.getD (st.length-1) 0))
 let d:=st.take (st.length-1)
 if x.1=0 then h x.2.1 else if x.1=1 then h (f.2.getD x.2.1.toNat 0)else if x.1=3 then h kind
 else if x.1=2 then e λv=>cq s i (fs++[(ac (f.1+1),f.2.set x.2.1.toNat v)],d,w,false)
 else if x.1=10 then some (cq s i (fs++[(x.2.1,f.2)],st,w,false))
 else if x.1=11 then e λv=>cq s i (fs++[(if v=0 then x.2.1 else ac (f.1+1),f.2)],d,w,false)
 else if x.1=12 then if 8<=fs.length+1 then none else some (cq s i (fs++[(ac (f.1+1),f.2)]++[(c.2.1.getD x.2.1.toNat 0,List.replicate (c.2.2.1.getD x.2.1.toNat 0).toNat 0)],st,w,false))
 else if x.1=13 then some (cq s i (fs,st,w,false))
 else if x.1=14 then e λv=>let j:=cq s i (fs++[(ac (f.1+1),f.2)],d,w,false);if v=0 then vw j 1 x.2.1 (c.2.2.2.2.2.2.2.getD x.2.2.toNat [])else j
 else if x.1=15 then some (aci (cq s i (fs++[(ac (f.1+1),f.2)],st,w,false)) x.2.1)
 else if st.length<2 then none else some (cq s i (fs++[(ac (f.1+1),f.2)],st.take (st.length-2)++[IG x.1 (st.getD (st.length-2) 0) (st.getD (st.length-1) 0)],w,false))
theorem rm(fs:List α)(f:α)(h:fs.length<9223372036854775807):ae (fs++[f]) (ac (((fs++[f]).length:Int)-1))=some f:=by rw[ay (by grind) (by grind)];simp[ae]
theorem fp(fs:List α)(f g:α):(fs++[f]).set fs.length g=fs++[g]:=by simp
theorem adO(fs:List α)(f:α):(fs++[f]).take fs.length=fs:=by simp
theorem jQ{xs:List α}{v:α}(h:xs[i]?=some v):xs.set i v=xs:=by apply afQ;grind
theorem awQ(h:op=4\/op=5\/op=6\/op=7\/op=8\/op=9)(a b:Int):∃m v,oQ=some m/\dt (.sc (.int .i64)) (.sc .fnc) op m=some v/\aa8 v a b=some (IG op a b):=by
 rcases h with rfl|rfl|rfl|rfl|rfl|rfl
 ·exact⟨_,314,rfl,rfl,rfl⟩
 ·exact⟨_,315,rfl,rfl,rfl⟩
 ·exact⟨_,316,rfl,rfl,rfl⟩
 ·refine⟨_,317,rfl,rfl,?_⟩;show j6 a b=_;unfold j6 eY IG;grind
 ·refine⟨_,318,rfl,rfl,?_⟩;show jZ a b=_;unfold jZ eY IG;grind
 ·refine⟨_,319,rfl,rfl,?_⟩;show j9 a b=_;unfold j9 eY IG;grind
set_option maxRecDepth 4000
theorem ath(d:0<=op)(e:op<16):op=0\/op=1\/op=2\/op=3\/op=10\/op=11\/op=12\/op=13\/op=14\/op=15\/(op=4\/op=5\/op=6\/op=7\/op=8\/op=9):=by omega
structure AtP(c:CC)(s:aG)(i:Nat)(fs:List Fr)(f:Fr)(st:List Int)(w:Int)(x:bO)(k pc:Nat):Prop where
 t:s.1[i]?=some (fs++[f],st,w,false)
 n:fs.length<8
 m:st.length<=16
 pc1:f.1=(pc:Int)
 pc2:pc<c.1.length
 pr:uO c.2.1 (pc:Int) k
 lo:(f.2.length:Int)=c.2.2.1.getD k 0
 x:dG c pc=x
theorem avx{c:CC}{e:bO}{s:aG}{n:Int}{fs:List Fr}{f:Fr}{x:bO}{k:Nat}(h:AtP c s i fs f st w x k pc) :
  l8 (fl n (c,e,s,acc)) (i:Int)=some x:=by
 unfold l8;have d:ae c.1 f.1=some x:=by rw[h.pc1,<-h.x];exact br _ h.pc2
 simp only[fl,aV h.t,f8,Qz2,ab7,rm fs f (by have:=h.n;omega),d]
theorem axI{c:CC}(hc:bC c){e:bO}{s:aG}{n:Int}{fs:List Fr}{f:Fr}{x:bO}{k:Nat}(h:AtP c s i fs f st w x k pc)(H:x.1<16) :
  mc (fl n (c,e,s,acc)) (i:Int)=some (match lR c e.1 s i fs f st w x with|none=>(true,(fl n (c,e,s,acc)).2)|some s'=>(false,(fl n (c,e,s',acc)).2)):=by
 have eat:=avx (e:=e) (acc:=acc) (n:=n) h;obtain⟨ht,hn,hm,hpc1,I,z,hlo,hx⟩:=h;have hF:=hc.2.2.1 k pc I z;rw[hx]at hF;obtain⟨⟨Z,_⟩,_,hO⟩:=hF;have y:=aV ht;have j:∀g:Fr,ae (fs++[g]) (fs.length:Int)=some g:=λg=>by simp[ae]
 have r:=jQ ht;have o:∀g:Fr,((fs++[g]).length:Int)=(fs.length:Int)+1:=λg=>by simp
 have p:ac ((fs.length:Int)+1-1)=(fs.length:Int):=by rw[ay (by omega) (by omega)];omega
 obtain⟨op,a,b⟩:=x;unfold mc;have D:ac ((st.length:Int)-1)=(st.length:Int)-1:=ay (by omega) (by omega);have L:ac ((st.length:Int)-2)=(st.length:Int)-2:=ay (by omega) (by omega);have t:((st.length:Int)-1).toNat=st.length-1:=by omega
 have B:((st.length:Int)-2).toNat=st.length-2:=by omega
 have J:¬st.length=0->ae st ((st.length:Int)-1)=some (st.getD (st.length-1) 0):=λq=>by rw[bL 0 (by omega) (by omega),t]
 have Y:∀v:Int,aN st.length ([v]:List Int).length 8=true:=λv=>bh (by grind) (by omega);obtain⟨T,X,o3,o4,o5,o6,o7,o8,o9,U,V,W⟩:=hO;obtain⟨M,u,hAF,G⟩:=hc;obtain⟨l1,l2,l3,l4,l5,l6⟩:=u.2.2.1 k z.1;dsimp only at H Z T X o3 o4 o5 o6 o7 o8 o9 U V W;simp only[eat,f8,Qz2];rcases ath Z H with h|h|h|h|h|h|h|h|h|h|h
 ·subst h;simp only[fl,y,f8,Qz2,aer,af,abv,o,j,p,lR,Int.reduceBEq,ab7,aeP,ac6,fp,Y,r];by_cases q:16<=st.length
  ·grind
  ·rw[aP (show¬(16:Int)<=(st.length:Int)by omega),if_neg q];rfl
 ·subst h;have C:ae f.2 a=some (f.2.getD a.toNat 0):=by
   obtain⟨A,E⟩:=T (.inl rfl);exact bL 0 A (by omega)
  simp only[fl,y,C,f8,Qz2,aer,af,abv,o,j,p,lR,Int.reduceBEq,ab7,aeP,ac6,fp,Y,r,Int.reduceEq,aeU];by_cases q:16<=st.length
  ·grind
  ·rw[aP (show¬(16:Int)<=(st.length:Int)by omega),if_neg q];rfl
 ·subst h;have C:ae f.2 a=some (f.2.getD a.toNat 0):=by
   obtain⟨A,E⟩:=T (.inr (.inl rfl));exact bL 0 A (by omega)
  simp only[fl,y,C,f8,Qz2,aer,af,abv,o,j,p,lR,Int.reduceBEq,ab7,aeP,ac6,fp,r,Int.reduceEq,aeU,D];by_cases q:st.length=0
  ·grind
  ·rw[aP (show¬(st.length:Int)-1<0 by omega),if_neg q,ax (show 0<=(st.length:Int)-1/\(st.length:Int)-1<=st.length by omega)];simp only[ab7,abv,J q,f8,Qz2,t];rfl
 ·subst h;simp only[fl,y,f8,Qz2,aer,af,abv,o,j,p,lR,Int.reduceBEq,ab7,aeP,ac6,fp,Y,r,Int.reduceEq,aeU];by_cases q:16<=st.length
  ·grind
  ·rw[aP (show¬(16:Int)<=(st.length:Int)by omega),if_neg q];rfl
 ·subst h;obtain⟨A,E⟩:=X (.inl rfl);have Q:ac (ac (a-1)+1)=a:=by
   have he:eI c k<=512:=by have:=(vb G u z.1).2;omega
   grind[ay]
  simp only[fl,y,f8,Qz2,aer,af,abv,o,j,p,lR,Int.reduceBEq,ab7,aeP,ac6,fp,Int.reduceEq,aeU,Q];rfl
 ·subst h;obtain⟨A,E⟩:=X (.inr rfl);have Q:ac (ac (a-1)+1)=a:=by
   have he:eI c k<=512:=by have:=(vb G u z.1).2;omega
   grind[ay]
  simp only[fl,y,f8,Qz2,aer,af,abv,o,j,p,lR,Int.reduceBEq,ab7,aeP,ac6,fp,r,Int.reduceEq,aeU,D,Q];by_cases q:st.length=0
  ·grind
  ·rw[aP (show¬(st.length:Int)-1<0 by omega),if_neg q,ax (show 0<=(st.length:Int)-1/\(st.length:Int)-1<=st.length by omega)];simp only[ab7,abv,J q,f8,Qz2,t];by_cases F:st.getD (st.length-1) 0=0
   ·rw[F];rfl
   ·rw[bf F,if_neg F];rfl
 ·subst h;obtain⟨A,E⟩:=o3 (.inl rfl);have C:ae c.2.1 a=some (c.2.1.getD a.toNat 0):=bL 0 A E;have ej:ae c.2.2.1 a=some (c.2.2.1.getD a.toNat 0):=bL 0 A (by have:=u.1.2.1;omega);obtain⟨_,_,_,_,q5,q6⟩:=u.2.2.1 a.toNat (by omega);simp only[fl,y,f8,Qz2,aer,af,abv,o,j,p,lR,Int.reduceBEq,ab7,aeP,ac6,fp,r,Int.reduceEq,aeU,C,ej];by_cases q:8<=fs.length+1
  ·grind
  ·rw[aP (show¬(8:Int)<=(fs.length:Int)+1 by omega),if_neg q,ax (show 0<=c.2.2.1.getD a.toNat 0/\c.2.2.1.getD a.toNat 0*8<=281474976710656/\c.2.2.1.getD a.toNat 0<=maxLen by refine⟨q5,by omega,?_⟩;simp only[maxLen];omega),show aN (fs++[(ac (f.1+1),f.2)]).length ([(c.2.1.getD a.toNat 0,List.replicate (c.2.2.1.getD a.toNat 0).toNat 0)]:List Fr).length 32=true from bh (by grind) (by omega)];rfl
 ·subst h;have K:(fs++[f]).take fs.length=fs:=adO fs f;simp only[fl,y,f8,Qz2,aer,af,abv,o,j,p,lR,Int.reduceBEq,ab7,aeP,ac6,Int.reduceEq,aeU,K];rw[ax (show 0<=(fs.length:Int)/\(fs.length:Int)<=(fs.length:Int)+1 by omega)];rfl
 ·subst h;obtain⟨A,E⟩:=o4 rfl;have C:ae c.2.2.2.2.2.2.2 b=some (c.2.2.2.2.2.2.2.getD b.toNat []):=by
   rw[E];exact bL [] (by omega) (by have:=u.1.2.2;have:=z.1;omega)
  simp only[fl,y,f8,Qz2,aer,af,abv,o,j,p,lR,Int.reduceBEq,ab7,aeP,ac6,fp,r,Int.reduceEq,aeU,D,C];by_cases q:st.length=0
  ·grind
  ·rw[aP (show¬(st.length:Int)-1<0 by omega),if_neg q,ax (show 0<=(st.length:Int)-1/\(st.length:Int)-1<=st.length by omega)];simp only[ab7,abv,J q,f8,Qz2,t];by_cases F:st.getD (st.length-1) 0=0
   ·rw[F];rfl
   ·rw[bf F,if_neg F];rfl
 ·subst h;simp only[fl,y,f8,Qz2,aer,af,abv,o,j,p,lR,Int.reduceBEq,ab7,aeP,ac6,fp,Int.reduceEq,aeU];rfl
 ·have d:∀m:Int,(m<4\/9<m)->(op==m)=false/\¬op=m:=λm hm=>⟨by rw[ag6];omega,by omega⟩
  obtain⟨m,v,N,O,P⟩:=awQ h (st.getD (st.length-2) 0) (st.getD (st.length-1) 0);simp only[fl,y,f8,Qz2,aer,af,abv,o,j,p,lR,ab7,ac6,fp,r,aeU,L,(d 0 (by omega)).1,(d 1 (by omega)).1,(d 2 (by omega)).1,(d 3 (by omega)).1,(d 10 (by omega)).1,(d 11 (by omega)).1,(d 12 (by omega)).1,(d 13 (by omega)).1,(d 14 (by omega)).1,(d 15 (by omega)).1,(d 0 (by omega)).2,(d 1 (by omega)).2,(d 2 (by omega)).2,(d 3 (by omega)).2,(d 10 (by omega)).2,(d 11 (by omega)).2,(d 12 (by omega)).2,(d 13 (by omega)).2,(d 14 (by omega)).2,(d 15 (by omega)).2];by_cases q:st.length<2
  ·grind
  ·have e2:ae st ((st.length:Int)-2)=some (st.getD (st.length-2) 0):=by rw[bL 0 (by omega) (by omega),B]
   have e3:ac ((st.length:Int)-2+1)=(st.length:Int)-1:=by grind
   rw[aP (show¬(st.length:Int)-2<0 by omega),if_neg q,ax (show 0<=(st.length:Int)-2/\(st.length:Int)-2<=st.length by omega)];simp only[ab7,abv,N,O,P,e2,e3,J (by omega),f8,Qz2,B];rw[show aN (st.take (st.length-2)).length ([IG op (st.getD (st.length-2) 0) (st.getD (st.length-1) 0)]:List Int).length 8=true from bh (by grind) (by omega)];rfl
abbrev mR:Type:=Int×Int×Bool
structure Run1(c:CC)(fs:List Fr)(f:Fr)(st:List Int):Prop where
 n:fs.length<8
 m:st.length<=16
 fr:∀g∈fs++[f],yW c g
theorem gI{c:CC}{s:aG}{fs:List Fr}{f:Fr}(m:s.1[i]?=some (fs++[f],st,w,false))(h:Run1 c fs f st):∃k pc,AtP c s i fs f st w (dG c f.1.toNat) k pc:=by obtain⟨k,pc,d,e,g,j⟩:=h.fr f (by simp);exact⟨k,pc,m,h.n,h.m,d,e,g,j,by rw[d];rfl⟩
theorem UH{c:CC}(q:bC c){k:Nat}(d:pc<c.1.length)(j:uO c.2.1 (pc:Int) k)(m:(dG c pc).1≠13)(n:(dG c pc).1≠28)(hl:(l.length:Int)=c.2.2.1.getD k 0) :
  yW c (ac ((pc:Int)+1),l):=by
 obtain⟨g,e,o,f⟩:=q;have p:=o k pc d j;have h:=(pV f e d).1 j;have s:=(vb f e h.1).2;have r:(pc:Int)+1<eI c k:=by have:=p.2.1.2.2.2.2;grind
 rw[ay (by omega) (by omega)];exact⟨k,pc+1,by simp,by omega,(pV f e (by omega)).2 ⟨h.1,by omega,by omega⟩,hl⟩
theorem aqK{c:CC}(h:bC c){k:Nat}(f:k<c.2.1.length)(ha:yz a (c.2.1.getD k 0) (eI c k))(hl:(l.length:Int)=c.2.2.1.getD k 0):yW c (a,l):=by obtain⟨g,d,p,e⟩:=h;have n:=(vb e d f).2;have o:=A2 (wB d e) f;obtain⟨j,m⟩:=ha;refine⟨k,a.toNat,by simp;omega,by omega,(pV e d (by omega)).2 ⟨f,by omega,by omega⟩,hl⟩
theorem Ht{c:CC}(h:bC c){a:Nat}(ha:a<c.2.1.length):yW c (c.2.1.getD a 0,List.replicate (c.2.2.1.getD a 0).toNat 0):=by
 obtain⟨f,d,k,e⟩:=h;have j:=(vb e d ha)
 have g:=A2 (wB d e) ha;obtain⟨_,_,_,_,m,n⟩:=d.2.2.1 a ha;refine⟨a,(c.2.1.getD a 0).toNat,(anc g).symm,by omega,(pV e d (by omega)).2 ⟨ha,by omega,by omega⟩,?_⟩;grind
def vy(s d:aG):Prop:=
 d.2.1=s.2.1/\d.2.2.1=s.2.2.1/\d.2.2.2.1=s.2.2.2.1/\d.2.2.2.2.1=s.2.2.2.2.1/\d.2.2.2.2.2.1=s.2.2.2.2.2.1/\d.2.2.2.2.2.2.1=s.2.2.2.2.2.2.1/\d.2.2.2.2.2.2.2.1.1=s.2.2.2.2.2.2.2.1.1/\d.2.2.2.2.2.2.2.1.2.2=s.2.2.2.2.2.2.2.1.2.2/\d.2.2.2.2.2.2.2.2.1=s.2.2.2.2.2.2.2.2.1
theorem mh{s:aG}{t:Th}:vy s (cq s i t):=⟨rfl,rfl,rfl,rfl,rfl,rfl,rfl,rfl,rfl⟩
theorem aaK{s t u:aG}(h:vy s t)(h':vy t u):vy s u:=by obtain⟨d,e,f,g,j,k,m,n,o⟩:=h;obtain⟨p,q,r,v,x,y,z,A,B⟩:=h';exact⟨p.trans d,q.trans e,r.trans f,v.trans g,x.trans j,y.trans k,z.trans m,A.trans n,B.trans o⟩
theorem FC{c:CC}(L:bC c){kind:Int}{s y:aG}{fs:List Fr}{f:Fr}{x:bO}{k:Nat}(h:AtP c s i fs f st w x k pc)(T:Run1 c fs f st)(B:x.1<16)(Q:x.1=13->fs≠[])
  (d:lR c kind s i fs f st w x=some y):∃j r p,y.1=s.1.set i (j++[r],p,w,false)/\Run1 c j r p/\vy s y:=by
 obtain⟨ht,t,A,M,C,D,o,U⟩:=h;have K:=L.2.2.1 k pc C D;rw[U]at K;obtain⟨⟨J,_⟩,_,P⟩:=K;have z:∀g∈fs,yW c g:=λg q=>T.fr g (by simp[q]);have nx:x.1≠13->∀l:List Int,(l.length:Int)=c.2.2.1.getD k 0->∀g∈fs++[(ac (f.1+1),l)],yW c g:=by grind[List.mem_singleton,UH]
 have V:∀a,yz a (c.2.1.getD k 0) (eI c k)->∀g∈fs++[(a,f.2)],yW c g:=by
  intro a ha g q;rcases aef.1 q with q|q
  ·exact z g q
  ·rw[ade]at q;rw[q];exact aqK L D.1 ha o
 obtain⟨op,u,b⟩:=x;obtain⟨W,N,O,X,Y,Z,o7,o8,o9,G,H,I⟩:=P;dsimp only at B J Q nx W N O X Y Z o7 o8 o9 G H I;have pu:∀v:Int,op≠13->(if 16<=st.length then none else some (cq s i (fs++[(ac (f.1+1),f.2)],st++[v],w,false)))=some y->∃j r p,y.1=s.1.set i (j++[r],p,w,false)/\Run1 c j r p/\vy s y:=by
  intro v E n;by_cases F:16<=st.length
  ·grind
  ·rw[if_neg F]at n;cases n;exact⟨fs,_,_,rfl,⟨t,by simp;omega,nx E f.2 o⟩,mh⟩
 unfold lR at d;rcases ath J B with h|h|h|h|h|h|h|h|h|h|h
 ·subst h;grind
 ·subst h;grind
 ·subst h;simp only[Int.reduceEq,aeU,aeP]at d;by_cases n:st.length=0
  ·grind
  rw[if_neg n]at d;cases d;exact⟨fs,_,_,rfl,⟨t,by grind,nx (by omega) _ (by grind)⟩,mh⟩
 ·subst h;grind
 ·subst h;simp only[Int.reduceEq,aeU,aeP]at d;cases d;exact⟨fs,_,_,rfl,⟨t,A,V _ (N (.inl rfl))⟩,mh⟩
 ·subst h;simp only[Int.reduceEq,aeU,aeP]at d;by_cases n:st.length=0
  ·grind
  rw[if_neg n]at d;cases d;refine⟨fs,_,_,rfl,⟨t,by grind,?_⟩,mh⟩;grind
 ·subst h;simp only[Int.reduceEq,aeU,aeP]at d;by_cases n:8<=fs.length+1
  ·grind
  rw[if_neg n]at d;cases d;obtain⟨g1,g2⟩:=O (.inl rfl);refine⟨_,_,_,rfl,⟨by grind,A,?_⟩,mh⟩;grind[List.mem_singleton,Ht]
 ·subst h;simp only[Int.reduceEq,aeU,aeP]at d;cases d;rcases akR fs with h|⟨j,r,rfl⟩
  ·grind
  rw[akS]at *;exact⟨j,r,st,rfl,⟨by grind,A,z⟩,mh⟩
 ·subst h;simp only[Int.reduceEq,aeU,aeP]at d;by_cases n:st.length=0
  ·grind
  rw[if_neg n]at d;cases d;refine⟨fs,(ac (f.1+1),f.2),st.take (st.length-1),?_,⟨t,by grind,nx (by omega) _ o⟩,?_⟩
  ·split<;>rfl
  ·split
   ·exact⟨rfl,rfl,rfl,rfl,rfl,rfl,rfl,rfl,rfl⟩
   ·exact mh
 ·subst h;simp only[Int.reduceEq,aeU,aeP]at d;cases d;exact⟨fs,_,_,rfl,⟨t,A,nx (by omega) _ o⟩,⟨rfl,rfl,rfl,rfl,rfl,rfl,rfl,rfl,rfl⟩⟩
 ·have e:∀m:Int,(m<4\/9<m)->¬op=m:=λm A=>by omega
  simp only[e 0 (by omega),e 1 (by omega),e 2 (by omega),e 3 (by omega),e 10 (by omega),e 11 (by omega),e 12 (by omega),e 13 (by omega),e 14 (by omega),e 15 (by omega),aeU]at d;by_cases n:st.length<2
  ·grind
  rw[if_neg n]at d;cases d;exact⟨fs,_,_,rfl,⟨t,by grind,nx (by omega) _ o⟩,mh⟩
def adi(t:Th):Prop:=t.1.length<=1048576/\t.2.1.length<=1048576/\∀f∈t.1,f.2.length<=1048576
def mM(s:aG):Prop:=s.1.length<=1048576/\(∀t∈s.1,adi t)/\s.2.1.length<=1048576/\s.2.2.1.length<=1048576/\(∀q∈s.2.2.1,q.length<=1048576)/\s.2.2.2.1.length<=1048576/\s.2.2.2.2.1.length<=1048576
theorem nO{xs:List α}(d:α)(h:i<xs.length):xs.getD i d∈xs:=by simp[h]
def vp(t:Th):Fr:=t.1.getLastD (0,[])
def bo(s:aG)(i:Nat):Th:=s.1.getD i ([],[],0,false)
def fX(c:CC)(t:Th):bO:=dG c (vp t).1.toNat
def aW(s:aG):Int:=s.2.2.2.2.2.2.2.2.2.1
def i7(x:bO)(n:Nat):Bool:=decide ((16<=x.1/\x.1<29)\/(x.1=13/\n=1))
def f6(c:CC)(s:aG)(i:Nat)(o:Int):aG:=
 let k:=((dU c (vp (bo s i)).1).getD 0).toNat
 if(bo s i).2.2.2=false then vw s o (ac ((vp (bo s i)).1-c.2.1.getD k 0)) (c.2.2.2.2.2.2.2.getD k [])else vw s o s.2.2.2.2.2.2.2.2.2.2.1 s.2.2.2.2.2.2.2.2.2.2.2
def bY(c:CC)(kind:Int)(i:Nat):Nat->aG->Bool×aG
 | m,s=>
  if 0<=aW s then(true,s)else if i7 (fX c (bo s i)) (bo s i).1.length then(true,s)else match m with
   |0=>(false,f6 c s i 3)
   |m+1=>match lR c kind s i (bo s i).1.dropLast (vp (bo s i)) (bo s i).2.1 (bo s i).2.2.1 (fX c (bo s i))with
    |none=>(false,f6 c s i 4)
    |some d=>bY c kind i m d
def qQ(c:CC)(s:aG)(i:Nat):Prop:=∃fs f st w,s.1[i]?=some (fs++[f],st,w,false)/\Run1 c fs f st
theorem fM(fs:List Fr)(f:Fr)(r:List Int×Int×Bool):vp (fs++[f],r)=f:=by unfold vp;simp
theorem eC{s:aG}{t:Th}(h:s.1[i]?=some t):bo s i=t:=by unfold bo;simp[h]
theorem OT{c:CC}{e:bO}{s:aG}{n:Int}{fs:List Fr}{f:Fr}{x:bO}{k:Nat}(h:AtP c s i fs f st w x k pc) :
  md (fl n (c,e,s,acc)) (i:Int)=some (i7 x (fs.length+1)):=by
 unfold md rN i7;have eat:=avx (e:=e) (acc:=acc) (n:=n) h;have d:=aV h.t;simp only[eat,f8,Qz2,GL];by_cases g:16<=x.1/\x.1<29
 ·grind
 ·rw[aP g];by_cases j:x.1=13
  ·rw[bt j];simp only[aeN,aii,abv,ab7,fl,d,f8,Qz2];by_cases m:fs.length+1=1
   ·simp_all
   ·rw[aP (by grind)];simp;omega
  grind
theorem Da{c:CC}(d:bC c){s:aG}{fs:List Fr}{f:Fr}{x:bO}{k:Nat}(h:AtP c s i fs f st w x k pc) :
  dU c f.1=some (k:Int)/\dU c f.1=some (k:Int)/\ae c.2.2.2.2.2.2.2 (k:Int)=some (c.2.2.2.2.2.2.2.getD k [])/\ae c.2.1 (k:Int)=some (c.2.1.getD k 0):=by
 have e:=wB d.2.1 d.2.2.2;have g:=d.2.1.1.2.2;rw[h.pc1];exact⟨Ip e h.pr (by omega),Ip e h.pr (by omega),br [] (by have:=h.pr.1;omega),br 0 h.pr.1⟩
theorem tV{c:CC}(d:bC c){s:aG}{fs:List Fr}{f:Fr}{x:bO}{k:Nat}(h:AtP c s i fs f st w x k pc)(o:Int):f6 c s i o=vw s o (ac (f.1-c.2.1.getD k 0)) (c.2.2.2.2.2.2.2.getD k []):=by unfold f6;simp only[eC h.t,fM,(Da d h).2.1,aiJ,ac6,aeP]
theorem vh{c:CC}(e:bC c){s:aG}{fs:List Fr}{f:Fr}{x:bO}{k:Nat}(h:AtP c s i fs f st w x k pc)(hs:i7 x (fs.length+1)=false):x.1<16/\(x.1=13->fs≠[]):=by have d:=e.2.2.1 k pc h.pc2 h.pr;rw[h.x]at d;have g:=d.1;unfold i7 at hs;grind
theorem acx{c:CC}(g:bC c){kind:Int}{s j:aG}{fs:List Fr}{f:Fr}{x:bO}{k:Nat}(h:AtP c s i fs f st w x k pc)(t:Run1 c fs f st)(hs:i7 x (fs.length+1)=false)(r:lR c kind s i fs f st w x=some j):qQ c j i:=by obtain⟨p,q⟩:=vh g h hs;obtain⟨d,m,e,n,o,u⟩:=FC g h t p q r;exact⟨d,m,e,w,by rw[n];exact afF (cG h.t),o⟩
theorem oO(c:CC)(kind:Int)(m:Nat){s:aG}{fs:List Fr}{f:Fr}{x:bO}{k:Nat}(h:AtP c s i fs f st w x k pc) :
  bY c kind i m s=(if 0<=aW s then(true,s)else if i7 x (fs.length+1)then(true,s)else match m with
   |0=>(false,f6 c s i 3)
   |m+1=>match lR c kind s i fs f st w x with
    |none=>(false,f6 c s i 4)
    |some e=>bY c kind i m e):=by
 have d:fX c (fs++[f],st,w,false)=x:=by unfold fX;rw[fM,h.pc1];exact h.x
 rw[bY.eq_def];simp only[eC h.t,d,fM,acA,adC,alk]
theorem avt{c:CC}(A:bC c)(e:bO)(acc:List ((Int×Int×Bool)×Bool)){h:aG}(hs:qQ c h i) :
  Itr.it (gQ (i:Int)) (fl 0 (c,e,h,acc))=some (if(bY c e.1 i 64 h).1 then .inl (fl 0 (c,e,(bY c e.1 i 64 h).2,acc)).2 else .inr (c,e,(bY c e.1 i 64 h).2,acc)):=by
 obtain⟨r,N,O⟩:=fD (f:=gQ (i:Int)) (λy=>65-y.1.toNat) (λy=>∃(n:Nat) (s:aG),y=fl (n:Int) (c,e,s,acc)/\n<=64/\qQ c s i/\bY c e.1 i (64-n) s=bY c e.1 i 64 h)
  (λr=>r=(if(bY c e.1 i 64 h).1 then .inl (fl 0 (c,e,(bY c e.1 i 64 h).2,acc)).2 else .inr (c,e,(bY c e.1 i 64 h).2,acc)))
  (λy Q=>by
   obtain⟨n,s,rfl,B,⟨fs,f,st,w,I,H⟩,hq⟩:=Q;obtain⟨k,pc,o⟩:=gI I H;obtain⟨J,U,K,L⟩:=Da A o;rw[<-hq,oO c e.1 (64-n) o];have F:=OT (e:=e) (acc:=acc) (n:=(n:Int)) o;have E:=λp=>axI A (e:=e) (acc:=acc) (n:=(n:Int)) o p;have v:=tV A o;have t:∀g:Fr,ae (fs++[g]) (fs.length:Int)=some g:=λg=>by simp[ae]
   have u:∀g:Fr,((fs++[g]).length:Int)=(fs.length:Int)+1:=λg=>by simp
   have x:ac ((fs.length:Int)+1-1)=(fs.length:Int):=by have:=o.n;rw[ay (by omega) (by omega)];omega
   have G:=aV I;unfold gQ;by_cases D:0<=aW s
   ·left;rw[if_pos D];refine⟨_,?_,rfl⟩;have:¬(s.2.2.2.2.2.2.2.2.2.1<(0:Int)):=by unfold aW at D;omega
    simp only[fl,this,aiM,ab7,aeP]
   rw[if_neg D];have j:s.2.2.2.2.2.2.2.2.2.1<(0:Int):=by unfold aW at D;omega
   simp only[F,f8,Qz2];by_cases q:i7 (dG c f.1.toNat) (fs.length+1)=true
   ·left;rw[if_pos q,q];refine⟨_,?_,rfl⟩;simp only[fl,j,ahW,abv,aeP]
   have d:i7 (dG c f.1.toNat) (fs.length+1)=false:=by grind
   rw[if_neg q,d];obtain⟨p,T⟩:=vh A o d;rcases Nat.lt_or_eq_of_le B with B|B;rotate_left
   ·left;subst B;refine⟨_,?_,rfl⟩;simp only[fl,j,ahW,abv,ab7,show(((64:Nat):Int)==64)=true from rfl,G,f8,Qz2,aeN,u,x,t,ak8,v];rw[show dU _ f.1=_ from J];simp only[f8,Qz2,K,L];rfl
   rw[E p];obtain⟨m,P⟩:∃m,64-n=m+1:=⟨63-n,by omega⟩
   rw[P];have z:((n:Int)==64)=false:=by grind
   cases C:lR c e.1 s i fs f st w (dG c f.1.toNat)with
   |none=>
    left;refine⟨_,?_,rfl⟩;simp only[fl,j,ahW,abv,ab7,z,G,f8,Qz2,aeN,u,x,t,v];rw[show dU _ f.1=_ from J];simp only[f8,Qz2,K,L];rfl
   |some M =>
    right;refine⟨fl ((n+1:Nat):Int) (c,e,M,acc),?_,⟨n+1,M,rfl,by omega,acx A o H d C,?_⟩,by show 65-((n+1:Nat):Int).toNat<65-(n:Int).toNat;omega⟩
    ·simp only[fl,j,ahW,abv,ab7,z,f8,Qz2];rw[dN (n:=64) (by omega) B];rfl
    ·rw[show 64-(n+1)=m by omega]) (s:=fl 0 (c,e,h,acc)) ⟨0,h,rfl,by omega,hs,rfl⟩ (by grind)
 rw[N,O]
def DW(s:aG):aG:=(s.1,s.2.1,s.2.2.1,s.2.2.2.1,s.2.2.2.2.1,s.2.2.2.2.2.1,s.2.2.2.2.2.2.1,(s.2.2.2.2.2.2.2.1.1,s.2.2.2.2.2.2.2.1.2.1,ac (s.2.2.2.2.2.2.2.1.2.2+1)),s.2.2.2.2.2.2.2.2)
def qB(c:CC)(s:aG)(i:Nat):aG×List mR:=
 let t:=bo s i
 let x:=fX c t
 if x.1=25 then(cq s i (t.1,t.2.1,ac (s.2.2.2.2.2.1+x.2.1),t.2.2.2),[(4,0,false)])
 else if x.1=21 then(if 0<=s.2.2.2.1.getD x.2.1.toNat 0 then DW s else s,[(2,x.2.1,false)])
 else if x.1=20 then(s,if(c.2.2.2.2.1.getD x.2.1.toNat ([],0)).2=0 then [(1,x.2.1,true)]else [])
 else(s,[])
def bn(c:CC)(kind:Int)(i:Nat)(s:aG):aG×List mR:=
 if(bY c kind i 64 s).1=true/\aW (bY c kind i 64 s).2<0 then qB c (bY c kind i 64 s).2 i else((bY c kind i 64 s).2,[])
def cz(m:List ((Int×Int×Bool)×Bool))(a:mR):List ((Int×Int×Bool)×Bool):=
 cP ah (.sc .bool) (a.1,a.2.1,false) (bif(dt ah (.sc .bool) (a.1,a.2.1,false) m).getD false then true else a.2.2) m
structure Fit1(c:CC)(s:aG):Prop where
 vars:s.2.1.length=c.2.2.2.1.length
 qs:s.2.2.1.length=c.2.2.2.2.1.length
 own:s.2.2.2.1.length=c.2.2.2.2.2.1.length
 files:s.2.2.2.2.1.length=c.2.2.2.2.2.2.1.length
theorem ajv{c:CC}{s d:aG}(h:Fit1 c s)(k:vy s d):Fit1 c d:=by obtain⟨e,f,g,j,m,n,o,p,q⟩:=k;exact⟨by rw[e];exact h.1,by rw[f];exact h.2,by rw[g];exact h.3,by rw[j];exact h.4⟩
theorem yt(s:aG):vy s s:=⟨rfl,rfl,rfl,rfl,rfl,rfl,rfl,rfl,rfl⟩
theorem E5(s:aG)(o k:Int)(w:List UInt8):vy s (vw s o k w):=⟨rfl,rfl,rfl,rfl,rfl,rfl,rfl,rfl,rfl⟩
theorem vc{c:CC}(r:bC c)(kind:Int):∀(m:Nat) {s:aG} {fs:List Fr} {f:Fr} {st:List Int} {w:Int},s.1[i]?=some (fs++[f],st,w,false)->Run1 c fs f st ->
  ∃j t q,(bY c kind i m s).2.1=s.1.set i (j++[t],q,w,false)/\Run1 c j t q/\vy s (bY c kind i m s).2/\(aW (bY c kind i m s).2<0->(bY c kind i m s).1=true/\i7 (dG c t.1.toNat) (j.length+1)=true):=by
 intro m;induction m with
 |zero=>
  intro s fs f st w e d;obtain⟨k,pc,o⟩:=gI e d;rw[oO c kind 0 o];by_cases n:0<=aW s
  ·rw[if_pos n];exact⟨fs,f,st,(jQ e).symm,d,yt s,λh=>absurd n (by grind)⟩
  rw[if_neg n];by_cases g:i7 (dG c f.1.toNat) (fs.length+1)=true
  ·rw[if_pos g];exact⟨fs,f,st,(jQ e).symm,d,yt s,λ_=>⟨rfl,g⟩⟩
  rw[if_neg g];dsimp only;rw[tV r o];exact⟨fs,f,st,(jQ e).symm,d,E5 ..,λh=>absurd h (by unfold aW vw;grind)⟩
 | succ m E=>
  intro s fs f st w e d;obtain⟨k,pc,o⟩:=gI e d;rw[oO c kind (m+1) o];by_cases n:0<=aW s
  ·rw[if_pos n];exact⟨fs,f,st,(jQ e).symm,d,yt s,λh=>absurd n (by grind)⟩
  rw[if_neg n];by_cases g:i7 (dG c f.1.toNat) (fs.length+1)=true
  ·rw[if_pos g];exact⟨fs,f,st,(jQ e).symm,d,yt s,λ_=>⟨rfl,g⟩⟩
  rw[if_neg g];obtain⟨v,D⟩:=vh r o (by simpa using g);cases p:lR c kind s i fs f st w (dG c f.1.toNat)with
  |none=>
   dsimp only;rw[tV r o];exact⟨fs,f,st,(jQ e).symm,d,E5 ..,λh=>absurd h (by unfold aW vw;grind)⟩
  |some I =>
   dsimp only;obtain⟨z,K,J,A,B,C⟩:=FC r o d v D p;obtain⟨u,y,x,F,j2,G,H⟩:=E (s:=I) (w:=w) (by grind) B;exact⟨u,y,x,by rw[F,A,aqk],j2,aaK C G,H⟩
theorem U3{c:CC}(z:bC c)(e:bO)(acc:List ((Int×Int×Bool)×Bool)){s:aG}(hs:qQ c s i)(hf:Fit1 c s) :
  iU (c,e,s,acc) (i:Int)=some (c,e,(bn c e.1 i s).1,(bn c e.1 i s).2.foldl cz acc):=by
 obtain⟨fs,f,st,w,D,M⟩:=hs;obtain⟨p,h,J,g1,K,Q,T⟩:=vc z e.1 64 D M;have hl:=avt z e acc ⟨fs,f,st,w,D,M⟩;have A:=ajv hf Q;unfold iU bn;generalize bY c e.1 i 64 s=q at *;obtain⟨b,g⟩:=q;dsimp only at *;have d:g.1[i]?=some (p++[h],J,w,false):=by grind
 simp only[aV D,f8,Qz2];refine(aei (λo:Option (rt⊕aR)=>o.bind _) hl).trans ?_;cases b
 ·rfl
 ·simp only[aeP,f8,Qz2,aq1];by_cases t:aW g<0;rotate_left
  ·rw[if_neg t];have:(0:Int)<=g.2.2.2.2.2.2.2.2.2.1:=by unfold aW at t;omega
   simp only[fl,this,ahW,abv];rfl
  rw[if_pos t];have B:¬(0:Int)<=g.2.2.2.2.2.2.2.2.2.1:=by unfold aW at t;omega
  obtain⟨k,pc,r⟩:=gI d K;have C:=(T t).2;have E:fX c (bo g i)=dG c h.1.toNat:=by rw[eC d];unfold fX;rw[fM]
  have L:=z.2.2.1 k pc r.pc2 r.pr;rw[r.x]at L;have P:oX (fl 0 (c,e,g,acc)).2 (i:Int)=some (dG c h.1.toNat):=by
   unfold oX;have E:ae c.1 h.1=some (dG c h.1.toNat):=by rw[r.pc1];exact br _ r.pc2
   simp only[fl,aV d,f8,Qz2,ab7,rm p h (by have:=K.n;omega),E]
  unfold qB;dsimp only;rw[E];generalize dG c h.1.toNat=x at *;obtain⟨op,u,b⟩:=x;obtain⟨_,_,U,V,W,X,Y,Z,N,O,o9,F,G,H⟩:=L;dsimp only at U V W X Y Z N O o9 F G H C;simp only[P,f8,Qz2];simp only[fl,B,aiM,ab7,aV d,f8,Qz2,eC d];by_cases m:op=25
  ·subst m;rfl
  rw[bf m,if_neg m];by_cases j:op=21
  ·subst j;obtain⟨I,q2⟩:=O (.inl rfl);have v:ae g.2.2.2.1 u=some (g.2.2.2.1.getD u.toNat 0):=bL 0 I (by have:=A.own;omega);simp only[Int.reduceBEq,abv,ab7,aeP,v,f8,Qz2,aqF,List.foldl_nil];by_cases n:0<=g.2.2.2.1.getD u.toNat 0
   ·rw[ax n,if_pos n];rfl
   ·rw[aP n,if_neg n];rfl
  rw[bf j,if_neg j];by_cases y:op=20
  ·subst y;obtain⟨I,q2⟩:=N (.inr rfl);have v:ae c.2.2.2.2.1 u=some (c.2.2.2.2.1.getD u.toNat ([],0)):=bL _ I (by omega);simp only[Int.reduceBEq,abv,ab7,aeP,v,f8,Qz2];by_cases n:(c.2.2.2.2.1.getD u.toNat ([],0)).2=0
   ·rw[show((c.2.2.2.2.1.getD u.toNat ([],0)).2==0)=true by grind,if_pos n];rfl
   grind
  grind
theorem BG{c:CC}(e:bC c){f:Fr}(h:yW c f):f.2.length<=512:=by obtain⟨k,pc,_,_,d,g⟩:=h;obtain⟨_,_,_,_,j,m⟩:=e.2.1.2.2.1 k d.1;omega
def afL(c:CC)(t:Th):Prop:=(t.2.2.2=true/\t.1=[])\/(t.2.2.2=false/\∃fs f,t.1=fs++[f]/\Run1 c fs f t.2.1)
structure StOk(c:CC)(s:aG):Prop where
 n:s.1.length<=1048576
 th:∀t∈s.1,afL c t
 fit:Fit1 c s
 cap:∀j,j<c.2.2.2.2.1.length->((s.2.2.1.getD j []).length:Int)<=(c.2.2.2.2.1.getD j ([],0)).2
def rV(n:Nat)(p:Nat->Bool):List Int:=((List.range n).filter p).map Int.ofNat
theorem acg(n:Nat)(p:Nat->Bool):rV (n+1) p=if p n then rV n p++[(n:Int)]else rV n p:=by grind[rV,List.range_succ]
theorem AA(n:Nat)(p:Nat->Bool):(rV n p).length<=n:=by unfold rV;grind
theorem abD{f:List Int×Int->Option ((List Int×Int)⊕List Int)}(n:Nat)(p:Nat->Bool)(o:n<=1048576)
  (d:∀k,k<n->∀out:List Int,aN out.length 1 8=true->f (out,(k:Int))=some (.inl (if p k then out++[(k:Int)]else out,(k:Int)+1)))
  (e:∀out,f (out,(n:Int))=some (.inr out)):Itr.it f ([],(0:Int))=some (rV n p):=
 eM (f:=f) (λy=>n-y.2.toNat) (λ_=>rV n p) (λy=>∃k:Nat,y=(rV k p,(k:Int))/\k<=n)
  (λy j=>by
   obtain⟨k,rfl,m⟩:=j;rcases afB k n with h|g
   ·right;refine⟨(rV (k+1) p,((k+1:Nat):Int)),?_,⟨k+1,rfl,by omega⟩,by grind,rfl⟩;grind[AA,bh,acg]
   grind) (s:=([],0)) ⟨0,rfl,by omega⟩ (by grind)
def ql(c:CC)(t:Th):bO:=if t.2.2.2=true then(29,0,0)else fX c t
def Su(c:CC)(s:aG)(d:Int)(k:Nat):Bool:=(ql c (bo s k)).1==20&&(ql c (bo s k)).2.1==d
def iY(c:CC)(s:aG)(d:Int):List Int:=rV s.1.length (Su c s d)
def Eo(c:CC)(s:aG)(k:Nat):Bool:=
 let t:=bo s k
 let x:=ql c t
 if t.2.2.2=true then false
 else if x.1=21 then decide (s.2.2.2.1.getD x.2.1.toNat 0<0)
 else if x.1=19 then(if(c.2.2.2.2.1.getD x.2.1.toNat ([],0)).2=0 then decide (0<(iY c s x.2.1).length)else decide (((s.2.2.1.getD x.2.1.toNat []).length:Int)<(c.2.2.2.2.1.getD x.2.1.toNat ([],0)).2))
 else if x.1=20 then decide (0<(s.2.2.1.getD x.2.1.toNat []).length)
 else if x.1=25 then decide (t.2.2.1<=s.2.2.2.2.2.1)
 else true
def kq(c:CC)(s:aG):List Int:=rV s.1.length (Eo c s)
theorem mE{s:aG}{k:Nat}(h:k<s.1.length):s.1[k]?=some (bo s k):=by unfold bo;simp[h]
theorem nR{c:CC}{s:aG}(hs:StOk c s){k:Nat}(h:k<s.1.length):((bo s k).2.2.2=true/\(bo s k).1=[])\/((bo s k).2.2.2=false/\∃fs f st w,bo s k=(fs++[f],st,w,false)/\Run1 c fs f st):=by
 rcases hs.th (bo s k) (nO _ h)with h|⟨d,fs,f,e,g⟩
 ·exact .inl h
 grind
theorem J2{c:CC}{e:bO}{s:aG}(hs:StOk c s){k:Nat}(h:k<s.1.length)(z:List Int) :
  lQ (c,e,s,acc) (z,(k:Int))=some (ql c (bo s k)):=by
 unfold lQ ql;rcases nR hs h with⟨d,g⟩|⟨d,fs,f,st,w,g,m⟩
 ·simp only[aV (mE h),f8,Qz2,d,abv,aeP]
 ·obtain⟨p,pc,j⟩:=gI (s:=s) (i:=k) (by rw[mE h,g]) m;have o:ae c.1 f.1=some (dG c f.1.toNat):=by rw[j.pc1];exact br _ j.pc2
  rw[g]at d|-;have n:=j.t;simp only[aV n,f8,Qz2,ab7,rm fs f (by have:=m.n;omega),o,agX,aeU];rw[fX,fM]
theorem axL{c:CC}{e:bO}{s:aG}(hs:StOk c s){k:Nat}(h:k<s.1.length)(z:Int) :
  uM (c,e,s,acc) (z,(k:Int))=some (ql c (bo s k)):=J2 (e:=e) (acc:=acc) hs h []
theorem Pm{c:CC}{e:bO}{s:aG}(hs:StOk c s)(d:Int):dI (c,e,s,acc) d=some (iY c s d):=by unfold dI iY;rw[abD s.1.length (Su c s d) hs.n (λk f out g=>by unfold jx;simp only[ax (show(k:Int)<(s.1.length:Int)by omega),abv,aV (mE f),f8,Qz2,J2 hs f,dN (n:=s.1.length) (by have:=hs.n;omega) f];grind[Su,ql,bo,af]) (λout=>by unfold jx;grind)];rfl
theorem Rb{c:CC}(n:bC c){s:aG}(hs:StOk c s){k:Nat}(h:k<s.1.length)(o:(bo s k).2.2.2=false):∃p,p<c.2.1.length/\R1 c p (ql c (bo s k))/\ql c (bo s k)=fX c (bo s k):=by
 rcases nR hs h with⟨j,e⟩|⟨j,fs,f,st,w,e,m⟩
 ·grind
 ·obtain⟨p,pc,d⟩:=gI (s:=s) (i:=k) (by rw[mE h,e]) m;have g:=n.2.2.1 p pc d.pc2 d.pr;rw[d.x]at g;rw[e];refine⟨p,d.pr.1,?_,rfl⟩;show R1 c p (fX c (fs++[f],st,w,false));rw[fX,fM];exact g.2.2
theorem xW{c:CC}(A:bC c){e:bO}{s:aG}(hs:StOk c s):fm (c,e,s,acc)=some (kq c s):=by
 unfold fm kq;rw[abD s.1.length (Eo c s) hs.n (λk h out N=>by
  unfold j8;have y:=aV (mE h);have C:mo (ql c (bo s k)) (c,e,s,acc) (out,(k:Int)) (bo s k)=some (Eo c s k):=by
   unfold mo Eo;dsimp only;cases B:(bo s k).2.2.2;rotate_left
   ·grind[ql,bo]
   obtain⟨p,D,z,-⟩:=Rb A hs h B;generalize ql c (bo s k)=x at *;obtain⟨op,u,b⟩:=x;obtain⟨E,F,G,H,I,J,r,t,K,m,o,q⟩:=z;dsimp only at E F G H I J r t K m o q|-;simp only[agX,aeU];by_cases f:op=21
   ·subst f;obtain⟨g,v⟩:=t (.inl rfl);have M:ae s.2.2.2.1 u=some (s.2.2.2.1.getD u.toNat 0):=bL 0 g (by have:=hs.fit.own;omega);grind
   rw[bf f,if_neg f];by_cases d:op=19
   ·subst d;obtain⟨g,v⟩:=r (.inl rfl);have L:ae c.2.2.2.2.1 u=some (c.2.2.2.2.1.getD u.toNat ([],0)):=bL _ g (by omega);have eq:ae s.2.2.1 u=some (s.2.2.1.getD u.toNat []):=bL _ g (by have:=hs.fit.qs;omega);grind[Int.reduceBEq,Pm,aP]
   rw[bf d,if_neg d];by_cases j:op=20
   ·subst j;obtain⟨g,v⟩:=r (.inr rfl);have eq:ae s.2.2.1 u=some (s.2.2.1.getD u.toNat []):=bL _ g (by have:=hs.fit.qs;omega);simp_all
   grind
  simp only[ax (show(k:Int)<(s.1.length:Int)by omega),abv,y,f8,Qz2,J2 hs h,C,dN (n:=s.1.length) (by have:=hs.n;omega) h];grind[Eo,af]) (λout=>by unfold j8;grind)]
 rfl
def lg(c:CC)(s:aG):Nat->Int
 |0=>-1
 |n+1=>if(ql c (bo s n)).1=25/\(lg c s n<0\/(bo s n).2.2.1<lg c s n)then(bo s n).2.2.1 else lg c s n
def Rz(s:aG)(w:Int):aG:=(s.1,s.2.1,s.2.2.1,s.2.2.2.1,s.2.2.2.2.1,w,s.2.2.2.2.2.2)
def cu(c:CC)(s:aG):aG:=
 if 0<=aW s then s else if s.2.2.2.2.2.2.1=0 then f6 c s 0 3 else if 0<(kq c s).length then s else if 0<=lg c s s.1.length then Rz s (lg c s s.1.length)else f6 c s 0 2
theorem asq{f:Int×Int->Option ((Int×Int)⊕Int)}(c:CC)(s:aG)(n:s.1.length<=1048576)
  (d:∀k,k<s.1.length->∀w:Int,f (w,(k:Int))=some (.inl (if(ql c (bo s k)).1=25/\(w<0\/(bo s k).2.2.1<w)then(bo s k).2.2.1 else w,(k:Int)+1)))
  (g:∀w,f (w,(s.1.length:Int))=some (.inr w)):Itr.it f (-1,(0:Int))=some (lg c s s.1.length):=
 eM (f:=f) (λy=>s.1.length-y.2.toNat) (λ_=>lg c s s.1.length) (λy=>∃k:Nat,y=(lg c s k,(k:Int))/\k<=s.1.length)
  (λy j=>by
   obtain⟨k,rfl,m⟩:=j;rcases afB k s.1.length with e|h
   ·right;refine⟨(lg c s (k+1),((k+1:Nat):Int)),?_,⟨k+1,rfl,by omega⟩,by grind,rfl⟩;rw[d k e];rfl
   grind) (s:=(-1,0)) ⟨0,rfl,by omega⟩ (by grind)
theorem Qq{c:CC}(m:bC c){e:bO}{s:aG}(hs:StOk c s)(q:0<s.1.length):ju (c,e,s,acc)=some (c,e,cu c s,acc):=by
 unfold ju cu;dsimp only;by_cases o:0<=aW s
 ·rw[if_pos o];have:(0:Int)<=s.2.2.2.2.2.2.2.2.2.1:=o;grind
 rw[if_neg o];have:¬(0:Int)<=s.2.2.2.2.2.2.2.2.2.1:=o;simp only[this,aiM,ab7];have p:=mE q;have x:ae s.1 0=some (bo s 0):=aV p;by_cases hf:s.2.2.2.2.2.2.1=0
 ·rw[if_pos hf,bt hf];simp only[abv,x,f8,Qz2];rcases nR hs q with⟨d,g⟩|⟨d,fs,f,st,w,g,h⟩
  ·rw[d];unfold f6;dsimp only;rw[if_neg (by rw[d];simp)];rfl
  ·obtain⟨A,pc,j⟩:=gI (s:=s) (i:=0) (by rw[p,g]) h;obtain⟨t,B,u,v⟩:=Da m j;rw[tV m j,g];simp only[aeN,abv,rm fs f (by have:=h.n;omega),f8,Qz2,t,u,v];rfl
 rw[if_neg hf,bf hf];simp only[ab7,xW m hs,f8,Qz2];by_cases hl:0<(kq c s).length
 ·grind
 rw[if_neg hl,aP (by omega)];have z:=asq (f:=g9 (c,e,s,acc)) c s hs.n (λk r w=>by unfold g9;simp only[ax (show(k:Int)<(s.1.length:Int)by omega),abv,aV (mE r),f8,Qz2,axL hs r,dN (n:=s.1.length) (by have:=hs.n;omega) r];grind) (λw=>by unfold g9;grind);simp only[ab7,z,f8,Qz2];by_cases y:0<=lg c s s.1.length
 ·rw[if_pos y,aP (by omega)];rfl
 ·rw[if_neg y,ax (by omega)];simp only[abv,x,f8,Qz2];rcases nR hs q with⟨d,g⟩|⟨d,fs,f,st,w,g,h⟩
  ·rw[d];unfold f6;dsimp only;rw[if_neg (by rw[d];simp)];rfl
  ·obtain⟨A,pc,j⟩:=gI (s:=s) (i:=0) (by rw[p,g]) h;obtain⟨t,B,u,v⟩:=Da m j;rw[tV m j,g];simp only[aeN,abv,rm fs f (by have:=h.n;omega),f8,Qz2,t,u,v];rfl
theorem lX(h:l.length<=1048576):cD l=some l:=by unfold cD;rw[vY (bh (by grind) (by omega))];rfl
theorem awI(r:List Fr)(z:List Int×Int×Bool)(h:r.length<=1048576)(e:∀f∈r,f.2.length<=1048576):Itr.it (kW r) ((),0,(r,0),z)=some ((r,(r.length:Int)),z):=
 eM (f:=kW r) (λs=>r.length-s.2.1.toNat) (λ_=>((r,(r.length:Int)),z)) (λs=>∃i:Nat,s=((),(i:Int),(r,(i:Int)),z)/\i<=r.length)
  (λs hs=>by
   obtain⟨i,rfl,hi⟩:=hs;unfold kW;rcases afB i r.length with d|g
   ·right;refine⟨((),((i+1:Nat):Int),(r,((i+1:Nat):Int)),z),?_,⟨i+1,rfl,by omega⟩,by grind,rfl⟩;have hf:=e _ (nO (0,[]) d);simp only[ax (show(i:Int)<(r.length:Int)by omega),abv,br (0,[]) d,f8,lX hf,aer,af,dN (n:=r.length) (by omega) d,ac6];rw[show((r.getD i (0,[])).1,(r.getD i (0,[])).2)=r.getD i (0,[])from rfl,jQ (show r[i]?=some (r.getD i (0,[]))by simp[d])];rfl
   grind) (s:=((),0,(r,0),z)) ⟨0,rfl,by omega⟩ (by grind)
theorem at5(r:List Th)(z:List Int×List (List Int)×List Int×List Int×Int×Int×Int×Int×Int×Int×Int×Int×List UInt8)(o:r.length<=1048576)(g:∀t∈r,adi t):Itr.it (ln r) ((),0,(r,0),z)=some ((r,(r.length:Int)),z):=
 eM (f:=ln r) (λs=>r.length-s.2.1.toNat) (λ_=>((r,(r.length:Int)),z)) (λs=>∃i:Nat,s=((),(i:Int),(r,(i:Int)),z)/\i<=r.length)
  (λs hs=>by
   obtain⟨i,rfl,hi⟩:=hs;unfold ln;rcases afB i r.length with d|h
   ·right;refine⟨((),((i+1:Nat):Int),(r,((i+1:Nat):Int)),z),?_,⟨i+1,rfl,by omega⟩,by grind,rfl⟩;obtain⟨j,k,m⟩:=g _ (nO ([],[],0,false) d);have e:du (r.getD i ([],[],0,false)).1=some (r.getD i ([],[],0,false)).1:=by
     unfold du;rw[vY (bh (by grind) (by omega))];rfl
    simp only[ax (show(i:Int)<(r.length:Int)by omega),abv,br ([],[],0,false) d,f8,lX k,e,awI _ _ j m,aer,af,dN (n:=r.length) (by omega) d,ac6,ax (af3 _)];rw[show((r.getD i ([],[],0,false)).1,(r.getD i ([],[],0,false)).2.1,(r.getD i ([],[],0,false)).2.2)=r.getD i ([],[],0,false)from rfl,jQ (show r[i]?=some (r.getD i ([],[],0,false))by simp[d])];rfl
   grind) (s:=((),0,(r,0),z)) ⟨0,rfl,by omega⟩ (by grind)
theorem awj(r:List (List Int))(a:List Th)(b:List Int)(z:List Int×List Int×Int×Int×Int×Int×Int×Int×Int×Int×List UInt8)(h:r.length<=1048576)(e:∀q∈r,q.length<=1048576) :
  Itr.it (kX r) ((),0,a,b,(r,0),z)=some (a,b,(r,(r.length:Int)),z):=
 eM (f:=kX r) (λs=>r.length-s.2.1.toNat) (λ_=>(a,b,(r,(r.length:Int)),z)) (λs=>∃i:Nat,s=((),(i:Int),a,b,(r,(i:Int)),z)/\i<=r.length)
  (λs hs=>by
   obtain⟨i,rfl,hi⟩:=hs;unfold kX;rcases afB i r.length with d|g
   ·right;refine⟨((),((i+1:Nat):Int),a,b,(r,((i+1:Nat):Int)),z),?_,⟨i+1,rfl,by omega⟩,by grind,rfl⟩;have hf:=e _ (nO [] d);simp only[ax (show(i:Int)<(r.length:Int)by omega),abv,br [] d,f8,lX hf,aer,af,dN (n:=r.length) (by omega) d,ac6];simp_all
   grind) (s:=((),0,a,b,(r,0),z)) ⟨0,rfl,by omega⟩ (by grind)
theorem tE(s:aG)(hs:mM s):iE s=some s:=by obtain⟨d,e,f,g,h,j,k⟩:=hs;unfold iE eD jY;dsimp only;rw[vY (bh (by grind) (by omega))];simp only[ae4,f8,Qz2,at5 s.1 _ d e,af,ax (af3 _),abv,lX f,lX j,lX k];rw[show aN ([]:List (List Int)).length s.2.2.1.length 24=true from bh (by grind) (by omega)];simp only[abv,f8,Qz2,awj s.2.2.1 _ _ _ g h,ax (af3 _)]
set_option linter.unusedSectionVars false
abbrev jP:Type:=List UInt8×Int
def apt(l:List jP)(nm:List UInt8):Option jP:=l.find? λx=>x.1==nm
def DQ(l:List jP)(nm:List UInt8)(n:Int):Int:=match apt l nm with|some x=>x.2|none=>n
theorem GP{α:Type}{p:α->Bool}(d:α):∀{l:List α} {i:Nat},i<l.length->(∀j,j<i->p (l.getD j d)=false)->p (l.getD i d)=true->l.find? p=some (l.getD i d)
 |[],_,h,_,_=>by simp at h
 |x::r,0,_,_,h=>by grind
 |x::r,i+1,h,e,f=>by have k:p x=false:=e 0 (by omega);have:=GP (p:=p) d (l:=r) (i:=i) (by simpa using h) (λj g=>e (j+1) (by omega)) f;grind
theorem ab4{p:α->Bool}(d:α){l:List α}(h:∀j,j<l.length->p (l.getD j d)=false):l.find? p=none:=by grind[List.find?_eq_none,List.mem_iff_getElem]
theorem Vt(l:List jP)(hl:l.length<=1048576)(nm:List UInt8)(n:Int):lK nm n l=some (DQ l nm n):=by
 unfold lK fR DQ apt;rcases jU (f:=cY l nm) l.length (by omega) (λi=>((l.getD i ([],0)).1==nm)=false) (λi=>(i:Int))
  (λi hi _=>by
   unfold cY qx;simp only[ax (show(i:Int)<(l.length:Int)by omega),abv,br ([],0) hi,f8,dN (n:=l.length) (by omega) hi];grind)
  (λ_=>by unfold cY;grind)with⟨d,e⟩|⟨i,hi,g,d,e⟩
 ·rw[e,ab4 (([],0):jP) d];rfl
 ·rw[e,GP (([],0):jP) hi g (by simpa using d)];simp only[f8,Qz2,ax (show(0:Int)<=(i:Int)by omega),abv,br ([],0) hi]
def AZ(s:aG)(l:List Int):aG:=(s.1,l,s.2.2)
def EX(s:aG)(l:List Int):aG:=(s.1,s.2.1,s.2.2.1,s.2.2.2.1,l,s.2.2.2.2.2)
def H1(s:aG)(l:List Int):aG:=(s.1,s.2.1,s.2.2.1,l,s.2.2.2.2)
def pQ(c:CC)(l:List jP):List Int:=c.2.2.2.1.map λv=>DQ l v.1 v.2
def pO(c:CC)(l:List jP):List Int:=c.2.2.2.2.2.2.1.map λf=>DQ l f 0
theorem Bg{β:Type}{xs:List α}(g:α->β)(d:α)(h:i<xs.length):(xs.map g).take (i+1)=(xs.map g).take i++[g (xs.getD i d)]:=by rw[aqb];simp[h]
section
variable (c:CC) (hs:lN c) (l:List jP) (hl:l.length<=1048576)
include hs hl
theorem auS(e:bO)(s:aG)(acc:List ((Int×Int×Bool)×Bool)):Itr.it (lc c l) (fl 0 (c,e,AZ s [],acc))=some (fl 0 (c,e,AZ s (pQ c l),acc)).2:=by
 have k:c.2.2.2.1.length<=1048576:=hs.2.2.1;refine eM (f:=lc c l) (λy=>c.2.2.2.1.length-y.1.toNat) (λ_=>(fl 0 (c,e,AZ s (pQ c l),acc)).2) (λy=>∃i:Nat,y=fl (i:Int) (c,e,AZ s ((pQ c l).take i),acc)/\i<=c.2.2.2.1.length)
  (λy j=>by
   obtain⟨i,rfl,hi⟩:=j;unfold lc;rcases afB i c.2.2.2.1.length with d|h
   ·right;refine⟨fl ((i+1:Nat):Int) (c,e,AZ s ((pQ c l).take (i+1)),acc),?_,⟨i+1,rfl,by omega⟩,by show _-((i+1:Nat):Int).toNat<_-(i:Int).toNat;omega,rfl⟩;have g:∀v:Int,aN ((pQ c l).take i).length ([v]:List Int).length 8=true:=λv=>bh (by grind) (by omega)
    have hd:decide ((fl (i:Int) (c,e,AZ s ((pQ c l).take i),acc)).1<(c.2.2.2.1.length:Int))=true:=ax (show(i:Int)<(c.2.2.2.1.length:Int)by omega);rw[show pQ c l=c.2.2.2.1.map (λv=>DQ l v.1 v.2)from rfl]at g|-;rw[Bg _ (([],0):jP) d];simp only[fl,AZ,show(i:Int)<(c.2.2.2.1.length:Int)by omega,ahW,abv,br ([],0) d,f8,Vt l hl,af,g,dN (n:=c.2.2.2.1.length) (by omega) d];rfl
   ·left;grind[pQ,fl,List.take_of_length_le,decide_false]) ⟨0,rfl,by omega⟩ (by grind)
theorem aqr(e:bO)(s:aG)(acc:List ((Int×Int×Bool)×Bool)):Itr.it (kZ c l) (fl 0 (c,e,EX s [],acc))=some (fl 0 (c,e,EX s (pO c l),acc)).2:=by
 have k:c.2.2.2.2.2.2.1.length<=1048576:=hs.2.2.2.2.2.1;refine eM (f:=kZ c l) (λy=>c.2.2.2.2.2.2.1.length-y.1.toNat) (λ_=>(fl 0 (c,e,EX s (pO c l),acc)).2) (λy=>∃i:Nat,y=fl (i:Int) (c,e,EX s ((pO c l).take i),acc)/\i<=c.2.2.2.2.2.2.1.length)
  (λy j=>by
   obtain⟨i,rfl,hi⟩:=j;unfold kZ;rcases afB i c.2.2.2.2.2.2.1.length with d|h
   ·right;refine⟨fl ((i+1:Nat):Int) (c,e,EX s ((pO c l).take (i+1)),acc),?_,⟨i+1,rfl,by omega⟩,by show _-((i+1:Nat):Int).toNat<_-(i:Int).toNat;omega,rfl⟩;have g:∀v:Int,aN ((pO c l).take i).length ([v]:List Int).length 8=true:=λv=>bh (by grind) (by omega)
    rw[show pO c l=c.2.2.2.2.2.2.1.map (λf=>DQ l f 0)from rfl]at g|-;rw[Bg _ ([]:List UInt8) d];simp only[fl,EX,show(i:Int)<(c.2.2.2.2.2.2.1.length:Int)by omega,ahW,abv,br [] d,f8,Vt l hl,af,g,dN (n:=c.2.2.2.2.2.2.1.length) (by omega) d];rfl
   ·left;grind[pO,fl,List.take_of_length_le,decide_false]) ⟨0,rfl,by omega⟩ (by grind)
end
section
variable (c:CC) (hs:lN c)
include hs
theorem ats(e:bO)(s:aG)(acc:List ((Int×Int×Bool)×Bool)):Itr.it (ld c) (fl 0 (c,e,H1 s [],acc))=some (fl 0 (c,e,H1 s (List.replicate c.2.2.2.2.2.1.length (-1)),acc)).2:=by
 have k:c.2.2.2.2.2.1.length<=1048576:=hs.2.2.2.2.1;refine eM (f:=ld c) (λy=>c.2.2.2.2.2.1.length-y.1.toNat) (λ_=>(fl 0 (c,e,H1 s (List.replicate c.2.2.2.2.2.1.length (-1)),acc)).2) (λy=>∃i:Nat,y=fl (i:Int) (c,e,H1 s (List.replicate i (-1)),acc)/\i<=c.2.2.2.2.2.1.length)
  (λy j=>by
   obtain⟨i,rfl,hi⟩:=j;unfold ld;rcases afB i c.2.2.2.2.2.1.length with d|h
   ·right;refine⟨fl ((i+1:Nat):Int) (c,e,H1 s (List.replicate (i+1) (-1)),acc),?_,⟨i+1,rfl,by omega⟩,by show _-((i+1:Nat):Int).toNat<_-(i:Int).toNat;omega,rfl⟩;have g:aN (List.replicate i (-1:Int)).length ([-1]:List Int).length 8=true:=bh (by grind) (by omega);rw[ajN];simp only[fl,H1,show(i:Int)<(c.2.2.2.2.2.1.length:Int)by omega,ahW,abv,af,g,dN (n:=c.2.2.2.2.2.1.length) (by omega) d];rfl
   ·left;grind[fl]) ⟨0,rfl,by omega⟩ (by grind)
end
def BT(c:CC):aG:=([],[],List.replicate c.2.2.2.2.1.length [],[],[],0,64,(0,0,0),-1,-1,0,[])
def fy(c:CC)(l:List jP):aG:=([([(c.2.1.getD (c.2.1.length-1) 0,List.replicate (c.2.2.1.getD (c.2.1.length-1) 0).toNat 0)],[],0,false)],pQ c l,List.replicate c.2.2.2.2.1.length [],List.replicate c.2.2.2.2.2.1.length (-1),pO c l,0,64,(0,0,0),-1,-1,0,[])
def fQ(c:CC)(e:bO)(l:List jP):aG:=cu c (bn c e.1 0 (fy c l)).1
def iW(e:bO):Prop:=0<=e.1/\e.1<4/\0<=e.2.1/\e.2.1<=8/\0<=e.2.2/\e.2.2<=8
theorem E4(e:bO):∃b,mW e=some b/\(b=true↔iW e):=by refine⟨decide (0<=e.1/\e.1<4/\0<=e.2.1/\e.2.1<=8/\0<=e.2.2/\e.2.2<=8),?_,decide_eq_true_iff⟩;unfold mW;grind
theorem abp{c:CC}(hs:lN c):mM (BT c):=by obtain⟨f,g,h,e,j,k,m⟩:=hs;refine⟨by simp[BT],λt d=>by simp[BT]at d,by simp[BT],by simpa[BT]using e,λq hq=>?_,by simp[BT],by simp[BT]⟩;rw[aiV hq];simp
theorem Gt{c:CC}(d:bC c)(l:List jP):qQ c (fy c l) 0/\Fit1 c (fy c l)/\mM (fy c l):=by
 have p:=d.2.1.1.1;obtain⟨r,s,k,m,n,o,u⟩:=d.2.2.2;have e:yW c (c.2.1.getD (c.2.1.length-1) 0,List.replicate (c.2.2.1.getD (c.2.1.length-1) 0).toNat 0):=Ht d (by omega);have f:=BG d e;refine⟨⟨[],_,[],0,rfl,⟨by simp,by simp,λg j=>?_⟩⟩,⟨by simp[fy,pQ],by simp[fy],by simp[fy],by simp[fy,pO]⟩,by simp[fy],λt h=>?_,by simpa[fy,pQ]using k,by simpa[fy]using m,λq hq=>?_,by simpa[fy]using n,by simpa[fy,pO]using o⟩
 ·grind
 ·simp only[fy,ade]at h;rw[h];refine⟨by simp,by simp,λg j=>?_⟩;grind
 ·rw[aiV hq];simp
theorem E6{c:CC}(G:bC c)(kind:Int){s:aG}(hs:StOk c s)(z:qQ c s i)(A:mM s):StOk c (bn c kind i s).1/\mM (bn c kind i s).1/\(bn c kind i s).1.1.length=s.1.length:=by
 obtain⟨fs,f,st,w,d,z⟩:=z;obtain⟨e,n,h,C,k,L,P⟩:=vc G kind 64 d z;have base:∀(q:aG) (w':Int),q.1=s.1.set i (e++[n],h,w',false)->q.2.1=s.2.1->q.2.2.1=s.2.2.1->q.2.2.2.1=s.2.2.2.1->q.2.2.2.2.1=s.2.2.2.2.1->StOk c q/\mM q/\q.1.length=s.1.length:=by
  intro q w' m D p E F;refine⟨⟨by rw[m];simpa using hs.n,λt d=>?_,⟨by rw[D];exact hs.fit.1,by rw[p];exact hs.fit.2,by rw[E];exact hs.fit.3,by rw[F];exact hs.fit.4⟩,λj O=>by rw[p];exact hs.cap j O⟩,?_,by rw[m];simp⟩
  ·rw[m]at d;rcases afx d with d|rfl
   ·exact hs.th t d
   ·exact .inr ⟨rfl,e,n,rfl,k⟩
  ·obtain⟨M,o,r,u,v,x,y⟩:=A;unfold mM;rw[m,D,p,E,F];refine⟨by grind,λt d=>?_,r,u,v,x,y⟩;rcases afx d with d|rfl
   ·exact o t d
   ·have:=k.n;have:=k.m;exact⟨by grind,by grind,λg N=>by have:=BG G (k.fr g N);omega⟩
 unfold bn;generalize bY c kind i 64 s=q at *;obtain⟨b,q⟩:=q;dsimp only at *;obtain⟨H,I,J,K,Q,T,U,V,W⟩:=L;have B:q.1[i]?=some (e++[n],h,w,false):=by grind
 split
 ·unfold qB;dsimp only;split
  ·refine base _ (ac (q.2.2.2.2.2.1+(fX c (bo q i)).2.1)) ?_ H I J K;show q.1.set i ((bo q i).1,(bo q i).2.1,_,(bo q i).2.2.2)=_;rw[eC B,C,aqk]
  split
  ·dsimp only;split
   ·exact base _ w C H I J K
   grind
  split
  ·grind
  grind
 grind
theorem IX{c:CC}{s:aG}(hs:StOk c s)(d:mM s):StOk c (cu c s)/\mM (cu c s):=by
 have e:∀o,StOk c (f6 c s 0 o)/\mM (f6 c s 0 o):=by
  intro o;unfold f6;dsimp only;split
  ·exact⟨⟨hs.n,hs.th,⟨hs.fit.1,hs.fit.2,hs.fit.3,hs.fit.4⟩,hs.cap⟩,d⟩
  ·exact⟨⟨hs.n,hs.th,⟨hs.fit.1,hs.fit.2,hs.fit.3,hs.fit.4⟩,hs.cap⟩,d⟩
 unfold cu;split
 ·grind
 split
 ·exact e 3
 split
 ·grind
 split
 ·exact⟨⟨hs.n,hs.th,⟨hs.fit.1,hs.fit.2,hs.fit.3,hs.fit.4⟩,hs.cap⟩,d⟩
 ·exact e 2
theorem ZW{c:CC}(d:bC c)(l:List jP):StOk c (fy c l):=by
 obtain⟨⟨fs,f,st,w,e,h⟩,hf,_⟩:=Gt d l;refine⟨by simp[fy],λt m=>?_,hf,λj k=>?_⟩
 ·have:t=(fs++[f],st,w,false):=by
   simp only[fy,ade]at m;have g:some (_:Th)=some (fs++[f],st,w,false):=e;grind
  rw[this];exact .inr ⟨rfl,fs,f,rfl,h⟩
 ·show((List.getD (List.replicate c.2.2.2.2.1.length []) j []).length:Int)<=_;have n:=(d.2.1.2.2.2 j k).1;grind
structure CodeOk(c:CC):Prop where
 v:bC c
 p:∃k,nI c=some (k,0)
theorem Oi{c:CC}(p:CodeOk c){e:bO}(v:iW e)(l:List jP)(hl:l.length<=64):iD c e l=some (fQ c e l,0):=by
 have d:=p.v;have hs:=d.2.2.2;obtain⟨k,v1⟩:=p.p;have x:=hl;have hl:l.length<=1048576:=by omega
 unfold iD;dsimp only;rw[v1];simp only[f8,Qz2];obtain⟨b,q,r⟩:=E4 e;simp only[aeA,ab7,q,r.2 v,f8,Qz2,afg,aP (show¬(64:Int)<l.length by omega)];have u:(c.2.2.2.2.1.length:Int)<=1048576:=by have:=hs.2.2.2.1;omega
 have h:decide (0<=(c.2.2.2.2.1.length:Int)/\(c.2.2.2.2.1.length:Int)*24<=281474976710656/\(c.2.2.2.2.1.length:Int)<=maxLen)=true:=ax ⟨by omega,by omega,by simp only[maxLen];omega⟩;have F:=d.2.1.1.1;have y:=d.2.1.1.2.1;have z:=hs.1;have t:ac ((c.2.1.length:Int)-1)=((c.2.1.length-1:Nat):Int):=by rw[ay (by omega) (by omega)];omega
 have s:ae c.2.1 ((c.2.1.length-1:Nat):Int)=some (c.2.1.getD (c.2.1.length-1) 0):=br 0 (by omega);have el:ae c.2.2.1 ((c.2.1.length-1:Nat):Int)=some (c.2.2.1.getD (c.2.1.length-1) 0):=br 0 (by omega);obtain⟨_,_,_,_,A,G⟩:=d.2.1.2.2.1 (c.2.1.length-1) (by omega);have j:decide (0<=c.2.2.1.getD (c.2.1.length-1) 0/\c.2.2.1.getD (c.2.1.length-1) 0*8<=281474976710656/\c.2.2.1.getD (c.2.1.length-1) 0<=maxLen)=true:=ax ⟨A,by omega,by simp only[maxLen];omega⟩;obtain⟨r1,B,C⟩:=Gt d l;have so:=ZW d l;obtain⟨g,m,n⟩:=E6 d e.1 so r1 C;obtain⟨D,E⟩:=IX g m;have f:0<(bn c e.1 0 (fy c l)).1.1.length:=by rw[n];simp[fy]
 simp only[h,af,abv];refine(aei (λo:Option aG=>o.bind _) (tE (BT c) (abp hs))).trans ?_;simp only[f8,Qz2];refine(aei (λo:Option rt=>o.bind _) (auS c hs l hl e (BT c) [])).trans ?_;simp only[f8,Qz2];refine(aei (λo:Option rt=>o.bind _) (aqr c hs l hl e (AZ (BT c) (pQ c l)) [])).trans ?_;simp only[f8,Qz2];refine(aei (λo:Option rt=>o.bind _) (ats c hs e (EX (AZ (BT c) (pQ c l)) (pO c l)) [])).trans ?_;simp only[f8,Qz2,fl,t,s,el,j,abv];refine(aei (λo:Option aR=>o.bind _) (U3 d e [] r1 B)).trans ?_;simp only[f8,Qz2,Qq d g f];rfl
def aw6:Bool:=(List.range 70).all λn=>match ia (n:Int)with|some l=>l==List.replicate n 1|none=>false
theorem YO:aw6=true:=by kernel_rfl
theorem D0{n:Nat}(h:n<70):ia (n:Int)=some (List.replicate n 1):=by have:=acr.1 YO n (af1.2 h);grind
theorem Z0(l:List Int)(hl:l.length<=1048576)(x:Int):iM l x=some (decide (x∈l)):=by
 unfold iM nw;rcases jU (f:=gz l x) l.length (by omega) (λi=>¬x=l.getD i 0) (λi=>(i:Int))
  (λi hi _=>by
   unfold gz;simp only[ax (show(i:Int)<(l.length:Int)by omega),abv,br 0 hi,f8,Qz2,dN (n:=l.length) (by omega) hi];grind)
  (λ_=>by unfold gz;grind)with⟨d,e⟩|⟨i,hi,_,d,e⟩
 ·grind[aP,List.mem_iff_getElem]
 simp_all
def nZ(c:CC)(s:aG)(k:Nat):Bool:=
 if(bo s k).2.2.2=true then decide ((bo s k).2.1.length=0/\(bo s k).2.2.1=0)
 else decide (0<=(bo s k).2.2.1/\(bo s k).2.2.1<=1048576/\(0<=aW s\/i7 (fX c (bo s k)) (bo s k).1.length=true))
def mr(s:aG)(k:Nat):Prop:=-1<=s.2.2.2.1.getD k 0/\s.2.2.2.1.getD k 0<s.1.length
instance (s:aG)(k:Nat):Decidable (mr s k):=by unfold mr;infer_instance
def eR(s:aG):Nat->Int
 |0=>0
 |n+1=>if(bo s n).2.2.2=true then eR s n else eR s n+1
def zH(c:CC)(s:aG):Prop:=(1<=s.1.length/\s.1.length<=65)/\(∀k,k<s.2.2.2.1.length->mr s k)/\(∀k,k<s.1.length->nZ c s k=true)/\eR s s.1.length<=5
instance (c:CC)(s:aG):Decidable (zH c s):=by unfold zH;infer_instance
theorem aia(s:aG):∀n,0<=eR s n/\eR s n<=n:=by
 intro n;induction n with
 |zero=>simp[eR]
 |succ n d=>unfold eR;grind
theorem adf{c:CC}{e:bO}{s:aG}{fs:List Fr}{f:Fr}{x:bO}{k:Nat}(h:AtP c s i fs f st w x k pc) :
  qE (c,e,s,acc) (i:Int)=some (i7 x (fs.length+1)):=OT (n:=0) (e:=e) (acc:=acc) h
theorem axZ{c:CC}(d:bC c)(e:bO)(s:aG)(acc:List ((Int×Int×Bool)×Bool))(t:Th)(v:t.1.length<=8)(h:∀g∈t.1,yW c g):Itr.it (fT (c,e,s,acc) t) 0=some (.inl ()):=by
 rcases jU (f:=fT (c,e,s,acc) t) t.1.length (by omega) (λ_=>True) (λ_=>false)
  (λi hi _=>by
   left;refine⟨trivial,?_⟩;unfold fT;obtain⟨k,pc,m,r,j,o⟩:=h _ (nO (0,[]) hi);have q:=Ip (wB d.2.1 d.2.2.2) j (by omega);have hl:ae c.2.2.1 (k:Int)=some (c.2.2.1.getD k 0):=br 0 (by have:=j.1;have:=d.2.1.1.2.1;omega);simp only[ax (show(i:Int)<(t.1.length:Int)by omega),abv,br (0,[]) hi,f8,m,BQ,aP (show¬((pc:Int)<0\/(c.1.length:Int)<=(pc:Int))by omega),aeN,q,hl,nf o,ab7,dN (n:=t.1.length) (by omega) hi])
  (λ_=>by unfold fT;grind)with⟨_,p⟩|⟨i,_,_,u,_⟩
 ·exact p
 grind
theorem asv{c:CC}(n:bC c){e:bO}{s:aG}(hs:StOk c s){k:Nat}(j:k<s.1.length):mU (c,e,s,acc) (k:Int)=some (nZ c s k):=by
 unfold mU nZ;rcases nR hs j with⟨m,g⟩|⟨m,fs,f,st,w,g,d⟩
 ·grind[decide,bo,aV,mE,List.length_nil]
 ·obtain⟨v,pc,h⟩:=gI (s:=s) (i:=k) (by rw[mE j,g]) d;have q:=aV h.t;have p:=adf (e:=e) (acc:=acc) h;have o:=axZ n e s acc (fs++[f],st,w,false) (by have:=d.n;grind) d.fr;have r:fX c (fs++[f],st,w,false)=dG c f.1.toNat:=by rw[fX,fM]
  have u:=d.n;have t:=d.m;rw[g];simp only[q,f8,Qz2,ab7,agX,aeU,acA,adC,bf (show¬(((fs.length+1:Nat):Int))=0 by omega),aeN,abv,aP (show¬(8:Int)<((fs.length+1:Nat):Int)by omega),aP (show¬(16:Int)<(st.length:Int)by omega),r];grind[aW,aP,Bool.not_false,decide_false]
theorem adv(c:CC)(e:bO)(s:aG)(acc:List ((Int×Int×Bool)×Bool))(m:s.1.length<=1048576):kA (c,e,s,acc)=some (eR s s.1.length):=by
 unfold kA
 rw [eM (f:=mi (c,e,s,acc)) (λy=>s.1.length-y.2.toNat) (λ_=>eR s s.1.length) (λy=>∃k:Nat,y=(eR s k,(k:Int))/\k<=s.1.length)
  (λy h=>by
   obtain⟨k,rfl,j⟩:=h;unfold mi eY;rcases afB k s.1.length with d|g
   ·right;refine⟨(eR s (k+1),((k+1:Nat):Int)),?_,⟨k+1,rfl,by omega⟩,by grind,rfl⟩;have hl:=aia s k;simp only[ax (show(k:Int)<(s.1.length:Int)by omega),abv,aV (mE d),f8,Qz2,dN (n:=s.1.length) (by omega) d];rw[show eR s (k+1)=if(bo s k).2.2.2=true then eR s k else eR s k+1 from rfl];cases (bo s k).2.2.2
    ·simp only[aeN,abv,f8,Qz2,agX,aeU,ay (x:=eR s k+1) (by omega) (by omega)];rfl
    ·simp only[afg,ab7,f8,Qz2,aeP,Int.add_zero,ay (x:=eR s k) (by omega) (by omega)];rfl
   grind) (s:=(0,0)) ⟨0,rfl,by omega⟩ (by grind)]
 rfl
theorem Q7{c:CC}(r:bC c)(e:bO){s:aG}(acc:List ((Int×Int×Bool)×Bool))(hs:StOk c s)(g:mM s):∃b,lM (c,e,s,acc)=some b/\(b=true↔zH c s):=by
 unfold lM;dsimp only;have t:=hs.n;rw[nf (show(s.2.1.length:Int)=c.2.2.2.1.length by rw[hs.fit.vars]),nf (show(s.2.2.1.length:Int)=c.2.2.2.2.1.length by rw[hs.fit.qs]),nf (show(s.2.2.2.1.length:Int)=c.2.2.2.2.2.1.length by rw[hs.fit.own]),nf (show(s.2.2.2.2.1.length:Int)=c.2.2.2.2.2.2.1.length by rw[hs.fit.files])];simp only[ab7,KW,BQ];by_cases m:1<=s.1.length/\s.1.length<=65;rotate_left
 ·rw[ax (by omega)];exact⟨false,rfl,λh=>(by cases h),λh=>absurd h.1 m⟩
 rw [aP (by omega)];simp only[ab7];have u:Itr.it (fO (c,e,s,acc)) 0=some (.inl ()):=by
  rcases jU (f:=fO (c,e,s,acc)) s.2.2.1.length (by have:=g.2.2.2.1;omega) (λ_=>True) (λ_=>false)
   (λi hi _=>by
    left;refine⟨trivial,?_⟩;unfold fO;have hq:=hs.fit.qs;have o:=hs.cap i (by omega);simp only[ax (show(i:Int)<(s.2.2.1.length:Int)by omega),abv,br [] hi,br ([],0) (show i<c.2.2.2.2.1.length by omega),f8,aP (show¬(c.2.2.2.2.1.getD i ([],0)).2<((s.2.2.1.getD i []).length:Int)by omega),ab7,dN (n:=s.2.2.1.length) (by have:=g.2.2.2.1;omega) hi])
   (λ_=>by unfold fO;grind)with⟨_,d⟩|⟨i,_,_,j,_⟩
  ·exact d
  grind
 rw[u];simp only[f8,Qz2];have v:=g.2.2.2.2.2.1;rcases jU (f:=gY (c,e,s,acc)) s.2.2.2.1.length (by omega) (mr s) (λ_=>false)
  (λi hi _=>by
   unfold gY;simp only[ax (show(i:Int)<(s.2.2.2.1.length:Int)by omega),abv,br 0 hi,f8,Qz2,BQ,dN (n:=s.2.2.2.1.length) (by omega) hi];by_cases h:mr s i
   ·left;have h':=h;unfold mr at h';grind
   ·right;have h':=h;unfold mr at h';grind)
  (λ_=>by unfold gY;grind)with⟨p,d⟩|⟨i,hi,_,j,d⟩
 rotate_left
 ·rw[d];exact⟨false,rfl,λh=>(by cases h),λh=>absurd (h.2.1 i hi) j⟩
 rw[d];simp only[f8,Qz2];rcases jU (f:=ib (c,e,s,acc)) s.1.length (by omega) (λk=>nZ c s k=true) (λ_=>false)
  (λi hi _=>by
   unfold ib;simp only[ax (show(i:Int)<(s.1.length:Int)by omega),abv,aV (mE hi),f8,Qz2,asv r hs hi,dN (n:=s.1.length) (by omega) hi];grind)
  (λ_=>by unfold ib;grind)with⟨q,d⟩|⟨i,hi,_,j,d⟩
 rotate_left
 ·rw[d];exact⟨false,rfl,λh=>(by cases h),λh=>absurd (h.2.2.1 i hi) j⟩
 rw[d];simp only[f8,Qz2,adv c e s [] t];exact⟨_,rfl,λh=>⟨m,p,q,by simpa using h⟩,λh=>by simpa using h.2.2.2⟩
theorem Vl(a b c d:Int):Aa a b c d<0↔a<0\/b<0\/c<0\/d<0:=by unfold Aa;grind
abbrev Pt4:Type:=Int×Int×Int×List Int
def kO(c:CC)(e:bO)(s:aG)(k:Nat):Pt4:=
 let x:=fX c (bo s k)
 let pc:=(vp (bo s k)).1
 if x.1=23 then(1,(k:Int),pc,List.replicate x.2.1.toNat 1)
 else if x.1=19/\(c.2.2.2.2.1.getD x.2.1.toNat ([],0)).2=0/\1<(iY c s x.2.1).length then(2,(k:Int),pc,List.replicate (iY c s x.2.1).length 1)
 else if x.1=24/\0<e.2.2 then(3,(k:Int),pc,[ac (16-e.2.2),e.2.2])
 else if x.1=26/\0<e.2.1 then(4,(k:Int),pc,[ac (16-e.2.1),e.2.1])
 else(0,(k:Int),pc,[1])
def C4(c:CC)(s:aG):Int:=if s.2.2.2.2.2.2.2.2.1<0 then(kq c s).getD 0 0 else s.2.2.2.2.2.2.2.2.1
def iP(c:CC)(e:bO)(s:aG):Pt4:=
 if s.2.2.2.2.2.2.2.2.1<0/\1<(kq c s).length then(0,-1,-1,List.replicate (kq c s).length 1)else kO c e s (C4 c s).toNat
theorem wW{n:Nat}{p:Nat->Bool}{x:Int}:x∈rV n p↔∃k,k<n/\p k=true/\x=(k:Int):=by unfold rV;grind
structure GoOn(c:CC)(s:aG):Prop where
 ok:StOk c s
 n:s.1.length<=65
 en:0<(kq c s).length
 pk:s.2.2.2.2.2.2.2.2.1 = -1\/s.2.2.2.2.2.2.2.2.1∈kq c s
theorem Q6{c:CC}{s:aG}(h:GoOn c s):∃k:Nat,C4 c s=(k:Int)/\k<s.1.length/\Eo c s k=true:=by
 have e:C4 c s∈kq c s:=by
  unfold C4;split
  ·exact nO 0 h.en
  ·rcases h.pk with d|d
   ·omega
   ·exact d
 obtain⟨k,f,g,j⟩:=wW.1 e;grind
theorem SJ{c:CC}{s:aG}(hs:StOk c s){k:Nat}(g:k<s.1.length)(h:Eo c s k=true):∃fs f st w,bo s k=(fs++[f],st,w,false)/\Run1 c fs f st:=by
 rcases nR hs g with⟨e,d⟩|⟨e,d⟩
 ·unfold Eo at h;grind
 ·exact d
theorem af9{c:CC}(I:bC c)(e:bO){s:aG}(acc:List ((Int×Int×Bool)×Bool))(hs:StOk c s)(U:s.1.length<=65){k:Nat}(C:k<s.1.length){fs:List Fr}{f:Fr}(t:bo s k=(fs++[f],st,w,false))(V:Run1 c fs f st) :
  kf (c,e,s,acc) (k:Int) f [1]=some (kO c e s k):=by
 unfold kf kO;have q:pF (c,e,s,acc) (k:Int)=some (fX c (bo s k)):=by have h:=J2 (e:=e) (acc:=acc) hs C [];unfold ql at h;rw[if_neg (by rw[t];simp)]at h;exact h
 obtain⟨p,J,B,K⟩:=Rb I hs C (by rw[t]);rw[K]at B;have r:(vp (bo s k)).1=f.1:=by rw[t,fM]
 dsimp only;rw[q,r];generalize fX c (bo s k)=x at *;obtain⟨op,u,b⟩:=x;obtain⟨L,M,N,O,P,Q,D,T,E,v,y,z⟩:=B;dsimp only at L M N O P Q D T E v y z|-;simp only[f8,Qz2];by_cases g:op=23
 ·obtain⟨A,G⟩:=E g;rw[bt g,if_pos g];obtain⟨n,rfl⟩:∃n:Nat,u=(n:Int):=⟨u.toNat,by omega⟩
  simp only[abv,D0 (show n<70 by omega),f8,Qz2,ac6]
 rw[bf g,if_neg g];simp only[ab7];by_cases d:op=19
 ·obtain⟨A,G⟩:=D (.inl d);have F:ae c.2.2.2.2.1 u=some (c.2.2.2.2.1.getD u.toNat ([],0)):=bL _ A (by omega);have hl:(iY c s u).length<=s.1.length:=AA _ _;rw[bt d];simp only[abv,F,f8,Qz2];by_cases o:(c.2.2.2.2.1.getD u.toNat ([],0)).2=0
  ·rw[bt o];simp only[abv,Pm hs,f8,Qz2];by_cases H:1<(iY c s u).length
   ·rw[ax (by omega),if_pos ⟨d,o,H⟩];simp only[abv,D0 (show(iY c s u).length<70 by omega),f8,Qz2]
   grind
  ·rw[bf o,if_neg (λh=>o h.2.1),if_neg (by omega),if_neg (by omega),bf (show¬op=24 by omega),bf (show¬op=26 by omega)];rfl
 rw[bf d,if_neg (λh=>d h.1)];simp only[ab7,f8,Qz2,KW,GL];by_cases j:op=24/\0<e.2.2
 ·grind
 rw[aP j,if_neg j];simp only[ab7];by_cases m:op=26/\0<e.2.1
 ·grind
 rw[aP m,if_neg m];rfl
theorem DO{c:CC}(p:bC c)(e:bO){s:aG}(acc:List ((Int×Int×Bool)×Bool))(h:GoOn c s):iw (c,e,s,acc)=some (iP c e s):=by
 unfold iw iP;have hl:(kq c s).length<=s.1.length:=AA _ _;have B:=h.n;obtain⟨k,v,m,z⟩:=Q6 h;obtain⟨fs,f,st,w,r,q⟩:=SJ h.ok m z;have x:ae s.1 (k:Int)=some (fs++[f],st,w,false):=by rw[<-r];exact aV (mE m)
 have el:=rm fs f (by have:=q.n;omega);have y:ia 1=some [1]:=D0 (n:=1) (by omega);dsimp only;simp only[xW p h.ok,f8,Qz2];have rest:((ae s.1 (k:Int)).bind λ_=>(ae s.1 (k:Int)).bind λt=>(ae s.1 (k:Int)).bind λu=>(ae t.1 (ac ((u.1.length:Int)-(1:Int)))).bind λ_=>(ae t.1 (ac ((u.1.length:Int)-(1:Int)))).bind λv10=>(ia 1).bind λg=>((kf (c,e,s,acc) (k:Int) v10 g:Option bN)).bind λj=>some j)=some (kO c e s k):=by simp only[x,f8,Qz2,el,y,af9 p e acc h.ok h.n m r q]
 by_cases d:s.2.2.2.2.2.2.2.2.1<0
 ·by_cases o:1<(kq c s).length
  ·rw[ax d,if_pos ⟨d,o⟩,ax (by omega)];simp only[abv,D0 (show(kq c s).length<70 by omega),f8,Qz2]
  ·rw[ax d,if_neg (λh=>o h.2),aP (by omega)];have A:ae (kq c s) 0=some (k:Int):=by
    have:C4 c s=(kq c s).getD 0 0:=by unfold C4;rw[if_pos d]
    rw[<-v,this];exact br 0 h.en
   grind
 ·rw[aP d,if_neg (λh=>d h.1)];have:s.2.2.2.2.2.2.2.2.1=(k:Int):=by rw[<-v];unfold C4;rw[if_neg d]
  grind
end Go.Proofs.YtgghcmbaidihjaaGreatDoor
