/- Laws for the row. No condition. -/
import Derived.Test.YtgghcmbaidihjaaGreatDoorFn
namespace Go.Proofs.YtgghcmbaidihjaaGreatDoor
open Go.Sm
abbrev yp:Type:=(Int×Int×Int×Int×Int×Int×Int×Int)
instance instItr:Itr:=itF
theorem GH{S R:Type}(f:S->Option (S⊕R))(m:S->Nat)(F:S->R)(inv:S->Prop)
  (hstep:∀s,inv s->f s=some (.inr (F s))\/∃s',f s=some (.inl s')/\inv s'/\m s'<m s/\F s'=F s):∀(k:Nat) (s:S),inv s->m s<k->mN f k s=some (F s)
 |0,s,_,h=>by omega
 |k+1,s,hs,h=>by
  rcases hstep s hs with h1|⟨s',h1,h2,h3,h4⟩
  ·simp only[mN,h1,f8]
  ·simp only[mN,h1,f8];rw[GH f m F inv hstep k s' h2 (by omega),h4]
theorem eh{S R:Type}{f:S->Option (S⊕R)}(m:S->Nat)(F:S->R)(inv:S->Prop)
  (hstep:∀s,inv s->f s=some (.inr (F s))\/∃s',f s=some (.inl s')/\inv s'/\m s'<m s/\F s'=F s) {s:S} (hs:inv s) (hm:m s<9223372036854775808):Itr.it f s=some (F s):=
 GH f m F inv hstep CK s hs hm
def Fu{α A R:Type}(g:A->α->A⊕R)(h:A->R):List α->A->R
 |[],a=>h a
 |x::r,a=>match g a x with
  |.inl a'=>Fu g h r a'
  |.inr z=>z
theorem akG{α A R S:Type}{f:S->Option (S⊕R)}(mk:Int->A->S)(xs:List α)(g:A->α->A⊕R)(h:A->R)(I:Nat->A->Prop)(hn:xs.length<9223372036854775808)
  (hstep:∀(i:Nat) (x:α) (a:A),xs[i]?=some x->I i a->f (mk i a)=some (match g a x with|.inl a'=>.inl (mk ((i:Int)+1) a')|.inr z=>.inr z)/\∀a',g a x=.inl a'->I (i+1) a')
  (hend:∀a,I xs.length a->f (mk xs.length a)=some (.inr (h a))) {a:A} (ha:I 0 a):Itr.it f (mk 0 a)=some (Fu g h xs a):=by
 have gen:∀(k j:Nat) (a:A),k+j=xs.length->I k a->∀n,j<n->mN f n (mk (k:Int) a)=some (Fu g h (xs.drop k) a):=by
  intro k j;induction j generalizing k with
  | zero=>
   intro a hk hI n hn;cases n with
   |zero=>omega
   |succ n=>
    have hk:k=xs.length:=by omega
    subst hk;simp only[mN,hend a hI,f8,aeO,Fu]
  | succ j ih=>
   intro a hk hI n hn;cases n with
   |zero=>omega
   |succ n=>
    have hlt:k<xs.length:=by omega
    obtain⟨h1,h2⟩:=hstep k xs[k] a (ZB hlt) hI;rw[List.drop_eq_getElem_cons hlt];simp only[mN,h1,f8,Fu];grind
 have:=gen 0 xs.length a (by omega) ha CK hn;show mN f CK (mk 0 a)=_;grind
theorem QN{α A R S:Type}{f:S->Option (S⊕R)}(mk:Int->A->S)(xs:List α)(g:A->α->A)(h:A->R)(I:Nat->A->Prop)(hn:xs.length<9223372036854775808)
  (hstep:∀(i:Nat) (x:α) (a:A),xs[i]?=some x->I i a->f (mk i a)=some (.inl (mk ((i:Int)+1) (g a x)))/\I (i+1) (g a x))
  (hend:∀a,I xs.length a->f (mk xs.length a)=some (.inr (h a))) {a:A} (ha:I 0 a):Itr.it f (mk 0 a)=some (h (xs.foldl g a)):=by
 have:=akG mk xs (λa x=>(.inl (g a x):A⊕R)) h I hn (λi x a hx hI=>⟨(hstep i x a hx hI).1,λa' e=>by grind⟩) hend ha;rw[this];congr 1;have gen:∀(l:List α) (a:A),Fu (λa x=>(.inl (g a x):A⊕R)) h l a=h (l.foldl g a):=by
  intro l;induction l with
  |nil=>intro a;rfl
  |cons x l ih=>intro a;exact ih (g a x)
 exact gen xs a
theorem aD{x:Int}(h1 : -9223372036854775808<=x)(h2:x<=9223372036854775807):ac x=x:=by rw[ac,IntKind.wrap_i64];omega
theorem aV{α:Type}{xs:List α}{i:Nat}{x:α}(h:xs[i]?=some x):ae xs (i:Int)=some x:=by simp[ae,h]
theorem tO{α:Type}{b:Bool}{m:Option α}(h:b=true):ah b m=m:=by subst h;rfl
theorem bO{m k b:Nat}(h:(m+k)*b<=140737488355328)(hb:1<=b):aP m k b=true:=by unfold aP;rw[acK];refine⟨h,?_⟩;have:m+k<=(m+k)*b:=alL _ hb;simp only[maxLen];omega
theorem dl{α:Type}{xs:List α}{i:Nat}{x:α}(h:xs[i]?=some x):i<xs.length:=(aaw.1 h).1
theorem ax{p:Prop}[Decidable p](h:p):decide p=true:=ad1 h
theorem aQ{p:Prop}[Decidable p](h:¬p):decide p=false:=decide_eq_false h
theorem bt{a b:Int}(h:a=b):(a==b)=true:=ajk.2 h
theorem bf{a b:Int}(h:¬a=b):(a==b)=false:=aej.2 h
theorem nt{a b:Int}(h:¬a=b):(a != b)=true:=bne_iff_ne.2 h
theorem nf{a b:Int}(h:a=b):(a != b)=false:=bne_eq_false_iff_eq.2 h
theorem fj{S R:Type}{f:S->Option (S⊕R)}(m:S->Nat)(inv:S->Prop)(Q:R->Prop)
  (hstep:∀s,inv s->(∃r,f s=some (.inr r)/\Q r)\/∃s',f s=some (.inl s')/\inv s'/\m s'<m s) {s:S} (hs:inv s) (hm:m s<9223372036854775808):∃r,Itr.it f s=some r/\Q r:=by
 have gen:∀(k:Nat) (s:S),inv s->m s<k->∃r,mN f k s=some r/\Q r:=by
  intro k;induction k with
  |zero=>grind
  |succ k ih=>
   intro s hs h;rcases hstep s hs with⟨r,h1,h2⟩|⟨s',h1,h2,h3⟩
   ·exact⟨r,by simp only[mN,h1,f8],h2⟩
   ·obtain⟨r,e1,e2⟩:=ih s' h2 (by omega);exact⟨r,by simp only[mN,h1,f8];exact e1,e2⟩
 exact gen CK s hs hm
set_option linter.unusedSimpArgs false
set_option linter.unusedVariables false
theorem bk{α:Type}{xs:List α}{i:Nat}(d:α)(h:i<xs.length):ae xs (i:Int)=some (xs.getD i d):=by simp[ae,h]
theorem bI{α:Type}{xs:List α}{k:Int}(d:α)(h0:0<=k)(h:k<xs.length):ae xs k=some (xs.getD k.toNat d):=by grind[ae]
theorem dz{i n:Nat}(hn:n<9223372036854775808)(h:i<n):ac ((i:Int)+1)=(i:Int)+1:=aD (by omega) (by omega)
theorem NY{i n:Nat}(hn:n<9223372036854775808)(h:i<n)(h0:0<i):ac ((i:Int)-1)=((i-1:Nat):Int):=by rw[aD (by omega) (by omega)];omega
theorem G9{R:Type}{f:Int->Option (Int⊕(Unit⊕R))}(a n:Nat)(ha:a<=n)(hn:n<9223372036854775808)(P:Nat->Prop)(Z:Nat->R)
  (hstep:∀i:Nat,a<=i->i<n->(∀j,a<=j->j<i->P j)->(P i/\f (i:Int)=some (.inl ((i:Int)+1)))\/(¬P i/\f (i:Int)=some (.inr (.inr (Z i)))))
  (hend:(∀j,a<=j->j<n->P j)->f (n:Int)=some (.inr (.inl ()))) :
  ((∀j,a<=j->j<n->P j)/\Itr.it f (a:Int)=some (.inl ()))\/∃i,a<=i/\i<n/\(∀j,a<=j->j<i->P j)/\¬P i/\Itr.it f (a:Int)=some (.inr (Z i)):=by
 obtain⟨r,h1,h2⟩:=fj (f:=f) (λs=>n-s.toNat) (λs=>∃i:Nat,s=(i:Int)/\a<=i/\i<=n/\∀j,a<=j->j<i->P j)
  (λr=>((∀j,a<=j->j<n->P j)/\r=.inl ())\/∃i,a<=i/\i<n/\(∀j,a<=j->j<i->P j)/\¬P i/\r=.inr (Z i))
  (λs hs=>by
   obtain⟨i,rfl,hia,hi,hP⟩:=hs;rcases abD i n with hlt|hge
   ·rcases hstep i hia hlt hP with⟨hp,he⟩|⟨hp,he⟩
    ·refine .inr ⟨_,he,⟨i+1,by simp,by omega,by omega,λj hj0 hj=>?_⟩,?_⟩
     ·grind
     grind
    ·exact .inl ⟨_,he,.inr ⟨i,hia,hlt,hP,hp,rfl⟩⟩
   ·have:i=n:=by omega
    simp_all) (s:=(a:Int)) ⟨a,rfl,by omega,ha,λj hj0 hj=>by omega⟩ (by grind)
 grind
theorem iO{R:Type}{f:Int->Option (Int⊕(Unit⊕R))}(n:Nat)(hn:n<9223372036854775808)(P:Nat->Prop)(Z:Nat->R)
  (hstep:∀i:Nat,i<n->(∀j,j<i->P j)->(P i/\f (i:Int)=some (.inl ((i:Int)+1)))\/(¬P i/\f (i:Int)=some (.inr (.inr (Z i)))))
  (hend:(∀j,j<n->P j)->f (n:Int)=some (.inr (.inl ()))) :
  ((∀j,j<n->P j)/\Itr.it f (0:Int)=some (.inl ()))\/∃i,i<n/\(∀j,j<i->P j)/\¬P i/\Itr.it f (0:Int)=some (.inr (Z i)):=by
 rcases G9 (f:=f) 0 n (by omega) hn P Z (λi _ hi hP=>hstep i hi λj hj=>hP j (by omega) hj) (λhP=>hend λj hj=>hP j (by omega) hj)with⟨h1,h2⟩|⟨i,_,h1,h2,h3,h4⟩
 ·grind
 grind
theorem FB{α:Type}{xs:List α}{i:Nat}(d:α)(h:i<xs.length):xs.take (i+1)=xs.take i++[xs.getD i d]:=by simp_all
theorem LV(l:List (List UInt8×Int))(h:l.length<=1048576):f7 l=some (l.map (·.1)):=by
 unfold f7;have:=eh (f:=jB l) (λs=>l.length-s.2.toNat) (λ_=>l.map (·.1)) (λs=>∃i:Nat,s=((l.take i).map (·.1),(i:Int))/\i<=l.length)
  (λs hs=>by
   obtain⟨i,rfl,hi⟩:=hs;unfold jB;rcases abD i l.length with hlt|hge
   ·right;refine⟨((l.take (i+1)).map (·.1),((i+1:Nat):Int)),?_,⟨i+1,rfl,by omega⟩,?_,rfl⟩
    ·simp only[ax (show(i:Int)<(l.length:Int)by omega),Ze,bk ([],0) hlt,f8];rw[tO (bO (by grind) (by omega)),dz (n:=l.length) (by omega) hlt,FB ([],0) hlt];simp
    grind
   grind) (s:=([],0)) ⟨0,rfl,by omega⟩ (by grind)
 rw[this];rfl
theorem Nf(l:List (List UInt8×Int))(h:l.length<=1048576):uc l=some (l.map (·.1)):=LV l h
def zy(l:List (List UInt8)):Prop:=∀i,i<l.length->0<i->Op.bytesLess (l.getD (i-1) []) (l.getD i [])=true
theorem amc(l:List (List UInt8))(h:l.length<=1048576):(zy l/\Itr.it (gC l) 0=some (.inl ()))\/(¬zy l/\Itr.it (gC l) 0=some (.inr (.inr (.inr false)))):=by
 rcases iO (f:=gC l) l.length (by omega) (λi=>0<i->Op.bytesLess (l.getD (i-1) []) (l.getD i [])=true) (λ_=>.inr (.inr false))
  (λi hi hP=>by
   unfold gC;rcases Nat.eq_zero_or_pos i with rfl|h0
   ·left;refine⟨λh=>by omega,?_⟩;simp only[ax (show((0:Nat):Int)<(l.length:Int)by omega),aQ (show¬(0:Int)<((0:Nat):Int)by omega),Ze,Zr,f8];rfl
   ·have e:ac ((i:Int)-1)=((i-1:Nat):Int):=NY (n:=l.length) (by omega) hi h0;simp only[ax (show(i:Int)<(l.length:Int)by omega),ax (show(0:Int)<(i:Int)by omega),Ze,e,bk [] hi,bk [] (show i-1<l.length by omega),f8,dz (n:=l.length) (by omega) hi];grind)
  (λhP=>by unfold gC;grind)with⟨hP,he⟩|⟨i,hi,_,hP,he⟩
 ·exact .inl ⟨λi hi h0=>hP i hi h0,he⟩
 ·exact .inr ⟨λh=>hP λh0=>h i hi h0,he⟩
def amQ(c:aC)(i:Nat):Prop:=
 (i=0->c.2.1.getD 0 0=0)/\(0<i->c.2.1.getD (i-1) 0<c.2.1.getD i 0)/\0<=c.2.1.getD i 0/\c.2.1.getD i 0<c.1.length/\0<=c.2.2.1.getD i 0/\c.2.2.1.getD i 0<=512
def amD(c:aC):Prop:=∀i,i<c.2.2.2.2.1.length->0<=(c.2.2.2.2.1.getD i ([],0)).2/\(c.2.2.2.2.1.getD i ([],0)).2<=3
def aex(c:aC):Prop:=1<=c.2.1.length/\c.2.2.1.length=c.2.1.length/\c.2.2.2.2.2.2.2.length=c.2.1.length
def agx(c:aC):Prop:=zy (c.2.2.2.1.map (·.1))/\zy (c.2.2.2.2.1.map (·.1))/\zy c.2.2.2.2.2.1/\zy c.2.2.2.2.2.2.1
def nW(c:aC):Prop:=aex c/\agx c/\(∀i,i<c.2.1.length->amQ c i)/\amD c
def kg(c:aC):Prop:=c.2.1.length<=1048576/\c.2.2.1.length<=1048576/\c.2.2.2.1.length<=1048576/\c.2.2.2.2.1.length<=1048576/\c.2.2.2.2.2.1.length<=1048576/\c.2.2.2.2.2.2.1.length<=1048576/\c.2.2.2.2.2.2.2.length<=1048576
def NW(c:aC)(i:Nat):Prop:=(0<i->c.2.1.getD (i-1) 0<c.2.1.getD i 0)/\0<=c.2.2.1.getD i 0/\c.2.2.1.getD i 0<=512
theorem ao7(c:aC)(h0:c.2.1.getD 0 0=0)(hl:c.2.1.getD (c.2.1.length-1) 0<c.1.length)(h:∀i,i<c.2.1.length->NW c i):∀i,i<c.2.1.length->amQ c i:=by
 have up:∀i,i<c.2.1.length->0<=c.2.1.getD i 0:=by
  intro i;induction i with
  |zero=>intro _;omega
  |succ i ih=>intro hi;have:=ih (by omega);have:=(h (i+1) hi).1 (by omega);grind
 have dn:∀k i,i+k+1=c.2.1.length->c.2.1.getD i 0<=c.2.1.getD (c.2.1.length-1) 0:=by
  intro k;induction k with
  |zero=>grind
  |succ k ih=>intro i hi;have:=ih (i+1) (by omega);have:=(h (i+1) (by omega)).1 (by omega);grind
 intro i hi;have:=dn (c.2.1.length-1-i) i (by omega);obtain⟨h1,h2,h3⟩:=h i hi;exact⟨λe=>h0,h1,up i hi,by omega,h2,h3⟩
theorem Wn(c:aC)(hs:kg c)(hp:aex c)(i:Nat)(hi:i<c.2.1.length) :
  (NW c i/\gD c (i:Int)=some (.inl ((i:Int)+1)))\/(¬NW c i/\gD c (i:Int)=some (.inr (.inr false))):=by
 obtain⟨p1,p2,p3⟩:=hp;obtain⟨s1,s2,s3⟩:=hs;have hi2:i<c.2.2.1.length:=by omega
 unfold gD NW;have e1:=bk (0:Int) hi;have e2:=bk (0:Int) hi2;generalize c.2.1.getD i 0=b at e1|-;generalize c.2.2.1.getD i 0=q at e2|-;have ew:=dz (n:=c.2.1.length) (by omega) hi;rcases Nat.eq_zero_or_pos i with rfl|h0
 ·grind
 ·have hpr:i-1<c.2.1.length:=by omega
  have e3:=bk (0:Int) hpr;generalize c.2.1.getD (i-1) 0=a at e3|-;simp only[ax (show(i:Int)<(c.2.1.length:Int)by omega),ax (show(0:Int)<(i:Int)by omega),Ze,NY (n:=c.2.1.length) (by omega) hi h0,e3,f8,e1,e2,ew];grind
theorem XT(c:aC)(hs:kg c):∃b,dy c.2.2.2.2.1=some b/\((!b)=true↔amD c):=by
 have hn:c.2.2.2.2.1.length<=1048576:=hs.2.2.2.1;unfold dy fM;rcases iO (f:=cY c.2.2.2.2.1) c.2.2.2.2.1.length (by omega) (λi=>0<=(c.2.2.2.2.1.getD i ([],0)).2/\(c.2.2.2.2.1.getD i ([],0)).2<=3) (λi=>(i:Int))
  (λi hi _=>by
   unfold cY tp;have e:=bk (([],0):List UInt8×Int) hi;generalize c.2.2.2.2.1.getD i ([],0)=x at e|-;simp only[ax (show(i:Int)<(c.2.2.2.2.1.length:Int)by omega),Ze,e,f8,dz (n:=c.2.2.2.2.1.length) (by omega) hi];grind)
  (λ_=>by unfold cY;grind)with⟨hP,he⟩|⟨i,hi,_,hP,he⟩
 ·rw[he];exact⟨false,rfl,λ_=>hP,λ_=>rfl⟩
 ·rw[he];refine⟨true,?_,λh=>(by cases h),λh=>absurd (h i hi) hP⟩;simp_all
theorem E5(c:aC)(hl:c.1.length<=512)(hs:kg c):∃b,rU c=some b/\(b=true↔nW c):=by
 have hs0:=hs;obtain⟨s1,s2,s3,s4,s5,s6,s7⟩:=hs0;unfold rU;dsimp only;by_cases hp:aex c
 ·have p1:((c.2.1.length:Int)==0)=false:=by have:=hp.1;grind
  have p2:(c.2.2.1.length:Int)=c.2.1.length:=by have:=hp.2.1;omega
  have p3:(c.2.2.2.2.2.2.2.length:Int)=c.2.1.length:=by have:=hp.2.2;omega
  have q2:((c.2.2.1.length:Int) != (c.2.1.length:Int))=false:=by simp[p2]
  have q3:((c.2.2.2.2.2.2.2.length:Int) != (c.2.1.length:Int))=false:=by simp[p3]
  have n1:0<c.2.1.length:=hp.1;have e0:ae c.2.1 0=some (c.2.1.getD 0 0):=bk 0 n1;have e1:ae c.2.1 (ac ((c.2.1.length:Int)-1))=some (c.2.1.getD (c.2.1.length-1) 0):=by grind[aD,bk]
  simp only[p1,q2,q3,Zr,Ze,aaX,e0,f8];by_cases h0:c.2.1.getD 0 0=0;rotate_left
  ·refine⟨false,?_,λh=>(by cases h),λh=>absurd ((h.2.2.1 0 n1).1 rfl) h0⟩;grind
  rw[nf h0];simp only[Zr,Ze,aaX,e1,f8];by_cases h9:(c.1.length:Int)<=c.2.1.getD (c.2.1.length-1) 0
  ·refine⟨false,by grind,λh=>(by cases h),λh=>?_⟩;have:=(h.2.2.1 (c.2.1.length-1) (by omega)).2.2.2.1;omega
  rw[aQ h9];simp only[Zr,Nf _ s3,Nf _ s4,f8];generalize hL:[c.2.2.2.1.map (·.1),c.2.2.2.2.1.map (·.1),c.2.2.2.2.2.1,c.2.2.2.2.2.2.1]=L;have hL4:L.length=4:=by grind
  have hall:(∀i,i<4->zy (L.getD i []))↔agx c:=by
   rw[<-hL];constructor
   ·intro h;exact⟨h 0 (by omega),h 1 (by omega),h 2 (by omega),h 3 (by omega)⟩
   ·rintro⟨h1,h2,h3,h4⟩ i hi;grind
  have hsm:∀i,i<4->(L.getD i []).length<=1048576:=by grind
  rcases iO (f:=ox c (c.2.2.2.1.map (·.1)) (c.2.2.2.2.1.map (·.1))) 4 (by omega) (λi=>zy (L.getD i [])) (λ_=>false)
   (λi hi _=>by
    unfold ox;dsimp only;rw[hL,hL4,ax (show(i:Int)<((4:Nat):Int)by omega)];simp only[Ze,bk [] (show i<L.length by omega),f8];rcases amc (L.getD i []) (hsm i hi)with⟨h1,h2⟩|⟨h1,h2⟩
    ·left;refine⟨h1,?_⟩;rw[h2];simp only[f8];rw[dz (n:=4) (by omega) hi]
    grind)
   (λ_=>by
    rfl)with⟨hP,he⟩|⟨i,hi,_,hP,he⟩
  ·rw[he];simp only[f8];rcases iO (f:=gD c) c.2.1.length (by omega) (NW c) (λ_=>false) (λi hi _=>Wn c hs hp i hi) (λ_=>by unfold gD;grind)with⟨hB,he⟩|⟨i,hi,_,hB,he⟩
   ·rw[he];simp only[f8];obtain⟨b,hb,hb2⟩:=XT c hs;rw[hb];exact⟨!b,rfl,λh=>⟨hp,hall.1 hP,ao7 c h0 (by omega) hB,hb2.1 h⟩,λh=>hb2.2 h.2.2.2⟩
   ·rw[he];refine⟨false,rfl,λh=>(by cases h),λh=>absurd ?_ hB⟩;obtain⟨_,g2,_,_,g5,g6⟩:=h.2.2.1 i hi;exact⟨g2,g5,g6⟩
  ·rw[he];refine⟨false,rfl,λh=>(by cases h),λh=>absurd (hall.2 h.2.1 i hi) hP⟩
 ·refine⟨false,?_,λh=>(by cases h),λh=>absurd h.1 hp⟩;by_cases p1:(c.2.1.length:Int)=0
  ·grind
  rw[bf p1];by_cases p2:(c.2.2.1.length:Int)=c.2.1.length
  ·have p3:¬((c.2.2.2.2.2.2.2.length:Int)=c.2.1.length):=λh=>hp ⟨by omega,by omega,by omega⟩;grind
  grind
def yg(b:List Int):Prop:=1<=b.length/\b.length<=1048576/\b.getD 0 0=0/\∀i,i<b.length->0<i->b.getD (i-1) 0<b.getD i 0
def sj(b:List Int)(pc:Int)(k:Nat):Prop:=k<b.length/\b.getD k 0<=pc/\(k+1<b.length->pc<b.getD (k+1) 0)
theorem akt{b:List Int}(h:yg b):∀d i,i+d+1<b.length->b.getD i 0<b.getD (i+d+1) 0:=by
 intro d;induction d with
 |zero=>intro i hi;have:=h.2.2.2 (i+1) (by omega) (by omega);grind
 |succ d ih=>
  intro i hi;have h1:=ih i (by omega);have h2:=h.2.2.2 (i+d+1+1) (by omega) (by omega);grind
theorem Au{b:List Int}(h:yg b){i j:Nat}(hij:i<j)(hj:j<b.length):b.getD i 0<b.getD j 0:=by have:=akt h (j-i-1) i (by omega);grind
theorem BR{b:List Int}(h:yg b){i j:Nat}(hij:i<=j)(hj:j<b.length):b.getD i 0<=b.getD j 0:=by
 rcases Nat.lt_or_eq_of_le hij with h1|h1
 ·exact Int.le_of_lt (Au h h1 hj)
 grind
theorem xL{b:List Int}(h:yg b){i:Nat}(hi:i<b.length):0<=b.getD i 0:=by have:=BR h (aen i) hi;rw[h.2.2.1]at this;exact this
theorem uf{c:aC}(h:nW c)(hs:kg c):yg c.2.1:=⟨h.1.1,hs.1,(h.2.2.1 0 h.1.1).1 rfl,λi hi h0=>(h.2.2.1 i hi).2.1 h0⟩
theorem Zj(x y:Int):qc x y=some (decide (x<y)):=by unfold qc oO;simp
theorem aq5{n:Nat}(h:n<4611686018427387904):fm .u64 (IntKind.u64.wrap (n:Int)) (1:Int)=((n / 2:Nat):Int):=by rw[IntKind.wrap_u64,show(n:Int)%18446744073709551616=n by omega];show Int.fdiv (n:Int) (2 ^ (min (1:Int).toNat 64))=_;grind
theorem VI{b:List Int}{pc:Int}{k:Nat}(h:yg b)(hk:sj b pc k)(hp:0<=pc):fN b pc=some (if b.getD k 0=pc then((k:Int),true)else((k:Int)+1,false)):=by
 obtain⟨k1,k2,k3⟩:=hk;have hl:=h.2.1;unfold fN;generalize hr:(if b.getD k 0=pc then k else k+1)=r;have hrn:r<=b.length:=by grind
 have lo:∀j,j<r->b.getD j 0<pc:=by
  intro j hj;rw[<-hr]at hj;split at hj
  ·have:=Au h hj k1;omega
  ·have:=BR h (show j<=k by omega) k1;omega
 have hi:∀j,r<=j->j<b.length->pc<=b.getD j 0:=by
  intro j hj hjn;rw[<-hr]at hj;split at hj
  ·have:=BR h hj hjn;omega
  ·have:=k3 (by omega);have:=BR h (show k+1<=j by omega) hjn;omega
 have:=eh (f:=fS b pc) (λs=>s.2.toNat-s.1.toNat) (λ_=>(r:Int)) (λs=>∃x y:Nat,s=((x:Int),(y:Int))/\x<=r/\r<=y/\y<=b.length)
  (λs hs=>by
   obtain⟨x,y,rfl,hx,hy,hyn⟩:=hs;unfold fS;by_cases hxy:x<y
   ·right;have e1:ac ((x:Int)+(y:Int))=((x+y:Nat):Int):=by rw[aD (by omega) (by omega)];omega
    have e2:ac (((x+y) / 2:Nat):Int)=(((x+y) / 2:Nat):Int):=aD (by omega) (by omega);have e3:ac ((((x+y) / 2:Nat):Int)+1)=(((x+y) / 2+1:Nat):Int):=by rw[aD (by omega) (by omega)];omega
    have hm:(x+y) / 2<b.length:=by omega
    simp only[ax (show(x:Int)<(y:Int)by omega),ax (show(0:Int)<=1 by omega),ah,Ze,e1,aq5 (show x+y<4611686018427387904 by omega),e2,e3,bk 0 hm,f8,Zj];by_cases hb:b.getD ((x+y) / 2) 0<pc
    ·rw[ax hb];refine⟨_,rfl,⟨(x+y) / 2+1,y,rfl,?_,hy,hyn⟩,by grind,(by trivial)⟩;grind
    ·rw[aQ hb];refine⟨_,rfl,⟨x,(x+y) / 2,rfl,hx,?_,by omega⟩,by grind,(by trivial)⟩;grind
   grind) (s:=(0,(b.length:Int))) ⟨0,b.length,rfl,by omega,hrn,by omega⟩ (by grind)
 rw[this];simp only[f8];by_cases he:b.getD k 0=pc
 ·grind[ax,bk,Bool.not_true]
 grind[mi,ax,bk,Bool.not_false,bne_self_eq_false]
theorem FH{c:aC}{pc:Int}{k:Nat}(h:yg c.2.1)(hk:sj c.2.1 pc k)(hp:0<=pc):dE c pc=some (k:Int):=by unfold dE;have:=h.2.1;have:=hk.1;rw[VI h hk hp];grind[Bool.not_false,aD]
def vS(a lo hi:Int):Prop:=lo<=a/\a<hi
def QH(op:Int):Int:=(su.getD op.toNat ([],0)).2
def d7(c:aC)(k:Nat):Int:=if k+1<c.2.1.length then c.2.1.getD (k+1) 0 else c.1.length
def KL(c:aC)(k:Nat)(x:Int×Int×Int):Prop:=
 (x.1=1\/x.1=2\/x.1=24->vS x.2.1 0 (c.2.2.1.getD k 0))/\(x.1=10\/x.1=11->vS x.2.1 (c.2.1.getD k 0) (d7 c k))/\(x.1=12\/x.1=18->vS x.2.1 0 c.2.1.length) /\
 (x.1=14->0<=x.2.1/\x.2.2=k)/\(x.1=15->vS x.2.1 1 100)/\(x.1=16\/x.1=17->vS x.2.1 0 c.2.2.2.1.length)/\(x.1=19\/x.1=20->vS x.2.1 0 c.2.2.2.2.1.length) /\
 (x.1=21\/x.1=22->vS x.2.1 0 c.2.2.2.2.2.1.length)/\(x.1=23->vS x.2.1 2 7)/\(x.1=25->vS x.2.1 1 10)/\(x.1=26\/x.1=27->vS x.2.1 0 c.2.2.2.2.2.2.1.length) /\
 (x.1=20\/x.1=23\/x.1=27->vS x.2.2 0 (c.2.2.1.getD k 0))
def ag5(c:aC)(k:Nat)(pc:Int)(x:Int×Int×Int):Prop:=
 (QH x.1<2->x.2.2=0)/\(QH x.1<1->x.2.1=0)/\(x.1=13->k+1≠c.2.1.length)/\(x.1=28->k+1=c.2.1.length)/\(pc+1=d7 c k->x.1=13\/x.1=28)
def Dc(c:aC)(k:Nat)(pc:Int)(x:Int×Int×Int):Prop:=(0<=x.1/\x.1<29)/\ag5 c k pc x/\KL c k x
theorem aq1{op:Int}(h0:0<=op)(h1:op<29):op=0\/op=1\/op=2\/op=3\/op=4\/op=5\/op=6\/op=7\/op=8\/op=9\/op=10\/op=11\/op=12\/op=13\/op=14\/op=15\/op=16\/op=17\/op=18\/op=19\/op=20\/op=21\/op=22\/op=23\/op=24\/op=25\/op=26\/op=27\/op=28:=by omega
theorem Ep(p q:Prop)[Decidable p][Decidable q]:(bif decide p then decide q else false)=decide (p/\q):=by grind
theorem x9(p q:Prop)[Decidable p][Decidable q]:(bif decide p then true else decide q)=decide (p\/q):=by grind
theorem Hl(a b:Int):(a==b)=decide (a=b):=by grind
theorem ap1(a b:Int):(a != b)=decide (a≠b):=by grind
theorem apW(p:Prop)[Decidable p]:(!decide p)=decide (¬p):=by grind
theorem ajH(c:aC)(k:Nat)(hn:c.2.2.2.2.2.2.2.length=c.2.1.length)(x:Int×Int×Int)(h0:0<=x.1)(h1:x.1<29) :
  ∃r,Bk x (c.2.2.1.getD k 0) ((k:Int),c.2.1.getD k 0,d7 c k) c=some r /\
   ((match r with|.inl s=>(s.1<=x.2.1/\x.2.1<s.2)/\(QH x.1<2\/(0<=x.2.2/\x.2.2<c.2.2.1.getD k 0))|.inr b=>b=true)↔KL c k x):=by
 obtain⟨op,a,b⟩:=x;have hn':(c.2.2.2.2.2.2.2.length:Int)=c.2.1.length:=by omega
 rcases aq1 h0 h1 with h|h|h|h|h|h|h|h|h|h|h|h|h|h|h|h|h|h|h|h|h|h|h|h|h|h|h|h|h;all_goals
  dsimp only at h
  subst h
  refine⟨_,rfl,?_⟩
  simp[KL,vS,QH,su,Hl,hn']
theorem Ys(c:aC)(hl:c.1.length<=512)(hs:kg c)(h:nW c)(k:Nat)(hk:k<c.2.1.length)(pc:Nat)(hpc:pc<c.1.length) :
  ∃b,wm c ((k:Int),c.2.1.getD k 0,d7 c k) (pc:Int)=some b/\(b=true↔Dc c k pc (c.1.getD pc (0,0,0))):=by
 unfold wm;have e1:=bk ((0,0,0):Int×Int×Int) hpc;generalize c.1.getD pc (0,0,0)=x at e1|-;simp only[e1,f8];by_cases hop:0<=x.1/\x.1<29;rotate_left
 ·refine⟨false,?_,λh=>(by cases h),λh=>absurd h.1 hop⟩;grind
 rw[x9,aQ (by omega),Zr,ax hop];have hb:=h.1.1;have hs1:=hs.1;obtain⟨q,e2,hq⟩:∃q,ae su x.1=some q/\q.2=QH x.1:=⟨_,bI ([],0) hop.1 (by show x.1<((29:Nat):Int);omega),rfl⟩
 have e3:ae c.2.2.1 (k:Int)=some (c.2.2.1.getD k 0):=bk 0 (by have:=h.1.2.1;omega);have ew:ac ((c.2.1.length:Int)-1)=(c.2.1.length:Int)-1:=aD (by omega) (by omega);have ew2:ac ((pc:Int)+1)=(pc:Int)+1:=aD (by omega) (by omega);obtain⟨r,hr,hr2⟩:=ajH c k h.1.2.2 x hop.1 hop.2;simp only[ah,Ze,e2,e3,f8,ew,ew2,hq,Hl,ap1,Ep,x9,apW,hr];unfold Dc ag5;generalize QH x.1=o at *;by_cases h1:(o<2->x.2.2=0)/\(o<1->x.2.1=0)/\(x.1=13->k+1≠c.2.1.length)/\(x.1=28->k+1=c.2.1.length)
 rotate_left
 ·rw[ax (by omega)];grind
 rw[aQ (by omega),Zr];by_cases h2:(pc:Int)+1=d7 c k->x.1=13\/x.1=28;rotate_left
 ·simp_all
 rw[aQ (by omega),Zr];have hall:∀{p:Prop},(p↔KL c k x)->(p↔(0<=x.1/\x.1<29)/\((o<2->x.2.2=0)/\(o<1->x.2.1=0)/\(x.1=13->k+1≠c.2.1.length)/\(x.1=28->k+1=c.2.1.length)/\((pc:Int)+1=d7 c k->x.1=13\/x.1=28))/\KL c k x):=
  λhp=>⟨λh=>⟨hop,⟨h1.1,h1.2.1,h1.2.2.1,h1.2.2.2,h2⟩,hp.1 h⟩,λh=>hp.2 h.2.2⟩
 rcases r with s|b
 ·grind
 grind
def dt(c:aC)(pc:Nat):Int×Int×Int:=c.1.getD pc (0,0,0)
def Ml(c:aC):Prop:=∀k pc:Nat,pc<c.1.length->sj c.2.1 (pc:Int) k->Dc c k pc (dt c pc)
def VE(c:aC)(e:Int):Prop:=
 (512<c.1.length/\e=4)\/(c.1.length<=512/\¬nW c/\e=1)\/(c.1.length<=512/\nW c/\¬Ml c/\e=2)\/(c.1.length<=512/\nW c/\Ml c/\e=0)
theorem se{c:aC}(hs:kg c)(h:nW c){k:Nat}(hk:k<c.2.1.length):c.2.1.getD k 0<d7 c k/\d7 c k<=c.1.length:=by
 unfold d7;split
 ·rename_i h1;have h2:=Au (uf h hs) (show k<k+1 by omega) h1;have h3:=(h.2.2.1 (k+1) h1).2.2.2.1;omega
 ·have h3:=(h.2.2.1 k hk).2.2.2.1;omega
theorem nS{c:aC}(hs:kg c)(h:nW c){k pc:Nat}(hpc:pc<c.1.length):sj c.2.1 (pc:Int) k↔k<c.2.1.length/\c.2.1.getD k 0<=pc/\(pc:Int)<d7 c k:=by unfold sj d7;grind
theorem acR(c:aC)(hs:kg c):tP c=some ((List.range c.2.1.length).map λk:Nat=>((k:Int),c.2.1.getD k 0,d7 c k)):=by
 have hn:=hs.1;unfold tP;have:=eh (f:=pm c) (λs=>c.2.1.length-s.2.toNat) (λ_=>(List.range c.2.1.length).map λk:Nat=>((k:Int),c.2.1.getD k 0,d7 c k))
  (λs=>∃i:Nat,s=((List.range i).map λk:Nat=>((k:Int),c.2.1.getD k 0,d7 c k),(i:Int))/\i<=c.2.1.length)
  (λs hs=>by
   obtain⟨i,rfl,hi⟩:=hs;unfold pm;rcases abD i c.2.1.length with hlt|hge
   ·right;refine⟨((List.range (i+1)).map λk:Nat=>((k:Int),c.2.1.getD k 0,d7 c k),((i+1:Nat):Int)),?_,⟨i+1,rfl,by omega⟩,by grind,rfl⟩;have ew:=dz (n:=c.2.1.length) (by omega) hlt;have he:(bif decide ((i:Int)+1<(c.2.1.length:Int))then(ae c.2.1 ((i:Int)+1)).bind λ_=>(ae c.2.1 ((i:Int)+1)).bind λv8=>some v8 else some (c.1.length:Int))=some (d7 c i):=by
     unfold d7;by_cases h1:i+1<c.2.1.length
     ·rw[ax (by omega),if_pos h1,Ze,show(i:Int)+1=((i+1:Nat):Int)from rfl,bk 0 h1];rfl
     grind
    simp only[ax (show(i:Int)<(c.2.1.length:Int)by omega),Ze,bk 0 hlt,f8,ew,he];rw[tO (bO (by grind) (by omega)),ak3];simp
   grind) (s:=([],0)) ⟨0,rfl,by omega⟩ (by grind)
 rw[this];rfl
theorem Rv(c:aC)(hs:kg c):∃k e,lX c=some (k,e)/\VE c e:=by
 unfold lX;have hn:=hs.1;by_cases hl:c.1.length<=512;rotate_left
 ·rw[ax (by omega)];exact⟨0,4,rfl,.inl ⟨by omega,rfl⟩⟩
 rw[aQ (by omega),Zr];obtain⟨b,hb,hb2⟩:=E5 c hl hs;rw[hb];cases b
 ·exact⟨0,1,rfl,.inr (.inl ⟨hl,λh=>(by grind),rfl⟩)⟩
 have hL:=hb2.1 rfl;have hB:=uf hL hs;simp only[f8,acF,Zr,acR c hs];have inner:∀k,k<c.2.1.length->((∀pc:Nat,c.2.1.getD k 0<=pc->(pc:Int)<d7 c k->Dc c k pc (dt c pc))/\Itr.it (f6 c ((k:Int),c.2.1.getD k 0,d7 c k)) (c.2.1.getD k 0)=some (.inl ())) \/
   ∃pc:Nat,c.2.1.getD k 0<=pc/\(pc:Int)<d7 c k/\¬Dc c k pc (dt c pc)/\Itr.it (f6 c ((k:Int),c.2.1.getD k 0,d7 c k)) (c.2.1.getD k 0)=some (.inr (.inr (.inr ((pc:Int),2)))):=by
  intro k hk;obtain⟨a,ha⟩:∃a:Nat,c.2.1.getD k 0=(a:Int):=⟨(c.2.1.getD k 0).toNat,by have:=xL hB hk;omega⟩
  obtain⟨e,he⟩:∃e:Nat,d7 c k=(e:Int):=⟨(d7 c k).toNat,by have:=xL hB hk;have:=se hs hL hk;omega⟩
  have hle:=se hs hL hk;rw[ha,he]at hle|-;rcases G9 (f:=f6 c ((k:Int),(a:Int),(e:Int))) a e (by omega) (by omega) (λpc=>Dc c k pc (dt c pc)) (λpc=>.inr (.inr ((pc:Int),2)))
   (λi hai hi _=>by
    unfold f6;obtain⟨b,hb,hb2⟩:=Ys c hl hs hL k hk i (by omega);rw[ha,he]at hb;rw[ax (show(i:Int)<(e:Int)by omega),Ze,hb];simp only[f8];cases b
    ·right;exact⟨λh=>(by have:=hb2.2 h;cases this),rfl⟩
    ·left;refine⟨hb2.1 rfl,?_⟩;rw[dz (n:=e) (by omega) hi];rfl)
   (λ_=>by unfold f6;grind)with⟨hP,he⟩|⟨i,h0,hi,_,hP,he⟩
  ·grind
  grind
 generalize hps:((List.range c.2.1.length).map λk:Nat=>((k:Int),c.2.1.getD k 0,d7 c k))=ps;have hpl:ps.length=c.2.1.length:=by grind
 have hpg:∀k,k<c.2.1.length->ae ps (k:Int)=some ((k:Int),c.2.1.getD k 0,d7 c k):=by intro k hk;rw[<-hps];apply aV;simp[hk]
 rcases iO (f:=lK c ps) c.2.1.length (by omega) (λk=>∀pc:Nat,c.2.1.getD k 0<=pc->(pc:Int)<d7 c k->Dc c k pc (dt c pc))
  (λk=>(((Itr.it (f6 c ((k:Int),c.2.1.getD k 0,d7 c k)) (c.2.1.getD k 0)).bind λz=>match z with|.inr (.inr (.inr x))=>some x.1|_=>none).getD 0,2))
  (λk hk _=>by
   unfold lK;rw[ax (show(k:Int)<(ps.length:Int)by omega),Ze,hpg k hk];simp only[f8];rcases inner k hk with⟨h1,h2⟩|⟨pc,h1,h2,h3,h4⟩
   ·left;refine⟨h1,?_⟩;rw[h2];simp only[f8];rw[dz (n:=c.2.1.length) (by omega) hk]
   grind)
  (λ_=>by unfold lK;grind)with⟨hP,he⟩|⟨k,hk,_,hP,he⟩
 ·rw[he];refine⟨_,0,rfl,.inr (.inr (.inr ⟨hl,hL,λk pc hpc h=>?_,rfl⟩))⟩;obtain⟨h1,h2,h3⟩:=(nS hs hL hpc).1 h;grind
 ·rw[he];refine⟨_,2,rfl,.inr (.inr (.inl ⟨hl,hL,λh=>hP λpc h1 h2=>?_,rfl⟩))⟩;have:=se hs hL hk;exact h k pc (by omega) ((nS hs hL (by omega)).2 ⟨hk,h1,h2⟩)
abbrev CC:Type:=aC
abbrev aB:Type:=aI
abbrev Fr:Type:=Int×List Int
abbrev Th:Type:=aK
abbrev bM:Type:=Int×Int×Int
def bw(c:CC):Prop:=c.1.length<=512/\nW c/\Ml c/\kg c
def wC(c:CC)(f:Fr):Prop:=∃k pc:Nat,f.1=(pc:Int)/\pc<c.1.length/\sj c.2.1 (pc:Int) k/\(f.2.length:Int)=c.2.2.1.getD k 0
def fl(n:Int)(r:aO):vr:=(n,r.1.1,r.1.2.1,r.1.2.2.1,r.1.2.2.2.1,r.1.2.2.2.2.1,r.1.2.2.2.2.2.1,r.1.2.2.2.2.2.2.1,r.1.2.2.2.2.2.2.2,r.2.1.1,r.2.1.2.1,r.2.1.2.2,r.2.2.1.1,r.2.2.1.2.1,r.2.2.1.2.2.1,r.2.2.1.2.2.2.1,r.2.2.1.2.2.2.2.1,r.2.2.1.2.2.2.2.2.1,r.2.2.1.2.2.2.2.2.2.1,r.2.2.1.2.2.2.2.2.2.2.1.1,r.2.2.1.2.2.2.2.2.2.2.1.2.1,r.2.2.1.2.2.2.2.2.2.2.1.2.2,r.2.2.1.2.2.2.2.2.2.2.2.1,r.2.2.1.2.2.2.2.2.2.2.2.2.1,r.2.2.1.2.2.2.2.2.2.2.2.2.2.1,r.2.2.1.2.2.2.2.2.2.2.2.2.2.2,r.2.2.2)
def Yi(s:aB)(a:Int):aB:=(s.1,s.2.1,s.2.2.1,s.2.2.2.1,s.2.2.2.2.1,s.2.2.2.2.2.1,s.2.2.2.2.2.2.1,(s.2.2.2.2.2.2.2.1.1,ac (s.2.2.2.2.2.2.2.1.2.1+a),s.2.2.2.2.2.2.2.1.2.2),s.2.2.2.2.2.2.2.2)
def tf(s:aB)(o site:Int)(w:List UInt8):aB:=(s.1,s.2.1,s.2.2.1,s.2.2.2.1,s.2.2.2.2.1,s.2.2.2.2.2.1,s.2.2.2.2.2.2.1,s.2.2.2.2.2.2.2.1,s.2.2.2.2.2.2.2.2.1,o,site,w)
def cg(s:aB)(i:Nat)(t:Th):aB:=(s.1.set i t,s.2)
def GQ(op a b:Int):Int:=if op=4 then ac (a+b)else if op=5 then ac (a-b)else if op=6 then ac (a*b)else if op=7 then(if a<b then 1 else 0)else if op=8 then(if a<=b then 1 else 0)else(if a=b then 1 else 0)
def kh(c:CC)(kind:Int)(s:aB)(i:Nat)(fs:List Fr)(f:Fr)(st:List Int)(w:Int)(x:bM):Option aB:=
 let pu (v:Int):Option aB:=if 16<=st.length then none else some (cg s i (fs++[(ac (f.1+1),f.2)],st++[v],w,false))
 let po (g:Int->aB):Option aB:=if st.length=0 then none else some (g (st.getD (st.length-1) 0))
 let st1:=st.take (st.length-1)
 if x.1=0 then pu x.2.1 else if x.1=1 then pu (f.2.getD x.2.1.toNat 0)else if x.1=3 then pu kind
 else if x.1=2 then po λv=>cg s i (fs++[(ac (f.1+1),f.2.set x.2.1.toNat v)],st1,w,false)
 else if x.1=10 then some (cg s i (fs++[(x.2.1,f.2)],st,w,false))
 else if x.1=11 then po λv=>cg s i (fs++[(if v=0 then x.2.1 else ac (f.1+1),f.2)],st1,w,false)
 else if x.1=12 then if 8<=fs.length+1 then none else some (cg s i (fs++[(ac (f.1+1),f.2)]++[(c.2.1.getD x.2.1.toNat 0,List.replicate (c.2.2.1.getD x.2.1.toNat 0).toNat 0)],st,w,false))
 else if x.1=13 then some (cg s i (fs,st,w,false))
 else if x.1=14 then po λv=>let s':=cg s i (fs++[(ac (f.1+1),f.2)],st1,w,false);if v=0 then tf s' 1 x.2.1 (c.2.2.2.2.2.2.2.getD x.2.2.toNat [])else s'
 else if x.1=15 then some (Yi (cg s i (fs++[(ac (f.1+1),f.2)],st,w,false)) x.2.1)
 else if st.length<2 then none else some (cg s i (fs++[(ac (f.1+1),f.2)],st.take (st.length-2)++[GQ x.1 (st.getD (st.length-2) 0) (st.getD (st.length-1) 0)],w,false))
theorem oZ{α:Type}(fs:List α)(f:α)(h:fs.length<9223372036854775807):ae (fs++[f]) (ac (((fs++[f]).length:Int)-1))=some f:=by rw[aD (by grind) (by grind)];simp[ae]
theorem eP{α:Type}(fs:List α)(f g:α):(fs++[f]).set fs.length g=fs++[g]:=by simp
theorem Xy{α:Type}(fs:List α)(f:α):(fs++[f]).take fs.length=fs:=by simp
theorem iR{α:Type}{xs:List α}{i:Nat}{v:α}(h:xs[i]?=some v):xs.set i v=xs:=by apply ace;grind
theorem ani{op:Int}(h:op=4\/op=5\/op=6\/op=7\/op=8\/op=9)(a b:Int):∃m v,nE=some m/\cZ (.sc (.int .i64)) (.sc .fnc) op m=some v/\UF v a b=some (GQ op a b):=by
 rcases h with rfl|rfl|rfl|rfl|rfl|rfl
 ·exact⟨_,314,rfl,rfl,rfl⟩
 ·exact⟨_,315,rfl,rfl,rfl⟩
 ·exact⟨_,316,rfl,rfl,rfl⟩
 ·refine⟨_,317,rfl,rfl,?_⟩;show i7 a b=_;unfold i7 eG GQ;grind
 ·refine⟨_,318,rfl,rfl,?_⟩;show jg a b=_;unfold jg eG GQ;grind
 ·refine⟨_,319,rfl,rfl,?_⟩;show jd a b=_;unfold jd eG GQ;grind
set_option maxRecDepth 4000
theorem amX{op:Int}(h0:0<=op)(h1:op<16):op=0\/op=1\/op=2\/op=3\/op=10\/op=11\/op=12\/op=13\/op=14\/op=15\/(op=4\/op=5\/op=6\/op=7\/op=8\/op=9):=by omega
structure AtP(c:CC)(s:aB)(i:Nat)(fs:List Fr)(f:Fr)(st:List Int)(w:Int)(x:bM)(k pc:Nat):Prop where
 t:s.1[i]?=some (fs++[f],st,w,false)
 n:fs.length<8
 m:st.length<=16
 pc1:f.1=(pc:Int)
 pc2:pc<c.1.length
 pr:sj c.2.1 (pc:Int) k
 lo:(f.2.length:Int)=c.2.2.1.getD k 0
 x:dt c pc=x
theorem ans{c:CC}{e:bM}{s:aB}{acc:List ((Int×Int×Bool)×Bool)}{n:Int}{i:Nat}{fs:List Fr}{f:Fr}{st:List Int}{w:Int}{x:bM}{k pc:Nat}(h:AtP c s i fs f st w x k pc) :
  ka (fl n (c,e,s,acc)) (i:Int)=some x:=by
 unfold ka;have hx:ae c.1 f.1=some x:=by rw[h.pc1,<-h.x];exact bk _ h.pc2
 simp only[fl,aV h.t,f8,Zr,oZ fs f (by have:=h.n;omega),hx]
theorem aqb{c:CC}(hc:bw c){e:bM}{s:aB}{acc:List ((Int×Int×Bool)×Bool)}{n:Int}{i:Nat}{fs:List Fr}{f:Fr}{st:List Int}{w:Int}{x:bM}{k pc:Nat}(h:AtP c s i fs f st w x k pc)(hop:x.1<16) :
  kD (fl n (c,e,s,acc)) (i:Int)=some (match kh c e.1 s i fs f st w x with|none=>(true,(fl n (c,e,s,acc)).2)|some s'=>(false,(fl n (c,e,s',acc)).2)):=by
 have eat:=ans (e:=e) (acc:=acc) (n:=n) h;obtain⟨ht,hn,hm,hpc1,hpc2,hpr,hlo,hx⟩:=h;have hF:=hc.2.2.1 k pc hpc2 hpr;rw[hx]at hF;obtain⟨⟨h0,_⟩,_,hO⟩:=hF;have et:=aV ht;have efr:∀g:Fr,ae (fs++[g]) (fs.length:Int)=some g:=λg=>by simp[ae]
 have esa:=iR ht;have ela:∀g:Fr,((fs++[g]).length:Int)=(fs.length:Int)+1:=λg=>by simp
 have ewl:ac ((fs.length:Int)+1-1)=(fs.length:Int):=by rw[aD (by omega) (by omega)];omega
 obtain⟨op,a,b⟩:=x;unfold kD;have ew1:ac ((st.length:Int)-1)=(st.length:Int)-1:=aD (by omega) (by omega);have ew2:ac ((st.length:Int)-2)=(st.length:Int)-2:=aD (by omega) (by omega);have eto1:((st.length:Int)-1).toNat=st.length-1:=by omega
 have eto2:((st.length:Int)-2).toNat=st.length-2:=by omega
 have po:¬st.length=0->ae st ((st.length:Int)-1)=some (st.getD (st.length-1) 0):=λhv=>by rw[bI 0 (by omega) (by omega),eto1]
 have pu:∀v:Int,aP st.length ([v]:List Int).length 8=true:=λv=>bO (by grind) (by omega);obtain⟨o1,o2,o3,o4,o5,o6,o7,o8,o9,o10,o11,o12⟩:=hO;obtain⟨hl512,hLi,hAF,hSm⟩:=hc;obtain⟨l1,l2,l3,l4,l5,l6⟩:=hLi.2.2.1 k hpr.1;dsimp only at hop h0 o1 o2 o3 o4 o5 o6 o7 o8 o9 o10 o11 o12;simp only[eat,f8];rcases amX h0 hop with h|h|h|h|h|h|h|h|h|h|h
 ·subst h;simp only[fl,et,f8,aat,ah,Ze,ela,efr,ewl,kh,Int.reduceBEq,Zr,aaL,ZH,eP,pu,esa];by_cases hv:16<=st.length
  ·grind
  ·rw[aQ (show¬(16:Int)<=(st.length:Int)by omega),if_neg hv];rfl
 ·subst h;have ei:ae f.2 a=some (f.2.getD a.toNat 0):=by
   obtain⟨g1,g2⟩:=o1 (.inl rfl);exact bI 0 g1 (by omega)
  simp only[fl,et,ei,f8,aat,ah,Ze,ela,efr,ewl,kh,Int.reduceBEq,Zr,aaL,ZH,eP,pu,esa,Int.reduceEq,aaS];by_cases hv:16<=st.length
  ·grind
  ·rw[aQ (show¬(16:Int)<=(st.length:Int)by omega),if_neg hv];rfl
 ·subst h;have ei:ae f.2 a=some (f.2.getD a.toNat 0):=by
   obtain⟨g1,g2⟩:=o1 (.inr (.inl rfl));exact bI 0 g1 (by omega)
  simp only[fl,et,ei,f8,aat,ah,Ze,ela,efr,ewl,kh,Int.reduceBEq,Zr,aaL,ZH,eP,esa,Int.reduceEq,aaS,ew1];by_cases hv:st.length=0
  ·grind
  ·rw[aQ (show¬(st.length:Int)-1<0 by omega),if_neg hv,ax (show 0<=(st.length:Int)-1/\(st.length:Int)-1<=st.length by omega)];simp only[Zr,Ze,po hv,f8,eto1];rfl
 ·subst h;simp only[fl,et,f8,aat,ah,Ze,ela,efr,ewl,kh,Int.reduceBEq,Zr,aaL,ZH,eP,pu,esa,Int.reduceEq,aaS];by_cases hv:16<=st.length
  ·grind
  ·rw[aQ (show¬(16:Int)<=(st.length:Int)by omega),if_neg hv];rfl
 ·subst h;obtain⟨g1,g2⟩:=o2 (.inl rfl);have hw:ac (ac (a-1)+1)=a:=by
   have he:d7 c k<=512:=by have:=(se hSm hLi hpr.1).2;omega
   grind[aD]
  simp only[fl,et,f8,aat,ah,Ze,ela,efr,ewl,kh,Int.reduceBEq,Zr,aaL,ZH,eP,Int.reduceEq,aaS,hw];rfl
 ·subst h;obtain⟨g1,g2⟩:=o2 (.inr rfl);have hw:ac (ac (a-1)+1)=a:=by
   have he:d7 c k<=512:=by have:=(se hSm hLi hpr.1).2;omega
   grind[aD]
  simp only[fl,et,f8,aat,ah,Ze,ela,efr,ewl,kh,Int.reduceBEq,Zr,aaL,ZH,eP,esa,Int.reduceEq,aaS,ew1,hw];by_cases hv:st.length=0
  ·grind
  ·rw[aQ (show¬(st.length:Int)-1<0 by omega),if_neg hv,ax (show 0<=(st.length:Int)-1/\(st.length:Int)-1<=st.length by omega)];simp only[Zr,Ze,po hv,f8,eto1];by_cases hz:st.getD (st.length-1) 0=0
   ·rw[hz];rfl
   ·rw[bf hz,if_neg hz];rfl
 ·subst h;obtain⟨g1,g2⟩:=o3 (.inl rfl);have ei:ae c.2.1 a=some (c.2.1.getD a.toNat 0):=bI 0 g1 g2;have ej:ae c.2.2.1 a=some (c.2.2.1.getD a.toNat 0):=bI 0 g1 (by have:=hLi.1.2.1;omega);obtain⟨_,_,_,_,q5,q6⟩:=hLi.2.2.1 a.toNat (by omega);simp only[fl,et,f8,aat,ah,Ze,ela,efr,ewl,kh,Int.reduceBEq,Zr,aaL,ZH,eP,esa,Int.reduceEq,aaS,ei,ej];by_cases hv:8<=fs.length+1
  ·grind
  ·rw[aQ (show¬(8:Int)<=(fs.length:Int)+1 by omega),if_neg hv,ax (show 0<=c.2.2.1.getD a.toNat 0/\c.2.2.1.getD a.toNat 0*8<=281474976710656/\c.2.2.1.getD a.toNat 0<=maxLen by refine⟨q5,by omega,?_⟩;simp only[maxLen];omega),show aP (fs++[(ac (f.1+1),f.2)]).length ([(c.2.1.getD a.toNat 0,List.replicate (c.2.2.1.getD a.toNat 0).toNat 0)]:List Fr).length 32=true from bO (by grind) (by omega)];rfl
 ·subst h;have et2:(fs++[f]).take fs.length=fs:=Xy fs f;simp only[fl,et,f8,aat,ah,Ze,ela,efr,ewl,kh,Int.reduceBEq,Zr,aaL,ZH,Int.reduceEq,aaS,et2];rw[ax (show 0<=(fs.length:Int)/\(fs.length:Int)<=(fs.length:Int)+1 by omega)];rfl
 ·subst h;obtain⟨g1,g2⟩:=o4 rfl;have ei:ae c.2.2.2.2.2.2.2 b=some (c.2.2.2.2.2.2.2.getD b.toNat []):=by
   rw[g2];exact bI [] (by omega) (by have:=hLi.1.2.2;have:=hpr.1;omega)
  simp only[fl,et,f8,aat,ah,Ze,ela,efr,ewl,kh,Int.reduceBEq,Zr,aaL,ZH,eP,esa,Int.reduceEq,aaS,ew1,ei];by_cases hv:st.length=0
  ·grind
  ·rw[aQ (show¬(st.length:Int)-1<0 by omega),if_neg hv,ax (show 0<=(st.length:Int)-1/\(st.length:Int)-1<=st.length by omega)];simp only[Zr,Ze,po hv,f8,eto1];by_cases hz:st.getD (st.length-1) 0=0
   ·rw[hz];rfl
   ·rw[bf hz,if_neg hz];rfl
 ·subst h;simp only[fl,et,f8,aat,ah,Ze,ela,efr,ewl,kh,Int.reduceBEq,Zr,aaL,ZH,eP,Int.reduceEq,aaS];rfl
 ·have hne:∀m:Int,(m<4\/9<m)->(op==m)=false/\¬op=m:=λm hm=>⟨by rw[aej];omega,by omega⟩
  obtain⟨m,v,hm1,hm2,hm3⟩:=ani h (st.getD (st.length-2) 0) (st.getD (st.length-1) 0);simp only[fl,et,f8,aat,ah,Ze,ela,efr,ewl,kh,Zr,ZH,eP,esa,aaS,ew2,(hne 0 (by omega)).1,(hne 1 (by omega)).1,(hne 2 (by omega)).1,(hne 3 (by omega)).1,(hne 10 (by omega)).1,(hne 11 (by omega)).1,(hne 12 (by omega)).1,(hne 13 (by omega)).1,(hne 14 (by omega)).1,(hne 15 (by omega)).1,(hne 0 (by omega)).2,(hne 1 (by omega)).2,(hne 2 (by omega)).2,(hne 3 (by omega)).2,(hne 10 (by omega)).2,(hne 11 (by omega)).2,(hne 12 (by omega)).2,(hne 13 (by omega)).2,(hne 14 (by omega)).2,(hne 15 (by omega)).2];by_cases hv:st.length<2
  ·grind
  ·have e2:ae st ((st.length:Int)-2)=some (st.getD (st.length-2) 0):=by rw[bI 0 (by omega) (by omega),eto2]
   have e3:ac ((st.length:Int)-2+1)=(st.length:Int)-1:=by grind
   rw[aQ (show¬(st.length:Int)-2<0 by omega),if_neg hv,ax (show 0<=(st.length:Int)-2/\(st.length:Int)-2<=st.length by omega)];simp only[Zr,Ze,hm1,hm2,hm3,e2,e3,po (by omega),f8,eto2];rw[show aP (st.take (st.length-2)).length ([GQ op (st.getD (st.length-2) 0) (st.getD (st.length-1) 0)]:List Int).length 8=true from bO (by grind) (by omega)];rfl
abbrev lu:Type:=Int×Int×Bool
structure Run1(c:CC)(fs:List Fr)(f:Fr)(st:List Int):Prop where
 n:fs.length<8
 m:st.length<=16
 fr:∀g∈fs++[f],wC c g
theorem gb{c:CC}{s:aB}{i:Nat}{fs:List Fr}{f:Fr}{st:List Int}{w:Int}(ht:s.1[i]?=some (fs++[f],st,w,false))(h:Run1 c fs f st):∃k pc,AtP c s i fs f st w (dt c f.1.toNat) k pc:=by obtain⟨k,pc,h1,h2,h3,h4⟩:=h.fr f (by simp);exact⟨k,pc,ht,h.n,h.m,h1,h2,h3,h4,by rw[h1];rfl⟩
theorem QL{c:CC}(hc:bw c){k pc:Nat}(hpc:pc<c.1.length)(hk:sj c.2.1 (pc:Int) k)(h13:(dt c pc).1≠13)(h28:(dt c pc).1≠28){l:List Int}(hl:(l.length:Int)=c.2.2.1.getD k 0) :
  wC c (ac ((pc:Int)+1),l):=by
 obtain⟨hl512,hL,hA,hS⟩:=hc;have hF:=hA k pc hpc hk;have h1:=(nS hS hL hpc).1 hk;have h2:=(se hS hL h1.1).2;have hlt:(pc:Int)+1<d7 c k:=by have:=hF.2.1.2.2.2.2;grind
 rw[aD (by omega) (by omega)];exact⟨k,pc+1,by simp,by omega,(nS hS hL (by omega)).2 ⟨h1.1,by omega,by omega⟩,hl⟩
theorem akL{c:CC}(hc:bw c){k:Nat}(hk:k<c.2.1.length){a:Int}(ha:vS a (c.2.1.getD k 0) (d7 c k)){l:List Int}(hl:(l.length:Int)=c.2.2.1.getD k 0):wC c (a,l):=by obtain⟨hl512,hL,hA,hS⟩:=hc;have h2:=(se hS hL hk).2;have h3:=xL (uf hL hS) hk;obtain⟨g1,g2⟩:=ha;refine⟨k,a.toNat,by simp;omega,by omega,(nS hS hL (by omega)).2 ⟨hk,by omega,by omega⟩,hl⟩
theorem Fz{c:CC}(hc:bw c){a:Nat}(ha:a<c.2.1.length):wC c (c.2.1.getD a 0,List.replicate (c.2.2.1.getD a 0).toNat 0):=by
 obtain⟨hl512,hL,hA,hS⟩:=hc;have h2:=(se hS hL ha)
 have h3:=xL (uf hL hS) ha;obtain⟨_,_,_,_,q5,q6⟩:=hL.2.2.1 a ha;refine⟨a,(c.2.1.getD a 0).toNat,(ajL h3).symm,by omega,(nS hS hL (by omega)).2 ⟨ha,by omega,by omega⟩,?_⟩;grind
def tk(s s':aB):Prop:=
 s'.2.1=s.2.1/\s'.2.2.1=s.2.2.1/\s'.2.2.2.1=s.2.2.2.1/\s'.2.2.2.2.1=s.2.2.2.2.1/\s'.2.2.2.2.2.1=s.2.2.2.2.2.1/\s'.2.2.2.2.2.2.1=s.2.2.2.2.2.2.1/\s'.2.2.2.2.2.2.2.1.1=s.2.2.2.2.2.2.2.1.1/\s'.2.2.2.2.2.2.2.1.2.2=s.2.2.2.2.2.2.2.1.2.2/\s'.2.2.2.2.2.2.2.2.1=s.2.2.2.2.2.2.2.2.1
theorem kM{s:aB}{i:Nat}{t:Th}:tk s (cg s i t):=⟨rfl,rfl,rfl,rfl,rfl,rfl,rfl,rfl,rfl⟩
theorem RD{s t u:aB}(h:tk s t)(h':tk t u):tk s u:=by obtain⟨a1,a2,a3,a4,a5,a6,a7,a8,a9⟩:=h;obtain⟨b1,b2,b3,b4,b5,b6,b7,b8,b9⟩:=h';exact⟨b1.trans a1,b2.trans a2,b3.trans a3,b4.trans a4,b5.trans a5,b6.trans a6,b7.trans a7,b8.trans a8,b9.trans a9⟩
theorem Dg{c:CC}(hc:bw c){kind:Int}{s s':aB}{i:Nat}{fs:List Fr}{f:Fr}{st:List Int}{w:Int}{x:bM}{k pc:Nat}(h:AtP c s i fs f st w x k pc)(hr:Run1 c fs f st)(hop:x.1<16)(hb:x.1=13->fs≠[])
  (he:kh c kind s i fs f st w x=some s'):∃fs' f' st',s'.1=s.1.set i (fs'++[f'],st',w,false)/\Run1 c fs' f' st'/\tk s s':=by
 obtain⟨ht,hn,hm,hpc1,hpc2,hpr,hlo,hx⟩:=h;have hF:=hc.2.2.1 k pc hpc2 hpr;rw[hx]at hF;obtain⟨⟨h0,_⟩,_,hO⟩:=hF;have hfs:∀g∈fs,wC c g:=λg hg=>hr.fr g (by simp[hg]);have nx:x.1≠13->∀l:List Int,(l.length:Int)=c.2.2.1.getD k 0->∀g∈fs++[(ac (f.1+1),l)],wC c g:=by grind[List.mem_singleton,QL]
 have jm:∀a,vS a (c.2.1.getD k 0) (d7 c k)->∀g∈fs++[(a,f.2)],wC c g:=by
  intro a ha g hg;rcases aad.1 hg with hg|hg
  ·exact hfs g hg
  ·rw[ZK]at hg;rw[hg];exact akL hc hpr.1 ha hlo
 obtain⟨op,u,b⟩:=x;obtain⟨o1,o2,o3,o4,o5,o6,o7,o8,o9,o10,o11,o12⟩:=hO;dsimp only at hop h0 hb nx o1 o2 o3 o4 o5 o6 o7 o8 o9 o10 o11 o12;have pu:∀v:Int,op≠13->(if 16<=st.length then none else some (cg s i (fs++[(ac (f.1+1),f.2)],st++[v],w,false)))=some s'->∃fs' f' st',s'.1=s.1.set i (fs'++[f'],st',w,false)/\Run1 c fs' f' st'/\tk s s':=by
  intro v h13 hv;by_cases h16:16<=st.length
  ·grind
  ·rw[if_neg h16]at hv;cases hv;exact⟨fs,_,_,rfl,⟨hn,by simp;omega,nx h13 f.2 hlo⟩,kM⟩
 unfold kh at he;rcases amX h0 hop with h|h|h|h|h|h|h|h|h|h|h
 ·subst h;grind
 ·subst h;grind
 ·subst h;simp only[Int.reduceEq,aaS,aaL]at he;by_cases hv:st.length=0
  ·grind
  rw[if_neg hv]at he;cases he;exact⟨fs,_,_,rfl,⟨hn,by grind,nx (by omega) _ (by grind)⟩,kM⟩
 ·subst h;grind
 ·subst h;simp only[Int.reduceEq,aaS,aaL]at he;cases he;exact⟨fs,_,_,rfl,⟨hn,hm,jm _ (o2 (.inl rfl))⟩,kM⟩
 ·subst h;simp only[Int.reduceEq,aaS,aaL]at he;by_cases hv:st.length=0
  ·grind
  rw[if_neg hv]at he;cases he;refine⟨fs,_,_,rfl,⟨hn,by grind,?_⟩,kM⟩;grind
 ·subst h;simp only[Int.reduceEq,aaS,aaL]at he;by_cases hv:8<=fs.length+1
  ·grind
  rw[if_neg hv]at he;cases he;obtain⟨g1,g2⟩:=o3 (.inl rfl);refine⟨_,_,_,rfl,⟨by grind,hm,?_⟩,kM⟩;grind[List.mem_singleton,Fz]
 ·subst h;simp only[Int.reduceEq,aaS,aaL]at he;cases he;rcases akJ fs with h|⟨fs',f',rfl⟩
  ·grind
  rw[akQ]at *;exact⟨fs',f',st,rfl,⟨by grind,hm,hfs⟩,kM⟩
 ·subst h;simp only[Int.reduceEq,aaS,aaL]at he;by_cases hv:st.length=0
  ·grind
  rw[if_neg hv]at he;cases he;refine⟨fs,(ac (f.1+1),f.2),st.take (st.length-1),?_,⟨hn,by grind,nx (by omega) _ hlo⟩,?_⟩
  ·split<;>rfl
  ·split
   ·exact⟨rfl,rfl,rfl,rfl,rfl,rfl,rfl,rfl,rfl⟩
   ·exact kM
 ·subst h;simp only[Int.reduceEq,aaS,aaL]at he;cases he;exact⟨fs,_,_,rfl,⟨hn,hm,nx (by omega) _ hlo⟩,⟨rfl,rfl,rfl,rfl,rfl,rfl,rfl,rfl,rfl⟩⟩
 ·have hne:∀m:Int,(m<4\/9<m)->¬op=m:=λm hm=>by omega
  simp only[hne 0 (by omega),hne 1 (by omega),hne 2 (by omega),hne 3 (by omega),hne 10 (by omega),hne 11 (by omega),hne 12 (by omega),hne 13 (by omega),hne 14 (by omega),hne 15 (by omega),aaS]at he;by_cases hv:st.length<2
  ·grind
  rw[if_neg hv]at he;cases he;exact⟨fs,_,_,rfl,⟨hn,by grind,nx (by omega) _ hlo⟩,kM⟩
def Wv(t:Th):Prop:=t.1.length<=1048576/\t.2.1.length<=1048576/\∀f∈t.1,f.2.length<=1048576
def ly(s:aB):Prop:=s.1.length<=1048576/\(∀t∈s.1,Wv t)/\s.2.1.length<=1048576/\s.2.2.1.length<=1048576/\(∀q∈s.2.2.1,q.length<=1048576)/\s.2.2.2.1.length<=1048576/\s.2.2.2.2.1.length<=1048576
theorem lP{α:Type}{xs:List α}{i:Nat}(d:α)(h:i<xs.length):xs.getD i d∈xs:=by simp[h]
def sU(t:Th):Fr:=t.1.getLastD (0,[])
def bg(s:aB)(i:Nat):Th:=s.1.getD i ([],[],0,false)
def fF(c:CC)(t:Th):bM:=dt c (sU t).1.toNat
def aU(s:aB):Int:=s.2.2.2.2.2.2.2.2.2.1
def hZ(x:bM)(n:Nat):Bool:=decide ((16<=x.1/\x.1<29)\/(x.1=13/\n=1))
def fA(c:CC)(s:aB)(i:Nat)(o:Int):aB:=
 let k:=((dE c (sU (bg s i)).1).getD 0).toNat
 if(bg s i).2.2.2=false then tf s o (ac ((sU (bg s i)).1-c.2.1.getD k 0)) (c.2.2.2.2.2.2.2.getD k [])else tf s o s.2.2.2.2.2.2.2.2.2.2.1 s.2.2.2.2.2.2.2.2.2.2.2
def bT(c:CC)(kind:Int)(i:Nat):Nat->aB->Bool×aB
 | m,s=>
  if 0<=aU s then(true,s)else if hZ (fF c (bg s i)) (bg s i).1.length then(true,s)else match m with
   |0=>(false,fA c s i 3)
   |m+1=>match kh c kind s i (bg s i).1.dropLast (sU (bg s i)) (bg s i).2.1 (bg s i).2.2.1 (fF c (bg s i))with
    |none=>(false,fA c s i 4)
    |some s'=>bT c kind i m s'
def oM(c:CC)(s:aB)(i:Nat):Prop:=∃fs f st w,s.1[i]?=some (fs++[f],st,w,false)/\Run1 c fs f st
theorem fp(fs:List Fr)(f:Fr)(r:List Int×Int×Bool):sU (fs++[f],r)=f:=by unfold sU;simp
theorem dW{s:aB}{i:Nat}{t:Th}(h:s.1[i]?=some t):bg s i=t:=by unfold bg;simp[h]
theorem Ld{c:CC}{e:bM}{s:aB}{acc:List ((Int×Int×Bool)×Bool)}{n:Int}{i:Nat}{fs:List Fr}{f:Fr}{st:List Int}{w:Int}{x:bM}{k pc:Nat}(h:AtP c s i fs f st w x k pc) :
  kL (fl n (c,e,s,acc)) (i:Int)=some (hZ x (fs.length+1)):=by
 unfold kL pT hZ;have eat:=ans (e:=e) (acc:=acc) (n:=n) h;have et:=aV h.t;simp only[eat,f8,Ep];by_cases h1:16<=x.1/\x.1<29
 ·grind
 ·rw[aQ h1];by_cases h2:x.1=13
  ·rw[bt h2];simp only[aaX,ahn,Ze,Zr,fl,et,f8];by_cases h3:fs.length+1=1
   ·simp_all
   ·rw[aQ (by grind)];simp;omega
  grind
theorem AI{c:CC}(hc:bw c){s:aB}{i:Nat}{fs:List Fr}{f:Fr}{st:List Int}{w:Int}{x:bM}{k pc:Nat}(h:AtP c s i fs f st w x k pc) :
  dE c f.1=some (k:Int)/\dE c f.1=some (k:Int)/\ae c.2.2.2.2.2.2.2 (k:Int)=some (c.2.2.2.2.2.2.2.getD k [])/\ae c.2.1 (k:Int)=some (c.2.1.getD k 0):=by
 have hB:=uf hc.2.1 hc.2.2.2;have h3:=hc.2.1.1.2.2;rw[h.pc1];exact⟨FH hB h.pr (by omega),FH hB h.pr (by omega),bk [] (by have:=h.pr.1;omega),bk 0 h.pr.1⟩
theorem ru{c:CC}(hc:bw c){s:aB}{i:Nat}{fs:List Fr}{f:Fr}{st:List Int}{w:Int}{x:bM}{k pc:Nat}(h:AtP c s i fs f st w x k pc)(o:Int):fA c s i o=tf s o (ac (f.1-c.2.1.getD k 0)) (c.2.2.2.2.2.2.2.getD k []):=by unfold fA;simp only[dW h.t,fp,(AI hc h).2.1,aeQ,ZH,aaL]
theorem sJ{c:CC}(hc:bw c){s:aB}{i:Nat}{fs:List Fr}{f:Fr}{st:List Int}{w:Int}{x:bM}{k pc:Nat}(h:AtP c s i fs f st w x k pc)(hs:hZ x (fs.length+1)=false):x.1<16/\(x.1=13->fs≠[]):=by have hF:=hc.2.2.1 k pc h.pc2 h.pr;rw[h.x]at hF;have h0:=hF.1;unfold hZ at hs;grind
theorem Wm{c:CC}(hc:bw c){kind:Int}{s s':aB}{i:Nat}{fs:List Fr}{f:Fr}{st:List Int}{w:Int}{x:bM}{k pc:Nat}(h:AtP c s i fs f st w x k pc)(hr:Run1 c fs f st)(hs:hZ x (fs.length+1)=false)(he:kh c kind s i fs f st w x=some s'):oM c s' i:=by obtain⟨h1,h2⟩:=sJ hc h hs;obtain⟨fs',f',st',g1,g2,g3⟩:=Dg hc h hr h1 h2 he;exact⟨fs',f',st',w,by rw[g1];exact abG (dl h.t),g2⟩
theorem mZ(c:CC)(kind:Int){i:Nat}(m:Nat){s:aB}{fs:List Fr}{f:Fr}{st:List Int}{w:Int}{x:bM}{k pc:Nat}(h:AtP c s i fs f st w x k pc) :
  bT c kind i m s=(if 0<=aU s then(true,s)else if hZ x (fs.length+1)then(true,s)else match m with
   |0=>(false,fA c s i 3)
   |m+1=>match kh c kind s i fs f st w x with
    |none=>(false,fA c s i 4)
    |some s'=>bT c kind i m s'):=by
 have hx:fF c (fs++[f],st,w,false)=x:=by unfold fF;rw[fp,h.pc1];exact h.x
 rw[bT.eq_def];simp only[dW h.t,hx,fp,ZD,aal,ak4]
theorem amu{c:CC}(hc:bw c)(e:bM)(acc:List ((Int×Int×Bool)×Bool)){s0:aB}{i:Nat}(hs:oM c s0 i) :
  Itr.it (gm (i:Int)) (fl 0 (c,e,s0,acc))=some (if(bT c e.1 i 64 s0).1 then .inl (fl 0 (c,e,(bT c e.1 i 64 s0).2,acc)).2 else .inr (c,e,(bT c e.1 i 64 s0).2,acc)):=by
 obtain⟨r,h1,h2⟩:=fj (f:=gm (i:Int)) (λy=>65-y.1.toNat) (λy=>∃(n:Nat) (s:aB),y=fl (n:Int) (c,e,s,acc)/\n<=64/\oM c s i/\bT c e.1 i (64-n) s=bT c e.1 i 64 s0)
  (λr=>r=(if(bT c e.1 i 64 s0).1 then .inl (fl 0 (c,e,(bT c e.1 i 64 s0).2,acc)).2 else .inr (c,e,(bT c e.1 i 64 s0).2,acc)))
  (λy hy=>by
   obtain⟨n,s,rfl,hn,⟨fs,f,st,w,ht,hr⟩,hq⟩:=hy;obtain⟨k,pc,hA⟩:=gb ht hr;obtain⟨q1,q2,q3,q4⟩:=AI hc hA;rw[<-hq,mZ c e.1 (64-n) hA];have est:=Ld (e:=e) (acc:=acc) (n:=(n:Int)) hA;have esi:=λhop=>aqb hc (e:=e) (acc:=acc) (n:=(n:Int)) hA hop;have eov:=ru hc hA;have efr:∀g:Fr,ae (fs++[g]) (fs.length:Int)=some g:=λg=>by simp[ae]
   have ela:∀g:Fr,((fs++[g]).length:Int)=(fs.length:Int)+1:=λg=>by simp
   have ewl:ac ((fs.length:Int)+1-1)=(fs.length:Int):=by have:=hA.n;rw[aD (by omega) (by omega)];omega
   have et:=aV ht;unfold gm;by_cases ho:0<=aU s
   ·left;rw[if_pos ho];refine⟨_,?_,rfl⟩;have:¬(s.2.2.2.2.2.2.2.2.2.1<(0:Int)):=by unfold aU at ho;omega
    simp only[fl,this,aeU,Zr,aaL]
   rw[if_neg ho];have hlt:s.2.2.2.2.2.2.2.2.2.1<(0:Int):=by unfold aU at ho;omega
   simp only[est,f8];by_cases hst:hZ (dt c f.1.toNat) (fs.length+1)=true
   ·left;rw[if_pos hst,hst];refine⟨_,?_,rfl⟩;simp only[fl,hlt,aeK,Ze,aaL]
   have hst':hZ (dt c f.1.toNat) (fs.length+1)=false:=by grind
   rw[if_neg hst,hst'];obtain⟨hop,hb⟩:=sJ hc hA hst';rcases Nat.lt_or_eq_of_le hn with hn|hn;rotate_left
   ·left;subst hn;refine⟨_,?_,rfl⟩;simp only[fl,hlt,aeK,Ze,Zr,show(((64:Nat):Int)==64)=true from rfl,et,f8,aaX,ela,ewl,efr,aj8,eov];rw[show dE _ f.1=_ from q1];simp only[f8,q3,q4];rfl
   rw[esi hop];obtain⟨m,hm⟩:∃m,64-n=m+1:=⟨63-n,by omega⟩
   rw[hm];have h64:((n:Int)==64)=false:=by grind
   cases hsil:kh c e.1 s i fs f st w (dt c f.1.toNat)with
   |none=>
    left;refine⟨_,?_,rfl⟩;simp only[fl,hlt,aeK,Ze,Zr,h64,et,f8,aaX,ela,ewl,efr,eov];rw[show dE _ f.1=_ from q1];simp only[f8,q3,q4];rfl
   |some s' =>
    right;refine⟨fl ((n+1:Nat):Int) (c,e,s',acc),?_,⟨n+1,s',rfl,by omega,Wm hc hA hr hst' hsil,?_⟩,by show 65-((n+1:Nat):Int).toNat<65-(n:Int).toNat;omega⟩
    ·simp only[fl,hlt,aeK,Ze,Zr,h64,f8];rw[dz (n:=64) (by omega) hn];rfl
    ·rw[show 64-(n+1)=m by omega]) (s:=fl 0 (c,e,s0,acc)) ⟨0,s0,rfl,by omega,hs,rfl⟩ (by grind)
 rw[h1,h2]
def BU(s:aB):aB:=(s.1,s.2.1,s.2.2.1,s.2.2.2.1,s.2.2.2.2.1,s.2.2.2.2.2.1,s.2.2.2.2.2.2.1,(s.2.2.2.2.2.2.2.1.1,s.2.2.2.2.2.2.2.1.2.1,ac (s.2.2.2.2.2.2.2.1.2.2+1)),s.2.2.2.2.2.2.2.2)
def oE(c:CC)(s:aB)(i:Nat):aB×List lu:=
 let t:=bg s i
 let x:=fF c t
 if x.1=25 then(cg s i (t.1,t.2.1,ac (s.2.2.2.2.2.1+x.2.1),t.2.2.2),[(4,0,false)])
 else if x.1=21 then(if 0<=s.2.2.2.1.getD x.2.1.toNat 0 then BU s else s,[(2,x.2.1,false)])
 else if x.1=20 then(s,if(c.2.2.2.2.1.getD x.2.1.toNat ([],0)).2=0 then [(1,x.2.1,true)]else [])
 else(s,[])
def bh(c:CC)(kind:Int)(i:Nat)(s:aB):aB×List lu:=
 if(bT c kind i 64 s).1=true/\aU (bT c kind i 64 s).2<0 then oE c (bT c kind i 64 s).2 i else((bT c kind i 64 s).2,[])
def cv(m:List ((Int×Int×Bool)×Bool))(a:lu):List ((Int×Int×Bool)×Bool):=
 cF af (.sc .bool) (a.1,a.2.1,false) (bif(cZ af (.sc .bool) (a.1,a.2.1,false) m).getD false then true else a.2.2) m
structure Fit1(c:CC)(s:aB):Prop where
 vars:s.2.1.length=c.2.2.2.1.length
 qs:s.2.2.1.length=c.2.2.2.2.1.length
 own:s.2.2.2.1.length=c.2.2.2.2.2.1.length
 files:s.2.2.2.2.1.length=c.2.2.2.2.2.2.1.length
theorem acV{c:CC}{s s':aB}(h:Fit1 c s)(k:tk s s'):Fit1 c s':=by obtain⟨a1,a2,a3,a4,a5,a6,a7,a8,a9⟩:=k;exact⟨by rw[a1];exact h.1,by rw[a2];exact h.2,by rw[a3];exact h.3,by rw[a4];exact h.4⟩
theorem vK(s:aB):tk s s:=⟨rfl,rfl,rfl,rfl,rfl,rfl,rfl,rfl,rfl⟩
theorem Cw(s:aB)(o k:Int)(w:List UInt8):tk s (tf s o k w):=⟨rfl,rfl,rfl,rfl,rfl,rfl,rfl,rfl,rfl⟩
theorem sK{c:CC}(hc:bw c)(kind:Int){i:Nat}:∀(m:Nat) {s:aB} {fs:List Fr} {f:Fr} {st:List Int} {w:Int},s.1[i]?=some (fs++[f],st,w,false)->Run1 c fs f st ->
  ∃fs' f' st',(bT c kind i m s).2.1=s.1.set i (fs'++[f'],st',w,false)/\Run1 c fs' f' st'/\tk s (bT c kind i m s).2/\(aU (bT c kind i m s).2<0->(bT c kind i m s).1=true/\hZ (dt c f'.1.toNat) (fs'.length+1)=true):=by
 intro m;induction m with
 |zero=>
  intro s fs f st w ht hr;obtain⟨k,pc,hA⟩:=gb ht hr;rw[mZ c kind 0 hA];by_cases h1:0<=aU s
  ·rw[if_pos h1];exact⟨fs,f,st,(iR ht).symm,hr,vK s,λh=>absurd h1 (by grind)⟩
  rw[if_neg h1];by_cases h2:hZ (dt c f.1.toNat) (fs.length+1)=true
  ·rw[if_pos h2];exact⟨fs,f,st,(iR ht).symm,hr,vK s,λ_=>⟨rfl,h2⟩⟩
  rw[if_neg h2];dsimp only;rw[ru hc hA];exact⟨fs,f,st,(iR ht).symm,hr,Cw ..,λh=>absurd h (by unfold aU tf;grind)⟩
 | succ m ih=>
  intro s fs f st w ht hr;obtain⟨k,pc,hA⟩:=gb ht hr;rw[mZ c kind (m+1) hA];by_cases h1:0<=aU s
  ·rw[if_pos h1];exact⟨fs,f,st,(iR ht).symm,hr,vK s,λh=>absurd h1 (by grind)⟩
  rw[if_neg h1];by_cases h2:hZ (dt c f.1.toNat) (fs.length+1)=true
  ·rw[if_pos h2];exact⟨fs,f,st,(iR ht).symm,hr,vK s,λ_=>⟨rfl,h2⟩⟩
  rw[if_neg h2];obtain⟨hop,hb⟩:=sJ hc hA (by simpa using h2);cases hsil:kh c kind s i fs f st w (dt c f.1.toNat)with
  |none=>
   dsimp only;rw[ru hc hA];exact⟨fs,f,st,(iR ht).symm,hr,Cw ..,λh=>absurd h (by unfold aU tf;grind)⟩
  |some s' =>
   dsimp only;obtain⟨fs1,f1,st1,g1,g2,g3⟩:=Dg hc hA hr hop hb hsil;obtain⟨fs2,f2,st2,j1,j2,j3,j4⟩:=ih (s:=s') (w:=w) (by grind) g2;exact⟨fs2,f2,st2,by rw[j1,g1,alF],j2,RD g3 j3,j4⟩
theorem QI{c:CC}(hc:bw c)(e:bM)(acc:List ((Int×Int×Bool)×Bool)){s:aB}{i:Nat}(hs:oM c s i)(hf:Fit1 c s) :
  gX (c,e,s,acc) (i:Int)=some (c,e,(bh c e.1 i s).1,(bh c e.1 i s).2.foldl cv acc):=by
 obtain⟨fs,f,st,w,ht,hr⟩:=hs;obtain⟨fs',f',st',g1,g2,g3,g4⟩:=sK hc e.1 64 ht hr;have hl:=amu hc e acc ⟨fs,f,st,w,ht,hr⟩;have hf':=acV hf g3;unfold gX bh;generalize bT c e.1 i 64 s=q at *;obtain⟨b,s'⟩:=q;dsimp only at *;have ht':s'.1[i]?=some (fs'++[f'],st',w,false):=by grind
 simp only[aV ht,f8];refine(aae (λo:Option (pL⊕aO)=>o.bind _) hl).trans ?_;cases b
 ·rfl
 ·simp only[aaL,f8,true_and];by_cases ho:aU s'<0;rotate_left
  ·rw[if_neg ho];have:(0:Int)<=s'.2.2.2.2.2.2.2.2.2.1:=by unfold aU at ho;omega
   simp only[fl,this,aeK,Ze];rfl
  rw[if_pos ho];have ho':¬(0:Int)<=s'.2.2.2.2.2.2.2.2.2.1:=by unfold aU at ho;omega
  obtain⟨k,pc,hA⟩:=gb ht' g2;have hst:=(g4 ho).2;have hx:fF c (bg s' i)=dt c f'.1.toNat:=by rw[dW ht'];unfold fF;rw[fp]
  have hF:=hc.2.2.1 k pc hA.pc2 hA.pr;rw[hA.x]at hF;have e2:nw (fl 0 (c,e,s',acc)).2 (i:Int)=some (dt c f'.1.toNat):=by
   unfold nw;have hx:ae c.1 f'.1=some (dt c f'.1.toNat):=by rw[hA.pc1];exact bk _ hA.pc2
   simp only[fl,aV ht',f8,Zr,oZ fs' f' (by have:=g2.n;omega),hx]
  unfold oE;dsimp only;rw[hx];generalize dt c f'.1.toNat=x at *;obtain⟨op,u,b⟩:=x;obtain⟨_,_,o1,o2,o3,o4,o5,o6,o7,o8,o9,o10,o11,o12⟩:=hF;dsimp only at o1 o2 o3 o4 o5 o6 o7 o8 o9 o10 o11 o12 hst;simp only[e2,f8];simp only[fl,ho',aeU,Zr,aV ht',f8,dW ht'];by_cases h25:op=25
  ·subst h25;rfl
  rw[bf h25,if_neg h25];by_cases h21:op=21
  ·subst h21;obtain⟨q1,q2⟩:=o8 (.inl rfl);have eo:ae s'.2.2.2.1 u=some (s'.2.2.2.1.getD u.toNat 0):=bI 0 q1 (by have:=hf'.own;omega);simp only[Int.reduceBEq,Ze,Zr,aaL,eo,f8,alQ,List.foldl_nil];by_cases hw:0<=s'.2.2.2.1.getD u.toNat 0
   ·rw[ax hw,if_pos hw];rfl
   ·rw[aQ hw,if_neg hw];rfl
  rw[bf h21,if_neg h21];by_cases h20:op=20
  ·subst h20;obtain⟨q1,q2⟩:=o7 (.inr rfl);have eo:ae c.2.2.2.2.1 u=some (c.2.2.2.2.1.getD u.toNat ([],0)):=bI _ q1 (by omega);simp only[Int.reduceBEq,Ze,Zr,aaL,eo,f8];by_cases hw:(c.2.2.2.2.1.getD u.toNat ([],0)).2=0
   ·rw[show((c.2.2.2.2.1.getD u.toNat ([],0)).2==0)=true by grind,if_pos hw];rfl
   grind
  grind
theorem zR{c:CC}(hc:bw c){f:Fr}(h:wC c f):f.2.length<=512:=by obtain⟨k,pc,_,_,h3,h4⟩:=h;obtain⟨_,_,_,_,q5,q6⟩:=hc.2.1.2.2.1 k h3.1;omega
def YV(c:CC)(t:Th):Prop:=(t.2.2.2=true/\t.1=[])\/(t.2.2.2=false/\∃fs f,t.1=fs++[f]/\Run1 c fs f t.2.1)
structure StOk(c:CC)(s:aB):Prop where
 n:s.1.length<=1048576
 th:∀t∈s.1,YV c t
 fit:Fit1 c s
 cap:∀j,j<c.2.2.2.2.1.length->((s.2.2.1.getD j []).length:Int)<=(c.2.2.2.2.1.getD j ([],0)).2
def qo(n:Nat)(p:Nat->Bool):List Int:=((List.range n).filter p).map Int.ofNat
theorem WO(n:Nat)(p:Nat->Bool):qo (n+1) p=if p n then qo n p++[(n:Int)]else qo n p:=by grind[qo,List.range_succ]
theorem xK(n:Nat)(p:Nat->Bool):(qo n p).length<=n:=by unfold qo;grind
theorem Xh{f:List Int×Int->Option ((List Int×Int)⊕List Int)}(n:Nat)(p:Nat->Bool)(hn:n<=1048576)
  (hstep:∀k,k<n->∀out:List Int,aP out.length 1 8=true->f (out,(k:Int))=some (.inl (if p k then out++[(k:Int)]else out,(k:Int)+1)))
  (hend:∀out,f (out,(n:Int))=some (.inr out)):Itr.it f ([],(0:Int))=some (qo n p):=
 eh (f:=f) (λy=>n-y.2.toNat) (λ_=>qo n p) (λy=>∃k:Nat,y=(qo k p,(k:Int))/\k<=n)
  (λy hy=>by
   obtain⟨k,rfl,hk⟩:=hy;rcases abD k n with hlt|hge
   ·right;refine⟨(qo (k+1) p,((k+1:Nat):Int)),?_,⟨k+1,rfl,by omega⟩,by grind,rfl⟩;grind[xK,bO,WO]
   grind) (s:=([],0)) ⟨0,rfl,by omega⟩ (by grind)
def oi(c:CC)(t:Th):bM:=if t.2.2.2=true then(29,0,0)else fF c t
def LC(c:CC)(s:aB)(ch:Int)(k:Nat):Bool:=(oi c (bg s k)).1==20&&(oi c (bg s k)).2.1==ch
def hU(c:CC)(s:aB)(ch:Int):List Int:=qo s.1.length (LC c s ch)
def B9(c:CC)(s:aB)(k:Nat):Bool:=
 let t:=bg s k
 let x:=oi c t
 if t.2.2.2=true then false
 else if x.1=21 then decide (s.2.2.2.1.getD x.2.1.toNat 0<0)
 else if x.1=19 then(if(c.2.2.2.2.1.getD x.2.1.toNat ([],0)).2=0 then decide (0<(hU c s x.2.1).length)else decide (((s.2.2.1.getD x.2.1.toNat []).length:Int)<(c.2.2.2.2.1.getD x.2.1.toNat ([],0)).2))
 else if x.1=20 then decide (0<(s.2.2.1.getD x.2.1.toNat []).length)
 else if x.1=25 then decide (t.2.2.1<=s.2.2.2.2.2.1)
 else true
def ji(c:CC)(s:aB):List Int:=qo s.1.length (B9 c s)
theorem kO{s:aB}{k:Nat}(h:k<s.1.length):s.1[k]?=some (bg s k):=by unfold bg;simp[h]
theorem lI{c:CC}{s:aB}(hs:StOk c s){k:Nat}(h:k<s.1.length):((bg s k).2.2.2=true/\(bg s k).1=[])\/((bg s k).2.2.2=false/\∃fs f st w,bg s k=(fs++[f],st,w,false)/\Run1 c fs f st):=by
 rcases hs.th (bg s k) (lP _ h)with h|⟨h1,fs,f,h2,h3⟩
 ·exact .inl h
 grind
theorem Ib{c:CC}{e:bM}{s:aB}{acc:List ((Int×Int×Bool)×Bool)}(hs:StOk c s){k:Nat}(h:k<s.1.length)(z:List Int) :
  kq (c,e,s,acc) (z,(k:Int))=some (oi c (bg s k)):=by
 unfold kq oi;rcases lI hs h with⟨h1,h2⟩|⟨h1,fs,f,st,w,h2,h3⟩
 ·simp only[aV (kO h),f8,h1,Ze,aaL]
 ·obtain⟨k',pc,hA⟩:=gb (s:=s) (i:=k) (by rw[kO h,h2]) h3;have hx:ae c.1 f.1=some (dt c f.1.toNat):=by rw[hA.pc1];exact bk _ hA.pc2
  rw[h2]at h1|-;have ht:=hA.t;simp only[aV ht,f8,Zr,oZ fs f (by have:=h3.n;omega),hx,acZ,aaS];rw[fF,fp]
theorem apF{c:CC}{e:bM}{s:aB}{acc:List ((Int×Int×Bool)×Bool)}(hs:StOk c s){k:Nat}(h:k<s.1.length)(z:Int) :
  sy (c,e,s,acc) (z,(k:Int))=some (oi c (bg s k)):=Ib (e:=e) (acc:=acc) hs h []
theorem KX{c:CC}{e:bM}{s:aB}{acc:List ((Int×Int×Bool)×Bool)}(hs:StOk c s)(ch:Int):dv (c,e,s,acc) ch=some (hU c s ch):=by unfold dv hU;rw[Xh s.1.length (LC c s ch) hs.n (λk hk out ho=>by unfold iv;simp only[ax (show(k:Int)<(s.1.length:Int)by omega),Ze,aV (kO hk),f8,Ib hs hk,dz (n:=s.1.length) (by have:=hs.n;omega) hk];grind[LC,oi,bg,ah]) (λout=>by unfold iv;grind)];rfl
theorem JY{c:CC}(hc:bw c){s:aB}(hs:StOk c s){k:Nat}(h:k<s.1.length)(he:(bg s k).2.2.2=false):∃p,p<c.2.1.length/\KL c p (oi c (bg s k))/\oi c (bg s k)=fF c (bg s k):=by
 rcases lI hs h with⟨h1,h2⟩|⟨h1,fs,f,st,w,h2,h3⟩
 ·grind
 ·obtain⟨p,pc,hA⟩:=gb (s:=s) (i:=k) (by rw[kO h,h2]) h3;have hF:=hc.2.2.1 p pc hA.pc2 hA.pr;rw[hA.x]at hF;rw[h2];refine⟨p,hA.pr.1,?_,rfl⟩;show KL c p (fF c (fs++[f],st,w,false));rw[fF,fp];exact hF.2.2
theorem vB{c:CC}(hc:bw c){e:bM}{s:aB}{acc:List ((Int×Int×Bool)×Bool)}(hs:StOk c s):eO (c,e,s,acc)=some (ji c s):=by
 unfold eO ji;rw[Xh s.1.length (B9 c s) hs.n (λk hk out ho=>by
  unfold jb;have et:=aV (kO hk);have hp:ky (oi c (bg s k)) (c,e,s,acc) (out,(k:Int)) (bg s k)=some (B9 c s k):=by
   unfold ky B9;dsimp only;cases he:(bg s k).2.2.2;rotate_left
   ·grind[oi,bg]
   obtain⟨p,hpn,hO,-⟩:=JY hc hs hk he;generalize oi c (bg s k)=x at *;obtain⟨op,u,b⟩:=x;obtain⟨o1,o2,o3,o4,o5,o6,o7,o8,o9,o10,o11,o12⟩:=hO;dsimp only at o1 o2 o3 o4 o5 o6 o7 o8 o9 o10 o11 o12|-;simp only[acZ,aaS];by_cases h21:op=21
   ·subst h21;obtain⟨q1,q2⟩:=o8 (.inl rfl);have eo:ae s.2.2.2.1 u=some (s.2.2.2.1.getD u.toNat 0):=bI 0 q1 (by have:=hs.fit.own;omega);grind
   rw[bf h21,if_neg h21];by_cases h19:op=19
   ·subst h19;obtain⟨q1,q2⟩:=o7 (.inl rfl);have ec:ae c.2.2.2.2.1 u=some (c.2.2.2.2.1.getD u.toNat ([],0)):=bI _ q1 (by omega);have eq:ae s.2.2.1 u=some (s.2.2.1.getD u.toNat []):=bI _ q1 (by have:=hs.fit.qs;omega);grind[Int.reduceBEq,KX,aQ]
   rw[bf h19,if_neg h19];by_cases h20:op=20
   ·subst h20;obtain⟨q1,q2⟩:=o7 (.inr rfl);have eq:ae s.2.2.1 u=some (s.2.2.1.getD u.toNat []):=bI _ q1 (by have:=hs.fit.qs;omega);simp_all
   grind
  simp only[ax (show(k:Int)<(s.1.length:Int)by omega),Ze,et,f8,Ib hs hk,hp,dz (n:=s.1.length) (by have:=hs.n;omega) hk];grind[B9,ah]) (λout=>by unfold jb;grind)]
 rfl
def jK(c:CC)(s:aB):Nat->Int
 |0=>-1
 |n+1=>if(oi c (bg s n)).1=25/\(jK c s n<0\/(bg s n).2.2.1<jK c s n)then(bg s n).2.2.1 else jK c s n
def LM(s:aB)(w:Int):aB:=(s.1,s.2.1,s.2.2.1,s.2.2.2.1,s.2.2.2.2.1,w,s.2.2.2.2.2.2)
def cn(c:CC)(s:aB):aB:=
 if 0<=aU s then s else if s.2.2.2.2.2.2.1=0 then fA c s 0 3 else if 0<(ji c s).length then s else if 0<=jK c s s.1.length then LM s (jK c s s.1.length)else fA c s 0 2
theorem alY{f:Int×Int->Option ((Int×Int)⊕Int)}(c:CC)(s:aB)(hn:s.1.length<=1048576)
  (hstep:∀k,k<s.1.length->∀w:Int,f (w,(k:Int))=some (.inl (if(oi c (bg s k)).1=25/\(w<0\/(bg s k).2.2.1<w)then(bg s k).2.2.1 else w,(k:Int)+1)))
  (hend:∀w,f (w,(s.1.length:Int))=some (.inr w)):Itr.it f (-1,(0:Int))=some (jK c s s.1.length):=
 eh (f:=f) (λy=>s.1.length-y.2.toNat) (λ_=>jK c s s.1.length) (λy=>∃k:Nat,y=(jK c s k,(k:Int))/\k<=s.1.length)
  (λy hy=>by
   obtain⟨k,rfl,hk⟩:=hy;rcases abD k s.1.length with hlt|hge
   ·right;refine⟨(jK c s (k+1),((k+1:Nat):Int)),?_,⟨k+1,rfl,by omega⟩,by grind,rfl⟩;rw[hstep k hlt];rfl
   grind) (s:=(-1,0)) ⟨0,rfl,by omega⟩ (by grind)
theorem KZ{c:CC}(hc:bw c){e:bM}{s:aB}{acc:List ((Int×Int×Bool)×Bool)}(hs:StOk c s)(h1:0<s.1.length):iy (c,e,s,acc)=some (c,e,cn c s,acc):=by
 unfold iy cn;dsimp only;by_cases ho:0<=aU s
 ·rw[if_pos ho];have:(0:Int)<=s.2.2.2.2.2.2.2.2.2.1:=ho;grind
 rw[if_neg ho];have:¬(0:Int)<=s.2.2.2.2.2.2.2.2.2.1:=ho;simp only[this,aeU,Zr];have et:=kO h1;have e0:ae s.1 0=some (bg s 0):=aV et;by_cases hf:s.2.2.2.2.2.2.1=0
 ·rw[if_pos hf,bt hf];simp only[Ze,e0,f8];rcases lI hs h1 with⟨g1,g2⟩|⟨g1,fs,f,st,w,g2,g3⟩
  ·rw[g1];unfold fA;dsimp only;rw[if_neg (by rw[g1];simp)];rfl
  ·obtain⟨k',pc,hA⟩:=gb (s:=s) (i:=0) (by rw[et,g2]) g3;obtain⟨q1,q2,q3,q4⟩:=AI hc hA;rw[ru hc hA,g2];simp only[aaX,Ze,oZ fs f (by have:=g3.n;omega),f8,q1,q3,q4];rfl
 rw[if_neg hf,bf hf];simp only[Zr,vB hc hs,f8];by_cases hl:0<(ji c s).length
 ·grind
 rw[if_neg hl,aQ (by omega)];have hw:=alY (f:=gt (c,e,s,acc)) c s hs.n (λk hk w=>by unfold gt;simp only[ax (show(k:Int)<(s.1.length:Int)by omega),Ze,aV (kO hk),f8,apF hs hk,dz (n:=s.1.length) (by have:=hs.n;omega) hk];grind) (λw=>by unfold gt;grind);simp only[Zr,hw,f8];by_cases hz:0<=jK c s s.1.length
 ·rw[if_pos hz,aQ (by omega)];rfl
 ·rw[if_neg hz,ax (by omega)];simp only[Ze,e0,f8];rcases lI hs h1 with⟨g1,g2⟩|⟨g1,fs,f,st,w,g2,g3⟩
  ·rw[g1];unfold fA;dsimp only;rw[if_neg (by rw[g1];simp)];rfl
  ·obtain⟨k',pc,hA⟩:=gb (s:=s) (i:=0) (by rw[et,g2]) g3;obtain⟨q1,q2,q3,q4⟩:=AI hc hA;rw[ru hc hA,g2];simp only[aaX,Ze,oZ fs f (by have:=g3.n;omega),f8,q1,q3,q4];rfl
theorem kp{l:List Int}(h:l.length<=1048576):cx l=some l:=by unfold cx;rw[tO (bO (by grind) (by omega))];rfl
theorem apm(r:List Fr)(z:List Int×Int×Bool)(h1:r.length<=1048576)(h2:∀f∈r,f.2.length<=1048576):Itr.it (jJ r) ((),0,(r,0),z)=some ((r,(r.length:Int)),z):=
 eh (f:=jJ r) (λs=>r.length-s.2.1.toNat) (λ_=>((r,(r.length:Int)),z)) (λs=>∃i:Nat,s=((),(i:Int),(r,(i:Int)),z)/\i<=r.length)
  (λs hs=>by
   obtain⟨i,rfl,hi⟩:=hs;unfold jJ;rcases abD i r.length with hlt|hge
   ·right;refine⟨((),((i+1:Nat):Int),(r,((i+1:Nat):Int)),z),?_,⟨i+1,rfl,by omega⟩,by grind,rfl⟩;have hf:=h2 _ (lP (0,[]) hlt);simp only[ax (show(i:Int)<(r.length:Int)by omega),Ze,bk (0,[]) hlt,f8,kp hf,aat,ah,dz (n:=r.length) (by omega) hlt,ZH];rw[show((r.getD i (0,[])).1,(r.getD i (0,[])).2)=r.getD i (0,[])from rfl,iR (show r[i]?=some (r.getD i (0,[]))by simp[hlt])];rfl
   grind) (s:=((),0,(r,0),z)) ⟨0,rfl,by omega⟩ (by grind)
theorem anv(r:List Th)(z:List Int×List (List Int)×List Int×List Int×Int×Int×Int×Int×Int×Int×Int×Int×List UInt8)(h1:r.length<=1048576)(h2:∀t∈r,Wv t):Itr.it (jL r) ((),0,(r,0),z)=some ((r,(r.length:Int)),z):=
 eh (f:=jL r) (λs=>r.length-s.2.1.toNat) (λ_=>((r,(r.length:Int)),z)) (λs=>∃i:Nat,s=((),(i:Int),(r,(i:Int)),z)/\i<=r.length)
  (λs hs=>by
   obtain⟨i,rfl,hi⟩:=hs;unfold jL;rcases abD i r.length with hlt|hge
   ·right;refine⟨((),((i+1:Nat):Int),(r,((i+1:Nat):Int)),z),?_,⟨i+1,rfl,by omega⟩,by grind,rfl⟩;obtain⟨q1,q2,q3⟩:=h2 _ (lP ([],[],0,false) hlt);have ec:cX (r.getD i ([],[],0,false)).1=some (r.getD i ([],[],0,false)).1:=by
     unfold cX;rw[tO (bO (by grind) (by omega))];rfl
    simp only[ax (show(i:Int)<(r.length:Int)by omega),Ze,bk ([],[],0,false) hlt,f8,kp q2,ec,apm _ _ q1 q3,aat,ah,dz (n:=r.length) (by omega) hlt,ZH,ax (acH _)];rw[show((r.getD i ([],[],0,false)).1,(r.getD i ([],[],0,false)).2.1,(r.getD i ([],[],0,false)).2.2)=r.getD i ([],[],0,false)from rfl,iR (show r[i]?=some (r.getD i ([],[],0,false))by simp[hlt])];rfl
   grind) (s:=((),0,(r,0),z)) ⟨0,rfl,by omega⟩ (by grind)
theorem amM(r:List (List Int))(a:List Th)(b:List Int)(z:List Int×List Int×Int×Int×Int×Int×Int×Int×Int×Int×List UInt8)(h1:r.length<=1048576)(h2:∀q∈r,q.length<=1048576) :
  Itr.it (jH r) ((),0,a,b,(r,0),z)=some (a,b,(r,(r.length:Int)),z):=
 eh (f:=jH r) (λs=>r.length-s.2.1.toNat) (λ_=>(a,b,(r,(r.length:Int)),z)) (λs=>∃i:Nat,s=((),(i:Int),a,b,(r,(i:Int)),z)/\i<=r.length)
  (λs hs=>by
   obtain⟨i,rfl,hi⟩:=hs;unfold jH;rcases abD i r.length with hlt|hge
   ·right;refine⟨((),((i+1:Nat):Int),a,b,(r,((i+1:Nat):Int)),z),?_,⟨i+1,rfl,by omega⟩,by grind,rfl⟩;have hf:=h2 _ (lP [] hlt);simp only[ax (show(i:Int)<(r.length:Int)by omega),Ze,bk [] hlt,f8,kp hf,aat,ah,dz (n:=r.length) (by omega) hlt,ZH];simp_all
   grind) (s:=((),0,a,b,(r,0),z)) ⟨0,rfl,by omega⟩ (by grind)
theorem rD(s:aB)(hs:ly s):gI s=some s:=by obtain⟨h1,h2,h3,h4,h5,h6,h7⟩:=hs;unfold gI dV i6;dsimp only;rw[tO (bO (by grind) (by omega))];simp only[abx,f8,anv s.1 _ h1 h2,ah,ax (acH _),Ze,kp h3,kp h6,kp h7];rw[show aP ([]:List (List Int)).length s.2.2.1.length 24=true from bO (by grind) (by omega)];simp only[Ze,f8,amM s.2.2.1 _ _ _ h4 h5,ax (acH _)]
set_option linter.unusedSectionVars false
abbrev iP:Type:=List UInt8×Int
def aie(l:List iP)(nm:List UInt8):Option iP:=l.find? λx=>x.1==nm
def Bv(l:List iP)(nm:List UInt8)(n:Int):Int:=match aie l nm with|some x=>x.2|none=>n
theorem Ex{α:Type}{p:α->Bool}(d:α):∀{l:List α} {i:Nat},i<l.length->(∀j,j<i->p (l.getD j d)=false)->p (l.getD i d)=true->l.find? p=some (l.getD i d)
 |[],_,h,_,_=>by simp at h
 |x::r,0,_,_,h=>by grind
 |x::r,i+1,h,h1,h2=>by have hx:p x=false:=h1 0 (by omega);have:=Ex (p:=p) d (l:=r) (i:=i) (by simpa using h) (λj hj=>h1 (j+1) (by omega)) h2;grind
theorem Yk{α:Type}{p:α->Bool}(d:α){l:List α}(h:∀j,j<l.length->p (l.getD j d)=false):l.find? p=none:=by grind[List.find?_eq_none,List.mem_iff_getElem]
theorem PP(l:List iP)(hl:l.length<=1048576)(nm:List UInt8)(n:Int):kf nm n l=some (Bv l nm n):=by
 unfold kf fe Bv aie;rcases iO (f:=cO l nm) l.length (by omega) (λi=>((l.getD i ([],0)).1==nm)=false) (λi=>(i:Int))
  (λi hi _=>by
   unfold cO ov;simp only[ax (show(i:Int)<(l.length:Int)by omega),Ze,bk ([],0) hi,f8,dz (n:=l.length) (by omega) hi];grind)
  (λ_=>by unfold cO;grind)with⟨hP,he⟩|⟨i,hi,hj,hP,he⟩
 ·rw[he,Yk (([],0):iP) hP];rfl
 ·rw[he,Ex (([],0):iP) hi hj (by simpa using hP)];simp only[f8,ax (show(0:Int)<=(i:Int)by omega),Ze,bk ([],0) hi]
def yL(s:aB)(l:List Int):aB:=(s.1,l,s.2.2)
def CO(s:aB)(l:List Int):aB:=(s.1,s.2.1,s.2.2.1,s.2.2.2.1,l,s.2.2.2.2.2)
def EK(s:aB)(l:List Int):aB:=(s.1,s.2.1,s.2.2.1,l,s.2.2.2.2)
def nQ(c:CC)(l:List iP):List Int:=c.2.2.2.1.map λv=>Bv l v.1 v.2
def nq(c:CC)(l:List iP):List Int:=c.2.2.2.2.2.2.1.map λf=>Bv l f 0
theorem y0{α β:Type}{xs:List α}{i:Nat}(g:α->β)(d:α)(h:i<xs.length):(xs.map g).take (i+1)=(xs.map g).take i++[g (xs.getD i d)]:=by rw[alr];simp[h]
section
variable (c:CC) (hs:kg c) (l:List iP) (hl:l.length<=1048576)
include hs hl
theorem aof(e:bM)(s:aB)(acc:List ((Int×Int×Bool)×Bool)):Itr.it (jN c l) (fl 0 (c,e,yL s [],acc))=some (fl 0 (c,e,yL s (nQ c l),acc)).2:=by
 have hn:c.2.2.2.1.length<=1048576:=hs.2.2.1;refine eh (f:=jN c l) (λy=>c.2.2.2.1.length-y.1.toNat) (λ_=>(fl 0 (c,e,yL s (nQ c l),acc)).2) (λy=>∃i:Nat,y=fl (i:Int) (c,e,yL s ((nQ c l).take i),acc)/\i<=c.2.2.2.1.length)
  (λy hy=>by
   obtain⟨i,rfl,hi⟩:=hy;unfold jN;rcases abD i c.2.2.2.1.length with hlt|hge
   ·right;refine⟨fl ((i+1:Nat):Int) (c,e,yL s ((nQ c l).take (i+1)),acc),?_,⟨i+1,rfl,by omega⟩,by show _-((i+1:Nat):Int).toNat<_-(i:Int).toNat;omega,rfl⟩;have e1:∀v:Int,aP ((nQ c l).take i).length ([v]:List Int).length 8=true:=λv=>bO (by grind) (by omega)
    have hd:decide ((fl (i:Int) (c,e,yL s ((nQ c l).take i),acc)).1<(c.2.2.2.1.length:Int))=true:=ax (show(i:Int)<(c.2.2.2.1.length:Int)by omega);rw[show nQ c l=c.2.2.2.1.map (λv=>Bv l v.1 v.2)from rfl]at e1|-;rw[y0 _ (([],0):iP) hlt];simp only[fl,yL,show(i:Int)<(c.2.2.2.1.length:Int)by omega,aeK,Ze,bk ([],0) hlt,f8,PP l hl,ah,e1,dz (n:=c.2.2.2.1.length) (by omega) hlt];rfl
   ·left;grind[nQ,fl,List.take_of_length_le,decide_false]) ⟨0,rfl,by omega⟩ (by grind)
theorem ajV(e:bM)(s:aB)(acc:List ((Int×Int×Bool)×Bool)):Itr.it (jI c l) (fl 0 (c,e,CO s [],acc))=some (fl 0 (c,e,CO s (nq c l),acc)).2:=by
 have hn:c.2.2.2.2.2.2.1.length<=1048576:=hs.2.2.2.2.2.1;refine eh (f:=jI c l) (λy=>c.2.2.2.2.2.2.1.length-y.1.toNat) (λ_=>(fl 0 (c,e,CO s (nq c l),acc)).2) (λy=>∃i:Nat,y=fl (i:Int) (c,e,CO s ((nq c l).take i),acc)/\i<=c.2.2.2.2.2.2.1.length)
  (λy hy=>by
   obtain⟨i,rfl,hi⟩:=hy;unfold jI;rcases abD i c.2.2.2.2.2.2.1.length with hlt|hge
   ·right;refine⟨fl ((i+1:Nat):Int) (c,e,CO s ((nq c l).take (i+1)),acc),?_,⟨i+1,rfl,by omega⟩,by show _-((i+1:Nat):Int).toNat<_-(i:Int).toNat;omega,rfl⟩;have e1:∀v:Int,aP ((nq c l).take i).length ([v]:List Int).length 8=true:=λv=>bO (by grind) (by omega)
    rw[show nq c l=c.2.2.2.2.2.2.1.map (λf=>Bv l f 0)from rfl]at e1|-;rw[y0 _ ([]:List UInt8) hlt];simp only[fl,CO,show(i:Int)<(c.2.2.2.2.2.2.1.length:Int)by omega,aeK,Ze,bk [] hlt,f8,PP l hl,ah,e1,dz (n:=c.2.2.2.2.2.2.1.length) (by omega) hlt];rfl
   ·left;grind[nq,fl,List.take_of_length_le,decide_false]) ⟨0,rfl,by omega⟩ (by grind)
end
section
variable (c:CC) (hs:kg c)
include hs
theorem ana(e:bM)(s:aB)(acc:List ((Int×Int×Bool)×Bool)):Itr.it (jP c) (fl 0 (c,e,EK s [],acc))=some (fl 0 (c,e,EK s (List.replicate c.2.2.2.2.2.1.length (-1)),acc)).2:=by
 have hn:c.2.2.2.2.2.1.length<=1048576:=hs.2.2.2.2.1;refine eh (f:=jP c) (λy=>c.2.2.2.2.2.1.length-y.1.toNat) (λ_=>(fl 0 (c,e,EK s (List.replicate c.2.2.2.2.2.1.length (-1)),acc)).2) (λy=>∃i:Nat,y=fl (i:Int) (c,e,EK s (List.replicate i (-1)),acc)/\i<=c.2.2.2.2.2.1.length)
  (λy hy=>by
   obtain⟨i,rfl,hi⟩:=hy;unfold jP;rcases abD i c.2.2.2.2.2.1.length with hlt|hge
   ·right;refine⟨fl ((i+1:Nat):Int) (c,e,EK s (List.replicate (i+1) (-1)),acc),?_,⟨i+1,rfl,by omega⟩,by show _-((i+1:Nat):Int).toNat<_-(i:Int).toNat;omega,rfl⟩;have e1:aP (List.replicate i (-1:Int)).length ([-1]:List Int).length 8=true:=bO (by grind) (by omega);rw[ajc];simp only[fl,EK,show(i:Int)<(c.2.2.2.2.2.1.length:Int)by omega,aeK,Ze,ah,e1,dz (n:=c.2.2.2.2.2.1.length) (by omega) hlt];rfl
   ·left;grind[fl]) ⟨0,rfl,by omega⟩ (by grind)
end
def zI(c:CC):aB:=([],[],List.replicate c.2.2.2.2.1.length [],[],[],0,64,(0,0,0),-1,-1,0,[])
def eR(c:CC)(l:List iP):aB:=([([(c.2.1.getD (c.2.1.length-1) 0,List.replicate (c.2.2.1.getD (c.2.1.length-1) 0).toNat 0)],[],0,false)],nQ c l,List.replicate c.2.2.2.2.1.length [],List.replicate c.2.2.2.2.2.1.length (-1),nq c l,0,64,(0,0,0),-1,-1,0,[])
def fG(c:CC)(e:bM)(l:List iP):aB:=cn c (bh c e.1 0 (eR c l)).1
def iD(e:bM):Prop:=0<=e.1/\e.1<4/\0<=e.2.1/\e.2.1<=8/\0<=e.2.2/\e.2.2<=8
theorem Db(e:bM):∃b,lm e=some b/\(b=true↔iD e):=by refine⟨decide (0<=e.1/\e.1<4/\0<=e.2.1/\e.2.1<=8/\0<=e.2.2/\e.2.2<=8),?_,decide_eq_true_iff⟩;unfold lm;grind
theorem WF{c:CC}(hs:kg c):ly (zI c):=by obtain⟨s1,s2,s3,s4,s5,s6,s7⟩:=hs;refine⟨by simp[zI],λt ht=>by simp[zI]at ht,by simp[zI],by simpa[zI]using s4,λq hq=>?_,by simp[zI],by simp[zI]⟩;rw[aeZ hq];simp
theorem Ei{c:CC}(hc:bw c)(l:List iP):oM c (eR c l) 0/\Fit1 c (eR c l)/\ly (eR c l):=by
 have hn:=hc.2.1.1.1;obtain⟨s1,s2,s3,s4,s5,s6,s7⟩:=hc.2.2.2;have hfr:wC c (c.2.1.getD (c.2.1.length-1) 0,List.replicate (c.2.2.1.getD (c.2.1.length-1) 0).toNat 0):=Fz hc (by omega);have hloc:=zR hc hfr;refine⟨⟨[],_,[],0,rfl,⟨by simp,by simp,λg hg=>?_⟩⟩,⟨by simp[eR,nQ],by simp[eR],by simp[eR],by simp[eR,nq]⟩,by simp[eR],λt ht=>?_,by simpa[eR,nQ]using s3,by simpa[eR]using s4,λq hq=>?_,by simpa[eR]using s5,by simpa[eR,nq]using s6⟩
 ·grind
 ·simp only[eR,ZK]at ht;rw[ht];refine⟨by simp,by simp,λg hg=>?_⟩;grind
 ·rw[aeZ hq];simp
theorem Ch{c:CC}(hc:bw c)(kind:Int){s:aB}{i:Nat}(hs:StOk c s)(hr:oM c s i)(hsm:ly s):StOk c (bh c kind i s).1/\ly (bh c kind i s).1/\(bh c kind i s).1.1.length=s.1.length:=by
 obtain⟨fs,f,st,w,ht,hr⟩:=hr;obtain⟨fs',f',st',g1,g2,g3,g4⟩:=sK hc kind 64 ht hr;have base:∀(q:aB) (w':Int),q.1=s.1.set i (fs'++[f'],st',w',false)->q.2.1=s.2.1->q.2.2.1=s.2.2.1->q.2.2.2.1=s.2.2.2.1->q.2.2.2.2.1=s.2.2.2.2.1->StOk c q/\ly q/\q.1.length=s.1.length:=by
  intro q w' h1 h2 h3 h4 h5;refine⟨⟨by rw[h1];simpa using hs.n,λt ht=>?_,⟨by rw[h2];exact hs.fit.1,by rw[h3];exact hs.fit.2,by rw[h4];exact hs.fit.3,by rw[h5];exact hs.fit.4⟩,λj hj=>by rw[h3];exact hs.cap j hj⟩,?_,by rw[h1];simp⟩
  ·rw[h1]at ht;rcases ab2 ht with ht|rfl
   ·exact hs.th t ht
   ·exact .inr ⟨rfl,fs',f',rfl,g2⟩
  ·obtain⟨h1',h2',h3',h4',h5',h6',h7'⟩:=hsm;unfold ly;rw[h1,h2,h3,h4,h5];refine⟨by grind,λt ht=>?_,h3',h4',h5',h6',h7'⟩;rcases ab2 ht with ht|rfl
   ·exact h2' t ht
   ·have:=g2.n;have:=g2.m;exact⟨by grind,by grind,λg hg=>by have:=zR hc (g2.fr g hg);omega⟩
 unfold bh;generalize bT c kind i 64 s=q at *;obtain⟨b,q⟩:=q;dsimp only at *;obtain⟨k1,k2,k3,k4,k5,k6,k7,k8,k9⟩:=g3;have ht':q.1[i]?=some (fs'++[f'],st',w,false):=by grind
 split
 ·unfold oE;dsimp only;split
  ·refine base _ (ac (q.2.2.2.2.2.1+(fF c (bg q i)).2.1)) ?_ k1 k2 k3 k4;show q.1.set i ((bg q i).1,(bg q i).2.1,_,(bg q i).2.2.2)=_;rw[dW ht',g1,alF]
  split
  ·dsimp only;split
   ·exact base _ w g1 k1 k2 k3 k4
   grind
  split
  ·grind
  grind
 grind
theorem GT{c:CC}{s:aB}(hs:StOk c s)(hsm:ly s):StOk c (cn c s)/\ly (cn c s):=by
 have he:∀o,StOk c (fA c s 0 o)/\ly (fA c s 0 o):=by
  intro o;unfold fA;dsimp only;split
  ·exact⟨⟨hs.n,hs.th,⟨hs.fit.1,hs.fit.2,hs.fit.3,hs.fit.4⟩,hs.cap⟩,hsm⟩
  ·exact⟨⟨hs.n,hs.th,⟨hs.fit.1,hs.fit.2,hs.fit.3,hs.fit.4⟩,hs.cap⟩,hsm⟩
 unfold cn;split
 ·grind
 split
 ·exact he 3
 split
 ·grind
 split
 ·exact⟨⟨hs.n,hs.th,⟨hs.fit.1,hs.fit.2,hs.fit.3,hs.fit.4⟩,hs.cap⟩,hsm⟩
 ·exact he 2
theorem TA{c:CC}(hc:bw c)(l:List iP):StOk c (eR c l):=by
 obtain⟨⟨fs,f,st,w,h1,h2⟩,hf,_⟩:=Ei hc l;refine⟨by simp[eR],λt ht=>?_,hf,λj hj=>?_⟩
 ·have:t=(fs++[f],st,w,false):=by
   simp only[eR,ZK]at ht;have h1':some (_:Th)=some (fs++[f],st,w,false):=h1;grind
  rw[this];exact .inr ⟨rfl,fs,f,rfl,h2⟩
 ·show((List.getD (List.replicate c.2.2.2.2.1.length []) j []).length:Int)<=_;have h0:=(hc.2.1.2.2.2 j hj).1;grind
structure CodeOk(c:CC):Prop where
 v:bw c
 p:∃k,lX c=some (k,0)
theorem CG{c:CC}(hk:CodeOk c){e:bM}(he:iD e)(l:List iP)(hl:l.length<=64):iS c e l=some (fG c e l,0):=by
 have hc:=hk.v;have hs:=hc.2.2.2;obtain⟨k,v1⟩:=hk.p;have hl':=hl;have hl:l.length<=1048576:=by omega
 unfold iS;dsimp only;rw[v1];simp only[f8];obtain⟨b,b1,b3⟩:=Db e;simp only[aaH,Zr,b1,b3.2 he,f8,acF,aQ (show¬(64:Int)<l.length by omega)];have hch:(c.2.2.2.2.1.length:Int)<=1048576:=by have:=hs.2.2.2.1;omega
 have hck:decide (0<=(c.2.2.2.2.1.length:Int)/\(c.2.2.2.2.1.length:Int)*24<=281474976710656/\(c.2.2.2.2.1.length:Int)<=maxLen)=true:=ax ⟨by omega,by omega,by simp only[maxLen];omega⟩;have hn:=hc.2.1.1.1;have hn2:=hc.2.1.1.2.1;have hs1:=hs.1;have ew:ac ((c.2.1.length:Int)-1)=((c.2.1.length-1:Nat):Int):=by rw[aD (by omega) (by omega)];omega
 have eb:ae c.2.1 ((c.2.1.length-1:Nat):Int)=some (c.2.1.getD (c.2.1.length-1) 0):=bk 0 (by omega);have el:ae c.2.2.1 ((c.2.1.length-1:Nat):Int)=some (c.2.2.1.getD (c.2.1.length-1) 0):=bk 0 (by omega);obtain⟨_,_,_,_,q5,q6⟩:=hc.2.1.2.2.1 (c.2.1.length-1) (by omega);have hlk:decide (0<=c.2.2.1.getD (c.2.1.length-1) 0/\c.2.2.1.getD (c.2.1.length-1) 0*8<=281474976710656/\c.2.2.1.getD (c.2.1.length-1) 0<=maxLen)=true:=ax ⟨q5,by omega,by simp only[maxLen];omega⟩;obtain⟨r1,r2,r3⟩:=Ei hc l;have so:=TA hc l;obtain⟨st1,st2,st3⟩:=Ch hc e.1 so r1 r3;obtain⟨st4,st5⟩:=GT st1 st2;have hlen:0<(bh c e.1 0 (eR c l)).1.1.length:=by rw[st3];simp[eR]
 simp only[hck,ah,Ze];refine(aae (λo:Option aB=>o.bind _) (rD (zI c) (WF hs))).trans ?_;simp only[f8];refine(aae (λo:Option pL=>o.bind _) (aof c hs l hl e (zI c) [])).trans ?_;simp only[f8];refine(aae (λo:Option pL=>o.bind _) (ajV c hs l hl e (yL (zI c) (nQ c l)) [])).trans ?_;simp only[f8];refine(aae (λo:Option pL=>o.bind _) (ana c hs e (CO (yL (zI c) (nQ c l)) (nq c l)) [])).trans ?_;simp only[f8,fl,ew,eb,el,hlk,Ze];refine(aae (λo:Option aO=>o.bind _) (QI hc e [] r1 r2)).trans ?_;simp only[f8,KZ hc st1 hlen];rfl
def apz:Bool:=(List.range 70).all λn=>match gu (n:Int)with|some l=>l==List.replicate n 1|none=>false
theorem Vd:apz=true:=by kernel_rfl
theorem BO{n:Nat}(h:n<70):gu (n:Int)=some (List.replicate n 1):=by have:=Zy.1 Vd n (adp.2 h);grind
theorem UK(l:List Int)(hl:l.length<=1048576)(x:Int):gR l x=some (decide (x∈l)):=by
 unfold gR lY;rcases iO (f:=fW l x) l.length (by omega) (λi=>¬x=l.getD i 0) (λi=>(i:Int))
  (λi hi _=>by
   unfold fW;simp only[ax (show(i:Int)<(l.length:Int)by omega),Ze,bk 0 hi,f8,dz (n:=l.length) (by omega) hi];grind)
  (λ_=>by unfold fW;grind)with⟨hP,he⟩|⟨i,hi,_,hP,he⟩
 ·grind[aQ,List.mem_iff_getElem]
 simp_all
def ml(c:CC)(s:aB)(k:Nat):Bool:=
 if(bg s k).2.2.2=true then decide ((bg s k).2.1.length=0/\(bg s k).2.2.1=0)
 else decide (0<=(bg s k).2.2.1/\(bg s k).2.2.1<=1048576/\(0<=aU s\/hZ (fF c (bg s k)) (bg s k).1.length=true))
def kK(s:aB)(k:Nat):Prop:=-1<=s.2.2.2.1.getD k 0/\s.2.2.2.1.getD k 0<s.1.length
instance (s:aB)(k:Nat):Decidable (kK s k):=by unfold kK;infer_instance
def eA(s:aB):Nat->Int
 |0=>0
 |n+1=>if(bg s n).2.2.2=true then eA s n else eA s n+1
def xH(c:CC)(s:aB):Prop:=(1<=s.1.length/\s.1.length<=65)/\(∀k,k<s.2.2.2.1.length->kK s k)/\(∀k,k<s.1.length->ml c s k=true)/\eA s s.1.length<=5
instance (c:CC)(s:aB):Decidable (xH c s):=by unfold xH;infer_instance
theorem ZF(s:aB):∀n,0<=eA s n/\eA s n<=n:=by
 intro n;induction n with
 |zero=>simp[eA]
 |succ n ih=>unfold eA;grind
theorem Xl{c:CC}{e:bM}{s:aB}{acc:List ((Int×Int×Bool)×Bool)}{i:Nat}{fs:List Fr}{f:Fr}{st:List Int}{w:Int}{x:bM}{k pc:Nat}(h:AtP c s i fs f st w x k pc) :
  oF (c,e,s,acc) (i:Int)=some (hZ x (fs.length+1)):=Ld (n:=0) (e:=e) (acc:=acc) h
theorem ap2{c:CC}(hc:bw c)(e:bM)(s:aB)(acc:List ((Int×Int×Bool)×Bool))(t:Th)(hn:t.1.length<=8)(h:∀g∈t.1,wC c g):Itr.it (fc (c,e,s,acc) t) 0=some (.inl ()):=by
 rcases iO (f:=fc (c,e,s,acc) t) t.1.length (by omega) (λ_=>True) (λ_=>false)
  (λi hi _=>by
   left;refine⟨trivial,?_⟩;unfold fc;obtain⟨k,pc,h1,h2,h3,h4⟩:=h _ (lP (0,[]) hi);have hp:=FH (uf hc.2.1 hc.2.2.2) h3 (by omega);have hl:ae c.2.2.1 (k:Int)=some (c.2.2.1.getD k 0):=bk 0 (by have:=h3.1;have:=hc.2.1.1.2.1;omega);simp only[ax (show(i:Int)<(t.1.length:Int)by omega),Ze,bk (0,[]) hi,f8,h1,x9,aQ (show¬((pc:Int)<0\/(c.1.length:Int)<=(pc:Int))by omega),aaX,hp,hl,nf h4,Zr,dz (n:=t.1.length) (by omega) hi])
  (λ_=>by unfold fc;grind)with⟨_,he⟩|⟨i,_,_,hP,_⟩
 ·exact he
 grind
theorem alk{c:CC}(hc:bw c){e:bM}{s:aB}{acc:List ((Int×Int×Bool)×Bool)}(hs:StOk c s){k:Nat}(hk:k<s.1.length):lz (c,e,s,acc) (k:Int)=some (ml c s k):=by
 unfold lz ml;rcases lI hs hk with⟨h1,h2⟩|⟨h1,fs,f,st,w,h2,h3⟩
 ·grind[decide,bg,aV,kO,List.length_nil]
 ·obtain⟨k',pc,hA⟩:=gb (s:=s) (i:=k) (by rw[kO hk,h2]) h3;have ht:=aV hA.t;have hst:=Xl (e:=e) (acc:=acc) hA;have hfr:=ap2 hc e s acc (fs++[f],st,w,false) (by have:=h3.n;grind) h3.fr;have hx:fF c (fs++[f],st,w,false)=dt c f.1.toNat:=by rw[fF,fp]
  have hn:=h3.n;have hm:=h3.m;rw[h2];simp only[ht,f8,Zr,acZ,aaS,ZD,aal,bf (show¬(((fs.length+1:Nat):Int))=0 by omega),aaX,Ze,aQ (show¬(8:Int)<((fs.length+1:Nat):Int)by omega),aQ (show¬(16:Int)<(st.length:Int)by omega),hx];grind[aU,aQ,Bool.not_false,decide_false]
theorem Xv(c:CC)(e:bM)(s:aB)(acc:List ((Int×Int×Bool)×Bool))(hn:s.1.length<=1048576):jy (c,e,s,acc)=some (eA s s.1.length):=by
 unfold jy
 rw [eh (f:=kz (c,e,s,acc)) (λy=>s.1.length-y.2.toNat) (λ_=>eA s s.1.length) (λy=>∃k:Nat,y=(eA s k,(k:Int))/\k<=s.1.length)
  (λy hy=>by
   obtain⟨k,rfl,hk⟩:=hy;unfold kz eG;rcases abD k s.1.length with hlt|hge
   ·right;refine⟨(eA s (k+1),((k+1:Nat):Int)),?_,⟨k+1,rfl,by omega⟩,by grind,rfl⟩;have hl:=ZF s k;simp only[ax (show(k:Int)<(s.1.length:Int)by omega),Ze,aV (kO hlt),f8,dz (n:=s.1.length) (by omega) hlt];rw[show eA s (k+1)=if(bg s k).2.2.2=true then eA s k else eA s k+1 from rfl];cases (bg s k).2.2.2
    ·simp only[aaX,Ze,f8,acZ,aaS,aD (x:=eA s k+1) (by omega) (by omega)];rfl
    ·simp only[acF,Zr,f8,aaL,Int.add_zero,aD (x:=eA s k) (by omega) (by omega)];rfl
   grind) (s:=(0,0)) ⟨0,rfl,by omega⟩ (by grind)]
 rfl
theorem MD{c:CC}(hc:bw c)(e:bM){s:aB}(acc:List ((Int×Int×Bool)×Bool))(hs:StOk c s)(hsm:ly s):∃b,kr (c,e,s,acc)=some b/\(b=true↔xH c s):=by
 unfold kr;dsimp only;have hn:=hs.n;rw[nf (show(s.2.1.length:Int)=c.2.2.2.1.length by rw[hs.fit.vars]),nf (show(s.2.2.1.length:Int)=c.2.2.2.2.1.length by rw[hs.fit.qs]),nf (show(s.2.2.2.1.length:Int)=c.2.2.2.2.2.1.length by rw[hs.fit.own]),nf (show(s.2.2.2.2.1.length:Int)=c.2.2.2.2.2.2.1.length by rw[hs.fit.files])];simp only[Zr,Hl,x9];by_cases h1:1<=s.1.length/\s.1.length<=65;rotate_left
 ·rw[ax (by omega)];exact⟨false,rfl,λh=>(by cases h),λh=>absurd h.1 h1⟩
 rw [aQ (by omega)];simp only[Zr];have l1:Itr.it (eZ (c,e,s,acc)) 0=some (.inl ()):=by
  rcases iO (f:=eZ (c,e,s,acc)) s.2.2.1.length (by have:=hsm.2.2.2.1;omega) (λ_=>True) (λ_=>false)
   (λi hi _=>by
    left;refine⟨trivial,?_⟩;unfold eZ;have hq:=hs.fit.qs;have hcap:=hs.cap i (by omega);simp only[ax (show(i:Int)<(s.2.2.1.length:Int)by omega),Ze,bk [] hi,bk ([],0) (show i<c.2.2.2.2.1.length by omega),f8,aQ (show¬(c.2.2.2.2.1.getD i ([],0)).2<((s.2.2.1.getD i []).length:Int)by omega),Zr,dz (n:=s.2.2.1.length) (by have:=hsm.2.2.2.1;omega) hi])
   (λ_=>by unfold eZ;grind)with⟨_,he⟩|⟨i,_,_,hP,_⟩
  ·exact he
  grind
 rw[l1];simp only[f8];have ho:=hsm.2.2.2.2.2.1;rcases iO (f:=gB (c,e,s,acc)) s.2.2.2.1.length (by omega) (kK s) (λ_=>false)
  (λi hi _=>by
   unfold gB;simp only[ax (show(i:Int)<(s.2.2.2.1.length:Int)by omega),Ze,bk 0 hi,f8,x9,dz (n:=s.2.2.2.1.length) (by omega) hi];by_cases h:kK s i
   ·left;have h':=h;unfold kK at h';grind
   ·right;have h':=h;unfold kK at h';grind)
  (λ_=>by unfold gB;grind)with⟨hO,he⟩|⟨i,hi,_,hP,he⟩
 rotate_left
 ·rw[he];exact⟨false,rfl,λh=>(by cases h),λh=>absurd (h.2.1 i hi) hP⟩
 rw[he];simp only[f8];rcases iO (f:=gw (c,e,s,acc)) s.1.length (by omega) (λk=>ml c s k=true) (λ_=>false)
  (λi hi _=>by
   unfold gw;simp only[ax (show(i:Int)<(s.1.length:Int)by omega),Ze,aV (kO hi),f8,alk hc hs hi,dz (n:=s.1.length) (by omega) hi];grind)
  (λ_=>by unfold gw;grind)with⟨hS,he⟩|⟨i,hi,_,hP,he⟩
 rotate_left
 ·rw[he];exact⟨false,rfl,λh=>(by cases h),λh=>absurd (h.2.2.1 i hi) hP⟩
 rw[he];simp only[f8,Xv c e s [] hn];exact⟨_,rfl,λh=>⟨h1,hO,hS,by simpa using h⟩,λh=>by simpa using h.2.2.2⟩
theorem Qx(a b c d:Int):yE a b c d<0↔a<0\/b<0\/c<0\/d<0:=by unfold yE;grind
abbrev Pt4:Type:=Int×Int×Int×List Int
def jA(c:CC)(e:bM)(s:aB)(k:Nat):Pt4:=
 let x:=fF c (bg s k)
 let pc:=(sU (bg s k)).1
 if x.1=23 then(1,(k:Int),pc,List.replicate x.2.1.toNat 1)
 else if x.1=19/\(c.2.2.2.2.1.getD x.2.1.toNat ([],0)).2=0/\1<(hU c s x.2.1).length then(2,(k:Int),pc,List.replicate (hU c s x.2.1).length 1)
 else if x.1=24/\0<e.2.2 then(3,(k:Int),pc,[ac (16-e.2.2),e.2.2])
 else if x.1=26/\0<e.2.1 then(4,(k:Int),pc,[ac (16-e.2.1),e.2.1])
 else(0,(k:Int),pc,[1])
def zA(c:CC)(s:aB):Int:=if s.2.2.2.2.2.2.2.2.1<0 then(ji c s).getD 0 0 else s.2.2.2.2.2.2.2.2.1
def gW(c:CC)(e:bM)(s:aB):Pt4:=
 if s.2.2.2.2.2.2.2.2.1<0/\1<(ji c s).length then(0,-1,-1,List.replicate (ji c s).length 1)else jA c e s (zA c s).toNat
theorem u6{n:Nat}{p:Nat->Bool}{x:Int}:x∈qo n p↔∃k,k<n/\p k=true/\x=(k:Int):=by unfold qo;grind
structure GoOn(c:CC)(s:aB):Prop where
 ok:StOk c s
 n:s.1.length<=65
 en:0<(ji c s).length
 pk:s.2.2.2.2.2.2.2.2.1 = -1\/s.2.2.2.2.2.2.2.2.1∈ji c s
theorem MS{c:CC}{s:aB}(h:GoOn c s):∃k:Nat,zA c s=(k:Int)/\k<s.1.length/\B9 c s k=true:=by
 have hm:zA c s∈ji c s:=by
  unfold zA;split
  ·exact lP 0 h.en
  ·rcases h.pk with hp|hp
   ·omega
   ·exact hp
 obtain⟨k,h1,h2,h3⟩:=u6.1 hm;grind
theorem KU{c:CC}{s:aB}(hs:StOk c s){k:Nat}(hk:k<s.1.length)(h:B9 c s k=true):∃fs f st w,bg s k=(fs++[f],st,w,false)/\Run1 c fs f st:=by
 rcases lI hs hk with⟨h1,h2⟩|⟨h1,h2⟩
 ·unfold B9 at h;grind
 ·exact h2
theorem YI{c:CC}(hc:bw c)(e:bM){s:aB}(acc:List ((Int×Int×Bool)×Bool))(hs:StOk c s)(hn:s.1.length<=65){k:Nat}(hk:k<s.1.length){fs:List Fr}{f:Fr}{st:List Int}{w:Int}(ht:bg s k=(fs++[f],st,w,false))(hr:Run1 c fs f st) :
  iW (c,e,s,acc) (k:Int) f [1]=some (jA c e s k):=by
 unfold iW jA;have hat:nB (c,e,s,acc) (k:Int)=some (fF c (bg s k)):=by have h:=Ib (e:=e) (acc:=acc) hs hk [];unfold oi at h;rw[if_neg (by rw[ht];simp)]at h;exact h
 obtain⟨p,hpn,hO,hx⟩:=JY hc hs hk (by rw[ht]);rw[hx]at hO;have hpc:(sU (bg s k)).1=f.1:=by rw[ht,fp]
 dsimp only;rw[hat,hpc];generalize fF c (bg s k)=x at *;obtain⟨op,u,b⟩:=x;obtain⟨o1,o2,o3,o4,o5,o6,o7,o8,o9,o10,o11,o12⟩:=hO;dsimp only at o1 o2 o3 o4 o5 o6 o7 o8 o9 o10 o11 o12|-;simp only[f8];by_cases h23:op=23
 ·obtain⟨g1,g2⟩:=o9 h23;rw[bt h23,if_pos h23];obtain⟨n,rfl⟩:∃n:Nat,u=(n:Int):=⟨u.toNat,by omega⟩
  simp only[Ze,BO (show n<70 by omega),f8,ZH]
 rw[bf h23,if_neg h23];simp only[Zr];by_cases h19:op=19
 ·obtain⟨g1,g2⟩:=o7 (.inl h19);have ec:ae c.2.2.2.2.1 u=some (c.2.2.2.2.1.getD u.toNat ([],0)):=bI _ g1 (by omega);have hl:(hU c s u).length<=s.1.length:=xK _ _;rw[bt h19];simp only[Ze,ec,f8];by_cases hz:(c.2.2.2.2.1.getD u.toNat ([],0)).2=0
  ·rw[bt hz];simp only[Ze,KX hs,f8];by_cases h1:1<(hU c s u).length
   ·rw[ax (by omega),if_pos ⟨h19,hz,h1⟩];simp only[Ze,BO (show(hU c s u).length<70 by omega),f8]
   grind
  ·rw[bf hz,if_neg (λh=>hz h.2.1),if_neg (by omega),if_neg (by omega),bf (show¬op=24 by omega),bf (show¬op=26 by omega)];rfl
 rw[bf h19,if_neg (λh=>h19 h.1)];simp only[Zr,f8,Hl,Ep];by_cases h24:op=24/\0<e.2.2
 ·grind
 rw[aQ h24,if_neg h24];simp only[Zr];by_cases h26:op=26/\0<e.2.1
 ·grind
 rw[aQ h26,if_neg h26];rfl
theorem BM{c:CC}(hc:bw c)(e:bM){s:aB}(acc:List ((Int×Int×Bool)×Bool))(h:GoOn c s):gG (c,e,s,acc)=some (gW c e s):=by
 unfold gG gW;have hl:(ji c s).length<=s.1.length:=xK _ _;have hn:=h.n;obtain⟨k,w1,w2,w3⟩:=MS h;obtain⟨fs,f,st,w,ht,hr⟩:=KU h.ok w2 w3;have et:ae s.1 (k:Int)=some (fs++[f],st,w,false):=by rw[<-ht];exact aV (kO w2)
 have el:=oZ fs f (by have:=hr.n;omega);have h1:gu 1=some [1]:=BO (n:=1) (by omega);dsimp only;simp only[vB hc h.ok,f8];have rest:((ae s.1 (k:Int)).bind λ_=>(ae s.1 (k:Int)).bind λv7=>(ae s.1 (k:Int)).bind λv8=>(ae v7.1 (ac ((v8.1.length:Int)-(1:Int)))).bind λ_=>(ae v7.1 (ac ((v8.1.length:Int)-(1:Int)))).bind λv10=>(gu 1).bind λr11=>((iW (c,e,s,acc) (k:Int) v10 r11:Option bL)).bind λs12=>some s12)=some (jA c e s k):=by simp only[et,f8,el,h1,YI hc e acc h.ok h.n w2 ht hr]
 by_cases hp:s.2.2.2.2.2.2.2.2.1<0
 ·by_cases h2:1<(ji c s).length
  ·rw[ax hp,if_pos ⟨hp,h2⟩,ax (by omega)];simp only[Ze,BO (show(ji c s).length<70 by omega),f8]
  ·rw[ax hp,if_neg (λh=>h2 h.2),aQ (by omega)];have e0:ae (ji c s) 0=some (k:Int):=by
    have:zA c s=(ji c s).getD 0 0:=by unfold zA;rw[if_pos hp]
    rw[<-w1,this];exact bk 0 h.en
   grind
 ·rw[aQ hp,if_neg (λh=>hp h.1)];have:s.2.2.2.2.2.2.2.2.1=(k:Int):=by rw[<-w1];unfold zA;rw[if_neg hp]
  grind
end Go.Proofs.YtgghcmbaidihjaaGreatDoor
