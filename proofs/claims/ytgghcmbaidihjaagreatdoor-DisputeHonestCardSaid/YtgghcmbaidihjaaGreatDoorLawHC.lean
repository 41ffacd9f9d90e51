/- Laws for the row. No condition. -/
import Derived.Test.YtgghcmbaidihjaaGreatDoorLawH7
import Derived.KernelRfl
namespace Go.Proofs.YtgghcmbaidihjaaGreatDoor
open Go.Sm
set_option linter.unusedVariables false
set_option maxRecDepth 4000
inductive Leads{S R:Type}(f:S->Option (S⊕R)):Nat->S->R->Prop
 |stop {s:S} {r:R}:f s=some (.inr r)->Leads f 1 s r
 |step {n:Nat} {s t:S} {r:R}:f s=some (.inl t)->Leads f n t r->Leads f (n+1) s r
theorem TB{S R:Type}{f:S->Option (S⊕R)}{n:Nat}{s:S}{r:R}(h:Leads f n s r):∀k,n<=k->mN f k s=some r:=by
 induction h with
 |stop h=>
  intro k hk;cases k with
  |zero=>omega
  |succ k=>simp only[mN,h,f8]
 |step h _ ih=>
  intro k hk;cases k with
  |zero=>omega
  |succ k=>simp only[mN,h,f8];exact ih k (by omega)
theorem Md{S R:Type}{f:S->Option (S⊕R)}{n:Nat}{s:S}{r:R}(h:Leads f n s r)(hn:n<=1000):Itr.it f s=some r:=
 TB h CK (show n<=9223372036854775808 by omega)
theorem ajn(W:List Int)(hW:W.length<=1000):∃w,vV W=some w/\w.length<=W.length:=by
 obtain⟨r,h1,j,rfl,h3⟩:=fj (f:=pQ W) (λz=>z.toNat) (λz=>∃j:Nat,z=(j:Int)/\j<=W.length) (λr=>∃j:Nat,r=(j:Int)/\j<=W.length)
  (λz hz=>by
   obtain⟨j,rfl,hj⟩:=hz;unfold pQ;cases j with
   |zero=>
    left;rw[aQ (show¬(0:Int)<((0:Nat):Int)by omega)];exact⟨0,rfl,0,rfl,by omega⟩
   |succ j=>
    have e1:ac (((j+1:Nat):Int)-1)=(j:Int):=by rw[aD (by omega) (by omega)];omega
    have hx:=aV (ZB (show j<W.length by omega));rw[ax (show(0:Int)<((j+1:Nat):Int)by omega)];simp only[Ze,e1,hx,f8];cases (W[j]==(0:Int))
    ·left;exact⟨_,rfl,j+1,rfl,by omega⟩
    ·right;exact⟨_,rfl,⟨j,rfl,by omega⟩,by omega⟩) (s:=(W.length:Int)) ⟨W.length,rfl,by omega⟩ (by omega)
 have hl:((W.take (j:Int).toNat).drop (0:Int).toNat).length=j:=by rw[ZH];show(List.drop 0 _).length=j;rw[adq,acs];omega
 refine⟨(W.take (j:Int).toNat).drop (0:Int).toNat,?_,by rw[hl];exact h3⟩;unfold vV;refine(aae (λo:Option Int=>o.bind _) h1).trans ?_;rw[f8,ax (show 0<=(0:Int)/\(0:Int)<=(j:Int)/\(j:Int)<=(W.length:Int)by omega)];simp only[ah,Ze];rw[kp (by rw[hl];omega)];rfl
def IV(c:CC)(e:bM)(seed:Int)(s t:aB):Prop:=∃p k v,fh c e s=some (p,0)/\jh s p seed=some k/\fE c e s k=some (t,v,0)
theorem vE(c:CC)(e:bM)(i:Int)(s:aB)(w:List Int)(seed:Int):ot c e (i,mT s (w,seed)) =
  (bif decide (aU s<0)then
   (fh c e s).bind λr1=>
   bif r1.2 != (0:Int)then(bif r1.2 != (0:Int)then none else some (Sum.inr (w,0)))
   else
    bif decide ((1:Int)<(r1.1.2.2.2.length:Int))then
     (jh s r1.1 seed).bind λr2=>
     ah (aP w.length ([r2]:List Int).length 8) (
      (ae (w++([r2]:List Int)) i).bind λ_=>
      (ae (w++([r2]:List Int)) i).bind λv=>
      jv c e (i,mT s (w,seed)) (ac (i+(1:Int))) v (w++([r2]:List Int)))
    else jv c e (i,mT s (w,seed)) i 0 w
  else some (Sum.inr (w,0))):=rfl
theorem F7{c:CC}{e:bM}{i:Int}{s:aB}{w:List Int}{seed:Int}{i' k:Int}{w':List Int}{t:aB}{v:List lu}(h:fE c e s k=some (t,v,0)) :
  jv c e (i,mT s (w,seed)) i' k w'=some (.inl (i',mT t (w',seed))):=by
 show(fE c e s k).bind _=_;rw[h];rfl
theorem ajG(p:bL)(k:Int)(l:List lu)(m:B7){R:Type}(K:B7->Option R)(h1:m.1.length<=1000)(h2:m.2.1.length<=1000)(h3:m.2.2.1.length<=1000) :
  ∃m':B7,sW p k l m K=K m'/\m'.2.2.2=m.2.2.2/\m'.1.length=m.1.length+(if 1<p.2.2.2.length then 1 else 0)/\m'.2.1.length<=m.2.1.length+1/\m'.2.2.1.length<=m.2.2.1.length+1:=by
 have key:∀mv:List (bL×Int),∃m':B7,(bif decide ((0:Int)<=p.2.1)then
   ah (aP m.2.1.length ([p.2.1]:List Int).length 8) (
    ah (aP m.2.2.1.length ([l]:List (List (Int×Int×Bool))).length 24) (K (mv,m.2.1++[p.2.1],m.2.2.1++[l],m.2.2.2)))
  else K (mv,m.2.1,m.2.2.1,m.2.2.2))=K m'/\m'.2.2.2=m.2.2.2/\m'.1=mv/\m'.2.1.length<=m.2.1.length+1/\m'.2.2.1.length<=m.2.2.1.length+1:=λmv=>by
  cases decide ((0:Int)<=p.2.1)
  ·exact⟨(mv,m.2.1,m.2.2.1,m.2.2.2),rfl,rfl,rfl,by dsimp only;omega,by dsimp only;omega⟩
  ·refine⟨(mv,m.2.1++[p.2.1],m.2.2.1++[l],m.2.2.2),?_,rfl,rfl,by dsimp only;rw[ZD];exact Z0 _,by dsimp only;rw[ZD];exact Z0 _⟩;rw[Ze,aal,aal,bO (by omega) (by omega),bO (by omega) (by omega)];rfl
 unfold sW;dsimp only;by_cases hp:1<p.2.2.2.length
 ·obtain⟨m',a1,a2,a3,a4,a5⟩:=key (m.1++[(p,k)]);refine⟨m',?_,a2,by rw[a3,if_pos hp,ZD];rfl,a4,a5⟩;rw[ax (show(1:Int)<(p.2.2.2.length:Int)by omega),Ze,aal,bO (by omega) (by omega)];exact a1
 ·obtain⟨m',a1,a2,a3,a4,a5⟩:=key m.1;refine⟨m',?_,a2,by rw[a3,if_neg hp];rfl,a4,a5⟩;rw[aQ (show¬(1:Int)<(p.2.2.2.length:Int)by omega),Zr];exact a1
theorem J1(c:CC)(e:bM)(i:Int)(s s0:aB)(b:Bn):li c e (i,mT s (mT s0 b)) =
  ah (aP b.2.1.length ([s]:List aI).length 200) (
   bif decide (aU s<0)then
    (fh c e s).bind λr1=>
    bif r1.2 != (0:Int)then sS c s r1.2 (b.2.1++[s]) b.2.2.2.2.2.2.2.2.2
    else
     bif decide ((1:Int)<(r1.1.2.2.2.length:Int))then
      (oJ b.2.2.2.2.2.2.2.2.2.2.2.2.2 i).bind λk=>jV c e s (b.2.1++[s]) b (ac (i+(1:Int))) k r1.1
     else jV c e s (b.2.1++[s]) b i 0 r1.1
   else(nP c s (b.2.1++[s]) b.2.2.2.2.2.2.2.2.2).map Sum.inr):=rfl
theorem KS{c:CC}{e:bM}{s:aB}{out:List aB}{b:Bn}{i k:Int}{p:bL}{t:aB}{v:List lu}(h:fE c e s k=some (t,v,0))(h1:b.2.2.2.2.2.2.2.2.2.1.length<=1000)(h2:b.2.2.2.2.2.2.2.2.2.2.1.length<=1000)(h3:b.2.2.2.2.2.2.2.2.2.2.2.1.length<=1000) :
  ∃b':Bn,jV c e s out b i k p=some (.inl (i,mT t (mT s b')))/\b'.2.1=out/\b'.2.2.2.2.2.2.2.2.2.2.2.2.2=b.2.2.2.2.2.2.2.2.2.2.2.2.2/\b'.2.2.2.2.2.2.2.2.2.1.length=b.2.2.2.2.2.2.2.2.2.1.length+(if 1<p.2.2.2.length then 1 else 0) /\
   b'.2.2.2.2.2.2.2.2.2.2.1.length<=b.2.2.2.2.2.2.2.2.2.2.1.length+1/\b'.2.2.2.2.2.2.2.2.2.2.2.1.length<=b.2.2.2.2.2.2.2.2.2.2.2.1.length+1:=by
 obtain⟨m',m1,m2,m3,m4,m5⟩:=ajG p k v b.2.2.2.2.2.2.2.2.2 (λm=>some (Sum.inl (i,mT t (mT s (0,out,b.2.2.1,b.2.2.2.1,b.2.2.2.2.1,b.2.2.2.2.2.1,b.2.2.2.2.2.2.1,b.2.2.2.2.2.2.2.1,b.2.2.2.2.2.2.2.2.1,m)))):B7->Option ((Int×wd (wd Bn))⊕WS)) h1 h2 h3;refine⟨(0,out,b.2.2.1,b.2.2.2.1,b.2.2.2.2.1,b.2.2.2.2.2.1,b.2.2.2.2.2.2.1,b.2.2.2.2.2.2.2.1,b.2.2.2.2.2.2.2.2.1,m'),?_,rfl,by show m'.2.2.2.2=_;rw[m2],m3,m4,m5⟩;unfold jV;rw[h,f8];simp only[aaH,Zr];exact m1
theorem GO{c:CC}(hk:CodeOk c){s:aB}(hs:OnRun c s)(hcl:c.2.2.2.1.length+c.2.2.2.2.2.2.1.length<20)(ho:¬aU s<0){e:bM}{i:Int}{s0:aB}{b:Bn}
  (hW:b.2.2.2.2.2.2.2.2.2.2.2.2.2.length<=b.2.2.2.2.2.2.2.2.2.1.length) (h1:b.2.1.length<=1000) (h2:b.2.2.2.2.2.2.2.2.2.1.length<=1000):∃R,li c e (i,mT s (mT s0 b))=some (.inr (b.2.1++[s],R,0)):=by
 obtain⟨L,hLf⟩:=alD hk hs hcl;obtain⟨wt,w1,w2⟩:=ajn b.2.2.2.2.2.2.2.2.2.2.2.2.2 (by omega);have e1:li c e (i,mT s (mT s0 b))=(nP c s (b.2.1++[s]) b.2.2.2.2.2.2.2.2.2).map Sum.inr:=by rw[J1,aQ ho,aal,bO (by omega) (by omega)];rfl
 rw[e1];unfold nP;rw[w1,f8,aQ (by omega),Zr,hLf,f8];exact⟨_,rfl⟩
theorem adb{c:CC}(hk:CodeOk c)(hC:InC c)(hcl:c.2.2.2.1.length+c.2.2.2.2.2.2.1.length<20){e:bM}(he:iD e){seed:Int}(hsd:br seed):∀(N:Nat) (s:aB),N<=200->OnRun c s->InS s->(aU s<0->rH s<=N) ->
  ∃ (v:List Int) (l:List aB),v.length+1<=l.length/\l.length<=N+2/\l[0]?=some s/\(∀t:aB,l[l.length-1]?=some t->¬aU t<0)/\(∀t∈l,OnRun c t/\InS t)/\(∀i t u,l[i]?=some t->l[i+1]?=some u->IV c e seed t u) /\
   (∀w:List Int,w.length+N<=500->Leads (ot c e) l.length ((w.length:Int),mT s (w,seed)) (w++v,0)) /\
   (∀(P:List Int) (s0:aB) (b:Bn),b.2.2.2.2.2.2.2.2.2.2.2.2.2=P++v->P.length+N<=500->b.2.1.length+N<=500->b.2.2.2.2.2.2.2.2.2.1.length=P.length->b.2.2.2.2.2.2.2.2.2.2.1.length+N<=500->b.2.2.2.2.2.2.2.2.2.2.2.1.length+N<=500 ->
    ∃R,Leads (li c e) l.length ((P.length:Int),mT s (mT s0 b)) (b.2.1++l,R,0)):=by
 intro N;induction N with
 |zero=>
  intro s hN hs hI hL;by_cases ho:aU s<0
  ·have h1:=(hs.i.v ho).2.1;have h2:=hL ho;unfold rH at h2;omega
  refine⟨[],[s],by simp,by simp,rfl,λt ht=>by injection ht with ht;subst ht;exact ho,λt ht=>by rcases ZK.1 ht with rfl;exact⟨hs,hI⟩,λi t u _ h=>by simp at h,λw hw=>?_,λP s0 b hb hP hb1 hb2 hb3 hb4=>?_⟩
  ·refine .stop ?_;rw[vE,aQ ho,Z2];rfl
  ·obtain⟨R,hR⟩:=GO hk hs hcl ho (e:=e) (i:=(P.length:Int)) (s0:=s0) (b:=b) (by rw[hb,hb2,Z2];omega) (by omega) (by rw[hb2];omega);exact⟨R,.stop hR⟩
 | succ N ih=>
  intro s hN hs hI hL;by_cases ho:aU s<0;rotate_left
  ·refine⟨[],[s],by simp,by simp,rfl,λt ht=>by injection ht with ht;subst ht;exact ho,λt ht=>by rcases ZK.1 ht with rfl;exact⟨hs,hI⟩,λi t u _ h=>by simp at h,λw hw=>?_,λP s0 b hb hP hb1 hb2 hb3 hb4=>?_⟩
   ·refine .stop ?_;rw[vE,aQ ho,Z2];rfl
   ·obtain⟨R,hR⟩:=GO hk hs hcl ho (e:=e) (i:=(P.length:Int)) (s0:=s0) (b:=b) (by rw[hb,hb2,Z2];omega) (by omega) (by rw[hb2];omega);exact⟨R,.stop hR⟩
  have hn:=ajl hk he hs.i ho;have hpos:=Ws hk.v e (CA hk he hs.i ho).2;obtain⟨k,k1,k2,k3,k4,k5⟩:=XB s (gW c e s) hsd;have hkl:0<=k/\k<((gW c e s).2.2.2.length:Int):=⟨k2,by omega⟩
  obtain⟨t,vv,d1,d2,d3,d4⟩:=apY hk he hs ho hkl;have hLs:=hL ho;obtain⟨v,l,a1,a2,a3,az,a4,a5,a6,a7⟩:=ih t (by omega) d2 (d4 hC hI ⟨by omega,by omega⟩) (λh=>by have:=d3 h;omega);generalize hp:gW c e s=p at *;have hst:IV c e seed s t:=⟨p,k,vv,hn,k1,d1⟩
  have hz:∀u:aB,(s::l)[(s::l).length-1]?=some u->¬aU u<0:=λu hu=>by rw[aaG,show l.length+1-1=(l.length-1)+1 by omega,afT]at hu;exact az u hu
  have hall:∀u∈s::l,OnRun c u/\InS u:=λu hu=>by
   rcases aaa.1 hu with rfl|hu
   ·exact⟨hs,hI⟩
   ·exact a4 u hu
  have hadj:∀i x u,(s::l)[i]?=some x->(s::l)[i+1]?=some u->IV c e seed x u:=λi x u hx hu=>by
   cases i with
   |zero=>
    rw[acM]at hx;rw[afT,a3]at hu;injection hx with hx;injection hu with hu;subst hx hu;exact hst
   |succ i=>
    rw[afT]at hx hu;exact a5 i x u hx hu
  by_cases hp1:1<p.2.2.2.length
  ·refine⟨k::v,s::l,by simp only[aaG];omega,by simp only[aaG];omega,rfl,hz,hall,hadj,λw hw=>?_,λP s0 b hb hP hb1 hb2 hb3 hb4=>?_⟩
   ·have hw1:(w++[k]).length=w.length+1:=by rw[ZD];rfl
    have h6:=a6 (w++[k]) (by rw[hw1];omega);rw[hw1,aaf]at h6;refine .step ?_ h6;have hx:ae (w++[k]) (w.length:Int)=some k:=aV (by rw[abV (by omega),aj8];rfl);rw[vE,ax ho,hn];simp only[Ze,f8,aaH,Zr,ax (show(1:Int)<(p.2.2.2.length:Int)by omega),k1,ah,aal,bO (m:=w.length) (k:=1) (b:=8) (by omega) (by omega),hx];rw[F7 d1,aD (by omega) (by omega)];push_cast;rfl
   ·obtain⟨b',b1,b2,b3,b4,b5,b6⟩:=KS (e:=e) (s:=s) (out:=b.2.1++[s]) (b:=b) (i:=ac ((P.length:Int)+1)) (p:=p) d1 (by omega) (by omega) (by omega);have hP1:(P++[k]).length=P.length+1:=by rw[ZD];rfl
    obtain⟨R,hR⟩:=a7 (P++[k]) s b' (by rw[b3,hb,aaf];rfl) (by rw[hP1];omega) (by rw[b2,ZD,aal];omega) (by rw[b4,if_pos hp1,hP1];omega) (by omega) (by omega);rw[hP1,b2,aaf]at hR;refine⟨R,.step ?_ hR⟩;have hx:oJ b.2.2.2.2.2.2.2.2.2.2.2.2.2 (P.length:Int)=some k:=by have hx':ae (P++k::v) (P.length:Int)=some k:=aV (by rw[abV (by omega),aj8];rfl);unfold oJ;rw[hb,ax (by rw[ZD,aaG];omega),hx'];rfl
    rw[J1,ax ho,hn];simp only[Ze,f8,aaH,Zr,ax (show(1:Int)<(p.2.2.2.length:Int)by omega),ah,aal,bO (m:=b.2.1.length) (k:=1) (b:=200) (by omega) (by omega),hx];rw[b1,aD (by omega) (by omega)];push_cast;rfl
  ·have hk0:k=0:=k5 (by omega);subst hk0;refine⟨v,s::l,by simp only[aaG];omega,by simp only[aaG];omega,rfl,hz,hall,hadj,λw hw=>?_,λP s0 b hb hP hb1 hb2 hb3 hb4=>?_⟩
   ·refine .step ?_ (a6 w (by omega));rw[vE,ax ho,hn];simp only[Ze,f8,aaH,Zr,aQ (show¬(1:Int)<(p.2.2.2.length:Int)by omega)];exact F7 d1
   ·obtain⟨b',b1,b2,b3,b4,b5,b6⟩:=KS (e:=e) (s:=s) (out:=b.2.1++[s]) (b:=b) (i:=(P.length:Int)) (p:=p) d1 (by omega) (by omega) (by omega);obtain⟨R,hR⟩:=a7 P s b' (by rw[b3,hb]) (by omega) (by rw[b2,ZD,aal];omega) (by rw[b4,if_neg hp1,hb2,abj]) (by omega) (by omega);rw[b2,aaf]at hR;refine⟨R,.step ?_ hR⟩;rw[J1,ax ho,hn];simp only[Ze,f8,aaH,Zr,aQ (show¬(1:Int)<(p.2.2.2.length:Int)by omega),ah,aal,bO (m:=b.2.1.length) (k:=1) (b:=200) (by omega) (by omega)];exact b1
structure HonestL(c:CC)(e:bM)(seed:Int)(l:List aB)(ds:List (List Int)):Prop where
 n:1<=l.length/\l.length<=200
 s:l[0]?=some (fG c e [])
 r:∀t∈l,OnRun c t/\EncS t
 z:∀t:aB,l[l.length-1]?=some t->¬aU t<0
 w:∀(i:Nat) (t u:aB),l[i]?=some t->l[i+1]?=some u->IV c e seed t u
 dn:ds.length=l.length
 d:∀(i:Nat) (t:aB),l[i]?=some t->∃v,cS t=some v/\ds[i]?=some v
theorem YE{c:CC}(hg:GoodC c){a:lF}(he:iD a.2.2.1)(hsd:br a.2.2.2) :
  ∃l ds res,pA c a=some (res,l,0)/\nT c a=some (ds,l,0)/\HonestL c a.2.2.1 a.2.2.2 l ds:=by
 obtain⟨k,t,nn,hcl⟩:=hg;have hC:=aq0 k.v nn;obtain⟨s1,s2⟩:=Wx k.v a.2.2.1 [];obtain⟨s3,_⟩:=abm k.v hC he;have hst:=CG k he [] (by simp);obtain⟨v,l,a1,a2,a3,az,a4,a5,a6,a7⟩:=adb k hC hcl he hsd 129 (fG c a.2.2.1 []) (by omega) s1 s3 s2;have henc:∀t∈l,EncS t:=λu hu=>Xo k t (a4 u hu).1 (a4 u hu).2;have e1:rR c a.2.2.1 [] a.2.2.2=some (v,0):=by have h:=Md (a6 [] (by simp)) (by omega);unfold rR;rw[hst,f8];simp only[aaH,Zr];exact h
 obtain⟨R,hR⟩:=a7 [] (fG c a.2.2.1 []) (0,[],0,[],0,0,0,0,[],[],[],[],[],v) rfl (by simp) (by simp) rfl (by simp) (by simp);have e2:uF c a.2.2.1 [] v=some (l,R,0):=by have h:=Md hR (by omega);unfold uF;rw[hst,f8];simp only[aaH,Zr];rw[aQ (by omega),Zr];exact h
 obtain⟨rt,hrt⟩:=alV (l:=l) (by omega) (by omega) henc;have e3:∃r2,vM c a.2.2.1 [] v=some (r2,0):=by unfold vM;rw[e2,f8];simp only[aaH,Zr,hrt,f8];exact⟨_,rfl⟩
 obtain⟨r2,e3⟩:=e3;have e4:rP c a.2.2.1 [] v=some (l,0):=by unfold rP;rw[e2];rfl
 have e5:pA c a=some (r2.1,l,0):=by unfold pA;rw[e1,f8];simp only[aaH,Zr,e3,e4,f8]
 obtain⟨ds,b1,b2,b3⟩:=fj (f:=lM (r2.1,l,0)) (λz=>l.length-z.1.toNat) (λz=>∃i:Nat,z.1=(i:Int)/\i<=l.length/\z.2.length=i/\∀j t,j<i->l[j]?=some t->∃v,cS t=some v/\z.2[j]?=some v) (λr=>r.length=l.length/\∀j t,l[j]?=some t->∃v,cS t=some v/\r[j]?=some v)
  (λz hz=>by
   obtain⟨y,q⟩:=z;obtain⟨i,rfl,hi,hq,hj⟩:=hz;dsimp only at hq hj|-;unfold lM;by_cases hlt:i<l.length
   ·right;have hx:=aV (ZB hlt);obtain⟨d,hd⟩:=F5 (henc l[i] (aek _));simp only[ax (show(i:Int)<(l.length:Int)by omega),Ze,hx,f8,hd,ah,aal,bO (m:=q.length) (k:=1) (b:=16) (by omega) (by omega)];refine⟨_,rfl,⟨i+1,by dsimp only;rw[aD (by omega) (by omega)];push_cast;rfl,by omega,by dsimp only;rw[ZD,hq];rfl,λj t hj' ht=>?_⟩,by dsimp only;rw[aD (by omega) (by omega)];omega⟩;dsimp only;by_cases hji:j<i
    ·obtain⟨d',d1,d2⟩:=hj j t hji ht;exact⟨d',d1,by rw[adv (by omega)];exact d2⟩
    ·have:j=i:=by omega
     subst this;rw[ZB hlt]at ht;injection ht with ht;subst ht;exact⟨d,hd,by rw[abV (by omega),hq,aj8];rfl⟩
   ·left;rw[aQ (by dsimp only;omega)];exact⟨q,rfl,by omega,λj t ht=>hj j t (by have:=dl ht;omega) ht⟩) (s:=(0,[])) ⟨0,rfl,by omega,rfl,λj t hj=>by omega⟩ (by dsimp only;omega)
 refine⟨l,ds,r2.1,e5,?_,⟨⟨by omega,by omega⟩,a3,λt ht=>⟨(a4 t ht).1,henc t ht⟩,az,a5,b2,b3⟩⟩;unfold nT;rw[e5,f8];simp only[aaH,Zr];refine(aae (λo:Option (List (List Int))=>o.bind _) b1).trans ?_;rfl
abbrev Cl:Type:=List (List Int)
theorem DC{α:Type}{a:List α}{i:Int}(h0:0<=i)(h1:i<a.length):∃v,ae a i=some v:=
 ⟨a[i.toNat]'(by omega),by
  have:=aV (xs:=a) (i:=i.toNat) (ZB (by omega));rwa [ajL h0]at this⟩
theorem nX{α:Type}{a:List α}{i:Int}(h:i<0\/(a.length:Int)<=i):ae a i=none:=by
 unfold ae;split
 ·exact List.getElem?_eq_none (by omega)
 ·rfl
def jM:Option (List Int)->Option (List Int)->Bool
 |some a,some b=>kV 16 a b
 |none,none=>true
 |_,_=>false
def ip(a b:Cl)(i:Int):Bool:=jM (ae a i) (ae b i)
def oC(a b:Cl)(i:Int):Bool:=(ae a i).isSome&&ip a b i
theorem C6(n:Nat)(x:List Int):kV n x x=true:=by simp[kV]
theorem adR(n:Nat)(x y:List Int):kV n x y=kV n y x:=by unfold kV;rw[Bool.eq_iff_iff];simp only[Zy,ajk];exact⟨λh i hi=>(h i hi).symm,λh i hi=>(h i hi).symm⟩
theorem yI(x:Option (List Int)):jM x x=true:=by cases x<;>simp[jM,C6]
theorem Eg(x y:Option (List Int)):jM x y=jM y x:=by cases x<;>cases y<;>simp[jM,adR]
theorem uk(a:Cl)(i:Int):bC a i=some (ae a i):=by
 unfold bC;by_cases h0:i<0
 ·rw[ax h0,nX (.inl h0)];rfl
 ·by_cases h1:(a.length:Int)<=i
  ·rw[aQ h0,ax h1,nX (.inr h1)];rfl
  ·obtain⟨v,hv⟩:=DC (a:=a) (i:=i) (by omega) (by omega);rw[aQ h0,aQ h1,hv];rfl
theorem uM(x y:Option (List Int)):eF x y=some (jM x y):=by cases x<;>cases y<;>rfl
theorem LR(a b:Cl)(i:Int):jY a b i=some (oC a b i):=by
 unfold jY oC ip;rw[uk,uk];simp only[f8];cases h:ae a i with
 |none=>rfl
 |some v=>
  show((some (some v)).bind λr2=>(some (ae b i)).bind λr3=>(eF r2 r3).bind λr4=>some r4)=_;simp only[f8,uM];rfl
theorem TN(a:Cl)(i:Int):iT a i=some ((ae a i).getD (List.replicate 16 0),(ae a i).isSome):=by
 unfold iT;by_cases h0:i<0
 ·rw[ax h0,nX (.inl h0)];rfl
 ·by_cases h1:(a.length:Int)<=i
  ·rw[aQ h0,ax h1,nX (.inr h1)];rfl
  ·obtain⟨v,hv⟩:=DC (a:=a) (i:=i) (by omega) (by omega);rw[aQ h0,aQ h1,hv];rfl
theorem T0(a b:Cl)(i:Int):kW a b i=some (ip a b i):=by unfold kW ip;simp only[TN,f8];cases ae a i<;>cases ae b i<;>simp[jM,C6]
theorem yw{a b:Cl}{i:Int}(h:i<0\/((a.length:Int)<=i/\(b.length:Int)<=i)):ip a b i=true:=by unfold ip;rw[nX (a:=a) (by omega),nX (a:=b) (by omega)];rfl
theorem Fk{a b:Cl}{i:Int}(h:ip a b i=false):0<=i/\(i<a.length\/i<b.length):=by
 rcases ac5 i 0 with h0|h0
 ·rw[yw (.inl h0)]at h;cases h
 ·refine⟨h0,?_⟩;rcases ac5 i a.length with h1|h1
  ·exact .inl h1
  ·rcases ac5 i b.length with h2|h2
   ·exact .inr h2
   ·rw[yw (.inr ⟨h1,h2⟩)]at h;cases h
theorem aam{a b:Cl}{i:Int}(h:oC a b i=true):0<=i/\i<a.length/\ip a b i=true:=by
 unfold oC at h;simp only[Y5]at h;rcases ac5 i 0 with h0|h0
 ·rw[nX (a:=a) (.inl h0)]at h;cases h.1
 ·rcases ac5 i a.length with h1|h1
  ·exact⟨h0,h1,h.2⟩
  ·rw[nX (a:=a) (.inr h1)]at h;cases h.1
theorem abo{a b:Cl}{m h:Int}(hm:0<=m)(hlt:m<h)(hd:ip a b h=false)(hs:oC a b m=false):ip a b m=false:=by
 cases hx:ae a m with
 |some v=>simpa[oC,hx]using hs
 | none=>
  have ha:(a.length:Int)<=m:=by
   rcases ac5 m a.length with h1|h1
   ·obtain⟨v,hv⟩:=DC hm h1;rw[hv]at hx;cases hx
   ·exact h1
  have:=(Fk hd).2;obtain⟨v,hv⟩:=DC (a:=b) hm (by omega);simp[ip,hx,hv,jM]
structure Gam(a b:Cl)(g:Int×Int×List Int):Prop where
 lo : -1<=g.1
 hi:g.1<g.2.1
 df:ip a b g.2.1=false
 sh:g.1 = -1\/oC a b g.1=true
 n:(g.2.2.length:Int)+(g.2.1-g.1)<=1100
theorem Lo{a b:Cl}(ha:a.length<=1000)(hb:b.length<=1000):mV a b=some false:=by unfold mV;rw[aQ (by split<;>omega)]
theorem ZE{a b:Cl}(ha:a.length<=1000)(hb:b.length<=1000):(jS a b=some ((0,0,[]),6)/\∀i:Int,ip a b i=true)\/∃g,jS a b=some (g,0)/\Gam a b g:=by
 have em:(if(b.length:Int)>(a.length:Int)then(b.length:Int)else(a.length:Int))=((max a.length b.length:Nat):Int):=by split<;>omega
 obtain⟨r,h1,h2⟩:=fj (f:=mL a b) (λz=>(z+1).toNat) (λz=>∃n:Nat,z=(n:Int)-1/\n<=1000/\∀i:Int,(n:Int)<=i->ip a b i=true) (λr=>match r with|.inl _=>∀i:Int,ip a b i=true|.inr x=>x.2=0/\Gam a b x.1)
  (λz hz=>by
   obtain⟨n,rfl,hn,hs⟩:=hz;unfold mL;cases n with
   |zero=>
    left;rw[aQ (by omega)];refine⟨.inl (),rfl,λi=>?_⟩;rcases ac5 i 0 with h|h
    ·exact yw (.inl h)
    ·exact hs i (by omega)
   | succ n=>
    have e:((n+1:Nat):Int)-1=(n:Int):=by omega
    rw[e,ax (by omega)];simp only[Ze,uk,f8,uM];have e2:jM (ae a (n:Int)) (ae b (n:Int))=ip a b n:=rfl;rw[e2];cases hc:ip a b n
    ·left;exact⟨.inr ((-1,(n:Int),[]),0),rfl,rfl,⟨acH _,by dsimp only;omega,hc,.inl rfl,by dsimp only;simp;omega⟩⟩
    ·right;refine⟨ac ((n:Int)-1),rfl,⟨n,aD (by omega) (by omega),by omega,λi hi=>?_⟩,by rw[aD (by omega) (by omega)];omega⟩;by_cases he:i=n
     ·rw[he];exact hc
     ·exact hs i (by omega)) (s:=((max a.length b.length:Nat):Int)-1) ⟨max a.length b.length,rfl,by omega,λi hi=>yw (.inr ⟨by omega,by omega⟩)⟩ (by omega)
 unfold jS;rw[Lo ha hb,em,aD (by omega) (by omega)];simp only[f8,Zr];rw[h1,f8];cases r with
 |inl _=>exact .inl ⟨rfl,h2⟩
 |inr x=>
  obtain⟨g,y⟩:=x;obtain⟨rfl,h2⟩:=h2;exact .inr ⟨g,rfl,h2⟩
theorem adr{a b:Cl}(ha:a.length<=1000)(hb:b.length<=1000){g:Int×Int×List Int}(h:Gam a b g) :
  (gJ g a b=some ((0,0,[]),8)/\g.2.1=g.1+1)\/∃g',gJ g a b=some (g',0)/\Gam a b g'/\g'.2.1-g'.1<g.2.1-g.1:=by
 obtain⟨g1,g2,q⟩:=g;obtain⟨h1,h2,h3,h4,h5⟩:=h;dsimp only at h1 h2 h3 h4 h5;have hb2:=Fk h3;have r2:(bif(!(decide (g1<(-1:Int))))&&(decide ((0:Int)<=g1))then jY a b g1 else some false)=some (decide (0<=g1)):=by
  rw[aQ (by omega),aaX,Bool.true_and];by_cases h0:0<=g1
  ·rw[ax h0,Ze,LR,h4.resolve_left (by omega)]
  ·rw[aQ h0];rfl
 have c0:(bif bif decide (g1<(-1:Int))then true else bif decide ((0:Int)<=g1)then !(decide (0<=g1))else false then true else decide (g2<=g1))=false:=by rw[aQ (by omega),aQ (show¬g2<=g1 by omega)];cases decide ((0:Int)<=g1)<;>rfl
 unfold gJ;dsimp only;rw[Lo ha hb];simp only[f8,Zr];rw[r2];simp only[f8,c0,aaX,Ze,uk,uM];have e2:jM (ae a g2) (ae b g2)=false:=h3;simp only[e2,Zr];by_cases hn:g2=g1+1
 ·left;refine⟨?_,hn⟩;rw[aD (by omega) (by omega),bt hn];rfl
 ·right;have e4:(g2-g1).tdiv 2=(g2-g1) / 2:=ajJ (by omega);have em:ac (g1+(ac (Int.tdiv (ac (g2-g1)) (2:Int))))=g1+(g2-g1) / 2:=by
   rw[aD (x:=g2-g1) (by omega) (by omega),e4,aD (x:=(g2-g1) / 2) (by omega) (by omega),aD (by omega) (by omega)]
  rw[aD (x:=g1+1) (by omega) (by omega),bf hn,em,kp (by omega)];generalize hm:g1+(g2-g1) / 2=m;simp only[Zr,ah,show(!((2:Int)==0))=true from rfl,Ze,f8,aal,bO (m:=q.length) (k:=1) (b:=8) (by omega) (by omega),LR];have hq:((q++[m]).length:Int)=(q.length:Int)+1:=by rw[ZD];rfl
  cases hs:oC a b m
  ·exact⟨_,rfl,⟨h1,by dsimp only;omega,abo (m:=m) (h:=g2) (by omega) (by omega) h3 hs,h4,by dsimp only;rw[hq];omega⟩,by dsimp only;omega⟩
  ·exact⟨_,rfl,⟨by dsimp only;omega,by dsimp only;omega,h3,.inr hs,by dsimp only;rw[hq];omega⟩,by dsimp only;omega⟩
theorem Zd{a b:Cl}(ha:a.length<=1000)(hb:b.length<=1000):(gL a b=some (0,0,6)/\∀i:Int,ip a b i=true) \/
  ∃k n,gL a b=some (k,n,0)/\-1<=k/\(k = -1\/oC a b k=true)/\ip a b (k+1)=false:=by
 unfold gL;rcases ZE ha hb with⟨h1,h2⟩|⟨g,h1,h2⟩
 ·left;rw[h1];exact⟨rfl,h2⟩
 ·right;obtain⟨r,r1,r2,r3,r4,r5⟩:=fj (f:=mG a b) (λg=>(g.2.1-g.1).toNat) (λg=>Gam a b g) (λr=>r.2.2=0/\-1<=r.1/\(r.1 = -1\/oC a b r.1=true)/\ip a b (r.1+1)=false)
   (λg hg=>by
    unfold mG;rcases adr ha hb hg with⟨e1,e2⟩|⟨g',e1,e2,e3⟩
    ·left;rw[e1];exact⟨_,rfl,rfl,hg.lo,hg.sh,by rw[<-e2];exact hg.df⟩
    ·right;rw[e1];have:=e2.hi;exact⟨g',rfl,e2,by omega⟩) h2 (by have:=h2.n;omega)
  obtain⟨k,n,z⟩:=r;dsimp only at r2;subst r2;refine⟨k,n,?_,r3,r4,r5⟩;rw[h1];exact r1
theorem ac8{a b:Cl}(ha:a.length<=1000)(hb:b.length<=1000)(h:∀i:Int,ip a b i=true):kw a b=some true:=by
 have h1:Itr.it (gy a b) 0=some (.inl ()):=
  eh (f:=gy a b) (λz=>1000-z.toNat) (λ_=>.inl ()) (λz=>∃i:Nat,z=(i:Int)/\i<=1000)
   (λz hz=>by
    obtain⟨i,rfl,hi⟩:=hz;unfold gy;rw[x9];by_cases hlt:(i:Int)<(a.length:Int)\/(i:Int)<(b.length:Int)
    ·right;rw[ax hlt,T0,h];refine⟨ac ((i:Int)+1),rfl,⟨i+1,by rw[aD (by omega) (by omega)];push_cast;rfl,by omega⟩,by rw[aD (by omega) (by omega)];omega,rfl⟩
    ·left;rw[aQ hlt];rfl) (s:=0) ⟨0,rfl,by omega⟩ (by omega)
 unfold kw;rw[h1];rfl
theorem W5{c:CC}(hk:CodeOk c){e:bM}(he:iD e){s:aB}(h:OnRun c s)(ho:¬aU s<0):fh c e s=some ((0,0,0,[]),8):=by
 have hv:=A0 hk h;obtain⟨b,b1,b3⟩:=Db e;have ho':(0:Int)<=s.2.2.2.2.2.2.2.2.2.1:=by have:aU s=s.2.2.2.2.2.2.2.2.2.1:=rfl;omega
 have hr:fT c e s=some 8:=by unfold fT;rw[hv];simp only[f8,aaH,Zr,b1,b3.2 he,acF,ax ho',Ze]
 unfold fh;rw[hr];rfl
theorem ae3{c:CC}(hk:CodeOk c){a:lF}(he:iD a.2.2.1){l:List aB}{ds:Cl}(H:HonestL c a.2.2.1 a.2.2.2 l ds){s:aB}{k:Int}(h1 : -1<=k)(hs:0<=k->l[k.toNat]?=some s):oN c a s k=some (ae ds (k+1)):=by
 unfold oN;have hdn:=H.dn;by_cases h0:k<0
 ·have:k = -1:=by omega
  subst this;obtain⟨d,d1,d2⟩:=H.d 0 _ H.s;rw[ax h0,Ze,CG hk he [] (by simp)];simp only[f8,d1];rw[show(-1:Int)+1=((0:Nat):Int)by omega,aV d2]
 ·obtain⟨n,rfl⟩:∃n:Nat,k=(n:Int):=⟨k.toNat,by omega⟩
  have hs:=hs (by omega);rw[ZH]at hs;have hn:=dl hs;rw[aQ h0,Zr];by_cases hl:n+1<l.length
  ·have hu:l[n+1]?=some l[n+1]:=ZB hl;obtain⟨p,j,v,w1,w2,w3⟩:=H.w n s l[n+1] hs hu;obtain⟨d,d1,d2⟩:=H.d (n+1) _ hu;rw[w1];simp only[f8,aaH,Zr,w2,w3,d1];rw[show(n:Int)+1=((n+1:Nat):Int)by push_cast;rfl,aV d2]
  ·have ho:=H.z s (by rw[show l.length-1=n by omega];exact hs);rw[W5 hk he (H.r s (aa2 hs)).1 ho,nX (.inr (by omega))];rfl
theorem KA{c:CC}(hk:CodeOk c){a:lF}(he:iD a.2.2.1){l:List aB}{ds:Cl}(H:HonestL c a.2.2.1 a.2.2.2 l ds){s:aB}{k:Int}(h1 : -1<=k)(h2:k<=998)(hs:0<=k->l[k.toNat]?=some s){x y:Cl}
  (hx:0<=k->jM (ae x k) (ae ds k)=true) (hy:0<=k->jM (ae y k) (ae ds k)=true) :
  iN c a s k x y=some ([jM (ae x (k+1)) (ae ds (k+1)),jM (ae y (k+1)) (ae ds (k+1))],0):=by
 unfold iN;rw[CG hk he [] (by simp)];simp only[f8,aaH,Zr,aQ (show¬k < -1 by omega),aQ (show¬(998:Int)<k by omega)]
 have e:(bif decide ((0:Int)<=k)then
     (fw c s).bind λr3=>
     bif r3 != (0:Int)then
      some (Sum.inr ((List.replicate 2 false),r3))
     else
      (cS s).bind λr4=>
      (bC x k).bind λr5=>
      (eF r5 (some r4)).bind λr6=>
      (bif !(!r6)then bC y k else some (none:Option (List Int))).bind λr7=>
      (bif !(!r6)then eF r7 (some r4)else some false).bind λr8=>
      bif bif !r6 then true else !r8 then
       some (Sum.inr ((List.replicate 2 false),9))
      else
       some (Sum.inl ())
    else
     some (Sum.inl ()):Option (Unit⊕((List Bool)×Int)))=some (.inl ()):=by
  by_cases h0:0<=k
  ·have hs:=hs h0;have hx:=hx h0;have hy:=hy h0;obtain⟨n,rfl⟩:∃n:Nat,k=(n:Int):=⟨k.toNat,by omega⟩
   rw[ZH]at hs;obtain⟨d,d1,d2⟩:=H.d n s hs;rw[aV d2]at hx hy;rw[ax h0,A0 hk (H.r s (aa2 hs)).1];simp only[Ze,f8,aaH,Zr,d1,uk,uM,hx,hy,acF,aaX]
  ·rw[aQ h0];rfl
 rw[e];simp only[f8];rw[ae3 hk he H h1 hs,aD (by omega) (by omega)];simp only[f8,uk,uM];rfl
theorem Fv{α:Type}{a:List α}{i:Int}(h0:0<=i)(h1:i<a.length):∃v,ae a i=some v:=
 ⟨a[i.toNat]'(by omega),by
  have:=aV (xs:=a) (i:=i.toNat) (ZB (by omega));rwa [ajL h0]at this⟩
theorem apJ{x:List (List Int)}(hx:x.length<=200)(by_:Int){k:Int}(h0:0<=k)(h1:k<x.length):∃r,Itr.it (gO x by_) (k,[]++x)=some r/\r.length<=300:=by
 refine fj (f:=gO x by_) (λz=>x.length-z.1.toNat) (λz=>∃i:Nat,z.1=(i:Int)/\i<=x.length/\z.2.length=x.length) (λr=>r.length<=300)
  (λz hz=>by
   obtain⟨a,l⟩:=z;obtain⟨i,rfl,hi,hl⟩:=hz;dsimp only at hl|-;unfold gO;rw[abx];by_cases hlt:i<x.length
   ·right;have e:=aV (ZB (show i<l.length by omega));simp only[ax (show(i:Int)<(x.length:Int)by omega),Ze,e,f8,ah,ax (show 0<=(0:Int)/\(0:Int)<16 by omega),show(!((200:Int)==0))=true from rfl];exact⟨_,rfl,⟨i+1,by dsimp only;rw[aD (by omega) (by omega)];push_cast;rfl,by omega,by dsimp only;rw[aa1];exact hl⟩,by dsimp only;rw[aD (by omega) (by omega)];omega⟩
   ·left;rw[aQ (by dsimp only;omega)];exact⟨l,rfl,by omega⟩) (s:=(k,[]++x)) ⟨k.toNat,by dsimp only;omega,by omega,rfl⟩ (by dsimp only;omega)
theorem ap4{x:List (List Int)}(hx:x.length<=200){by_:Int}(hb:br by_):∃r,Itr.it (gS by_) (0,[]++x)=some r/\r.length<=300:=by
 obtain⟨q,q1,q2,q3⟩:=py hb (n:=9) (by omega) (by omega);refine fj (f:=gS by_) (λz=>10-z.1.toNat) (λz=>∃i:Nat,z.1=(i:Int)/\i<=10/\z.2.length=x.length+i) (λr=>r.length<=300)
  (λz hz=>by
   obtain⟨a,l⟩:=z;obtain⟨i,rfl,hi,hl⟩:=hz;dsimp only at hl|-;unfold gS;rw[q1,f8,aD (x:=1+q) (by omega) (by omega)];by_cases hlt:(i:Int)<1+q
   ·right;simp only[ax hlt,Ze,ah,aal,bO (m:=l.length) (k:=1) (b:=16) (by omega) (by omega)];exact⟨_,rfl,⟨i+1,by dsimp only;rw[aD (by omega) (by omega)];push_cast;rfl,by omega,by dsimp only;rw[ZD,hl];rfl⟩,by dsimp only;rw[aD (by omega) (by omega)];omega⟩
   ·left;rw[aQ (by dsimp only;omega)];exact⟨l,rfl,by omega⟩) (s:=(0,[]++x)) ⟨0,rfl,by omega,rfl⟩ (by dsimp only;omega)
theorem aqt{x:List (List Int)}(hx:x.length<=200):∃r,Itr.it (gQ x) (0,[]++x)=some r/\r.length<=300:=by
 refine fj (f:=gQ x) (λz=>x.length+2-z.1.toNat) (λz=>∃i:Nat,z.1=(i:Int)/\i<=x.length+1/\z.2.length=x.length) (λr=>r.length<=300)
  (λz hz=>by
   obtain⟨a,l⟩:=z;obtain⟨i,rfl,hi,hl⟩:=hz;dsimp only at hl|-;unfold gQ;rw[abx];by_cases hlt:i<x.length
   ·right;have e:=aV (ZB (show i<l.length by omega));simp only[ax (show(i:Int)<(x.length:Int)by omega),Ze,e,f8,ah,ax (show 0<=(1:Int)/\(1:Int)<16 by omega)];exact⟨_,rfl,⟨i+2,by dsimp only;rw[aD (by omega) (by omega)];push_cast;rfl,by omega,by dsimp only;rw[aa1];exact hl⟩,by dsimp only;rw[aD (by omega) (by omega)];omega⟩
   ·left;rw[aQ (by dsimp only;omega)];exact⟨l,rfl,by omega⟩) (s:=(0,[]++x)) ⟨0,rfl,by omega,rfl⟩ (by dsimp only;omega)
theorem amV{x:Int}(h:br x):br (ac (Int.tdiv x 16)):=iq _
theorem akE{x:List (List Int)}(h1:1<=x.length)(hx:x.length<=200){how by_:Int}(hh:br how)(hb:br by_):∃r,kZ x how by_=some r/\r.length<=1000:=by
 obtain⟨k,ek,k1,k2⟩:=py hb (n:=(x.length:Int)) (by omega) (by omega);obtain⟨c,ec,c1,c2⟩:=py hh (n:=7) (by omega) (by omega);have hnil:(([]:List (List Int))++x)=x:=abx x;have hv:=Fv (a:=x) k1 k2;have key:∃r,mg how x by_ k=some r/\r.length<=1000:=by
  unfold mg;rw[ec];simp only[f8];have es:(bif c==(0:Int)then some (c==(0:Int))else some (c==(1:Int)):Option Bool)=some (decide (c=0\/c=1)):=by
   by_cases h:c=0
   ·simp[h]
   ·have:(c==0)=false:=by simpa using h
    rw[this];by_cases h1:c=1<;>simp[h1,h]
  rw[es,f8];by_cases h01:c=0\/c=1
  ·rw[ax h01,Ze];obtain⟨r,r1,r2⟩:=apJ hx by_ k1 k2;exact⟨r,r1,by omega⟩
  rw[aQ h01,Zr];by_cases e2:c=2
  ·obtain⟨q,q1,q2,q3⟩:=py (amV hb) (n:=16) (by omega) (by omega);obtain⟨v,hv⟩:=hv;rw[bt e2];simp only[hnil,Ze,ax (show(0:Int)<(x.length:Int)by omega),ah,show(!((16:Int)==0))=true from rfl,q1,hv,f8,ax (show 0<=q/\q<16 from⟨q2,q3⟩)];exact⟨_,rfl,by rw[aa1];omega⟩
  rw[bf e2,Zr];by_cases e3:c=3
  ·rw[bt e3];simp only[hnil,Ze];rw[tO (ad1 (by split<;>omega))];exact⟨_,rfl,by rw[acs];omega⟩
  rw[bf e3,Zr];by_cases e4:c=4
  ·rw[bt e4,Ze];obtain⟨r,r1,r2⟩:=ap4 hx hb;exact⟨r,r1,by omega⟩
  rw[bf e4,Zr];by_cases e5:c=5
  ·rw[bt e5];simp only[hnil,Ze];by_cases hl:1<x.length
   ·obtain⟨v,hv⟩:=hv;obtain⟨u,hu⟩:=Fv (a:=x) (i:=(x.length:Int)-1) (by omega) (by omega);obtain⟨w,hw⟩:=Fv (a:=x.set k.toNat u) (i:=(x.length:Int)-1) (by omega) (by rw[aa1];omega);rw[ax (show(1:Int)<(x.length:Int)by omega),aD (by omega) (by omega)];simp only[Ze,hv,hu,hw,f8];exact⟨_,rfl,by rw[aa1,aa1];omega⟩
   ·rw[aQ (by omega)];exact⟨x,rfl,by omega⟩
  rw[bf e5,Zr];obtain⟨r,r1,r2⟩:=aqt hx;exact⟨r,r1,by omega⟩
 obtain⟨r,r1,r2⟩:=key;refine⟨r,?_,r2⟩;unfold kZ;have em:(if(1:Int)>((([]:List (List Int))++x).length:Int)then(1:Int)else((([]:List (List Int))++x).length:Int))=(x.length:Int):=by rw[hnil];split<;>omega
 rw[em,ek,tO (bO (by simp;omega) (by omega))];simp only[f8,r1]
set_option maxRecDepth 100000 in
theorem alu:(match gf with|some b=>b|none=>false)=true:=by kernel_rfl
theorem C3:gf=some true:=by
 have h:=alu;cases hl:gf with
 |none=>rw[hl]at h;cases h
 |some b=>rw[hl]at h;exact aae some h
theorem OL{l:List aB}{ds:Cl}(res:lB)(i:Int){s:aB}{d:List Int}(hx:ae l i=some s)(hd:ae ds i=some d)(d1:cS s=some d)(hs:lk s s=some true)(hlt:i<l.length):cG (ds,l,0) (res,l,0) i=some (.inl (ac (i+1))):=by unfold cG;simp only[ax hlt,Ze,hx,f8,hs,acF,aaX];rw[hd,f8,f8,d1,f8,C6];rfl
theorem OY{c:CC}{e:bM}{seed:Int}{l:List aB}{ds:Cl}(H:HonestL c e seed l ds)(res:lB):Itr.it (cG (ds,l,0) (res,l,0)) 0=some (.inl ()):=
 eh (f:=cG (ds,l,0) (res,l,0)) (λz=>l.length-z.toNat) (λ_=>.inl ()) (λz=>∃i:Nat,z=(i:Int)/\i<=l.length)
  (λz hz=>by
   obtain⟨i,rfl,hi⟩:=hz;have hn:=H.n.2;by_cases hlt:i<l.length
   ·right;have hx:l[i]?=some l[i]:=ZB hlt;obtain⟨d,d1,d2⟩:=H.d i _ hx;have hs:lk l[i] l[i]=some true:=by rw[ao3 (H.r l[i] (aek _)).2,ahX rfl]
    exact⟨_,OL res i (aV hx) (aV d2) d1 hs (by omega),⟨i+1,by rw[aD (by omega) (by omega)];push_cast;rfl,by omega⟩,by rw[aD (by omega) (by omega)];omega,rfl⟩
   ·left;unfold cG;rw[aQ (by dsimp only;omega)];rfl) (s:=0) ⟨0,rfl,by omega⟩ (by have:=H.n.2;omega)
theorem OS{x0 x1 x2 x3 x4:Int}(h0:br x0)(h1:br x1)(h2:br x2)(h3:br x3)(h4:br x4):iQ x0 x1 x2 x3 x4=some true:=by
 obtain⟨c,c1,hg⟩:=O8 h0;obtain⟨e,e1,he⟩:=amv h1;have ea:l8 x1 x2=some ([],lE,e,x2):=by unfold l8;rw[e1];rfl
 obtain⟨l,ds,res,d1,d2,H⟩:=YE hg (a:=([],lE,e,x2)) he h2;have hn:=H.n;have hdn:=H.dn;obtain⟨o,o1,o2⟩:=akE (x:=ds) (by omega) (by omega) h3 h4;have hloop:=OY H res;unfold iQ;rw[c1,f8,ea,f8];dsimp only;rw[d2,f8,d1,f8];simp only[aaH,Zr];rw[nf (show(ds.length:Int)=(l.length:Int)by omega),bf (show¬(l.length:Int)=0 by omega)];simp only[Zr];refine(aae (λo:Option (Unit⊕Bool)=>o.bind _) hloop).trans ?_;rw[f8];dsimp only;rw[show gi ds=some ds from rfl,f8,o1,f8,show oU o=some o from rfl,f8];rcases Zd (a:=ds) (b:=o) (by omega) (by omega)with⟨p1,p2⟩|⟨k,n,p1,p2,p3,p4⟩
 ·rw[p1,f8,show gi o=some o from rfl];simp only[aat,Ze,f8,ac8 (a:=ds) (b:=o) (by omega) (by omega) p2,C3]
 ·have hk:=(Fk p4).2;have hsh:0<=k->k<(ds.length:Int)/\jM (ae o k) (ae ds k)=true:=λh=>by
   have:=aam (p3.resolve_left (by omega));exact⟨this.2.1,by rw[Eg];exact this.2.2⟩
  have hlt:k<(l.length:Int):=by
   by_cases h:0<=k
   ·have:=(hsh h).1;omega
   ·omega
  have r1:jM (ae ds (k+1)) (ae ds (k+1))=true:=yI _;have r2:jM (ae o (k+1)) (ae ds (k+1))=false:=by rw[Eg];exact p4
  have J:∀s:aB,(0<=k->l[k.toNat]?=some s)->iN c ([],lE,e,x2) s k ds o=some ([true,false],0)/\iN c ([],lE,e,x2) s k o ds=some ([false,true],0):=λs hs=>by
   constructor
   ·rw[KA hg.k he H p2 (by omega) hs (λ_=>yI _) (λh=>(hsh h).2),r1,r2]
   ·rw[KA hg.k he H p2 (by omega) hs (λh=>(hsh h).2) (λ_=>yI _),r1,r2]
  rw[p1,f8];simp only[show((0:Int)==6)=false from rfl,Zr,aaH,aQ (show¬k < -1 by omega),aQ (show¬(l.length:Int)<=k by omega)];by_cases h0:0<=k
  ·obtain⟨s,hs⟩:∃s,l[k.toNat]?=some s:=⟨l[k.toNat]'(by omega),ZB (by omega)⟩
   have hx:ae l k=some s:=by have:=aV hs;rwa [ajL h0]at this
   obtain⟨j1,j2⟩:=J s λ_=>hs;rw[ax h0];simp only[Ze,hx,f8];refine(aae (λo:Option (List Bool×Int)=>o.bind _) j1).trans ?_;rw[f8];refine(aae (λo:Option (List Bool×Int)=>o.bind _) j2).trans ?_;rw[f8,C3];rfl
  ·rw[aQ h0];simp only[Zr,f8];obtain⟨j1,j2⟩:=J ([],[],[],[],[],0,0,(0,0,0),0,0,0,[]) λh=>absurd h h0;refine(aae (λo:Option (List Bool×Int)=>o.bind _) j1).trans ?_;rw[f8];refine(aae (λo:Option (List Bool×Int)=>o.bind _) j2).trans ?_;rw[f8,C3];rfl
end Go.Proofs.YtgghcmbaidihjaaGreatDoor
