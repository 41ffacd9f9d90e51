/- Laws for the row. No condition. -/
import Derived.Test.YtgghcmbaidihjaaGreatDoorLawRC
namespace Go.Proofs.YtgghcmbaidihjaaGreatDoor
open Go.Sm
set_option linter.unusedVariables false
set_option maxRecDepth 4000
variable {b:Cl}
theorem arl:(match jq with|some b=>b|none=>false)=true:=by kernel_rfl
theorem OC:jq=some true:=by
 have h:=arl;split at h
 ·rename_i b a;rw[a,h]
 ·cases h
theorem BZ(c:b.length<=999):Itr.it (iI b) ([],0)=some (lvs b):=by
 unfold lvs;refine Ii (by omega) _ (λi x hi d=>?_) λx=>?_
 ·have a:b.getD i []=b[i]:=by rw[aee,acz hi];rfl
  unfold iI;rw[ax (show(i:Int)<(b.length:Int)by omega)];simp only[abv,aV (acz hi),f8,Qz2,(pP (i:=i) (by omega)).2.2,a,adC];rfl
 ·unfold iI;rw[aP (by dsimp only;omega)];rfl
def uB(b:Cl):List Int:=if b.length=0 then vQ 4 [d6 (gf 0)]else lh b
theorem acu(b:Cl):m6 (uB b)/\(uB b).length=16:=by unfold uB;split<;>exact⟨H0 _,DZ _⟩
theorem QX(c:b.length<=999):jX b=some (uB b,0):=by
 have d:mf (lvs b)=some (uB b,0):=by
  unfold uB;by_cases a:b.length=0
  ·have e:=fW b;have hi:bk 0:=⟨by omega,by omega⟩
   have h:=Al (ts:=[d6 (gf 0)]) (by simp) (λt g=>by rcases ade.1 g with rfl;have:=kH hi;rw[jn];omega) 4;have f:∀x,je 0 x=some (vQ 4 [d6 (gf 0)]):=λx=>by unfold je;simp only[aer,abv,tG hi,f8];exact(aei (λo:Option (List Int)=>o.bind _) h).trans rfl
   unfold mf;rw[BR (by omega),e,a,if_pos rfl];simp only[f8,aeA,ab7,f];rfl
  ·rw[if_neg a];exact Rr (by omega) (by omega)
 unfold jX;refine(aei (λo:Option (List dp)=>o.bind _) (BZ c)).trans ?_;rw[f8,d];rfl
theorem Tg:∀(n:Nat) (ls:List dp),ls.length=n->1<=n->(∀x∈ls,kL x)->∀t∈gR ls,t.length<=500001:=by
 intro n;induction n using Nat.strongRecOn with
 | _ n d=>
  intro ls f e hs t a;rw[gR]at a;split at a
  ·obtain⟨x,rfl⟩:=ajt.1 (show ls.length=1 by omega);rw[ade.1 a];have:=(ub 3 (qi (hs x (by simp)))).2;unfold tx;rw[jn];exact this
  ·have:=pW (n:=ls.length) (by omega);rcases aef.1 a with a|a
   ·rcases aef.1 a with a|a
    ·exact d (hf ls.length) (by omega) _ (by rw[afi];omega) (by omega) (λx c=>hs x (agT c)) t a
    ·exact d (ls.length-hf ls.length) (by omega) _ (by rw[agk]) (by omega) (λx c=>hs x (ag4 c)) t a
   ·rw[ade.1 a];have:=(ub 4 (se (tree (ls.take (hf ls.length))) (tree (ls.drop (hf ls.length))))).2;unfold tx;rw[jn];exact this
theorem Gj{ls:List dp}(c:1<=ls.length)(d:ls.length<=1000)(hs:∀x∈ls,kL x):(Ax ls).length<=2000/\∀t∈Ax ls,t.length<=500001:=by
 have:=xR ls.length ls rfl c;unfold Ax;refine⟨by simp only[acA,adC];omega,λt a=>?_⟩;rcases aef.1 a with a|a
 ·exact Tg ls.length ls rfl c hs t a
 ·rw[ade.1 a];have:=(ub 4 (zx (n:=ls.length) (jW (by omega)) (tree ls))).2;unfold tx;rw[jn];exact this
theorem aiC{s:List UInt8}(h:s.length<=500001):gH (List.map (λb=>(b.toNat:Int)) s)=some (dT s):=P6 (m:=cQ s) (Lo s) (by rw[yu];omega)
theorem ap7{A B:List (List UInt8)}(V:A.length<=2000/\∀t∈A,t.length<=500001)(W:B.length<=2000/\∀t∈B,t.length<=500001)(hc:aS A B)(d:List Int)(z Q:List (List Int)×Int×Bool) :
  Itr.it (gw (d,A,z) (B,Q)) ([],0)=some (.inr true):=by
 have Y:∀t∈A++B,t.length<=500001:=λt K=>(aef.1 K).elim (V.2 t) (W.2 t);have hl:(A++B).length<=4000:=by rw[acA];omega
 obtain⟨s,hs,t,K,J,he⟩:=hc;obtain⟨N,C,rfl⟩:=ahI hs;obtain⟨M,H,rfl⟩:=ahI K;have L:(A++B)[N]?=some A[N]:=by rw[aho C,acz C]
 have E:(A++B)[A.length+M]?=some B[M]:=by rw[afT (by omega),ai4,acz H]
 generalize o:A++B=X at *;let c (i k:Nat):Prop:=∃s t,X[i]?=some s/\X[k]?=some t/\s≠t/\dT s=dT t
 have x:c (A.length+M) N:=⟨_,_,E,L,J.symm,he.symm⟩
 have I:=cG E;obtain⟨r,U,G⟩:=fD (f:=gw (d,A,z) (B,Q)) (λq=>X.length-q.2.toNat) (λq=>∃i:Nat,q=((X.take i).map dT,(i:Int))/\i<=X.length/\∀a k,a<i->k<a->¬c a k) (λr=>r=.inr true\/∀a k,a<X.length->k<a->¬c a k)
  (λq hq=>by
   obtain⟨i,rfl,hi,D⟩:=hq;unfold gw;dsimp only;rw[ae4,o];by_cases y:i<X.length;rotate_left
   ·left;rw[aP (by omega)];exact⟨_,rfl,.inr λa k ha n=>D a k (by omega) n⟩
   have g:X[i]?=some X[i]:=acz y;have hm:=Y _ (agl y);have hd:(X.take i).map dT++[dT X[i]]=(X.take (i+1)).map dT:=by rw[List.take_add_one,g,afo];rfl
   have u:∀k,k<=i->∀v,X[k]?=some v->ae ((X.take (i+1)).map dT) (k:Int)=some (dT v):=λk n v hv=>aV (by rw[afX,List.getElem?_take_of_lt (by omega),hv];rfl);obtain⟨w,T,F⟩:=fD (f:=jT (d,A,z) (B,Q) ((X.take i).map dT,(i:Int)) (dT X[i])) (λk=>i-k.toNat) (λk=>∃q:Nat,k=(q:Int)/\q<=i/\∀a,a<q->¬c i a) (λw=>w=.inr (.inr (.inr true))\/w=.inl ((X.take (i+1)).map dT)/\∀a,a<i->¬c i a)
    (λk n=>by
     obtain⟨q,rfl,hq,R⟩:=n;unfold jT;dsimp only;rw[ae4,o,hd];by_cases hqi:q<i;rotate_left
     ·left;rw[aP (by omega)];exact⟨_,rfl,.inr ⟨rfl,λa ha=>R a (by omega)⟩⟩
     have h:X[q]?=some X[q]:=acz (by omega);rw[ax (show(q:Int)<(i:Int)by omega)];simp only[abv,aV g,aV h,u i (ad3 _) _ g,u q (by omega) _ h,f8,Qz2];have next:¬c i q->∃P,(some (Sum.inl (ac ((q:Int)+1))):Option (Int⊕(List (List Int)⊕(UW⊕(Unit⊕Bool)))))=some (.inl P)/\(∃O:Nat,P=(O:Int)/\O<=i/\∀a,a<O->¬c i a)/\i-P.toNat<i-(q:Int).toNat:=λZ=>by
      refine⟨_,rfl,⟨q+1,by rw[ay (by omega) (by omega)];push_cast;rfl,by omega,λa ha=>?_⟩,by rw[ay (by omega) (by omega)];omega⟩;by_cases e:a=q
      ·subst e;exact Z
      ·exact R a (by omega)
     by_cases heq:X[i]=X[q]
     ·right;rw[show(X[i]==X[q])=true from aix.2 heq];simp only[afg,ab7,f8];exact next λ⟨s,t,j,l,p3,_⟩=>p3 (by rw[g]at j;rw[h]at l;injection j with j;injection l with l;rw[<-j,<-l,heq])
     ·rw[show(X[i]==X[q])=false from ag6.2 heq];simp only[aeN,abv,f8];cases p:dM 16 (dT X[i]) (dT X[q])
      ·right;simp only[ab7];exact next λ⟨s,t,j,l,_,S⟩=>by rw[g]at j;rw[h]at l;injection j with j;injection l with l;rw[<-j,<-l]at S;rw[S,As]at p;cases p
      ·left;exact⟨_,rfl,.inl rfl⟩) (s:=0) ⟨0,rfl,by omega,λa ha=>by omega⟩ (by omega)
   rw[ax (show(i:Int)<(X.length:Int)by omega)];simp only[abv,aV g,f8,Qz2,af,ax (show X[i].length<=maxLen by unfold maxLen;omega),aiC hm,adC,afN,afi,bh (m:=min i X.length) (k:=1) (b:=16) (by omega) (by omega),T];rcases F with rfl|⟨rfl,F⟩
   ·left;exact⟨_,rfl,.inl rfl⟩
   ·right;refine⟨_,rfl,⟨i+1,by rw[ay (by omega) (by omega)];push_cast;rfl,by omega,λa k ha n=>?_⟩,by dsimp only;rw[ay (by omega) (by omega)];omega⟩;by_cases e:a=i
    ·subst e;exact F k n
    ·exact D a k (by omega) n) (s:=([],0)) ⟨0,rfl,by omega,λa k ha=>by omega⟩ (by dsimp only;omega)
 rw[U];rcases G with rfl|G
 ·rfl
 ·exact absurd x (G _ _ I (by omega))
theorem Ta{a:Cl}(h:1<=a.length)(ha:a.length<=999)(i:b.length=a.length)(c:aS (Ax (lvs a)) (Ax (lvs b))):jz a b=some true:=by have j:=fW a;have lb:=fW b;have f:=Gj (ls:=lvs a) (by omega) (by omega) (uF (by omega));have g:=Gj (ls:=lvs b) (by omega) (by omega) (uF (by omega));have d:=Q4 (l:=lvs a) (by omega) (by omega) (uF (by omega));have e:=Q4 (l:=lvs b) (by omega) (by omega) (uF (by omega));have hi:=ap7 f g c (ul (lvs a).length (tree (lvs a))) ([],0,false) ([],0,false);unfold jz;refine(aei (λo:Option (List dp)=>o.bind _) (BZ ha)).trans ?_;rw[f8];refine(aei (λo:Option (List dp)=>o.bind _) (BZ (b:=b) (by omega))).trans ?_;rw[f8];unfold nD;dsimp only;rw[d,f8,ax (show(0:Int)<=((lvs b).length:Int)by omega),ax (show((lvs b).length:Int)<=4096 by omega),ax (show(0:Int)<=0 by omega),ay (x:=((lvs b).length:Int)-0) (by omega) (by omega),ax (show((lvs b).length:Int)<=((lvs b).length:Int)-0 by omega)];simp only[abv,e,f8];rw[bh (by simp;omega) (by omega),bh (by simp;omega) (by omega)];simp only[af,abv];refine(aei (λo:Option Bool=>o.bind some) ((aei (λo:Option (Unit⊕Bool)=>o.bind _) hi).trans (f8 ..))).trans ?_;rfl
theorem atS{x y:List Int}(d:x.length=16)(e:y.length=16)(h:dM 16 x y=true):x=y:=by unfold dM at h;refine List.ext_getElem (d.trans e.symm) λi a c=>?_;have:=acr.1 h i (af1.2 (by omega));simpa[aee,a,c]using this
theorem arf{a:Cl}(hl:b.length=a.length)(d:me a)(f:me b)(h:lvs a=lvs b)(i:Int):jM a b i=true:=by
 by_cases hi:0<=i/\i<(a.length:Int)
 ·obtain⟨n,rfl⟩:∃n:Nat,i=(n:Int):=⟨i.toNat,by omega⟩
  have c:=uH (ds:=a) (i:=n) (by omega);have g:=uH (ds:=b) (i:=n) (by omega);rw[h,g]at c;injection c with c;have j:a.getD n []=a[n]'(by omega):=by rw[aee,acz (by omega)];rfl
  have k:b.getD n []=b[n]'(by omega):=by rw[aee,acz (by omega)];rfl
  rw[j,k]at c;have e:=DP (d _ (agl _)) (f _ (agl _)) (aei Prod.snd c).symm;unfold jM;rw[aV (acz (show n<a.length by omega)),aV (acz (show n<b.length by omega)),e];exact WJ _
 ·exact wF (by omega)
theorem ado{J D j K L:Int}(R:bk J)(S:bk D)(T:bk j)(U:bk K)(V:bk L):kB J D j K L=some true:=by
 obtain⟨c,M,y⟩:=Tl R;obtain⟨e,P,v⟩:=awM S;have Q:nu D j=some ([],pz,e,j):=by unfold nu;rw[P];rfl
 obtain⟨l,ds,res,E,O,H⟩:=abN y (a:=([],pz,e,j)) v T;have hn:=H.n;have W:ds.length=l.length:=by rw[H.d,afN]
 have F:me ds:=λd hd=>by rw[H.d]at hd;obtain⟨s,_,rfl⟩:=acG.1 hd;exact⟨H0 _,DZ _⟩
 obtain⟨o,o1,o2,oD⟩:=asQ (x:=ds) (by omega) (by omega) F U V;have A:uB ds=lh ds:=if_neg (by omega);have f:res.2.2.2.2=lh ds:=by
  obtain⟨t,Z⟩:∃t,l[l.length-1]?=some t:=⟨_,acz (by omega)⟩
  rw[(H.z t Z).2]
 unfold kB;rw[M,f8,Q,f8];dsimp only;rw[O,f8,E,f8,QX (b:=ds) (by omega),f8,A];dsimp only;rw[f,As];simp only[aeA,ab7,afg];rw[show pj ds=some ds from rfl,f8,o1,f8,show qZ o=some o from rfl,f8];rcases ai7 (a:=ds) (b:=o) (by omega) (by omega)with⟨C,p2⟩|⟨k,n,C,p2,p3,G⟩
 ·rw[C,f8,OC];rfl
 have X:k<(l.length:Int):=by
  by_cases h:0<=k
  ·have:=ajE (p3.resolve_left (by omega));omega
  ·omega
 obtain⟨m,Y,r⟩:∃m:Nat,(if(0:Int)>k then(0:Int)else k)=(m:Int)/\m<l.length:=by
  split
  ·exact⟨0,rfl,by omega⟩
  ·exact⟨k.toNat,by omega,by omega⟩
 obtain⟨N,p,q,s1,s2,s3,s4⟩:=arU y.k v H E (acz r);have I:=aqx y.k v H (acz r) s2 s3 s4;have g:=I res.2.2.2.2;rw[f,As,if_pos rfl]at g;have g:i4 c ([],pz,e,j) res ((m:Int),l[m],N,p,q)=some 0:=by rw[<-f]at g;exact g
 have i:=I (uB o);rw[ahJ]at i;rw[C,f8];dsimp only;rw[Y,s1,f8];dsimp only;simp only[aeA,ab7,aeN,abv,g,f8,QX (b:=o) (by omega),OC,aii];cases ha:dM 16 (uB o) (lh ds)
 ·rw[ha]at i;simp only[Bool.and_false,ab7,aeN,abv,f8];rw[i];cases (ds.length:Int)==(o.length:Int)<;>rfl
 ·simp only[aii,abv,afg,ab7];by_cases hl:o.length=ds.length
  ·have B:uB o=lh o:=if_neg (by omega);have w:lh ds=lh o:=by
    rw[<-B];exact(atS (acu o).2 (DZ _) ha).symm
   have z:lvs ds≠lvs o:=λh=>by rw[arf hl F oD h (k+1)]at G;cases G
   have u:=Ta (a:=ds) (b:=o) (by omega) (by omega) hl (acK (by rw[fW,fW,hl]) (by rw[fW];omega) (by rw[fW];omega) (uF (by omega)) (uF (by omega)) (by rw[fW,fW];exact w) z);rw[bt (show(ds.length:Int)=(o.length:Int)by omega),abv,u];rfl
  ·rw[bf (show¬(ds.length:Int)=(o.length:Int)by omega)];rfl
end Go.Proofs.YtgghcmbaidihjaaGreatDoor
