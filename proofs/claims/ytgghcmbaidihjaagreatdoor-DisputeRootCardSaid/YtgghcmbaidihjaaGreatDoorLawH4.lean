/- Laws for the row. No condition. -/
import Derived.Test.YtgghcmbaidihjaaGreatDoorLawE3
namespace Go.Proofs.YtgghcmbaidihjaaGreatDoor
open Go.Sm
set_option linter.unusedVariables false
set_option maxRecDepth 4000
variable {s:aG} {c:CC} {i n:Nat} {l st p q:List Int} {α:Type} {f:Fr} {x w kind y v o k j K A N:Int} {t:Th} {fs:List Fr} {S:cn} {e:bO}
attribute [local irreducible] comp
theorem Pq{f:List Int->Option (List Int⊕List Int)}{z:Nat}(g:z<64)(a:∀j,j<z->f (p++List.replicate j 0)=some (.inl (p++List.replicate j 0++[0])))(b:f (p++List.replicate z 0)=some (.inr (p++List.replicate z 0))) :
  Itr.it f p=some (p++List.replicate z 0):=
 eM (f:=f) (λs=>p.length+z-s.length) (λ_=>p++List.replicate z 0) (λs=>∃j,s=p++List.replicate j 0/\j<=z)
  (λs hs=>by
   obtain⟨j,rfl,d⟩:=hs;by_cases h:j<z
   ·right;refine⟨_,a j h,⟨j+1,by rw[ajN,aeh],by omega⟩,?_,rfl⟩;grind
   grind) (s:=p) ⟨0,by simp,by omega⟩ (by grind)
def lb(n:Nat)(i:Nat):Int:=IntKind.u8.wrap (dD .u64 (IntKind.u64.wrap (8*(n:Int))) (ac (56-ac (8*(i:Int)))))
def zs(n:Nat):Nat:=(119-n%64)%64
def tail(n:Nat):List Int:=([128]++List.replicate (zs n) 0)++(List.range' 0 8).map (lb n)
theorem Ai{β:Type}(g:β->α)(l:List β):∀p:List α,l.foldl (λx i=>x++[g i]) p=p++l.map g:=by
 induction l with
 |nil=>intro p;simp
 |cons a l b=>grind
theorem w8(x:Int):0<=IntKind.u8.wrap x/\IntKind.u8.wrap x<256:=by rw[IntKind.wrap_u8'];omega
theorem Qd(n:Nat):m6 (tail n):=by
 refine tN (tN (λx a=>?_) λx a=>?_) λx a=>?_
 ·grind
 ·grind
 ·obtain⟨i,_,rfl⟩:=acG.1 a;exact w8 _
theorem aek(n:Nat):(tail n).length=9+zs n:=by unfold tail;grind
theorem UN{f:List Int×Int->Option ((List Int×Int)⊕List Int)}(g:p.length<140737488355000)
  (a:∀(x:List Int) (i:Nat),i<8->aN x.length 1 1=true->f (x,(i:Int))=some (.inl (x++[lb n i],ac ((i:Int)+1)))) (b:∀x,f (x,(8:Int))=some (.inr x)):Itr.it f (p,0)=some (p++(List.range' 0 8).map (lb n)):=by
 have h:=(lC (f:=f) (λi x=>(x,i)) 0 8 (λx i=>x++[lb n i]) (λx=>x) (λi x=>x.length=p.length+i) (by omega) (by omega)
  (λi x _ hi d=>⟨by
   rw[a x i hi (bh (by omega) (by omega)),ay (by omega) (by omega)],by grind⟩)
  (λx _=>b x) (x:=p) rfl).1
 rw[<-Ai];exact h
theorem adq(m:n<4611686018427387904)(d:S.2.2=n):Itr.it (jE S) [128]=some ([128]++List.replicate (zs n) 0)/\Itr.it (mV S) ([128]++List.replicate (zs n) 0,0)=some (tail n):=by
 have h:zs n<64:=ajQ _ (by omega);have step:∀j,j<=zs n->(Int.tmod (ac ((ac S.2.2)+((([128]:List Int)++List.replicate j 0).length:Int))) 64)=(((n+1+j)%64:Nat):Int):=λj g=>by rw[d,ay (x:=(n:Int)) (by omega) (by omega)];simp only[acA,agu,aeH,afW];rw[ay (by omega) (by omega),agJ (by omega)];omega
 refine⟨Pq h (λj g=>?_) ?_,UN (by grind) (λx i hi ha=>?_) λx=>?_⟩
 ·unfold jE;rw[step j (by omega),nt (by unfold zs at g;omega),bh (by grind) (by omega)];rfl
 ·unfold jE;rw[step _ (ad3 _),nf (by unfold zs;omega)];rfl
 ·unfold mV;have e:ac (8*(i:Int))=8*(i:Int):=ay (by omega) (by omega);have b:ac (56-8*(i:Int))=56-8*(i:Int):=ay (by omega) (by omega);have a:aN x.length ([lb n i]:List Int).length 1=true:=ha;have el:IntKind.u8.wrap (dD .u64 (IntKind.u64.wrap (8*S.2.2)) (56-8*(i:Int)))=lb n i:=by unfold lb;rw[e,b,d]
  simp only[ax (show(i:Int)<8 by omega),abv,e,b,el,ax (show(0:Int)<=56-8*(i:Int)by omega),af,a]
 rfl
theorem aj4{m:List Int}(z:m.length<140737488354000):lk m=some (m++tail m.length):=by
 have u:zs m.length<64:=ajQ _ (by omega);have step:∀j,(Int.tmod (((([]++m)++([128]:List Int))++List.replicate j 0).length:Int) 64)=(((m.length+1+j)%64:Nat):Int):=λj=>by grind
 have d:Itr.it (gP) (([]++m)++([128]:List Int))=some ((([]++m)++([128]:List Int))++List.replicate (zs m.length) 0):=by
  refine Pq u (λj h=>?_) ?_
  ·unfold gP;rw[step j,nt (by unfold zs at h;omega),bh (by simp only[acA,agu,aeH,afW];omega) (by omega)];rfl
  ·unfold gP;rw[step,nf (by unfold zs;omega)];rfl
 have g:∀p:List Int,p.length<140737488355000->Itr.it (kg m) (p,0)=some (p++(List.range' 0 8).map (lb m.length)):=λp r=>by
  refine UN r (λx i hi ha=>?_) λx=>?_
  ·unfold kg;have e:ac (8*(i:Int))=8*(i:Int):=ay (by omega) (by omega);have b:ac (56-8*(i:Int))=56-8*(i:Int):=ay (by omega) (by omega);have a:aN x.length ([lb m.length i]:List Int).length 1=true:=ha;have el:IntKind.u8.wrap (dD .u64 (IntKind.u64.wrap (8*IntKind.u64.wrap (m.length:Int))) (56-8*(i:Int)))=lb m.length i:=by unfold lb;rw[e,b,show IntKind.u64.wrap (m.length:Int)=m.length by rw[IntKind.wrap_u64];omega]
   simp only[ax (show(i:Int)<8 by omega),abv,e,b,el,ax (show(0:Int)<=56-8*(i:Int)by omega),af,a]
  rfl
 unfold lk;rw[bh (by grind) (by omega),bh (by grind) (by omega)];simp only[af,abv];refine(aei (λo:Option (List Int)=>o.bind _) d).trans ?_;rw[f8];refine(aei (λo:Option (List Int)=>o.bind _) (g _ (by simp only[acA,agu,aeH,afW];omega))).trans ?_;rw[f8];unfold tail;grind
def AE:List Int:=[1779033703,3144134277,1013904242,2773480762,1359893119,2600822924,528734635,1541459225]
theorem abd(d:m6 p)(hl:p.length<4611686018427387904)(a:p.length%64=0)(H:List Int):Itr.it (jk p) (0,H)=some (Hs p H (p.length / 64)):=by
 refine eM (f:=jk p) (λs=>p.length-s.1.toNat) (λ_=>Hs p H (p.length / 64)) (λs=>∃i:Nat,s=(((64*i:Nat):Int),Hs p H i)/\64*i<=p.length) (λs hs=>?_) (s:=(0,H)) ⟨0,by rfl,by omega⟩ (by grind);obtain⟨i,rfl,hi⟩:=hs;unfold jk;by_cases h:64*i<p.length
 ·right;have b:jG ((p.take (64*i+64)).drop (64*i)) 64:=abt d (by omega);refine⟨(((64*(i+1):Nat):Int),Hs p H (i+1)),?_,⟨i+1,rfl,by omega⟩,by grind,rfl⟩;rw[ax (show((64*i:Nat):Int)<(p.length:Int)by omega),DS];simp only[abv,akL (H:=Hs p H i) (show 64*i+64<=p.length by omega) hl b,f8,Qz2,ay (x:=((64*i:Nat):Int)+64) (by omega) (by omega)];rfl
 ·left;grind
def ob(H:List Int)(i:Nat):Int:=IntKind.u8.wrap (dD .u32 (H.getD (i / 4) 0) ((24-8*(i%4):Nat):Int))
theorem ajc{d:α}(g:Nat->α)(w:List α):∀i,i<=n->(List.range' 0 i).foldl (λw i=>bR n d w i (g i)) w=if i=0 then w else(List.range n).map (λj=>if j<i then g j else w.getD j d):=by
 intro i;induction i with
 |zero=>intro _;rfl
 |succ i a=>
  intro hi;rw[List.range'_concat,ajD,a (by omega),if_neg (show¬i+1=0 by omega)];show bR n d _ (0+1*i) (g (0+1*i))=_;rw[show 0+1*i=i by omega];unfold bR;refine afA λj b=>?_;grind
theorem R2(H:List Int)(d:S.1=H):Itr.it (jI S) (0,[])=some ((List.range 32).map (ob H))/\Itr.it (jh H) (0,[])=some ((List.range 32).map (ob H)):=by
 have g:(List.range' 0 32).foldl (λw i=>bR 32 (0:Int) w i (ob H i)) []=(List.range 32).map (ob H):=by rw[ajc _ _ 32 (by omega),if_neg (by omega)];simp_all
 have a:∀i:Nat,i<32->ac (Int.tdiv (i:Int) 4)=((i / 4:Nat):Int):=λi hi=>by rw[aip (by omega),ay (by omega) (by omega)];omega
 have b:∀i:Nat,i<32->ac (24-ac (8*Int.tmod (i:Int) 4))=((24-8*(i%4):Nat):Int):=λi hi=>by rw[agJ (by omega),ay (x:=8*((i:Int)%4)) (by omega) (by omega),ay (by omega) (by omega)];omega
 constructor
 ·have h:=(lC (f:=jI S) (λi x=>(i,x)) 0 32 (λw i=>bR 32 (0:Int) w i (ob H i)) (λx=>x) (λ_ _=>True) (by omega) (by omega)
   (λi x _ hi _=>⟨by
    unfold jI ob;simp only[a i hi,b i hi,d,ac6,af,ax (show(i:Int)<32 by omega),abv,ax (show 0<=((i / 4:Nat):Int)/\((i / 4:Nat):Int)<8 by omega),ax (show 0<=((24-8*(i%4):Nat):Int)by omega),ax (show 0<=(i:Int)/\(i:Int)<32 by omega),ay (x:=(i:Int)+1) (by omega) (by omega)];rfl,trivial⟩)
   (λx _=>by rfl) (x:=[]) trivial).1
  grind
 ·have h:=(lC (f:=jh H) (λi x=>(i,x)) 0 32 (λw i=>bR 32 (0:Int) w i (ob H i)) (λx=>x) (λ_ _=>True) (by omega) (by omega)
   (λi x _ hi _=>⟨by
    unfold jh ob;simp only[a i hi,b i hi,ac6,af,ax (show(i:Int)<32 by omega),abv,ax (show 0<=((i / 4:Nat):Int)/\((i / 4:Nat):Int)<8 by omega),ax (show 0<=((24-8*(i%4):Nat):Int)by omega),ax (show 0<=(i:Int)/\(i:Int)<32 by omega),ay (x:=(i:Int)+1) (by omega) (by omega)];rfl,trivial⟩)
   (λx _=>by rfl) (x:=[]) trivial).1
  grind
def YY(m:List Int):List Int:=(List.range 32).map (ob (Hs (m++tail m.length) AE ((m++tail m.length).length / 64)))
theorem Np{m:List Int}(hl:m.length<140737488354000)(a:Fed AE m S):oC S=some (YY m)/\m8 m=some (YY m):=by
 have z:zs m.length<64:=ajQ _ (by omega);have d:=aek m.length;constructor
 ·obtain⟨g,h⟩:=adq (n:=m.length) (by omega) a.n;obtain⟨S',r,b⟩:=DC a (d6 (tail m.length)) (by rw[jn,d];omega);rw[Ay (Qd _)]at b;unfold oC;refine(aei (λo:Option (List Int)=>o.bind _) g).trans ?_;rw[f8];refine(aei (λo:Option (List Int)=>o.bind _) h).trans ?_;rw[f8];refine(aei (λo:Option cn=>o.bind _) r).trans ?_;rw[f8];exact(aei (λo:Option (List Int)=>o.bind _) (R2 _ b.h).1).trans rfl
 ·have u:m6 (m++tail m.length):=tN a.y (Qd _);unfold m8;rw[aj4 hl,f8];refine(aei (λo:Option (List Int)=>o.bind _) (abd u (by grind) (by rw[acA,d];unfold zs;omega) AE)).trans ?_;rw[f8];exact(aei (λo:Option (List Int)=>o.bind _) (R2 _ (S:=(_,[],0)) rfl).2).trans rfl
theorem avQ(a:0<=y)(b:y<18446744073709551616):bc .xor .u64 (if IntKind.signed .u64 then -1 else IntKind.max .u64) y=18446744073709551615-y:=by
 have e:BitVec.ofInt 64 (if IntKind.signed .u64 then -1 else IntKind.max .u64)=BitVec.allOnes 64:=by decide
 show IntKind.u64.wrap ((BitVec.ofInt 64 (if IntKind.signed .u64 then -1 else IntKind.max .u64) ^^^ BitVec.ofInt 64 y).toNat:Int)=_;rw[e,BitVec.allOnes_xor,BitVec.toNat_not,ap3,IntKind.wrap_u64];omega
theorem axA(a:0<=y)(b:y<256):bc .xor .u8 y 255=255-y:=by
 have e:BitVec.ofInt 8 255=BitVec.allOnes 8:=by decide
 show IntKind.u8.wrap ((BitVec.ofInt 8 y ^^^ BitVec.ofInt 8 255).toNat:Int)=_;rw[e,BitVec.xor_comm,BitVec.allOnes_xor,BitVec.toNat_not,ap3,IntKind.wrap_u8'];omega
theorem axu(a:0<=y)(b:y<256):bc .xor .u8 y 0=y:=by show IntKind.u8.wrap ((BitVec.ofInt 8 y ^^^ BitVec.ofInt 8 0).toNat:Int)=_;rw[show BitVec.ofInt 8 0=0#8 from rfl,BitVec.xor_zero,ap3,IntKind.wrap_u8'];omega
theorem HE(v:Nat){k:Nat}(a:k<=64):dD .u64 (v:Int) (k:Int)=((v / 2 ^ k:Nat):Int):=by
 have e:min (k:Int).toNat 64=k:=by omega
 show(v:Int).fdiv (2 ^ (min (k:Int).toNat 64))=_;grind
def nb(v:Nat):Nat:=if h:v=0 then 0 else nb (v / 256)+1
termination_by v
decreasing_by omega
theorem wu(k:Nat):∀v,v / 256 ^ k=0↔nb v<=k:=by
 induction k with
 |zero=>intro v;rw[Nat.pow_zero,Nat.div_one];unfold nb;grind
 |succ k a=>
  intro v;rw[ap8,<-ah5,a];conv=>rhs;rw[nb]
  split
  ·next h=>subst h;rw[Nat.zero_div,nb];simp
  ·omega
theorem awT(k:Nat):2 ^ (8*k)=256 ^ k:=by rw[Nat.pow_mul]
def dg(v i:Nat):Nat:=v / 256 ^ i%256
theorem ale{f:List Int×Int->Option ((List Int×Int)⊕List Int)}(r:n<100)(g:Nat->Int)(u:p.length<140737488355000)
  (b:∀(q:List Int) (i:Nat),i<n->aN q.length 1 1=true->f (q,(i:Int))=some (.inl (q++[g i],ac ((i:Int)-1)))) (m:∀q,f (q,-1)=some (.inr q)):Itr.it f (p,(n:Int)-1)=some (p++(List.range n).reverse.map g):=
 eM (f:=f) (λs=>(s.2+1).toNat) (λ_=>p++(List.range n).reverse.map g) (λs=>∃k:Nat,k<=n/\s.2=(k:Int)-1/\s.1.length+k=p.length+n/\s.1++(List.range k).reverse.map g=p++(List.range n).reverse.map g)
  (λs hs=>by
   obtain⟨q,z⟩:=s;obtain⟨k,B,d,h,a⟩:=hs;dsimp only at d h a|-;cases k with
   |zero=>
    grind
   |succ k=>
    right;have e:z=(k:Int):=by omega
    refine⟨(q++[g k],ac ((k:Int)-1)),?_,⟨k,by omega,ay (by omega) (by omega),by grind,?_⟩,?_,rfl⟩
    ·rw[e];exact b q k (by omega) (bh (by omega) (by omega))
    ·rw[<-a,aj7,List.reverse_append,aeh];rfl
    ·show(ac ((k:Int)-1)+1).toNat<_;rw[ay (by omega) (by omega)];omega) (s:=(p,(n:Int)-1)) ⟨n,ad3 _,rfl,rfl,rfl⟩ (by grind)
def bX(x:Int):Nat:=if x<0 then(-1-x).toNat else x.toNat
def rR(x b:Int):Int:=if x<0 then 255-b else b
def gf(x:Int):List Int:=(if x<0 then 127-(nb (bX x):Int)else 128+(nb (bX x):Int))::(List.range (nb (bX x))).reverse.map (λi=>rR x (dg (bX x) i))
theorem zG(h:bk x):bX x<9223372036854775808/\nb (bX x)<=8:=by
 have d:bX x<9223372036854775808:=by obtain⟨a,b⟩:=h;unfold bX;grind
 exact⟨d,(wu 8 _).1 (Nat.div_eq_of_lt (ajq d (by decide)))⟩
theorem kH(h:bk x):(gf x).length<=9:=by have:=(zG h).2;unfold gf;grind
theorem XK(v i:Nat):dg v i<256:=ajQ _ (by omega)
theorem Qm(h:bk x):m6 (gf x):=by
 have:=(zG h).2;intro b a;rcases aen.1 a with rfl|a
 ·grind
 ·obtain⟨i,_,rfl⟩:=acG.1 a;have:=XK (bX x) i;unfold rR;grind
theorem tG(h:bk x):mg x=some (gf x):=by
 obtain⟨m,I⟩:=zG h;obtain⟨a,b⟩:=h
 have key:∀mk:Int,(∀y:Int,0<=y->y<256->bc .xor .u8 y mk=rR x y)->((Itr.it (kw ((bX x:Int),mk)) 8).bind λD=>(Itr.it (tX ((bX x:Int),mk)) ([bc .xor .u8 (IntKind.u8.wrap (ac (128+D))) mk],ac (D-1))).bind λM=>some M)=some (gf x):=by
  intro mk g;have L:Itr.it (kw ((bX x:Int),mk)) 8=some ((nb (bX x):Nat):Int):=
   eM (f:=kw ((bX x:Int),mk)) (λs=>s.toNat) (λ_=>((nb (bX x):Nat):Int)) (λs=>∃k:Nat,s=(k:Int)/\nb (bX x)<=k/\k<=8)
    (λs hs=>by
     obtain⟨k,rfl,O,P⟩:=hs;cases k with
     |zero=>left;rw[show nb (bX x)=0 by omega];rfl
     |succ k=>
      have u:ac (((k+1:Nat):Int)-1)=(k:Int):=by rw[ay (by omega) (by omega)];omega
      have d:ac (8*(k:Int))=((8*k:Nat):Int):=by rw[ay (by omega) (by omega)];omega
      have C:=wu k (bX x);have H:kw ((bX x:Int),mk) ((k+1:Nat):Int)=bif decide (0<((bX x / 256 ^ k:Nat):Int))then some (.inr ((k+1:Nat):Int))else some (.inl (k:Int)):=by unfold kw;rw[ax (show(0:Int)<((k+1:Nat):Int)by omega)];simp only[abv,u,d,af,ax (show(0:Int)<=((8*k:Nat):Int)by omega),HE (bX x) (show 8*k<=64 by omega),awT]
      rw[H];generalize bX x / 256 ^ k=V at C;by_cases J:V=0
      ·right;rw[aP (by omega)];exact⟨(k:Int),rfl,⟨k,rfl,C.1 J,by omega⟩,by omega,rfl⟩
      ·left;grind) (s:=8) ⟨8,rfl,I,ad3 _⟩ (by decide)
  have u:ac (128+((nb (bX x):Nat):Int))=128+((nb (bX x):Nat):Int):=ay (by omega) (by omega);have d:ac (((nb (bX x):Nat):Int)-1)=((nb (bX x):Nat):Int)-1:=ay (by omega) (by omega);have F:IntKind.u8.wrap (128+((nb (bX x):Nat):Int))=128+((nb (bX x):Nat):Int):=by rw[IntKind.wrap_u8'];omega
  rw[L,f8,u,d,F,g _ (by omega) (by omega),ale (by omega) (λi=>rR x (dg (bX x) i)) (by simp) (λq i hi ha=>?_) (λq=>rfl),f8]
  ·unfold gf rR;grind
  ·unfold tX;have d:ac (8*(i:Int))=((8*i:Nat):Int):=by rw[ay (by omega) (by omega)];omega
   have G:IntKind.u8.wrap ((bX x / 256 ^ i:Nat):Int)=(dg (bX x) i:Int):=by rfl
   have B:aN q.length ([rR x (dg (bX x) i)]:List Int).length 1=true:=ha;have:=XK (bX x) i;simp only[ax (show(0:Int)<=(i:Int)by omega),abv,d,af,ax (show(0:Int)<=((8*i:Nat):Int)by omega),HE (bX x) (show 8*i<=64 by omega),awT,G,g _ (show(0:Int)<=(dg (bX x) i:Int)by omega) (show(dg (bX x) i:Int)<256 by omega),B]
 unfold mg;by_cases r:x<0
 ·have e:bc .xor .u64 (if IntKind.signed .u64 then -1 else IntKind.max .u64) (IntKind.u64.wrap x)=(bX x:Int):=by
   have E:IntKind.u64.wrap x=x+18446744073709551616:=by rw[IntKind.wrap_u64];omega
   rw[E,avQ (by omega) (by omega)];unfold bX;grind
  rw[ax r];simp only[abv,f8,Qz2,e];exact key 255 λy z m=>by unfold rR;rw[if_pos r];exact axA z m
 ·have e:IntKind.u64.wrap x=(bX x:Int):=by
   rw[IntKind.wrap_u64];unfold bX;grind
  rw[aP r];simp only[ab7,f8,Qz2,e];exact key 0 λy z m=>by unfold rR;rw[if_neg r];exact axu z m
theorem Vz(h:bk x):kN x=some (gf x):=by
 obtain⟨D,L⟩:=zG h;obtain⟨a,b⟩:=h
 have I:Itr.it jd ((bX x:Int),[])=some ((List.range (nb (bX x))).map λi=>(dg (bX x) i:Int)):=
  eM (f:=jd) (λs=>nb (bX x)-s.2.length) (λ_=>(List.range (nb (bX x))).map λi=>(dg (bX x) i:Int)) (λs=>∃k:Nat,s=(((bX x / 256 ^ k:Nat):Int),(List.range k).map λi=>(dg (bX x) i:Int))/\k<=nb (bX x))
   (λs hs=>by
    obtain⟨k,rfl,O⟩:=hs;have E:=wu k (bX x);have F:bX x / 256 ^ k<9223372036854775808:=Nat.lt_of_le_of_lt (Nat.div_le_self ..) D;have g:bX x / 256 ^ (k+1)=bX x / 256 ^ k / 256:=by rw[alu,<-ah5]
    have m:dg (bX x) k=bX x / 256 ^ k%256:=rfl;generalize M:bX x / 256 ^ k=V at *;unfold jd;by_cases Q:V=0
    ·grind
    ·right;have G:k<nb (bX x):=by
      grind
     have u:ac (Int.tdiv (V:Int) 256)=((bX x / 256 ^ (k+1):Nat):Int):=by rw[g,aip (by omega),ay (by omega) (by omega)];omega
     have d:IntKind.u8.wrap (Int.tmod (V:Int) 256)=(dg (bX x) k:Int):=by rw[agJ (by omega),IntKind.wrap_u8',m];omega
     have ha:aN ((List.range k).map λi=>(dg (bX x) i:Int)).length ([(dg (bX x) k:Int)]:List Int).length 1=true:=bh (by grind) (by omega);refine⟨(((bX x / 256 ^ (k+1):Nat):Int),(List.range (k+1)).map λi=>(dg (bX x) i:Int)),?_,⟨k+1,rfl,by omega⟩,by grind,rfl⟩;rw[ax (show(0:Int)<(V:Int)by omega)];simp only[abv,u,d,af,ha,aj7,afo];rfl) (s:=((bX x:Int),[])) ⟨0,by grind,by omega⟩ (by grind)
 have J:∀p:List Int,p.length<100->Itr.it (mn x ((List.range (nb (bX x))).map λi=>(dg (bX x) i:Int))) (p,((nb (bX x):Nat):Int)-1)=some (p++(List.range (nb (bX x))).reverse.map (λi=>rR x (dg (bX x) i))):=by
  intro p P;refine ale (by omega) (λi=>rR x (dg (bX x) i)) (by omega) (λq i hi ha=>?_) λq=>rfl;have:=XK (bX x) i;have H:ae ((List.range (nb (bX x))).map λi=>(dg (bX x) i:Int)) (i:Int)=some (dg (bX x) i:Int):=by refine(br 0 (by simpa using hi)).trans (aei some ?_);grind
  have r:aN q.length ([rR x (dg (bX x) i)]:List Int).length 1=true:=ha;have B:(bif decide (x<0)then some (IntKind.u8.wrap (255-(dg (bX x) i:Int)))else some (dg (bX x) i:Int))=some (rR x (dg (bX x) i)):=by
   unfold rR;by_cases h:x<0
   ·rw[ax h,if_pos h,IntKind.wrap_u8'];grind
   grind
  unfold mn;simp only[ax (show(0:Int)<=(i:Int)by omega),abv,H,f8,Qz2,B,af,r]
 have d:ac (((nb (bX x):Nat):Int)-1)=((nb (bX x):Nat):Int)-1:=ay (by omega) (by omega);unfold kN;have em:(bif decide (x<0)then some (ac (-1-x))else some x)=some (bX x:Int):=by
  unfold bX;by_cases h:x<0
  ·rw[ax h,if_pos h,ay (by omega) (by omega)];grind
  grind
 rw[em,f8];refine(aei (λo:Option (List Int)=>o.bind _) I).trans ?_;simp only[f8,Qz2,afN,aks,d];have hd:∀z:Int,aN ([]:List Int).length ([z]:List Int).length 1=true:=λz=>bh (by simp) (by omega);have C:(bif decide (0<=x)then af (aN ([]:List Int).length ([IntKind.u8.wrap (ac (128+((nb (bX x):Nat):Int)))]:List Int).length 1) (some ([]++[IntKind.u8.wrap (ac (128+((nb (bX x):Nat):Int)))]))else af (aN ([]:List Int).length ([IntKind.u8.wrap (ac (127-((nb (bX x):Nat):Int)))]:List Int).length 1) (some ([]++[IntKind.u8.wrap (ac (127-((nb (bX x):Nat):Int)))])))
   = some [if x<0 then 127-(nb (bX x):Int)else 128+(nb (bX x):Int)]:=by
  rw[hd,hd];by_cases h:x<0
  ·rw[aP (by omega),if_pos h,ay (x:=127-((nb (bX x):Nat):Int)) (by omega) (by omega),show IntKind.u8.wrap (127-((nb (bX x):Nat):Int))=127-((nb (bX x):Nat):Int)by rw[IntKind.wrap_u8'];omega];rfl
  ·rw[ax (show 0<=x by omega),if_neg h,ay (x:=128+((nb (bX x):Nat):Int)) (by omega) (by omega),show IntKind.u8.wrap (128+((nb (bX x):Nat):Int))=128+((nb (bX x):Nat):Int)by rw[IntKind.wrap_u8'];omega];rfl
 refine(aei (λo:Option (List Int)=>o.bind _) C).trans ?_;rw[f8];exact(aei (λo:Option (List Int)=>o.bind _) (J _ (by simp))).trans rfl
theorem JB(enc:α->List Int){xs:List α}{a:α}(h:xs[i]?=some a):(xs.take (i+1)).flatMap enc=(xs.take i).flatMap enc++enc a:=by rw[aqb,h,List.flatMap_append];simp
theorem Ui(enc:α->List Int)(xs:List α)(i:Nat):((xs.take i).flatMap enc).length<=(xs.flatMap enc).length:=by
 conv=>rhs;rw[<-ags i xs,List.flatMap_append,acA]
 omega
theorem wX{enc:α->List Int}{b:Nat}:∀{xs:List α},(∀x∈xs,(enc x).length<=b)->(xs.flatMap enc).length<=b*xs.length:=by
 intro xs;induction xs with
 |nil=>intro _;simp
 |cons x xs d=>
  intro h;have g:=h x (.head _);have m:=d λy a=>h y (.tail _ a);rw[ajA,acA,aeH,Nat.mul_succ];omega
theorem zM{S:Type}(mk:List Int->Int->S)(xs:List α)(enc:α->List Int){f:S->Option (S⊕List Int)}(r:xs.length<=4194304)(hl:p.length+(xs.flatMap enc).length<=140737488355328)
  (d:∀(i:Nat) (a:α) (q:List Int),i<xs.length->xs[i]?=some a->q.length+(enc a).length<=140737488355328->f (mk q i)=some (.inl (mk (q++enc a) ((i:Int)+1)))) (g:∀q,f (mk q xs.length)=some (.inr q)):Itr.it f (mk p 0)=some (p++xs.flatMap enc):=by
 have h:=(HH (f:=f) (λi q=>mk q i) xs (λq a=>q++enc a) (λq=>q) (λi q=>q=p++(xs.take i).flatMap enc) (by omega)
  (λi a q b m=>by
   have hq:(q++enc a)=p++(xs.take (i+1)).flatMap enc:=by rw[JB enc b,m,aeh]
   refine⟨d i a q (cG b) b ?_,hq⟩;have e:=aei List.length hq;rw[acA,acA]at e;have:=Ui enc xs (i+1);omega)
  (λq _=>g q) (a:=p) (by simp))
 refine h.trans (aei some ?_);clear h d g hl r;induction xs generalizing p with
 |nil=>simp
 |cons x xs u=>grind
def eV(l:List Int):Prop:=∀x∈l,bk x
def dP(l:List Int):List Int:=gf l.length++l.flatMap gf
def iV(t:List UInt8):List Int:=gf t.length++cQ t
def tI(t:List UInt8):List Int:=gf 1++iV t
theorem jW{l:List α}(h:l.length<=140737488355328):bk (l.length:Int):=⟨by omega,by omega⟩
theorem IV(h:eV l):(l.flatMap gf).length<=9*l.length:=wX λx a=>kH (h x a)
theorem nC(h:eV l)(hl:l.length<=4194304):(dP l).length<=9+9*l.length:=by have a:=kH (jW (l:=l) (by omega));have b:=IV h;unfold dP;grind
theorem Fq{t:List UInt8}(hl:t.length<=4194304):(iV t).length<=9+t.length:=by have a:=kH (jW (l:=t) (by omega));unfold iV;rw[acA,yu];omega
theorem ajx{t:List UInt8}(hl:t.length<=4194304):(tI t).length<=18+t.length:=by have a:=kH (x:=1) ⟨by omega,by omega⟩;have b:=Fq hl;unfold tI;grind
theorem adX{enc:α->List Int}{xs:List α}(h:∀x∈xs,m6 (enc x)):m6 (xs.flatMap enc):=λb a=>by obtain⟨x,d,a⟩:=List.mem_flatMap.1 a;exact h x d b a
theorem CJ(h:eV l)(hl:l.length<=4194304):ph l=some (dP l)/\True:=by
 have d:=jW (l:=l) (by omega);have z:=kH d;have B:=IV h;have step:∀(i:Nat) (a:Int),i<l.length->l[i]?=some a->ae l (i:Int)=some a/\bk a/\ac ((i:Int)+1)=(i:Int)+1:=λi a hi ha=>⟨aV ha,h a (aeK ha),ay (by omega) (by omega)⟩
 constructor
 ·unfold ph;rw[tG d,f8];refine(aei (λo:Option (List Int)=>o.bind _) (zM (λq i=>(q,i)) l gf (f:=oJ l) (p:=gf l.length) hl (by omega) (λi a q hi ha hq=>?_) (λq=>?_))).trans rfl
  ·obtain⟨g,r,u⟩:=step i a hi ha;unfold oJ;simp only[ax (show(i:Int)<(l.length:Int)by omega),abv,g,f8,Qz2,tG r,u,af,bh (m:=q.length) (k:=(gf a).length) (b:=1) (by omega) (by omega)]
  ·unfold oJ;grind
 ·trivial
theorem Av{t:List UInt8}(hl:t.length<=70368744177664):sj t=some (iV t)/\lO t=some (iV t):=by
 have a:=jW (l:=t) (by omega);have d:=kH a;have ha:aN (gf t.length).length t.length 1=true:=bh (by omega) (by omega);have b:t.length<=maxLen:=by unfold maxLen;omega
 constructor
 ·unfold sj;rw[tG a,f8,ha];rfl
 ·unfold lO;rw[Vz a,f8,ax b,afN,ha];rfl
theorem aaH{t:List UInt8}(hl:t.length<=4194304):sL [t]=some (tI t)/\True:=by
 have g:bk 1:=⟨by omega,by omega⟩
 have C:=kH g;have D:=Fq hl;obtain⟨h,B⟩:=Av (t:=t) (by omega);have step:∀(i:Nat) (a:List UInt8),i<[t].length->[t][i]?=some a->ae [t] (i:Int)=some t/\a=t/\ac ((i:Int)+1)=(i:Int)+1:=λi a hi ha=>by
  have:i=0:=by simpa using hi
  subst this;injection ha with ha;exact⟨rfl,ha.symm,rfl⟩
 have e:gf 1++[t].flatMap iV=tI t:=by unfold tI;simp
 have d:(gf 1).length+([t].flatMap iV).length<=140737488355328:=by grind
 constructor
 ·unfold sL;rw[show mg (([t]:List (List UInt8)).length:Int)=some (gf 1)from tG g,f8,<-e];refine(aei (λo:Option (List Int)=>o.bind _) (zM (λq i=>(q,i)) [t] iV (f:=pH [t]) (p:=gf 1) (by simp) d (λi a q hi ha hq=>?_) (λq=>?_))).trans rfl
  ·obtain⟨r,u,z⟩:=step i a hi ha;subst u;unfold pH;simp only[ax (show(i:Int)<(([a]:List (List UInt8)).length:Int)by omega),abv,r,f8,h,z,af,bh (m:=q.length) (k:=(iV a).length) (b:=1) (by omega) (by omega)]
  ·rfl
 ·trivial
theorem U8(v i:Nat):dg v (i+1)=dg (v / 256) i:=by unfold dg;rw[ap8,<-ah5]
theorem aux:∀(n v u:Nat),nb v<=n->nb u<=n->(∀i,i<n->dg v i=dg u i)->v=u:=by
 intro n;induction n with
 |zero=>
  intro v u b a _;have m:=(wu 0 v).2 b;have r:=(wu 0 u).2 a;grind
 | succ n g=>
  intro v u b a h;have e:v / 256=u / 256:=by
   refine g _ _ ((wu n _).1 ?_) ((wu n _).1 ?_) λi hi=>?_
   ·rw[ah5,<-ap8];exact(wu (n+1) v).2 b
   ·rw[ah5,<-ap8];exact(wu (n+1) u).2 a
   ·rw[<-U8,<-U8];grind
  have d:=h 0 (by omega);unfold dg at d;grind
theorem adZ(u:bk x)(B:bk y){a b:List Int}(h:gf x++a=gf y++b):x=y/\a=b:=by
 have z:=(zG u).2;have C:=(zG B).2;unfold gf at h;rw[afO,afO]at h;injection h with D g;have hs:(x<0↔y<0)/\nb (bX x)=nb (bX y):=by grind
 obtain⟨d,m⟩:=List.append_inj g (by grind);refine⟨?_,m⟩;rw[hs.2]at d;have r:bX x=bX y:=aux (nb (bX y)) _ _ (by omega) (by omega) λi hi=>by have:=List.map_eq_map_iff.1 d i (by simpa using hi);unfold rR at this;grind
 unfold bX at r;grind
structure EncTh(t:Th):Prop where
 n:t.1.length<=128
 f:∀f∈t.1,bk f.1/\eV f.2/\f.2.length<=1048576
 s:eV t.2.1/\t.2.1.length<=1048576
 w:bk t.2.2.1
structure EncS(s:aG):Prop where
 n:s.1.length<=128
 t:∀t∈s.1,EncTh t
 v:eV s.2.1/\s.2.1.length<=1048576
 q:s.2.2.1.length<=1048576/\∀q∈s.2.2.1,eV q/\q.length<=1048577
 o:eV s.2.2.2.1/\s.2.2.2.1.length<=1048576
 f:eV s.2.2.2.2.1/\s.2.2.2.2.1.length<=1048576
 h:eV [s.2.2.2.2.2.1,s.2.2.2.2.2.2.1,s.2.2.2.2.2.2.2.1.1,s.2.2.2.2.2.2.2.1.2.1,s.2.2.2.2.2.2.2.1.2.2,s.2.2.2.2.2.2.2.2.1,s.2.2.2.2.2.2.2.2.2.1,s.2.2.2.2.2.2.2.2.2.2.1]
 w:s.2.2.2.2.2.2.2.2.2.2.2.length<=1048576
def F6(b:Bool):Int:=if b then 1 else 0
def sH(f:Fr):List Int:=dP (f.1::f.2)
def qy(t:Th):List Int:=dP [t.2.2.1,F6 t.2.2.2,t.1.length]++(t.1.flatMap sH++dP t.2.1)
def rY(s:aG):List Int:=[(s.1.length:Int),(s.2.2.1.length:Int),s.2.2.2.2.2.1,s.2.2.2.2.2.2.1,s.2.2.2.2.2.2.2.1.1,s.2.2.2.2.2.2.2.1.2.1,s.2.2.2.2.2.2.2.1.2.2,s.2.2.2.2.2.2.2.2.1,s.2.2.2.2.2.2.2.2.2.1,s.2.2.2.2.2.2.2.2.2.2.1]
def y9(s:aG):List Int:=dP (rY s)++(tI s.2.2.2.2.2.2.2.2.2.2.2++(s.1.flatMap qy++(dP s.2.1++(s.2.2.1.flatMap dP++(dP s.2.2.2.1++dP s.2.2.2.2.1)))))
theorem ge(h:bk x)(hl:eV l):eV (x::l):=λy a=>(aen.1 a).elim (λe=>e▸h) (hl y)
theorem oj:eV []:=λy a=>by cases a
theorem avu(b:Bool):bk (F6 b):=by unfold F6;split<;>exact⟨by omega,by omega⟩
theorem acS(h:EncTh t):eV [t.2.2.1,F6 t.2.2.2,(t.1.length:Int)]:=ge h.w (ge (avu _) (ge (jW (by have:=h.n;omega)) oj))
theorem ac2(h:EncS s):eV (rY s):=ge (jW (by have:=h.n;omega)) (ge (jW (by have:=h.q.1;omega)) h.h)
theorem IR(h:bk f.1/\eV f.2/\f.2.length<=1048576):eV (f.1::f.2)/\(f.1::f.2).length<=1048577/\(sH f).length<=9437202:=by
 have a:eV (f.1::f.2):=ge h.1 h.2.1;have b:(f.1::f.2).length<=1048577:=by grind
 have:=nC a (by omega);exact⟨a,b,by unfold sH;omega⟩
theorem Ub(h:EncTh t):(t.1.flatMap sH).length<=1207961856:=by have:=wX (enc:=sH) (b:=9437202) (xs:=t.1) λf hf=>(IR (h.f f hf)).2.2;have:=h.n;omega
theorem aj2(h:EncTh t):(qy t).length<=1217399094:=by have a:=nC (acS h) (by simp);have b:=Ub h;have d:=nC h.s.1 (by have:=h.s.2;omega);have g:=h.s.2;have m:([t.2.2.1,F6 t.2.2.2,(t.1.length:Int)]:List Int).length=3:=rfl;unfold qy;grind
theorem aqB(h:EncS s):(s.1.flatMap qy).length<=155827084032:=by have:=wX (enc:=qy) (b:=1217399094) (xs:=s.1) λt a=>aj2 (h.t t a);have:=h.n;omega
theorem au3(h:EncS s):(s.2.2.1.flatMap dP).length<=9895623524352:=by
 have:=wX (enc:=dP) (b:=9437202) (xs:=s.2.2.1) λq hq=>by have a:=h.q.2 q hq;have:=nC a.1 (by omega);omega
 have:=h.q.1;omega
theorem af0(h:EncS s):(dP (rY s)).length<=99:=nC (ac2 h) (by show 10<=_;omega)
theorem PA(h:EncS s):(y9 s).length<=20000000000000:=by have a:=af0 h;have b:=ajx (t:=s.2.2.2.2.2.2.2.2.2.2.2) (by have:=h.w;omega);have d:=aqB h;have g:=nC h.v.1 (by have:=h.v.2;omega);have m:=au3 h;have r:=nC h.o.1 (by have:=h.o.2;omega);have u:=nC h.f.1 (by have:=h.f.2;omega);have:=h.v.2;have:=h.o.2;have:=h.f.2;have:=h.w;unfold y9;grind
theorem E1(h:eV l)(hl:l.length<=4194304)(hq:q.length+(dP l).length<=140737488355328):dB l q=some (q++dP l):=by unfold dB;rw[(CJ h hl).1,f8,bh (by omega) (by omega)];rfl
theorem afl(h:EncTh t)(hq:q.length+(t.1.flatMap sH).length<=140737488355328):Itr.it (kb t) (0,q)=some (q++t.1.flatMap sH):=by
 have hf:=Ub h;have z:=h.n;refine zM (λq i=>(i,q)) t.1 sH (by omega) (by omega) (λi f q hi ha hq=>?_) (λq=>?_)
 ·obtain⟨d,r,u⟩:=IR (h.f f (aeK ha));have g:f.2.length<=1048576:=(h.f f (aeK ha)).2.2;have a:dB (([f.1]:List Int)++f.2) q=some (q++sH f):=E1 (l:=f.1::f.2) d (by omega) hq;unfold kb;simp only[ax (show(i:Int)<(t.1.length:Int)by omega),abv,aV ha,f8,Qz2,bh (m:=([f.1]:List Int).length) (k:=f.2.length) (b:=8) (by grind) (by omega),af,a,ay (x:=(i:Int)+1) (by omega) (by omega)]
 ·unfold kb;grind
theorem axd(b:Bool):eY b=some (F6 b)/\True:=by cases b<;>exact⟨rfl,trivial⟩
theorem akw(t:Th):(qy t).length=(dP [t.2.2.1,F6 t.2.2.2,(t.1.length:Int)]).length+((t.1.flatMap sH).length+(dP t.2.1).length):=by unfold qy;grind
theorem acT(h:EncS s)(hq:q.length+(s.1.flatMap qy).length<=140737488355328):Itr.it (ke s) (0,q)=some (q++s.1.flatMap qy):=by
 have r:=h.n;refine zM (λq i=>(i,q)) s.1 qy (by omega) hq (λi t q hi ha hq=>?_) (λq=>?_)
 ·have a:=h.t t (aeK ha);have m:=a.s.2;have hl:=akw t;have b:=E1 (acS a) (q:=q) (by simp) (by omega);have d:=afl a (q:=q++dP [t.2.2.1,F6 t.2.2.2,(t.1.length:Int)]) (by grind);have g:=E1 a.s.1 (q:=(q++dP [t.2.2.1,F6 t.2.2.2,(t.1.length:Int)])++t.1.flatMap sH) (by omega) (by grind);unfold ke;simp only[ax (show(i:Int)<(s.1.length:Int)by omega),abv,aV ha,f8,Qz2,(axd _).1,b,d,g,ay (x:=(i:Int)+1) (by omega) (by omega)];unfold qy;grind
 ·unfold ke;grind
theorem ah8(h:EncS s)(hq:q.length+(s.2.2.1.flatMap dP).length<=140737488355328):Itr.it (j5 s) (0,q)=some (q++s.2.2.1.flatMap dP):=by
 have a:=h.q.1;refine zM (λq i=>(i,q)) s.2.2.1 dP (by omega) hq (λi l q hi ha hq=>?_) (λq=>?_)
 ·have hl:=h.q.2 l (aeK ha);unfold j5;simp only[ax (show(i:Int)<(s.2.2.1.length:Int)by omega),abv,aV ha,f8,Qz2,E1 hl.1 (q:=q) (by omega) hq,ay (x:=(i:Int)+1) (by omega) (by omega)]
 ·unfold j5;grind
theorem ajm(s:aG):(y9 s).length=(dP (rY s)).length+((tI s.2.2.2.2.2.2.2.2.2.2.2).length+((s.1.flatMap qy).length+((dP s.2.1).length+((s.2.2.1.flatMap dP).length+((dP s.2.2.2.1).length+(dP s.2.2.2.2.1).length))))):=by unfold y9;grind
theorem Td(h:EncS s):pT s=some (y9 s)/\True:=by
 have hs:=ajm s;have hl:=PA h;have d:(rY s).length<=4194304:=by show 10<=_;omega
 obtain⟨D,E⟩:=CJ (ac2 h) d;obtain⟨F,G⟩:=aaH (t:=s.2.2.2.2.2.2.2.2.2.2.2) (by have:=h.w;omega);have I:=h.v;have H:=h.o;have hf:=h.f;have g:∀a b:List Int,(a++b).length=a.length+b.length:=λa b=>acA;constructor
 ·have r:=acT h (q:=dP (rY s)++tI s.2.2.2.2.2.2.2.2.2.2.2) (by rw[g];omega);have u:=E1 I.1 (q:=(dP (rY s)++tI s.2.2.2.2.2.2.2.2.2.2.2)++s.1.flatMap qy) (by omega) (by grind);have z:=ah8 h (q:=((dP (rY s)++tI s.2.2.2.2.2.2.2.2.2.2.2)++s.1.flatMap qy)++dP s.2.1) (by grind);have B:=E1 H.1 (q:=(((dP (rY s)++tI s.2.2.2.2.2.2.2.2.2.2.2)++s.1.flatMap qy)++dP s.2.1)++s.2.2.1.flatMap dP) (by omega) (by grind);have C:=E1 hf.1 (q:=((((dP (rY s)++tI s.2.2.2.2.2.2.2.2.2.2.2)++s.1.flatMap qy)++dP s.2.1)++s.2.2.1.flatMap dP)++dP s.2.2.2.1) (by omega) (by grind);unfold pT;dsimp only;refine(aei (λo:Option (List Int)=>o.bind _) D).trans ?_;simp only[f8,Qz2,F,af,bh (m:=(dP (rY s)).length) (k:=(tI s.2.2.2.2.2.2.2.2.2.2.2).length) (b:=1) (by omega) (by omega),abv,r,u,z,B,C];unfold y9;grind
 ·trivial
theorem aml:Fed AE [] (AE,[],0):=⟨rfl,rfl,rfl,λx a=>by cases a⟩
theorem aet{r:List Int}:Itr.it (gZ r) (0,List.replicate 16 0)=some ((List.range 16).map λj=>r.getD j 0):=by
 have a:(List.range' 0 16).foldl (λw i=>bR 16 (0:Int) w i (r.getD i 0)) (List.replicate 16 0)=(List.range 16).map λj=>r.getD j 0:=by rfl
 have h:=(lC (f:=gZ r) (λi x=>(i,x)) 0 16 (λw i=>bR 16 (0:Int) w i (r.getD i 0)) (λx=>x) (λ_ _=>True) (by omega) (by omega)
   (λi x _ hi _=>⟨by
    unfold gZ;simp only[ac6,af,ax (show(i:Int)<16 by omega),abv,ax (show 0<=(i:Int)/\(i:Int)<32 by omega),ax (show 0<=(i:Int)/\(i:Int)<16 by omega),ay (x:=(i:Int)+1) (by omega) (by omega)],trivial⟩)
   (λx _=>by rfl) (x:=List.replicate 16 0) trivial).1
 grind
def vH(tag:Int)(ts:List (List UInt8)):List Int:=[IntKind.u8.wrap tag]++ts.flatMap iV
def GJ(m:List Int):List Int:=(List.range 16).map λj=>(YY m).getD j 0
theorem PU{ts:List (List UInt8)}(J:ts.length<=4194304)(C:∀t∈ts,t.length<=70368744177664)(hl:(ts.flatMap iV).length<=140737488353000)(tag:Int):lH tag ts=some (GJ (vH tag ts)):=by
 have b:m6 [IntKind.u8.wrap tag]:=λx D=>by rcases ade.1 D with rfl;exact w8 _
 obtain⟨S1,E,h⟩:=DC aml (d6 [IntKind.u8.wrap tag]) (by rw[jn];simp);rw[Ay b,ae4]at h;obtain⟨S2,G,H⟩:=fD (f:=qP ts) (λs=>ts.length-s.1.toNat) (λs=>∃i:Nat,s.1=(i:Int)/\i<=ts.length/\Fed AE ([IntKind.u8.wrap tag]++(ts.take i).flatMap iV) s.2) (λr=>Fed AE ([IntKind.u8.wrap tag]++ts.flatMap iV) r)
  (λs hs=>by
   obtain⟨z,S⟩:=s;obtain⟨i,rfl,L,a⟩:=hs;dsimp only at a|-;by_cases hi:i<ts.length
   ·right;have ha:ts[i]?=some ts[i]:=acz hi;have B:=C _ (agl hi);have u:=jW (l:=ts[i]) (by omega);have d:m6 (iV ts[i]):=tN (Qm u) (Lo _);have g:=Ui iV ts (i+1);have e:=JB iV ha;obtain⟨S',F,m⟩:=DC a (d6 (iV ts[i])) (by
     rw[jn];rw[e,acA]at g;simp only[acA,aeH,afW];omega)
    rw[Ay d,aeh,<-e]at m;refine⟨((i:Int)+1,S'),?_,⟨i+1,by push_cast;rfl,by omega,m⟩,by dsimp only;omega⟩;unfold qP;simp only[aV ha,f8,Qz2,(Av B).1,ax (show(i:Int)<(ts.length:Int)by omega),abv,ay (x:=(i:Int)+1) (by omega) (by omega)];refine(aei (λo:Option cn=>o.bind _) F).trans ?_;rfl
   ·left;have:i=ts.length:=by omega
    subst this;rw[ajR]at a;refine⟨S,?_,a⟩;unfold qP;rw[aP (by omega)];rfl) (s:=(0,S1)) ⟨0,rfl,by omega,by simpa using h⟩ (by grind)
 obtain⟨I,-⟩:=Np (by simp only[acA,aeH,afW];omega) H;unfold lH;rw[show AT=some (AE,[],0)from rfl,f8];rw[show gV (AE,[],0) (List.map (λn=>UInt8.ofNat n.toNat) ([IntKind.u8.wrap tag]:List Int))=some S1 from E,f8,G,f8,I,f8];rfl
theorem Ag(h:EncS s):fh s=some (GJ (vH 6 [d6 (y9 s)])):=by obtain⟨a,-⟩:=Td h;have hl:=PA h;have v1:=PU (ts:=[d6 (y9 s)]) (by simp) (λt d=>by rcases ade.1 d with rfl;rw[jn];omega) (by have b:=jW (l:=d6 (y9 s)) (by rw[jn];omega);have:=kH b;rw[jn]at this;simp only[ajA,aqm,ad0];unfold iV;rw[acA,yu,jn];omega) 6;unfold fh;rw[a,f8];exact(aei (λo:Option (List Int)=>o.bind _) v1).trans rfl
theorem aw7{ts:List (List UInt8)}(a:ts.length<=4194304)(b:∀t∈ts,t.length<=70368744177664)(hl:(ts.flatMap iV).length<=140737488353000)(tag:Int):∃v,lH tag ts=some v:=⟨_,PU a b hl tag⟩
theorem aqo{R:Type}[DecidableEq α](xs ys:List α)(hl:xs.length=ys.length)(u:xs.length<4611686018427387904)(Z:R){f:Int->Option (Int⊕(Unit⊕R))}
  (h:∀(i:Nat) (a b:α),i<xs.length->ac ((i:Int)+1)=(i:Int)+1->a∈xs->b∈ys->ae xs (i:Int)=some a->ae ys (i:Int)=some b->f (i:Int)=if a=b then some (.inl ((i:Int)+1))else some (.inr (.inr Z)))
  (m:f (xs.length:Int)=some (.inr (.inl ()))):Itr.it f (0:Int)=some (if xs=ys then .inl ()else .inr Z):=by
 rcases jU (f:=f) xs.length (by omega) (λi=>xs[i]?=ys[i]?) (λ_=>Z)
  (λi hi _=>by
   have ha:xs[i]?=some xs[i]:=acz hi;have d:ys[i]?=some (ys[i]'(by omega)):=acz (by omega);rw[h i _ _ hi (ay (by omega) (by omega)) (aeK ha) (aeK d) (aV ha) (aV d),ha,d];grind)
  (λ_=>m)with⟨r,g⟩|⟨i,hi,_,r,g⟩
 ·rw[g,if_pos];refine afQ λi=>?_;grind
 grind
theorem xT[DecidableEq α](a b:List α)(m:a.length<4611686018427387904){f:Int->Option (Int⊕(Unit⊕Bool))}
  (d:∀(i:Nat) (x y:α),i<a.length->ac ((i:Int)+1)=(i:Int)+1->x∈a->y∈b->ae a (i:Int)=some x->ae b (i:Int)=some y->f (i:Int)=if x=y then some (.inl ((i:Int)+1))else some (.inr (.inr false)))
  (g:f (a.length:Int)=some (.inr (.inl ()))):(bif(a.length:Int) != (b.length:Int)then some false else(Itr.it f 0).bind λz=>match z with|Sum.inl _=>some true|Sum.inr t=>some t)=some (decide (a=b)):=by
 by_cases hl:a.length=b.length
 ·rw[nf (by omega),aqo a b hl m false d g];grind
 ·rw[nt (by omega),aP (λh=>hl (by rw[h]))];rfl
theorem tY(a b:List Int)(h:a.length<4611686018427387904):True/\True/\dv a b=some (decide (a=b)):=by
 have step:∀x y:Int,∀i:Int,(bif x != y then some (Sum.inr (Sum.inr false))else some (Sum.inl i))=if x=y then some (Sum.inl i:Int⊕(Unit⊕Bool))else some (.inr (.inr false)):=λx y i=>by grind
 refine⟨?_,?_,?_⟩
 ·trivial
 ·trivial
 ·exact xT (f:=gy a b) a b h (λi x y hi m _ _ d g=>by unfold gy;grind) (by unfold gy;grind)
theorem aqh(x y:Fr)(h:x.2.length<=1048576):abb 61 x y=some (decide (x=y)):=by
 show qc x y=_;obtain⟨b,d⟩:=x;obtain⟨g,m⟩:=y;unfold qc;by_cases a:b=g
 ·subst a;simp only[aer,abv,(tY d m (by grind)).2.2,f8,Qz2,acW,aq1]
 ·simp only[bf a,ab7,f8,Qz2,acW,a,false_and,aiM]
theorem axw(a b:List Fr)(u:a.length<=128)(h:∀f∈a,f.2.length<=1048576):bZ a b 61=some (decide (a=b)):=
 xT (f:=bw a b 61) a b (by omega) (λi x y hi m r _ d g=>by unfold bw;simp only[ax (show(i:Int)<(a.length:Int)by omega),abv,d,g,f8,Qz2,m,aqh x y (h x r)];grind) (by unfold bw;grind)
theorem axT(x y:Th)(h:EncTh x):pX x y 61=some (decide (x=y)):=by
 have m:=tY x.2.1 y.2.1 (by have:=h.s.2;omega);have r:=axw x.1 y.1 h.n λf hf=>(h.f f hf).2.2;obtain⟨E,u,z,d⟩:=x;obtain⟨F,B,C,g⟩:=y;dsimp only at m r;unfold pX;dsimp only;by_cases a:z=C;rotate_left
 ·simp[a,bf a]
 subst a;by_cases b:d=g;rotate_left
 ·simp[b,show(d==g)=false from ag6.2 b]
 subst b;by_cases D:u=B;rotate_left
 ·simp_all
 simp_all
theorem axW(a b:List Th)(u:a.length<=128)(h:∀t∈a,EncTh t):bW a b 61=some (decide (a=b)):=
 xT (f:=bj a b 61) a b (by omega) (λi x y hi m r _ d g=>by unfold bj;simp only[ax (show(i:Int)<(a.length:Int)by omega),abv,d,g,f8,Qz2,m,axT x y (h x r)];grind) (by unfold bj;grind)
theorem axK(a b:List (List Int))(r:a.length<=1048576)(h:∀t∈a,t.length<=1048577):gG a b=some (decide (a=b)):=
 xT (f:=dF a b) a b (by omega) (λi x y hi m u _ d g=>by unfold dF;simp only[ax (show(i:Int)<(a.length:Int)by omega),abv,d,g,f8,Qz2,m,(tY x y (by grind)).2.2];grind) (by unfold dF;grind)
noncomputable def eqS(s t:aG):Bool:=@decide (s=t) (Classical.propDecidable _)
theorem aoP{t:aG}(h:s=t):eqS s t=true:=by unfold eqS;grind
theorem D1{t:aG}(h:¬s=t):eqS s t=false:=by unfold eqS;grind
theorem au6(h:EncS s)(t:aG):sO s t=some (eqS s t):=by
 have C:=axW s.1 t.1 h.n h.t;have D:=axK s.2.2.1 t.2.2.1 h.q.1 λq hq=>(h.q.2 q hq).2;have E:=(tY s.2.1 t.2.1 (by have:=h.v.2;omega)).2.2;have F:=(tY s.2.2.2.1 t.2.2.2.1 (by have:=h.o.2;omega)).2.2;have G:=(tY s.2.2.2.2.1 t.2.2.2.2.1 (by have:=h.f.2;omega)).2.2;obtain⟨H,I,J,L,M,O,P,⟨T,U,V⟩,Q,R,r,u⟩:=s;obtain⟨W,c2,c3,c4,c5,X,Y,⟨d1,d2,d3⟩,Z,c9,z,B⟩:=t;dsimp only at C D E F G;unfold sO;dsimp only;rw[C];by_cases a:H=W;rotate_left
 ·rw[D1 (by simp[a]),aP a];rfl
 rw[ax a];subst a;simp only[f8,Qz2,abv];rw[D];by_cases d:J=c3;rotate_left
 ·rw[D1 (by simp[d]),aP d];rfl
 rw[ax d];subst d;simp only[f8,Qz2,abv];rw[E];by_cases b:I=c2;rotate_left
 ·rw[D1 (by simp[b]),aP b];rfl
 rw[ax b];subst b;simp only[f8,Qz2,abv];rw[F];by_cases g:L=c4;rotate_left
 ·rw[D1 (by simp[g]),aP g];rfl
 rw[ax g];subst g;simp only[f8,Qz2,abv];rw[G];by_cases m:M=c5;rotate_left
 ·rw[D1 (by simp[m]),aP m];rfl
 rw[ax m];subst m;simp only[f8,Qz2,abv];refine aei some ?_;by_cases e:(O=X/\P=Y/\T=d1/\U=d2/\V=d3/\Q=Z/\R=c9/\r=z/\u=B)
 ·obtain⟨rfl,rfl,rfl,rfl,rfl,rfl,rfl,rfl,rfl⟩:=e;rw[aoP rfl];grind
 ·rw[D1 (λh=>e (by grind)),ap9];grind
def Be(f:Fr):Prop:=bk f.1/\eV f.2
structure InT(t:Th):Prop where
 f:∀f∈t.1,Be f
 s:eV t.2.1
 w:bk t.2.2.1
structure InS(s:aG):Prop where
 t:∀t∈s.1,InT t
 v:eV s.2.1
 q:∀q∈s.2.2.1,eV q
 o:eV s.2.2.2.1
 f:eV s.2.2.2.2.1
 h:eV [s.2.2.2.2.2.1,s.2.2.2.2.2.2.1,s.2.2.2.2.2.2.2.1.1,s.2.2.2.2.2.2.2.1.2.1,s.2.2.2.2.2.2.2.1.2.2,s.2.2.2.2.2.2.2.2.1,s.2.2.2.2.2.2.2.2.2.1,s.2.2.2.2.2.2.2.2.2.2.1]
 w:s.2.2.2.2.2.2.2.2.2.2.2.length<=1048576
structure InC(c:CC):Prop where
 i:∀x∈c.1,bk x.2.1
 p:eV c.2.1
 v:∀v∈c.2.2.2.1,bk v.2
 n:∀l∈c.2.2.2.2.2.2.2,l.length<=1048576
theorem ayo(a:bC c)(h:NumC c):InC c:=⟨h.i,λx d=>by obtain⟨k,b,rfl⟩:=ahI d;obtain⟨_,_,g,m,_⟩:=a.2.1.2.2.1 k b;rw[aee,acz b,aiJ]at g m;have:=a.1;exact⟨by omega,by omega⟩,h.v,h.n⟩
theorem mJ:bk 0:=⟨by omega,by omega⟩
theorem o0(h:eV l)(i:Nat):bk (l.getD i 0):=by
 rw[aee];cases a:l[i]? with
 |none=>exact mJ
 |some x=>exact h x (aeK a)
theorem oi(h:eV l)(i:Nat)(a:bk v):eV (l.set i v):=λx b=>(afx b).elim (h x) (λe=>e▸a)
theorem tU(h:eV l)(i:Nat):eV (l.take i):=λx a=>h x (agT a)
theorem agy(h:eV l)(i:Nat):eV (l.drop i):=λx a=>h x (ag4 a)
theorem AN(h:eV l)(a:bk v):eV (l++[v]):=λx b=>(aef.1 b).elim (h x) (λe=>(ade.1 e)▸a)
theorem Do(n:Nat)(a:bk v):eV (List.replicate n v):=λx b=>aiV b▸a
theorem gd(a : -10<=x)(b:x<=4294967296):bk x:=⟨by omega,by omega⟩
theorem EH(h:∀f∈fs,Be f)(hf:Be f):∀g∈fs++[f],Be g:=λg a=>(aef.1 a).elim (h g) (λe=>(ade.1 e)▸hf)
theorem kJ(hs:InS s)(a:InT t):InS (cq s i t):=
 ⟨λu b=>(afx b).elim (hs.t u) (λe=>e▸a),hs.v,hs.q,hs.o,hs.f,hs.h,hs.w⟩
theorem GO(h:InS s):bk s.2.2.2.2.2.1/\bk s.2.2.2.2.2.2.1/\bk s.2.2.2.2.2.2.2.1.1/\bk s.2.2.2.2.2.2.2.1.2.1/\bk s.2.2.2.2.2.2.2.1.2.2/\bk s.2.2.2.2.2.2.2.2.1/\bk s.2.2.2.2.2.2.2.2.2.1/\bk s.2.2.2.2.2.2.2.2.2.2.1:=by have a:=h.h;exact⟨a _ (by simp),a _ (by simp),a _ (by simp),a _ (by simp),a _ (by simp),a _ (by simp),a _ (by simp),a _ (by simp)⟩
theorem F8{a b c d e f g h:Int}(m:bk a)(r:bk b)(u:bk c)(z:bk d)(B:bk e)(C:bk f)(D:bk g)(E:bk h):eV [a,b,c,d,e,f,g,h]:=
 ge m (ge r (ge u (ge z (ge B (ge C (ge D (ge E oj)))))))
theorem Pz(hs:InS s){w:List UInt8}(r:bk o)(m:bk k)(u:w.length<=1048576):InS (vw s o k w):=by obtain⟨a,b,c,d,e,f,g,h⟩:=GO hs;exact⟨hs.t,hs.v,hs.q,hs.o,hs.f,F8 a b c d e f r m,u⟩
theorem ajS(hs:InS s)(x:Int):InS (aci s x):=by obtain⟨a,b,c,d,e,f,g,h⟩:=GO hs;exact⟨hs.t,hs.v,hs.q,hs.o,hs.f,F8 a b c (jy _) e f g h,hs.w⟩
theorem aqz(hs:InS s):InS (DW s):=by obtain⟨a,b,c,d,e,f,g,h⟩:=GO hs;exact⟨hs.t,hs.v,hs.q,hs.o,hs.f,F8 a b c d (jy _) f g h,hs.w⟩
theorem ad6(hs:InS s)(m:bk w):InS (Rz s w):=by obtain⟨a,b,c,d,e,f,g,h⟩:=GO hs;exact⟨hs.t,hs.v,hs.q,hs.o,hs.f,F8 m b c d e f g h,hs.w⟩
theorem aqZ(hs:InS s):InS (dR s):=by obtain⟨a,b,c,d,e,f,g,h⟩:=GO hs;exact⟨hs.t,hs.v,hs.q,hs.o,hs.f,F8 (jy _) (jy _) (jy _) d e f g h,hs.w⟩
theorem Hb(hs:InS s){p:Int}(m:bk p):InS (bS s p):=by obtain⟨a,b,c,d,e,f,g,h⟩:=GO hs;exact⟨hs.t,hs.v,hs.q,hs.o,hs.f,F8 a b c d e m g h,hs.w⟩
theorem avU(hs:InS s)(m:bk o):InS (Dk s o):=by obtain⟨a,b,c,d,e,f,g,h⟩:=GO hs;exact⟨hs.t,hs.v,hs.q,hs.o,hs.f,F8 a b c d e f m h,hs.w⟩
theorem MO(hs:InS s)(i:Nat):InT (bo s i):=by
 unfold bo;rw[aee];cases a:s.1[i]? with
 |none=>exact⟨λf hf=>(by cases hf),oj,mJ⟩
 |some x=>exact hs.t x (aeK a)
theorem adr(h:InT t):Be (vp t):=by
 unfold vp;rcases akR t.1 with hl|⟨fs,f,hl⟩
 ·rw[hl];exact⟨mJ,oj⟩
 ·rw[akS]at hl;rw[hl,List.getLastD_concat];exact h.f f (by rw[hl];simp)
theorem UI(h:InT t):∀f∈t.1.dropLast,Be f:=λf hf=>h.f f (List.dropLast_subset _ hf)
theorem axa(h:InC c)(pc:Nat):bk (dG c pc).2.1:=by
 unfold dG;rw[aee];cases a:c.1[pc]? with
 |none=>exact mJ
 |some x=>exact h.i x (aeK a)
theorem amp(h:InC c)(k:Nat):(c.2.2.2.2.2.2.2.getD k []).length<=1048576:=by
 rw[aee];cases a:c.2.2.2.2.2.2.2[k]? with
 |none=>simp
 |some x=>exact h.n x (aeK a)
theorem zP(h:InC c)(hs:InS s)(i:Nat)(a:bk o):InS (f6 c s i o):=by
 unfold f6;dsimp only;split
 ·exact Pz hs a (jy _) (amp h _)
 ·exact Pz hs a (GO hs).2.2.2.2.2.2.2 hs.w
theorem um{p:Prop}[Decidable p]{a b:Int}(ha:bk a)(d:bk b):bk (if p then a else b):=by grind
theorem YR:bk 1:=⟨by omega,by omega⟩
theorem awv(op a b:Int):bk (IG op a b):=by unfold IG;exact um (jy _) (um (jy _) (um (jy _) (um (um YR mJ) (um (um YR mJ) (um YR mJ)))))
theorem nV{b:Bool}(a:∀f∈fs,Be f)(d:Be f)(g:eV st)(h:bk w):InT (fs++[f],st,w,b):=⟨EH a d,g,h⟩
theorem avD(M:InC c)(V:bk kind)(hs:InS s){x:bO}(m:∀f∈fs,Be f)(r:Be f)(d:eV st)(u:bk w)(H:bk x.2.1) :
  ∀a,lR c kind s i fs f st w x=some a->InS a:=by
 have U:∀v,bk v->∀a,(if 16<=st.length then none else some (cq s i (fs++[(ac (f.1+1),f.2)],st++[v],w,false)))=some a->InS a:=λv G a h=>by
  split at h
  ·cases h
  ·injection h with h;subst h;exact kJ hs (nV m ⟨jy _,r.2⟩ (AN d G) u)
 have I:∀g:Int->aG,(∀v,bk v->InS (g v))->∀a,(if st.length=0 then none else some (g (st.getD (st.length-1) 0)))=some a->InS a:=λg T a h=>by
  split at h
  ·cases h
  ·injection h with h;subst h;exact T _ (o0 d _)
 intro a h;unfold lR at h;by_cases P:x.1=0
 ·grind
 rw[if_neg P]at h;by_cases J:x.1=1
 ·rw[if_pos J]at h;exact U _ (o0 r.2 _) _ h
 rw[if_neg J]at h;by_cases Q:x.1=3
 ·grind
 rw[if_neg Q]at h;by_cases L:x.1=2
 ·rw[if_pos L]at h;refine I (λv=>cq s i (fs++[(ac (f.1+1),f.2.set x.2.1.toNat v)],st.take (st.length-1),w,false)) (λv G=>?_) _ h;exact kJ hs (nV (f:=(ac (f.1+1),f.2.set x.2.1.toNat v)) m ⟨jy _,oi r.2 _ G⟩ (tU d _) u)
 rw[if_neg L]at h;by_cases z:x.1=10
 ·rw[if_pos z]at h;injection h with h;subst h;exact kJ hs (nV m ⟨H,r.2⟩ d u)
 rw[if_neg z]at h;by_cases B:x.1=11
 ·rw[if_pos B]at h;exact I (λv=>cq s i (fs++[(if v=0 then x.2.1 else ac (f.1+1),f.2)],st.take (st.length-1),w,false)) (λv G=>kJ hs (nV m ⟨um H (jy _),r.2⟩ (tU d _) u)) _ h
 rw[if_neg B]at h;by_cases C:x.1=12
 ·rw[if_pos C]at h;by_cases R:8<=fs.length+1
  ·grind
  ·rw[if_neg R]at h;injection h with h;subst h;exact kJ hs (nV (EH m ⟨jy _,r.2⟩) ⟨o0 M.p _,Do _ mJ⟩ d u)
 rw[if_neg C]at h;by_cases D:x.1=13
 ·rw[if_pos D]at h;injection h with h;subst h;exact kJ hs ⟨m,d,u⟩
 rw[if_neg D]at h;by_cases E:x.1=14
 ·rw[if_pos E]at h;refine I (λv=>if v=0 then vw (cq s i (fs++[(ac (f.1+1),f.2)],st.take (st.length-1),w,false)) 1 x.2.1 (c.2.2.2.2.2.2.2.getD x.2.2.toNat [])else cq s i (fs++[(ac (f.1+1),f.2)],st.take (st.length-1),w,false)) (λv G=>?_) _ h;have O:=kJ (i:=i) hs (nV (b:=false) m (f:=(ac (f.1+1),f.2)) ⟨jy _,r.2⟩ (tU d (st.length-1)) u);split
  ·exact Pz O YR H (amp M _)
  ·exact O
 rw[if_neg E]at h;by_cases F:x.1=15
 ·rw[if_pos F]at h;injection h with h;subst h;exact ajS (kJ hs (nV (f:=(ac (f.1+1),f.2)) m ⟨jy _,r.2⟩ d u)) _
 rw[if_neg F]at h;by_cases hl:st.length<2
 ·grind
 ·rw[if_neg hl]at h;injection h with h;subst h;exact kJ hs (nV m ⟨jy _,r.2⟩ (AN (tU d _) (awv _ _ _)) u)
theorem acN(a:InC c)(g:bk kind)  : ∀(m:Nat) {s:aG},InS s->InS (bY c kind i m s).2:=by
 intro m;induction m with
 |zero=>
  intro s hs;unfold bY;split
  ·exact hs
  split
  ·exact hs
  exact zP a hs _ (gd (by omega) (by omega))
 |succ m h=>
  intro s hs;unfold bY;split
  ·exact hs
  split
  ·exact hs
  have b:=MO hs i;dsimp only;split
  ·exact zP a hs _ (gd (by omega) (by omega))
  ·next r d=>exact h (avD a g hs (UI b) (adr b) b.s b.w (axa a _) r d)
theorem ako(hs:InS s)(i:Nat):InS (qB c s i).1:=by
 have a:=MO hs i;unfold qB;dsimp only;split
 ·exact kJ hs ⟨a.f,a.s,jy _⟩
 split
 ·show InS (if _ then _ else _);split
  ·exact aqz hs
  ·exact hs
 grind
theorem NB(a:InC c)(b:bk kind)(hs:InS s):InS (bn c kind i s).1:=by
 have h:=acN a b (i:=i) 64 hs;unfold bn;split
 ·exact ako h i
 ·exact h
theorem avj(a:InC c)(b:bk kind):∀(l:List Int) {s:aG},InS s->InS (bA c kind l s).1:=by
 intro l;induction l with
 |nil=>intro s hs;exact hs
 |cons z l d=>intro s hs;exact d (NB a b hs)
theorem ap6(hs:InS s):∀n,bk (lg c s n):=by
 intro n;induction n with
 |zero=>exact gd (x:=-1) (by omega) (by omega)
 |succ n a=>exact um (MO hs n).w a
theorem Jg(a:InC c)(hs:InS s):InS (cu c s):=by
 unfold cu;split
 ·exact hs
 split
 ·exact zP a hs _ (gd (by omega) (by omega))
 split
 ·exact hs
 split
 ·exact ad6 hs (ap6 hs _)
 ·exact zP a hs _ (gd (by omega) (by omega))
theorem Un{a b:List Th}{r:Af}(h:InS (a,r))(d:∀t∈b,InT t):InS (b,r):=⟨d,h.v,h.q,h.o,h.f,h.h,h.w⟩
theorem Hk{q:List (List Int)}(h:∀l∈q,eV l)(i:Nat):eV (q.getD i []):=by
 rw[aee];cases a:q[i]? with
 |none=>exact oj
 |some x=>exact h x (aeK a)
theorem VN{q:List (List Int)}(h:∀l∈q,eV l)(i:Nat)(hl:eV l):∀m∈q.set i l,eV m:=λm a=>(afx a).elim (h m) (λe=>e▸hl)
theorem awL(hi:i<=1048576){x:bO}(O:bk k){r:Af}(m:eV f.2)(u:eV st)(h:InS ([],r)) :
  eV (gS i f st x k r).2.2.1/\eV (gS i f st x k r).2.2.2.1/\InS ([],(gS i f st x k r).2.2.2.2):=by
 have M:=o0 u (st.length-1);have L:=tU u (st.length-1);obtain⟨a,b,c,d,e,g,o,z⟩:=GO h;unfold gS;dsimp only;by_cases B:x.1=16
 ·rw[if_pos B];split
  ·exact⟨m,u,h⟩
  ·exact⟨m,AN u (o0 h.v _),h⟩
 rw[if_neg B];by_cases C:x.1=17
 ·rw[if_pos C];split
  ·exact⟨m,u,h⟩
  ·exact⟨m,L,⟨h.t,oi h.v _ M,h.q,h.o,h.f,h.h,h.w⟩⟩
 rw[if_neg C];by_cases D:x.1=20
 ·rw[if_pos D];exact⟨oi m _ (o0 (Hk h.q _) _),u,⟨h.t,h.v,VN h.q _ (agy (Hk h.q _) _),h.o,h.f,h.h,h.w⟩⟩
 rw[if_neg D];by_cases E:x.1=21
 ·rw[if_pos E];exact⟨m,u,⟨h.t,h.v,h.q,oi h.o _ (gd (by omega) (by omega)),h.f,h.h,h.w⟩⟩
 rw[if_neg E];by_cases F:x.1=22
 ·rw[if_pos F];exact⟨m,u,⟨h.t,h.v,h.q,oi h.o _ (gd (by omega) (by omega)),h.f,h.h,h.w⟩⟩
 rw[if_neg F];by_cases G:x.1=23
 ·rw[if_pos G];exact⟨oi m _ O,u,h⟩
 rw[if_neg G];by_cases H:x.1=24
 ·rw[if_pos H];exact⟨oi m _ (jy _),u,⟨h.t,h.v,h.q,h.o,h.f,F8 (jy _) b c d e g o z,h.w⟩⟩
 rw[if_neg H];by_cases I:x.1=25
 ·rw[if_pos I];exact⟨m,u,h⟩
 rw[if_neg I];by_cases J:x.1=26
 ·rw[if_pos J];split
  ·exact⟨m,u,h⟩
  split
  ·exact⟨m,L,⟨h.t,h.v,h.q,h.o,oi h.f _ M,h.h,h.w⟩⟩
  ·exact⟨m,L,h⟩
 rw[if_neg J];exact⟨oi m _ (o0 h.f _),u,h⟩
theorem aud{l:List Th}(h:∀t∈l,InT t)(a:InT t):∀u∈l.set i t,InT u:=λu b=>(afx b).elim (h u) (λe=>e▸a)
theorem asT(C:InC c)(hs:InS s)(hi:i<=1048576){x:bO}(r:∀f∈fs,Be f)(u:Be f)(h:eV st)(z:bk w)(E:bk j):InS (fE c s i fs f st w x j).2.2.2:=by
 unfold fE;split
 ·unfold uK;split
  ·exact hs
  ·have a:InS (oL s i fs f st w):=kJ hs (nV (f:=(ac (f.1+1),f.2)) r ⟨jy _,u.2⟩ h z);refine⟨λt d=>?_,a.v,a.q,a.o,a.f,a.h,a.w⟩;rcases aef.1 d with d|d
   ·exact a.t t d
   ·rcases ade.1 d with rfl;exact⟨λg D=>by rcases ade.1 D with rfl;exact⟨o0 C.p _,Do _ mJ⟩,oj,mJ⟩
 split
 ·unfold lU;split
  ·exact hs
  have a:InS (cq s i (fs++[(ac (f.1+1),f.2)],st.take (st.length-1),w,false)):=kJ hs (nV (f:=(ac (f.1+1),f.2)) r ⟨jy _,u.2⟩ (tU h _) z);dsimp only;split
  ·exact⟨a.t,a.v,VN a.q _ (AN (Hk hs.q _) (o0 h _)),a.o,a.f,a.h,a.w⟩
  ·have d:=MO hs ((iY c s x.2.1).getD j.toNat 0).toNat;exact kJ a ⟨EH (UI d) ⟨jy _,oi (adr d).2 _ (o0 h _)⟩,d.s,d.w⟩
 split
 ·have m:=awL (i:=i) hi (f:=f) (st:=st) (x:=x) (k:=j) E u.2 h (Un (b:=[]) hs (λt d=>by cases d));have B:InS (vE s i fs f st w x j):=Un m.2.2 (aud hs.t (nV (f:=(f.1,(gS i f st x j s.2).2.2.1)) r ⟨u.1,m.1⟩ m.2.1 z));unfold nW;dsimp only;split
  ·exact kJ B (nV (f:=(ac (f.1+1),(gS i f st x j s.2).2.2.1)) r ⟨jy _,m.1⟩ m.2.1 z)
  ·exact B
 ·unfold tH;have a:InS (cq s i ([],[],0,true)):=kJ hs ⟨λf hf=>(by cases hf),oj,mJ⟩;dsimp only;split
  ·exact avU a mJ
  ·exact a
theorem auB(a:InC c)(b:bk e.1)(hs:InS s){q:zh}(hq:InS q.2.2.2):InS (su c e s i q).1:=by
 unfold su;split
 ·exact Jg a (avj a b _ (aqZ hq))
 ·exact zP a (Hb hs (gd (by omega) (by omega))) _ (gd (by omega) (by omega))
theorem RH(c:CC)(s:aG)(i:Nat)(o:Int):(f6 c s i o).1=s.1:=by unfold f6;dsimp only;split<;>rfl
theorem Zv(c:CC)(s:aG):(cu c s).1=s.1:=by
 unfold cu;split
 ·rfl
 split
 ·exact RH ..
 split
 ·rfl
 split
 ·rfl
 ·exact RH ..
theorem ahQ(b:bC c)(a:InC c)(m:iW e):InS (fQ c e [])/\(fQ c e []).1.length<=1:=by
 obtain⟨r1,D,C⟩:=Gt b [];obtain⟨_,_,h⟩:=E6 b e.1 (ZW b []) r1 C;have u:InS (fy c []):=⟨λt B=>by rcases ade.1 B with rfl;exact⟨λg z=>by rcases ade.1 z with rfl;exact⟨o0 a.p _,Do _ mJ⟩,oj,mJ⟩,
  λx d=>by obtain⟨v,r,rfl⟩:=acG.1 d;exact a.v v r,
  λq hq=>by rw[aiV hq];exact oj,Do _ (gd (by omega) (by omega)),
  λx d=>by obtain⟨v,r,rfl⟩:=acG.1 d;exact mJ,
  F8 mJ (gd (x:=64) (by omega) (by omega)) mJ mJ mJ (gd (x:=-1) (by omega) (by omega)) (gd (x:=-1) (by omega) (by omega)) mJ,by show 0<=_;omega⟩
 refine⟨Jg a (NB a (gd (by have:=m.1;omega) (by have:=m.2.1;omega)) u),?_⟩;unfold fQ;rw[Zv,h];show 1<=1;omega
structure SizeS(d:Nat)(s:aG):Prop where
 n:s.1.length<=100+d
 t:∀t∈s.1,t.1.length<=100/\t.2.1.length<=1048576/\∀f∈t.1,f.2.length<=1000+d
 v:s.2.1.length<=100000+d
 q:s.2.2.1.length<=100000/\∀q∈s.2.2.1,q.length<=1000+d
 o:s.2.2.2.1.length<=100000
 f:s.2.2.2.2.1.length<=100000
theorem aug{d:Nat}(hd:d<=5)(h:SizeS d s)(a:InS s):EncS s:=
 ⟨by have:=h.n;omega,λt b=>⟨by have:=(h.t t b).1;omega,λf hf=>⟨(a.t t b |>.f f hf).1,(a.t t b |>.f f hf).2,by have:=(h.t t b).2.2 f hf;omega⟩,⟨(a.t t b).s,by have:=(h.t t b).2.1;omega⟩,(a.t t b).w⟩,⟨a.v,by have:=h.v;omega⟩,
  ⟨by have:=h.q.1;omega,λq hq=>⟨a.q q hq,by have:=h.q.2 q hq;omega⟩⟩,⟨a.o,by have:=h.o;omega⟩,⟨a.f,by have:=h.f;omega⟩,a.h,a.w⟩
theorem arC(B:bC c)(b:aaO c)(h:StOk c s)(r:mM s)(G:s.1.length<=100):SizeS 0 s:=by
 obtain⟨H,I,J,L,M,O,P⟩:=b;obtain⟨D,u,E,F⟩:=h.fit;refine⟨by omega,λt b=>?_,by omega,⟨by omega,λq hq=>?_⟩,by omega,by omega⟩
 ·rcases h.th t b with⟨a,z⟩|⟨_,fs,f,a,m⟩
  ·exact⟨by rw[z];simp,(r.2.1 t b).2.1,λf hf=>by rw[z]at hf;cases hf⟩
  ·have:=m.n;have:=m.m;refine⟨by rw[a,acA,adC];omega,by omega,λg C=>?_⟩;have:=BG B (m.fr g (by rw[<-a];exact C));omega
 ·obtain⟨j,d,rfl⟩:=ahI hq;have a:=h.cap j (by rw[<-u];exact d);rw[aee,acz d,aiJ]at a;have:=(B.2.1.2.2.2 j (by rw[<-u];exact d)).2;omega
structure EndW(s:aG):Prop where
 n1:1<=s.1.length
 n:s.1.length<=65
 own:∀k,k<s.2.2.2.1.length->mr s k
 so:∀k,k<s.1.length->((bo s k).2.2.2=true->(bo s k).2.1.length=0/\(bo s k).2.2.1=0)/\((bo s k).2.2.2=false->0<=(bo s k).2.2.1/\(bo s k).2.2.1<=1048576)
 live:eR s s.1.length<=5
 cl:0<=s.2.2.2.2.2.1/\s.2.2.2.2.2.1<=1048576
 fu:0<=s.2.2.2.2.2.2.1/\s.2.2.2.2.2.2.1<=64
 st:0<=s.2.2.2.2.2.2.2.1.1
 al:0<=s.2.2.2.2.2.2.2.1.2.1
 wa:0<=s.2.2.2.2.2.2.2.1.2.2
 si:0<=s.2.2.2.2.2.2.2.2.2.2.1
 pk:s.2.2.2.2.2.2.2.2.1 = -1
theorem ab6(b:CodeOk c)(a:GoodS c s)(h:EndW s)(m:0<=aW s):fU c s=some 0:=by
 obtain⟨k,v1⟩:=b.p;have vQ:zH c s:=⟨⟨h.n1,h.n⟩,h.own,λk b=>by
  have:=h.so k b;unfold nZ;split
  ·rename_i d;exact ax (this.1 d)
  ·rename_i d;have:=this.2 (by simpa using d);exact ax ⟨this.1,this.2,.inl m⟩,h.live⟩
 obtain⟨H,F,G⟩:=Q7 b.v (0,0,0) [] a.ok a.sm;obtain rfl:=G.2 vQ;have g:=a.hi;unfold aW at m g;have r:ac (s.2.2.2.2.2.2.2.2.2.1+1)=s.2.2.2.2.2.2.2.2.2.1+1:=ay (by omega) (by omega);have z:=h.cl;have B:=h.fu;have D:=h.st;have u:=h.al;have E:=h.wa;have C:=h.si;unfold fU;dsimp only;rw[v1];simp only[f8,Qz2,aeA,ab7,tE s a.sm,F,afg,aeN,abv,jH,GL,r];rw[ax (show 0<=s.2.2.2.2.2.1/\s.2.2.2.2.2.1<=1048576 by omega),ax (show 0<=s.2.2.2.2.2.2.1/\s.2.2.2.2.2.2.1<=64 by omega),aP (show¬Aa s.2.2.2.2.2.2.2.1.1 s.2.2.2.2.2.2.2.1.2.1 s.2.2.2.2.2.2.2.1.2.2 s.2.2.2.2.2.2.2.2.2.2.1<0 by rw[Vl];omega),
  ax (show 0<=s.2.2.2.2.2.2.2.2.2.1+1/\s.2.2.2.2.2.2.2.2.2.1+1<=5 by omega),ax (show(0:Int)<=s.2.2.2.2.2.2.2.2.2.1 by omega),h.pk]
 rfl
theorem EC{L:List Int}(h:RunV c s L K A N)(m:∀k:Nat,k<s.1.length->(k:Int)∈L->(bo s k).2.2.2=false)(u:K<=10000)(z:(s.1.length:Int)<=65)(hf:s.2.2.2.2.2.2.1<=64)(r:s.2.2.2.2.2.2.2.2.1 = -1):EndW s:=by
 have b:=h.cl;refine⟨h.n1,by omega,h.own,λk d=>⟨λa=>?_,λa=>?_⟩,h.live,⟨b.1,by omega⟩,⟨h.fu,hf⟩,h.st.1,h.al.1,h.wa.1,by rw[h.wh];exact af3 _,r⟩
 ·by_cases g:(k:Int)∈L
  ·rw[m k d g]at a;cases a
  ·have:=h.so k d g;unfold nZ at this;rw[if_pos a]at this;exact aex this
 ·have:=h.wk k d;exact⟨this.1,by omega⟩
theorem Nh(h:EndW s)(o:Int)(w:List UInt8)(a:0<=k):EndW (vw s o k w):=
 ⟨h.n1,h.n,h.own,h.so,ajF (ky (s:=s) (t:=vw s o k w) s.1.length λ_ _ h=>h) h.live,h.cl,h.fu,h.st,h.al,h.wa,a,h.pk⟩
theorem acn{t:aG}{a C:List Fr}{b D:List Int}(h:EndW s)(E:s.1[i]?=some (a,b,w,false))(e:t.1=s.1.set i (C,D,w,false))(k:vy s t)(u:0<=t.2.2.2.2.2.2.2.1.2.1)(z:0<=t.2.2.2.2.2.2.2.2.2.2.1):EndW t:=by
 obtain⟨M,O,F,P,G,H,I,J,L⟩:=k;have hi:=cG E;have d:t.1.length=s.1.length:=by rw[e,afa]
 have r:∀q,q≠i->bo t q=bo s q:=λq hq=>Fy (by rw[e,agN (aqR hq)]);have B:bo t i=(C,D,w,false):=eC (by rw[e,afF hi]);have m:bo s i=(a,b,w,false):=eC E;refine⟨by rw[d];exact h.n1,by rw[d];exact h.n,λq hq=>?_,λq hq=>?_,?_,by rw[G];exact h.cl,by rw[H];exact h.fu,by rw[I];exact h.st,u,by rw[J];exact h.wa,z,by rw[L];exact h.pk⟩
 ·have:=h.own q (by rw[<-F];exact hq);unfold mr at *;rw[F,d];exact this
 ·rw[d]at hq;by_cases g:q=i
  ·subst g;have:=(h.so q hq).2 (by rw[m]);rw[m]at this;rw[B];exact⟨λh=>(by cases h),λ_=>this⟩
  ·rw[r q g];exact h.so q hq
 ·rw[d];refine ajF (ky (s:=s) (t:=t) s.1.length λq _ hq=>?_) h.live;by_cases g:q=i
  ·subst g;rw[m]at hq;cases hq
  ·rw[r q g];exact hq
theorem yc(a:bC c){x:bO}{k pc:Nat}(h:AtP c s i fs f st w x k pc)(o:Int):∃q w',0<=q/\f6 c s i o=vw s o q w':=by refine⟨_,_,?_,tV a h o⟩;have g:=h.pc1;have m:=h.pc2;have r:=a.1;obtain⟨b,d,_⟩:=h.pr;obtain⟨_,_,_,u,_⟩:=a.2.1.2.2.1 k b;rw[ay (by omega) (by omega)];omega
theorem afE{x:bO}(b:aW s<0):Fj (λa=>0<=aW a->x.1=14/\a.2.2.2.2.2.2.2.2.2.2.1=x.2.1) (lR c kind s i fs f st w x):=by
 unfold aW at *;unfold lR;dsimp only;repeat' (first|exact IN|exact oU (λh=>absurd (show(0:Int)<=s.2.2.2.2.2.2.2.2.2.1 from h) (by omega))|refine SL (λh=>?_) (λh=>?_))
 split
 ·exact oU λ_=>⟨by assumption,rfl⟩
 ·exact oU (λh=>absurd (show(0:Int)<=s.2.2.2.2.2.2.2.2.2.1 from h) (by omega))
theorem WV(h:bC c)(kind:Int)  : ∀(m:Nat) {s:aG} {fs:List Fr} {f:Fr} {st:List Int} {w:Int},s.1[i]?=some (fs++[f],st,w,false)->Run1 c fs f st->aW s<0 ->
  0<=s.2.2.2.2.2.2.2.1.2.1->s.2.2.2.2.2.2.2.1.2.1+100*m<=2000000000->0<=aW (bY c kind i m s).2->0<=(bY c kind i m s).2.2.2.2.2.2.2.2.1.2.1/\0<=(bY c kind i m s).2.2.2.2.2.2.2.2.2.2.2.1:=by
 intro m;induction m with
 |zero=>
  intro s fs f st w u r I B O;obtain⟨k,pc,b⟩:=gI u r;rw[oO c kind 0 b,if_neg (by omega)];split
  ·intro hq;exact absurd hq (by dsimp only;omega)
  ·intro _;obtain⟨q,w',hq,C⟩:=yc h b 3;dsimp only;rw[C];exact⟨B,hq⟩
 | succ m Q=>
  intro s fs f st w u r I B O;obtain⟨k,pc,b⟩:=gI u r;rw[oO c kind (m+1) b,if_neg (by omega)];split
  ·intro hq;exact absurd hq (by dsimp only;omega)
  rename_i T;obtain⟨D,P⟩:=vh h b (by simpa using T);dsimp only;cases a:lR c kind s i fs f st w (dG c f.1.toNat)with
  |none=>
   intro _;obtain⟨q,w',hq,C⟩:=yc h b 4;dsimp only;rw[C];exact⟨B,hq⟩
  | some g =>
   dsimp only;obtain⟨J,W,V,L,M,X⟩:=FC h b r D P a;obtain⟨_,Y,z⟩:=EM _ a;have d:=afE I _ a;have H:=h.2.2.1 k pc b.pc2 b.pr;rw[b.x]at H;obtain⟨_,_,_,_,_,F,U,_⟩:=H;have ha:0<=g.2.2.2.2.2.2.2.1.2.1/\g.2.2.2.2.2.2.2.1.2.1<=s.2.2.2.2.2.2.2.1.2.1+100:=by
    rcases z with z|⟨z,R⟩
    ·omega
    ·obtain⟨Z,o2⟩:=U z;rw[R,ay (by omega) (by omega)];omega
   by_cases E:aW g<0
   ·exact Q (s:=g) (w:=w) (by rw[L];exact afF (cG u)) M E ha.1 (by omega)
   ·have e:bY c kind i m g=(true,g):=by unfold bY;rw[if_pos (by omega)]
    rw[e];obtain⟨G,xs⟩:=d (by omega);intro _;exact⟨ha.1,by dsimp only;rw[xs];exact(F G).1⟩
theorem Jx(r:bC c)(kind:Int){L:List Int}(a:qQ c s i)(h:RunV c s ((i:Int)::L) K A N)(D:∀k:Nat,k<s.1.length->(k:Int)∈(i:Int)::L->(bo s k).2.2.2=false)(C:K<=10000)(R:A<=1000000000)(E:(s.1.length:Int)<=65)(hf:s.2.2.2.2.2.2.1<=64)(H:s.2.2.2.2.2.2.2.2.1 = -1)
  (G:aW s<0) (d:0<=aW (bn c kind i s).1):EndW (bn c kind i s).1:=by
 obtain⟨fs,f,st,w,g,a⟩:=a;obtain⟨u,O,M,z,P,B,Q⟩:=vc r kind 64 g a;have b:=h.al;have F:=WV r kind 64 g a G b.1 (by omega);unfold bn at *;split at d
 ·rename_i m;rw[IT]at d;omega
 ·rename_i m;rw[if_neg m];obtain⟨I,J⟩:=F d;exact acn (EC h D C E hf H) g z B I J
theorem afp(h:CanRun c l s):∀k:Nat,k<s.1.length->(k:Int)∈l->(bo s k).2.2.2=false:=λk _ a=>by
 obtain⟨n,e,fs,f,st,w,b,_⟩:=h.run _ a;obtain rfl:k=n:=by omega
 rw[eC b]
theorem Vi{c:CC}(d:bC c)(kind:Int):∀{l:List Int} {s:aG} {K A N:Int},CanRun c l s->RunV c s l K A N->K<=10000->A+6401*l.length<=1000000000->(s.1.length:Int)<=65->s.2.2.2.2.2.2.1<=64->s.2.2.2.2.2.2.2.2.1 = -1->aW s<0->0<=aW (bA c kind l s).1->EndW (bA c kind l s).1
 |[],s,K,A,N,a,h,m,G,r,hf,C,H,u=>absurd u (by show¬0<=aW s;omega)
 |z::l,s,K,A,N,a,h,m,G,r,hf,C,H,u=>by
  have b:=afp a;obtain⟨n,rfl,D⟩:=a.run z (adT ..);have g:=Aj d kind a;rw[ac6]at g;rw[aeH]at G;have B:0<=aW (bA c kind l (bn c kind n s).1).1:=u;show EndW (bA c kind l (bn c kind n s).1).1;by_cases E:aW (bn c kind n s).1<0
  ·have F:=(yZ c kind n s).2;exact Vi d kind g (yr d kind a.g D h m (by omega) E) m (by omega) (by rw[(rS d kind a.g D).2.1];exact r) (by rw[F.1];exact hf) (by rw[F.2];exact C) E B
  ·rw[xl c kind l (by omega)];exact Jx d kind D h b m (by omega) r hf C H (by omega)
theorem Fs(B:bC c)(h:RunV c s [] K A N)(hs:StOk c s)(u:K<=10000)(z:(s.1.length:Int)<=65)(hf:s.2.2.2.2.2.2.1<=64)(D:s.2.2.2.2.2.2.2.2.1 = -1)(F:aW s<0)(b:0<=aW (cu c s)):EndW (cu c s):=by
 have E:=EC h (λk _ C=>by cases C) u z hf D;have g:∀o,EndW (f6 c s 0 o):=λo=>by
  rcases nR hs h.n1 with⟨a,_⟩|⟨_,fs,f,st,w,a,d⟩
  ·rw[h.t0]at a;cases a
  ·obtain⟨k,pc,r⟩:=gI (s:=s) (i:=0) (by rw[mE h.n1,a]) d;obtain⟨q,w',hq,e⟩:=yc B r o;rw[e];exact Nh E o w' hq
 unfold cu at *;rw[if_neg (by omega)]at b|-;split
 ·exact g 3
 rename_i a;rw[if_neg a]at b;split
 ·rename_i d;rw[if_pos d]at b;omega
 rename_i d;rw[if_neg d]at b;split
 ·rename_i m;rw[if_pos m]at b;exact absurd b (by show¬0<=aW s;omega)
 ·exact g 2
structure OnRun(c:CC)(s:aG):Prop where
 i:Idle c s
 w:0<=aW s->EndW s
theorem CH(a:CodeOk c)(h:OnRun c s):fU c s=some 0:=by
 by_cases b:aW s<0
 ·exact RD a h.i b
 ·exact ab6 a h.i.g (h.w (by omega)) (by omega)
def ur(s:aG):Nat:=2*s.2.2.2.2.2.2.1.toNat+(if s.2.2.2.2.2.2.2.2.1<0 then 1 else 0)
theorem abV(b:bC c)(e:bO)(l:List jP):OnRun c (fQ c e l)/\(aW (fQ c e l)<0->ur (fQ c e l)<=129):=by
 obtain⟨r1,V,T⟩:=Gt b l;have H:GoodS c (fy c l):=⟨ZW b l,T,(by show(-1:Int)<=-1;omega),(by show(-1:Int)<=4;omega)⟩
 have F:RunV c (fy c l) [((0:Nat):Int)] 0 0 65:=by
  refine⟨by simp[fy],by simp[fy],by simp[fy],λk d=>?_,λk d Q=>?_,λk d=>?_,by simp[fy,eR,bo],by simp[fy],by simp[fy],by simp[fy],by simp[fy],rfl,rfl⟩
  ·have:(fy c l).2.2.2.1.getD k 0 = -1:=by
    have J:k<c.2.2.2.2.2.1.length:=by simpa[fy]using d
    simp[fy,aee,J]
   unfold mr;rw[this];simp[fy]
  ·have:k=0:=by simpa[fy]using d
   subst this;exact absurd (ade.2 rfl) Q
  ·have:k=0:=by simpa[fy]using d
   subst this;exact⟨af3 _,by show(0:Int)<=0+10;omega⟩
 have r:=(yZ c e.1 0 (fy c l)).2;have g:=rS b e.1 H r1;have I:GoodS c (fQ c e l):=Em g.1;have z:((bn c e.1 0 (fy c l)).1.1.length:Int)<=65:=by rw[g.2.1];simp[fy]
 have G:(bn c e.1 0 (fy c l)).1.2.2.2.2.2.2.1<=64:=by rw[r.1];exact af3 _
 have O:(bn c e.1 0 (fy c l)).1.2.2.2.2.2.2.2.2.1 = -1:=by rw[r.2];rfl
 have L:aW (fy c l)<0:=by show(-1:Int)<0;omega
 have M:aW (fQ c e l)<0->aW (bn c e.1 0 (fy c l)).1<0:=λa=>by
  rcases ag0 (aW (bn c e.1 0 (fy c l)).1) 0 with h|h
  ·exact h
  ·unfold fQ cu at a;rw[if_pos h]at a;exact a
 have u:aW (fQ c e l)<0->RunV c (fQ c e l) [] 10 6401 65/\1<=(fQ c e l).2.2.2.2.2.2.1/\0<(kq c (fQ c e l)).length/\(fQ c e l).2.2.2.2.2.2=(bn c e.1 0 (fy c l)).1.2.2.2.2.2.2:=λa=>by obtain⟨B,C,D,m⟩:=GU (yr b e.1 H r1 F (by omega) (by omega) (M a)) a;exact⟨kM B (by omega) (by omega) (by omega),C,D,m⟩
 refine⟨⟨⟨I,λa=>?_⟩,λR=>?_⟩,λa=>?_⟩
 ·obtain⟨B,C,D,m⟩:=u a;have E:(fQ c e l).2.2.2.2.2.2.1=64:=by rw[m,r.1];rfl
  refine⟨?_,C,D,.inl ?_⟩
  ·rw[E];exact kM B (by omega) (by omega) (by omega)
  ·rw[m,r.2];rfl
 ·by_cases h:aW (bn c e.1 0 (fy c l)).1<0
  ·exact Fs b (yr b e.1 H r1 F (by omega) (by omega) h) g.1.ok (by omega) z G O h R
  ·have P:fQ c e l=(bn c e.1 0 (fy c l)).1:=by unfold fQ cu;rw[if_pos (by omega)]
   rw[P];refine Jx b e.1 r1 F (λk d U=>?_) (by omega) (by omega) (by simp[fy]) (af3 _) rfl L (by omega);have:k=0:=by simpa[fy]using d
   subst this;rfl
 ·obtain⟨B,C,D,m⟩:=u a;have E:(fQ c e l).2.2.2.2.2.2.1=64:=by rw[m,r.1];rfl
  unfold ur;rw[E];split<;>simp
theorem ae3(D:bC c)(e:bO)(h:Idle c s)(ho:aW s<0){x:bO}(g:Moves c e s j i fs f st w x)(hj:x.1=24->0<=j/\j<=1) :
  OnRun c (su c e s i (fE c (bS s (-1)) i fs f st w x j)).1/\(aW (su c e s i (fE c (bS s (-1)) i fs f st w x j)).1<0->ur (su c e s i (fE c (bS s (-1)) i fs f st w x j)).1<ur s):=by
 obtain⟨v,f1,l1,hp⟩:=h.v ho;have hd:=zZ D (mZ g.gs (-1)) (show(bS s (-1)).1.length<=70 by have:=g.n;show s.1.length<=70;omega) g.can g.run g.hq;obtain⟨k,pc,hA⟩:=g.can.at_;have v':RunV c (bS s (-1)) [] (20*(65-s.2.2.2.2.2.2.1)) (20000*(65-s.2.2.2.2.2.2.1)) 65:=⟨v.n1,v.n,v.fu,v.own,v.so,v.wk,ajF (ky (s:=s) (t:=bS s (-1)) s.1.length λk _ h=>h) v.live,v.cl,v.st,v.al,v.wa,v.wh,v.t0⟩
 have n1:=v.n1;have n2:=v.n;have vfu:=v.fu;have R:EndW (bS s (-1)):=EC v' (λk _ h=>by cases h) (by omega) (by show(s.1.length:Int)<=65;omega) (by show s.2.2.2.2.2.2.1<=64;omega) rfl;have O:=TH D v' g.can.ok (by omega) hA hj g.can.to;have hi:=cG g.t;have L:(fE c (bS s (-1)) i fs f st w x j).2.2.2.2.2.2.2.2.2.1=s.2.2.2.2.2.2.1/\(fE c (bS s (-1)) i fs f st w x j).2.2.2.2.2.2.2.2.2.2.2.1 = -1 /\
   (aW (fE c (bS s (-1)) i fs f st w x j).2.2.2=aW s\/i=0/\(fE c (bS s (-1)) i fs f st w x j).2.2.2=Dk (cq (bS s (-1)) 0 ([],[],0,true)) 0):=by
  unfold fE;split
  ·unfold uK;split<;>exact⟨rfl,rfl,.inl rfl⟩
  split
  ·unfold lU;dsimp only;split
   ·exact⟨rfl,rfl,.inl rfl⟩
   split<;>exact⟨rfl,rfl,.inl rfl⟩
  split
  ·rename_i hpl;have T:=Ci (i:=i) (f:=f) (st:=st) (k:=j) (r:=(bS s (-1)).2) hpl;unfold nW vE;dsimp only;split<;>exact⟨aei (λr=>r.1) T,aei (λr=>r.2.2.1) T,.inl (aei (λr=>r.2.2.2.1) T)⟩
  ·unfold tH;dsimp only;split
   ·rename_i h0;subst h0;exact⟨rfl,rfl,.inr ⟨rfl,rfl⟩⟩
   ·exact⟨rfl,rfl,.inl rfl⟩
 have hg:=(Ik D e g).choose_spec.2;have B:=ab9 D e h ho g hj;refine⟨⟨B,λI=>?_⟩,λb=>?_⟩
 ·generalize fE c (bS s (-1)) i fs f st w x j=q at *;unfold su at *;cases d:q.2.2.1
  ·rw[d]at I;simp only[agX,aeU]at I|-;obtain⟨k',pc',hA'⟩:=gI (s:=bS s (-1)) (i:=i) g.t g.run;obtain⟨y,w',hy,ey⟩:=yc D hA' 4;rw[ey];exact Nh R _ _ hy
  rw[d]at I;simp only[aeP]at I|-;have hl:=hd.left d;have u:CanRun c q.1 (dR q.2.2.2):=⟨yH hl.g,λz hz=>by obtain⟨n,rfl,Z,f',st',w',H,V⟩:=hl.run z hz;exact⟨n,rfl,Z,f',st',w',H,V⟩,hl.nd⟩
  obtain⟨Y,f3,G⟩:=L;rcases G with G|⟨rfl,G⟩
  ·have M:aW q.2.2.2<0:=by omega
   have W:=OB (O d M) (by rw[Y];exact f1) (by rw[Y];omega) (by omega) (by omega);have htn:=W.n;have htf:=W.fu;have htwo:=hl.two;have J:(dR q.2.2.2).2.2.2.2.2.2.1<=64:=by show ac (q.2.2.2.2.2.2.2.2.2.1-1)<=64;rw[Y,ay (by omega) (by omega)];omega
   have hot:aW (dR q.2.2.2)<0:=M;by_cases F:aW (bA c e.1 q.1 (dR q.2.2.2)).1<0
   ·have ha:=H8 D e.1 u W (by omega) (by omega) F;have E:=(xX c e.1 q.1 (dR q.2.2.2)).2;obtain⟨U,g2,_⟩:=AR D e.1 u;exact Fs D ha U.ok (by omega) (by rw[g2];omega) (by rw[E.1];exact J) (by rw[E.2];exact f3) F I
   ·have X:cu c (bA c e.1 q.1 (dR q.2.2.2)).1=(bA c e.1 q.1 (dR q.2.2.2)).1:=by unfold cu;rw[if_pos (by omega)]
    rw[X];exact Vi D e.1 u W (by omega) (by omega) (by omega) J f3 hot (by omega)
  ·have T:aW (dR q.2.2.2)=0:=by rw[G];rfl
   have e2:(bA c e.1 q.1 (dR q.2.2.2)).1=dR q.2.2.2:=xl c e.1 q.1 (by omega);have X:cu c (dR q.2.2.2)=dR q.2.2.2:=by unfold cu;rw[if_pos (by omega)]
   rw[e2,X,G];have C:((bS s (-1)).1.set 0 (([],[],0,true):Th)).length=s.1.length:=by rw[afa];rfl
   have vcl:=v.cl;have vst:=v.st;have Q:∀a,a≠0->bo (dR (Dk (cq (bS s (-1)) 0 ([],[],0,true)) 0)) a=bo s a:=λa ha=>Fy (by show(s.1.set 0 _)[a]?=_;rw[agN (aqR ha)]);have P:bo (dR (Dk (cq (bS s (-1)) 0 ([],[],0,true)) 0)) 0=([],[],0,true):=eC (by show(s.1.set 0 _)[0]?=_;rw[afF hi]);refine⟨by show 1<=(List.set _ _ _).length;rw[C];exact n1,by show(List.set _ _ _).length<=65;rw[C];omega,λa ha=>?_,λa ha=>?_,?_,⟨?_,?_⟩,⟨?_,?_⟩,?_,v.al.1,v.wa.1,?_,rfl⟩
   ·have:=v.own a ha;unfold mr at *;show -1<=s.2.2.2.1.getD a 0/\s.2.2.2.1.getD a 0<((List.set _ _ _).length:Int);rw[C];exact this
   ·by_cases m:a=0
    ·subst m;rw[P];exact⟨λ_=>⟨rfl,rfl⟩,λh=>(by cases h)⟩
    ·rw[Q a m];exact R.so a (by have V:a<((bS s (-1)).1.set 0 (([],[],0,true):Th)).length:=ha;rw[C]at V;exact V)
   ·show eR _ (List.set _ _ _).length<=5;rw[C];refine ajF (ky (s:=s) _ λa _ h' => ?_) v.live;by_cases m:a=0
    ·subst m;rw[P]
    ·rw[Q a m];exact h'
   ·show 0<=ac (s.2.2.2.2.2.1+1);rw[ay (by omega) (by omega)];omega
   ·show ac (s.2.2.2.2.2.1+1)<=1048576;rw[ay (by omega) (by omega)];omega
   ·show 0<=ac (s.2.2.2.2.2.2.1-1);rw[ay (by omega) (by omega)];omega
   ·show ac (s.2.2.2.2.2.2.1-1)<=64;rw[ay (by omega) (by omega)];omega
   ·show 0<=ac (s.2.2.2.2.2.2.2.1.1+1);rw[ay (by omega) (by omega)];omega
   ·show 0<=s.2.2.2.2.2.2.2.2.2.2.1;rw[v.wh];exact af3 _
 ·obtain⟨v2,U,_⟩:=B.v b;generalize fE c (bS s (-1)) i fs f st w x j=q at *;unfold su at *;cases d:q.2.2.1
  ·rw[d]at b;simp only[agX,aeU]at b;rw[kG]at b;omega
  rw[d]at b U;simp only[aeP]at b U|-;have F:aW (bA c e.1 q.1 (dR q.2.2.2)).1<0:=by
   rcases ag0 (aW (bA c e.1 q.1 (dR q.2.2.2)).1) 0 with H|H
   ·exact H
   ·unfold cu at b;rw[if_pos H]at b;exact b
  have E:=(xX c e.1 q.1 (dR q.2.2.2)).2;have ef:(cu c (bA c e.1 q.1 (dR q.2.2.2)).1).2.2.2.2.2.2.1=s.2.2.2.2.2.2.1-1:=by
   have e4:(cu c (bA c e.1 q.1 (dR q.2.2.2)).1).2.2.2.2.2.2.1=(bA c e.1 q.1 (dR q.2.2.2)).1.2.2.2.2.2.2.1:=by
    unfold cu f6;dsimp only;repeat' split
    all_goals rfl
   rw[e4,E.1];show ac (q.2.2.2.2.2.2.2.2.2.1-1)=_;rw[L.1];exact ay (by omega) (by omega)
  unfold ur;rw[ef];split<;>split<;>omega
theorem axG(O:CodeOk c)(m:iW e)(h:OnRun c s)(H:aW s<0)(d:0<=j/\j<((iP c e s).2.2.2.length:Int)):∃t v,eN c e s j=some (t,v,0)/\OnRun c t/\(aW t<0->ur t<ur s)/\(InC c->InS s->bk j->InS t):=by
 have b:=O.v;obtain⟨r1,r⟩:=EU O m h.i H;by_cases D:s.2.2.2.2.2.2.2.2.1<0/\1<(kq c s).length
 ·have M:iP c e s=(0,-1,-1,List.replicate (kq c s).length 1):=by unfold iP;rw[if_pos D]
  rw[M]at d;dsimp only at d;rw[agu]at d;have I:ae (kq c s) j=some ((kq c s).getD j.toNat 0):=bL 0 d.1 d.2;have a:(kq c s).getD j.toNat 0∈kq c s:=nO 0 (by omega);obtain⟨z,P⟩:∃z:Nat,(kq c s).getD j.toNat 0=(z:Int):=by obtain⟨z,_,_,P⟩:=wW.1 a;exact⟨z,P⟩
  obtain⟨v,T,X,_⟩:=h.i.v H;refine⟨bS s ((kq c s).getD j.toNat 0),[],?_,⟨⟨mZ h.i.g _,λ_=>?_⟩,λm=>absurd m (by show¬0<=aW s;omega)⟩,λ_=>?_,λ_ hs _=>?_⟩
  ·unfold eN;rw[r1];simp only[f8,Qz2,aeA,ab7,tE s h.i.g.sm,DO b e [] r,M,agu];rw[BQ,aP (by omega),ax (show(-1:Int)<0 by omega)];simp only[ab7,abv,xW b h.i.g.ok,f8,Qz2,I];rfl
  ·exact⟨⟨v.n1,v.n,v.fu,v.own,v.so,v.wk,ajF (ky (s:=s) (t:=bS s ((kq c s).getD j.toNat 0)) s.1.length λk _ h=>h) v.live,v.cl,v.st,v.al,v.wa,v.wh,v.t0⟩,T,X,.inr a⟩
  ·unfold ur;show 2*s.2.2.2.2.2.2.1.toNat+(if(kq c s).getD j.toNat 0<0 then 1 else 0)<2*s.2.2.2.2.2.2.1.toNat+(if s.2.2.2.2.2.2.2.2.1<0 then 1 else 0)
   rw[if_neg (by omega),if_pos D.1];omega
  ·obtain⟨z',W,_,J⟩:=wW.1 a;have:=h.i.g.ok.n;exact Hb hs (by rw[J];exact⟨by omega,by omega⟩)
 ·obtain⟨i,fs,f,st,w,x,a⟩:=ag2 b e h.i.g r1 r D d;obtain⟨v,R,d2⟩:=Ik b e a;have C:=a.can.at_;obtain⟨k,pc,C⟩:=C;have G:x.1=24->0<=j/\j<=1:=λI=>by
   obtain⟨p,F,Y,Z,Q⟩:=a.pt;rw[DO b e [] r]at F;injection F with F;subst F;have B:iP c e s=kO c e s i:=by
    have:iP c e s=kO c e s (C4 c s).toNat:=by unfold iP;rw[if_neg D]
    rw[this,Bi]at Y;rw[this];congr 1;omega
   rw[B]at Q;refine Te (k:=i) ?_ ⟨Z,Q⟩;rw[eC a.t];have:=C.x;unfold fX;rw[fM,show f.1.toNat=pc by have:=C.pc1;omega,this];exact I
  obtain⟨U,V⟩:=ae3 b e h.i H a G;refine⟨_,v,R,U,V,λL hs u=>?_⟩;have E:=hs.t _ (aeK a.t);have hi:=cG a.t;have hn:=a.n;exact auB L (gd (by have:=m.1;omega) (by have:=m.2.1;omega)) hs (asT L (Hb hs (gd (by omega) (by omega))) (by omega) (λg r=>E.f g (aef.2 (.inl r))) (E.f f (by simp)) E.s E.w u)
theorem ac3(b:CodeOk c)(g:aaO c)(h:OnRun c s)(hs:InS s):EncS s:=by
 refine aug (d:=0) (by omega) (arC b.v g h.i.g.ok h.i.g.sm ?_) hs;by_cases a:aW s<0
 ·have m:=(h.i.v a).1.n;have r:=(h.i.v a).2.1;omega
 ·have:=(h.w (by omega)).n;omega
theorem acD(s:aG)(p:bN){seed:Int}(hs:bk seed) :
  ∃k,ja s p seed=some k/\0<=k/\k<=16/\(k<(p.2.2.2.length:Int)\/k=0)/\(p.2.2.2.length<2->k=0):=by
 by_cases hl:16<p.2.2.2.length
 ·have G:Itr.it (gc p) (0,0)=some (.inr 0):=
   eM (f:=gc p) (λ_=>0) (λ_=>.inr 0) (λz=>z=(0,0)) (λz C=>by subst C;left;have d:ae p.2.2.2 (0:Int)=some (p.2.2.2[0]'(by omega)):=aV (i:=0) (acz (by omega));unfold gc;simp only[ax (show(0:Int)<(p.2.2.2.length:Int)by omega),abv,d,f8,Qz2,ax (show(16:Int)<(p.2.2.2.length:Int)by omega)];cases decide (p.2.2.2[0]<(1:Int))<;>cases decide ((16:Int)<p.2.2.2[0])<;>rfl) rfl (by decide)
  refine⟨0,?_,by omega,by omega,.inr rfl,λ_=>rfl⟩;unfold ja;rw[G];rfl
 obtain⟨r1,G,B⟩:=fD (f:=gc p) (λz=>p.2.2.2.length-z.2.toNat) (λz=>∃i:Nat,z.2=(i:Int)/\i<=p.2.2.2.length/\(p.2.2.2.length<2->z.1=0)) (λr=>match r with|.inl x=>(p.2.2.2.length<2->x=0)|.inr y=>y=0)
  (λz C=>by
   obtain⟨a,b⟩:=z;obtain⟨i,rfl,hi,L⟩:=C;dsimp only at L|-;by_cases u:i<p.2.2.2.length
   ·have d:=aV (acz u);unfold gc;simp only[ax (show(i:Int)<(p.2.2.2.length:Int)by omega),abv,d,f8,Qz2];by_cases m:(bif bif bif decide (p.2.2.2[i]<(1:Int))then true else decide ((16:Int)<p.2.2.2[i])then true else decide ((16:Int)<(p.2.2.2.length:Int))then true else decide ((p.2.2.2.length:Int)<(2:Int)))=true
    ·left;rw[m];exact⟨.inr 0,rfl,rfl⟩
    ·right;rw[Bool.not_eq_true]at m;rw[m];refine⟨_,rfl,⟨i+1,by dsimp only;rw[ay (by omega) (by omega)];push_cast;rfl,by omega,λh=>?_⟩,?_⟩
     ·rw[ax (show(p.2.2.2.length:Int)<2 by omega)]at m;grind
     ·dsimp only;rw[ay (by omega) (by omega)];omega
   ·left;refine⟨.inl a,?_,L⟩;unfold gc;rw[aP (by dsimp only;omega)];rfl) (s:=(0,0)) ⟨0,rfl,by omega,λ_=>rfl⟩ (by grind)
 unfold ja;rw[G,f8];cases r1 with
 |inr y=>exact⟨y,rfl,by dsimp only at B;omega,by dsimp only at B;omega,.inr B,λ_=>B⟩
 | inl x=>
  dsimp only at B|-;by_cases d:x=0
  ·rw[bt d];exact⟨0,rfl,by omega,by omega,.inr rfl,λ_=>rfl⟩
  rw[bf d];have M:2<=p.2.2.2.length:=by
   rcases afB p.2.2.2.length 2 with h|h
   ·exact absurd (B h) d
   ·exact h
  obtain⟨g,O,U⟩:∃g,(bif decide ((0:Int)<=s.2.2.2.2.2.2.2.2.1)then some (ac ((ac ((2:Int)*s.2.2.2.2.2.2.2.1.1))+(1:Int)))else some (ac ((2:Int)*s.2.2.2.2.2.2.2.1.1)):Option Int)=some g/\bk g:=by
   cases decide ((0:Int)<=s.2.2.2.2.2.2.2.2.1)
   ·exact⟨_,rfl,jy _⟩
   ·exact⟨_,rfl,jy _⟩
  have D:eV [seed,g]:=ge hs (ge U oj);have I:=nC D (by simp);obtain⟨E,P⟩:=aw7 (ts:=[d6 (dP [seed,g])]) (by simp) (λt T=>by rcases ade.1 T with rfl;rw[jn];simp at I;omega) (by have D:=jW (l:=d6 (dP [seed,g])) (by rw[jn];simp at I;omega);have:=kH D;rw[jn]at this;simp only[ajA,aqm,ad0];unfold iV;rw[acA,yu,jn];simp at I;omega) 15;obtain⟨V,R,H⟩:=fD (f:=mC p) (λz=>p.2.2.2.length-z.2.toNat) (λz=>∃i:Nat,z.2=(i:Int)/\i<=p.2.2.2.length) (λr=>match r with|.inl _=>True|.inr y=>0<=y/\y<(p.2.2.2.length:Int))
   (λz C=>by
    obtain⟨a,b⟩:=z;obtain⟨i,rfl,hi⟩:=C;dsimp only;by_cases u:i<p.2.2.2.length
    ·have d:=aV (acz u);unfold mC;simp only[ax (show(i:Int)<(p.2.2.2.length:Int)by omega),abv,d,f8,Qz2];by_cases m:a<p.2.2.2[i]
     ·left;rw[ax m];exact⟨.inr (i:Int),rfl,by dsimp only;omega⟩
     ·right;rw[aP m];refine⟨_,rfl,⟨i+1,by dsimp only;rw[ay (by omega) (by omega)];push_cast;rfl,by omega⟩,?_⟩;dsimp only;rw[ay (by omega) (by omega)];omega
    ·left;refine⟨.inl (),?_,trivial⟩;unfold mC;rw[aP (by dsimp only;omega)];rfl) (s:=(Int.tmod (bc .or .i64 (bc .or .i64 (ly .i64 (ac (List.getD E (0:Int).toNat (0:Int))) (16:Int)) (ly .i64 (ac (List.getD E (1:Int).toNat (0:Int))) (8:Int))) (ac (List.getD E (2:Int).toNat (0:Int)))) x,0)) ⟨0,rfl,by omega⟩ (by grind)
  have Q:ph [seed,g]=some (dP [seed,g]):=(CJ D (by simp)).1;have F:lH 15 ([List.map (λn=>UInt8.ofNat n.toNat) (dP [seed,g])]:List (List UInt8))=some E:=P;have J:(!(x==0))=true:=by simp[d]
  rw[ab7,O,f8,Q,f8,F,f8];simp only[af,ax (show 0<=(0:Int)/\(0:Int)<16 by omega),ax (show 0<=(1:Int)/\(1:Int)<16 by omega),ax (show 0<=(2:Int)/\(2:Int)<16 by omega),ax (show 0<=(16:Int)by omega),ax (show 0<=(8:Int)by omega),J,abv];rw[R,f8];cases V with
  |inl _=>exact⟨0,rfl,by omega,by omega,.inr rfl,λ_=>rfl⟩
  |inr y=>exact⟨y,rfl,H.1,by have:=H.2;omega,.inl H.2,λh=>by omega⟩
theorem agA(a b:jP):∃r,qd a b=some r:=by
 unfold qd;cases Op.bytesLess a.1 b.1
 ·cases (!(false||a.1==b.1))<;>exact⟨_,rfl⟩
 ·exact⟨_,rfl⟩
theorem arW(h:n<20)(d:List jP){j:Nat}{l:List jP}(b:j<n)(hl:l.length=n):∃r,Itr.it (de (d,0,(n:Int)) 0) ((j:Int),l)=some r/\r.length=n:=
 fD (f:=de (d,0,(n:Int)) 0) (λz=>z.1.toNat) (λz=>∃j:Nat,z.1=(j:Int)/\j<n/\z.2.length=n) (λr=>r.length=n)
  (λz u=>by
   obtain⟨a,l⟩:=z;obtain⟨j,rfl,b,hl⟩:=u;dsimp only at hl|-;unfold de;dsimp only;cases j with
   |zero=>
    left;rw[aP (show¬(0:Int)<((0:Nat):Int)by omega)];exact⟨l,rfl,hl⟩
   |succ j=>
    have g:ac (((j+1:Nat):Int)-1)=(j:Int):=by rw[ay (by omega) (by omega)];omega
    have B:ae l ((j+1:Nat):Int)=some l[j+1]:=aV (acz (by omega));have C:ae l (j:Int)=some l[j]:=aV (acz (by omega));have D:ae (l.set (j+1) l[j]) (j:Int)=some l[j]:=aV (by rw[agN (by omega)];exact acz (by omega));obtain⟨r,m⟩:=agA l[j+1] l[j];rw[ax (show(0:Int)<((j+1:Nat):Int)by omega)];simp only[afg,ajU,af,g,ai1,aqt,ax (show 0<=((j+1:Nat):Int)/\((j+1:Nat):Int)<(n:Int)by omega),ax (show 0<=(j:Int)/\(j:Int)<(n:Int)by omega),abv,B,C,m,f8,Qz2,ac6,D];cases decide (r<0)
    ·left;exact⟨l,rfl,hl⟩
    ·right;exact⟨_,rfl,⟨j,rfl,by omega,by dsimp only;rw[afa,afa];exact hl⟩,by dsimp only;omega⟩) (s:=((j:Int),l)) ⟨j,rfl,b,hl⟩ (by dsimp only;omega)
theorem ab2(h:n<20){d:List jP}(hd:d.length=n):∃r,dA (d,0,(n:Int))=some r:=by
 obtain⟨r,u,F⟩:=fD (f:=eH (d,0,(n:Int)) 0 (n:Int)) (λz=>n-z.1.toNat) (λz=>∃j:Nat,z.1=(j:Int)/\j<=n+1/\z.2.length=n) (λr=>r.length=n)
  (λz b=>by
   obtain⟨a,l⟩:=z;obtain⟨j,rfl,G,hl⟩:=b;dsimp only at hl|-;unfold eH;by_cases m:j<n
   ·right;obtain⟨r,r1,B⟩:=arW h d m hl;simp only[ax (show(j:Int)<(n:Int)by omega),abv];refine⟨((j:Int)+1,r),?_,⟨j+1,by push_cast;rfl,by omega,B⟩,by dsimp only;omega⟩;refine(aei (λo:Option (List jP)=>o.bind _) r1).trans ?_;rw[f8,ay (by omega) (by omega)]
   ·left;rw[aP (by dsimp only;omega)];exact⟨l,rfl,hl⟩) (s:=(1,d)) ⟨1,rfl,by omega,hd⟩ (by dsimp only;omega)
 have C:Itr.it (d5 (d,0,(n:Int)) (n:Int)) (0,20,d)=some (0,d):=
  eM (f:=d5 (d,0,(n:Int)) (n:Int)) (λ_=>0) (λ_=>(0,d)) (λz=>z=(0,20,d)) (λz b=>by subst b;left;unfold d5;rw[aP (by dsimp only;omega)];rfl) rfl (by decide)
 have D:Itr.it (d8 (n:Int) r) 20=some r:=
  eM (f:=d8 (n:Int) r) (λ_=>0) (λ_=>r) (λz=>z=20) (λz b=>by subst b;left;unfold d8;rw[aP (by omega)];rfl) rfl (by decide)
 have g:dV (d,0,(n:Int)) 0 (n:Int)=some r:=u;have E:fJ (d,0,(n:Int)) (n:Int)=some r:=by unfold fJ;refine(aei (λo:Option (Int×List jP)=>o.bind _) C).trans ?_;rw[f8];refine(aei (λo:Option (List jP)=>o.bind _) g).trans ?_;exact D
 refine⟨r,?_⟩;unfold dA;dsimp only;rw[aqt,E];rfl
theorem asW(F:CodeOk c)(h:OnRun c s)(Q:c.2.2.2.1.length+c.2.2.2.2.2.2.1.length<20):∃l,sA c s=some l:=by
 obtain⟨L,M,O,P⟩:=h.i.g.ok.fit;obtain⟨r1,C,I⟩:=fD (f:=oP c s) (λz=>c.2.2.2.1.length-z.2.toNat) (λz=>∃j:Nat,z.2=(j:Int)/\j<=c.2.2.2.1.length/\z.1.length=j) (λr=>r.length=c.2.2.2.1.length)
  (λz g=>by
   obtain⟨l,a⟩:=z;obtain⟨j,rfl,E,hl⟩:=g;dsimp only at hl|-;unfold oP;by_cases d:j<c.2.2.2.1.length
   ·right;have u:ae c.2.2.2.1 (j:Int)=some c.2.2.2.1[j]:=aV (acz (by omega));have B:ae s.2.1 (j:Int)=some (s.2.1[j]'(by omega)):=aV (acz (by omega));simp only[ax (show(j:Int)<(c.2.2.2.1.length:Int)by omega),abv,u,B,f8,Qz2,af,bh (m:=l.length) (k:=1) (b:=24) (by omega) (by omega),adC];exact⟨_,rfl,⟨j+1,by dsimp only;rw[ay (by omega) (by omega)];push_cast;rfl,by omega,by dsimp only;rw[acA,hl];rfl⟩,by dsimp only;rw[ay (by omega) (by omega)];omega⟩
   ·left;rw[aP (by dsimp only;omega)];exact⟨l,rfl,by omega⟩) (s:=([],0)) ⟨0,rfl,by omega,rfl⟩ (by dsimp only;omega)
 obtain⟨H,D,J⟩:=fD (f:=oV c s) (λz=>c.2.2.2.2.2.2.1.length-z.2.toNat) (λz=>∃j:Nat,z.2=(j:Int)/\j<=c.2.2.2.2.2.2.1.length/\z.1.length=c.2.2.2.1.length+j) (λr=>r.length=c.2.2.2.1.length+c.2.2.2.2.2.2.1.length)
  (λz g=>by
   obtain⟨l,a⟩:=z;obtain⟨j,rfl,E,hl⟩:=g;dsimp only at hl|-;unfold oV;by_cases d:j<c.2.2.2.2.2.2.1.length
   ·right;have u:ae c.2.2.2.2.2.2.1 (j:Int)=some c.2.2.2.2.2.2.1[j]:=aV (acz (by omega));have B:ae s.2.2.2.2.1 (j:Int)=some (s.2.2.2.2.1[j]'(by omega)):=aV (acz (by omega));simp only[ax (show(j:Int)<(c.2.2.2.2.2.2.1.length:Int)by omega),abv,u,B,f8,Qz2,af,bh (m:=l.length) (k:=1) (b:=24) (by omega) (by omega),adC];exact⟨_,rfl,⟨j+1,by dsimp only;rw[ay (by omega) (by omega)];push_cast;rfl,by omega,by dsimp only;rw[acA,hl];rfl⟩,by dsimp only;rw[ay (by omega) (by omega)];omega⟩
   ·left;simp only[aP (show¬(j:Int)<(c.2.2.2.2.2.2.1.length:Int)by omega)];exact⟨l,rfl,by omega⟩) (s:=(r1,0)) ⟨0,rfl,by omega,by dsimp only;omega⟩ (by dsimp only;omega)
 obtain⟨r,G⟩:=ab2 (n:=H.length) (by omega) rfl;refine⟨r,?_⟩;unfold sA;rw[CH F h,f8];simp only[aeA,ab7];refine(aei (λo:Option (List jP)=>o.bind _) C).trans ?_;rw[f8];refine(aei (λo:Option (List jP)=>o.bind _) D).trans ?_;rw[f8,G];rfl
end Go.Proofs.YtgghcmbaidihjaaGreatDoor
