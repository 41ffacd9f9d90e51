/- Laws for the row. No condition. -/
import Derived.Test.YtgghcmbaidihjaaGreatDoorLawE4
import Derived.Test.YtgghcmbaidihjaaGreatDoorLawS3
import Derived.KernelRfl
namespace Go.Proofs.YtgghcmbaidihjaaGreatDoor
open Go.Sm
set_option linter.unusedVariables false
set_option maxRecDepth 4000
theorem aoI{y:Int}(h0:0<=y)(h1:y<18446744073709551616):bJ .xor .u64 (if IntKind.signed .u64 then -1 else IntKind.max .u64) y=18446744073709551615-y:=by
 have e:BitVec.ofInt 64 (if IntKind.signed .u64 then -1 else IntKind.max .u64)=BitVec.allOnes 64:=by decide
 show IntKind.u64.wrap ((BitVec.ofInt 64 (if IntKind.signed .u64 then -1 else IntKind.max .u64) ^^^ BitVec.ofInt 64 y).toNat:Int)=_;rw[e,BitVec.allOnes_xor,BitVec.toNat_not,aln,IntKind.wrap_u64];omega
theorem aqo{y:Int}(h0:0<=y)(h1:y<256):bJ .xor .u8 y 255=255-y:=by
 have e:BitVec.ofInt 8 255=BitVec.allOnes 8:=by decide
 show IntKind.u8.wrap ((BitVec.ofInt 8 y ^^^ BitVec.ofInt 8 255).toNat:Int)=_;rw[e,BitVec.xor_comm,BitVec.allOnes_xor,BitVec.toNat_not,aln,IntKind.wrap_u8'];omega
theorem aqf{y:Int}(h0:0<=y)(h1:y<256):bJ .xor .u8 y 0=y:=by show IntKind.u8.wrap ((BitVec.ofInt 8 y ^^^ BitVec.ofInt 8 0).toNat:Int)=_;rw[show BitVec.ofInt 8 0=0#8 from rfl,BitVec.xor_zero,aln,IntKind.wrap_u8'];omega
theorem QD(v:Nat){k:Nat}(hk:k<=64):fm .u64 (v:Int) (k:Int)=((v / 2 ^ k:Nat):Int):=by
 have e:min (k:Int).toNat 64=k:=by omega
 show(v:Int).fdiv (2 ^ (min (k:Int).toNat 64))=_;grind
def nb(v:Nat):Nat:=if h:v=0 then 0 else nb (v / 256)+1
termination_by v
decreasing_by omega
theorem ahW(k:Nat):∀v,v / 256 ^ k=0↔nb v<=k:=by
 induction k with
 |zero=>intro v;rw[Nat.pow_zero,Nat.div_one];unfold nb;grind
 |succ k ih=>
  intro v;rw[Nat.pow_succ',<-Nat.div_div_eq_div_mul,ih];conv=>rhs;rw[nb]
  split
  ·next h=>subst h;rw[Nat.zero_div,nb];simp
  ·omega
theorem amF(k:Nat):2 ^ (8*k)=256 ^ k:=by rw[Nat.pow_mul]
def dg(v i:Nat):Nat:=v / 256 ^ i%256
theorem apV{f:List Int×Int->Option ((List Int×Int)⊕List Int)}{n:Nat}(hn:n<100){p:List Int}(g:Nat->Int)(hp:p.length<140737488355000)
  (h1:∀(q:List Int) (i:Nat),i<n->aP q.length 1 1=true->f (q,(i:Int))=some (.inl (q++[g i],ac ((i:Int)-1)))) (h2:∀q,f (q,-1)=some (.inr q)):Itr.it f (p,(n:Int)-1)=some (p++(List.range n).reverse.map g):=
 eh (f:=f) (λs=>(s.2+1).toNat) (λ_=>p++(List.range n).reverse.map g) (λs=>∃k:Nat,k<=n/\s.2=(k:Int)-1/\s.1.length+k=p.length+n/\s.1++(List.range k).reverse.map g=p++(List.range n).reverse.map g)
  (λs hs=>by
   obtain⟨q,z⟩:=s;obtain⟨k,k1,k2,k3,k4⟩:=hs;dsimp only at k2 k3 k4|-;cases k with
   |zero=>
    grind
   |succ k=>
    right;have e:z=(k:Int):=by omega
    refine⟨(q++[g k],ac ((k:Int)-1)),?_,⟨k,by omega,aD (by omega) (by omega),by grind,?_⟩,?_,rfl⟩
    ·rw[e];exact h1 q k (by omega) (bO (by omega) (by omega))
    ·rw[<-k4,ak3,List.reverse_append,aaf];rfl
    ·show(ac ((k:Int)-1)+1).toNat<_;rw[aD (by omega) (by omega)];omega) (s:=(p,(n:Int)-1)) ⟨n,Z0 _,rfl,rfl,rfl⟩ (by grind)
def go(x:Int):Nat:=if x<0 then(-1-x).toNat else x.toNat
def zM(x b:Int):Int:=if x<0 then 255-b else b
def jx(x:Int):List Int:=(if x<0 then 127-(nb (go x):Int)else 128+(nb (go x):Int))::(List.range (nb (go x))).reverse.map (λi=>zM x (dg (go x) i))
theorem Mz{x:Int}(h:br x):go x<9223372036854775808/\nb (go x)<=8:=by
 have h1:go x<9223372036854775808:=by obtain⟨a,b⟩:=h;unfold go;grind
 exact⟨h1,(ahW 8 _).1 (Nat.div_eq_of_lt (ajS h1 (by decide)))⟩
theorem kJ{x:Int}(h:br x):(jx x).length<=9:=by have:=(Mz h).2;unfold jx;grind
theorem agd(v i:Nat):dg v i<256:=aka _ (by omega)
theorem abL{x:Int}(h:br x):yZ (jx x):=by
 have:=(Mz h).2;intro b hb;rcases aaa.1 hb with rfl|hb
 ·grind
 ·obtain⟨i,_,rfl⟩:=ZA.1 hb;have:=agd (go x) i;unfold zM;grind
theorem rE{x:Int}(h:br x):kB x=some (jx x):=by
 obtain⟨h1,h2⟩:=Mz h;obtain⟨a,b⟩:=h
 have key:∀mk:Int,(∀y:Int,0<=y->y<256->bJ .xor .u8 y mk=zM x y)->((Itr.it (jk ((go x:Int),mk)) 8).bind λs2=>(Itr.it (rj ((go x:Int),mk)) ([bJ .xor .u8 (IntKind.u8.wrap (ac (128+s2))) mk],ac (s2-1))).bind λs4=>some s4)=some (jx x):=by
  intro mk hmk;have l1:Itr.it (jk ((go x:Int),mk)) 8=some ((nb (go x):Nat):Int):=
   eh (f:=jk ((go x:Int),mk)) (λs=>s.toNat) (λ_=>((nb (go x):Nat):Int)) (λs=>∃k:Nat,s=(k:Int)/\nb (go x)<=k/\k<=8)
    (λs hs=>by
     obtain⟨k,rfl,k1,k2⟩:=hs;cases k with
     |zero=>left;rw[show nb (go x)=0 by omega];rfl
     |succ k=>
      have e1:ac (((k+1:Nat):Int)-1)=(k:Int):=by rw[aD (by omega) (by omega)];omega
      have e2:ac (8*(k:Int))=((8*k:Nat):Int):=by rw[aD (by omega) (by omega)];omega
      have hk:=ahW k (go x);have ef:jk ((go x:Int),mk) ((k+1:Nat):Int)=bif decide (0<((go x / 256 ^ k:Nat):Int))then some (.inr ((k+1:Nat):Int))else some (.inl (k:Int)):=by unfold jk;rw[ax (show(0:Int)<((k+1:Nat):Int)by omega)];simp only[Ze,e1,e2,ah,ax (show(0:Int)<=((8*k:Nat):Int)by omega),QD (go x) (show 8*k<=64 by omega),amF]
      rw[ef];generalize go x / 256 ^ k=V at hk;by_cases hz:V=0
      ·right;rw[aQ (by omega)];exact⟨(k:Int),rfl,⟨k,rfl,hk.1 hz,by omega⟩,by omega,rfl⟩
      ·left;grind) (s:=8) ⟨8,rfl,h2,Z0 _⟩ (by decide)
  have e1:ac (128+((nb (go x):Nat):Int))=128+((nb (go x):Nat):Int):=aD (by omega) (by omega);have e2:ac (((nb (go x):Nat):Int)-1)=((nb (go x):Nat):Int)-1:=aD (by omega) (by omega);have e3:IntKind.u8.wrap (128+((nb (go x):Nat):Int))=128+((nb (go x):Nat):Int):=by rw[IntKind.wrap_u8'];omega
  rw[l1,f8,e1,e2,e3,hmk _ (by omega) (by omega),apV (by omega) (λi=>zM x (dg (go x) i)) (by simp) (λq i hi ha=>?_) (λq=>rfl),f8]
  ·unfold jx zM;grind
  ·unfold rj;have e2:ac (8*(i:Int))=((8*i:Nat):Int):=by rw[aD (by omega) (by omega)];omega
   have e4:IntKind.u8.wrap ((go x / 256 ^ i:Nat):Int)=(dg (go x) i:Int):=by rfl
   have ha':aP q.length ([zM x (dg (go x) i)]:List Int).length 1=true:=ha;have:=agd (go x) i;simp only[ax (show(0:Int)<=(i:Int)by omega),Ze,e2,ah,ax (show(0:Int)<=((8*i:Nat):Int)by omega),QD (go x) (show 8*i<=64 by omega),amF,e4,hmk _ (show(0:Int)<=(dg (go x) i:Int)by omega) (show(dg (go x) i:Int)<256 by omega),ha']
 unfold kB;by_cases hx:x<0
 ·have e:bJ .xor .u64 (if IntKind.signed .u64 then -1 else IntKind.max .u64) (IntKind.u64.wrap x)=(go x:Int):=by
   have e0:IntKind.u64.wrap x=x+18446744073709551616:=by rw[IntKind.wrap_u64];omega
   rw[e0,aoI (by omega) (by omega)];unfold go;grind
  rw[ax hx];simp only[Ze,f8,e];exact key 255 λy h0 h1=>by unfold zM;rw[if_pos hx];exact aqo h0 h1
 ·have e:IntKind.u64.wrap x=(go x:Int):=by
   rw[IntKind.wrap_u64];unfold go;grind
  rw[aQ hx];simp only[Zr,f8,e];exact key 0 λy h0 h1=>by unfold zM;rw[if_neg hx];exact aqf h0 h1
theorem GS{α:Type}(enc:α->List Int){xs:List α}{i:Nat}{a:α}(h:xs[i]?=some a):(xs.take (i+1)).flatMap enc=(xs.take i).flatMap enc++enc a:=by rw[alr,h,List.flatMap_append];simp
theorem Qc{α:Type}(enc:α->List Int)(xs:List α)(i:Nat):((xs.take i).flatMap enc).length<=(xs.flatMap enc).length:=by
 conv=>rhs;rw[<-adB i xs,List.flatMap_append,ZD]
 omega
theorem uv{α:Type}{enc:α->List Int}{b:Nat}:∀{xs:List α},(∀x∈xs,(enc x).length<=b)->(xs.flatMap enc).length<=b*xs.length:=by
 intro xs;induction xs with
 |nil=>intro _;simp
 |cons x xs ih=>
  intro h;have h1:=h x (.head _);have h2:=ih λy hy=>h y (.tail _ hy);rw[aku,ZD,aaG,Nat.mul_succ];omega
theorem Ai{S α:Type}(mk:List Int->Int->S)(xs:List α)(enc:α->List Int){f:S->Option (S⊕List Int)}{p:List Int}(hx:xs.length<=4194304)(hl:p.length+(xs.flatMap enc).length<=140737488355328)
  (h1:∀(i:Nat) (a:α) (q:List Int),i<xs.length->xs[i]?=some a->q.length+(enc a).length<=140737488355328->f (mk q i)=some (.inl (mk (q++enc a) ((i:Int)+1)))) (h2:∀q,f (mk q xs.length)=some (.inr q)):Itr.it f (mk p 0)=some (p++xs.flatMap enc):=by
 have h:=(QN (f:=f) (λi q=>mk q i) xs (λq a=>q++enc a) (λq=>q) (λi q=>q=p++(xs.take i).flatMap enc) (by omega)
  (λi a q hk hI=>by
   have hq:(q++enc a)=p++(xs.take (i+1)).flatMap enc:=by rw[GS enc hk,hI,aaf]
   refine⟨h1 i a q (dl hk) hk ?_,hq⟩;have e:=aae List.length hq;rw[ZD,ZD]at e;have:=Qc enc xs (i+1);omega)
  (λq _=>h2 q) (a:=p) (by simp))
 refine h.trans (aae some ?_);clear h h1 h2 hl hx;induction xs generalizing p with
 |nil=>simp
 |cons x xs ih=>grind
def eE(l:List Int):Prop:=∀x∈l,br x
def dG(l:List Int):List Int:=jx l.length++l.flatMap jx
def mE(t:List UInt8):List Int:=jx t.length++da t
def rr(t:List UInt8):List Int:=jx 1++mE t
theorem oB{α:Type}{l:List α}(h:l.length<=140737488355328):br (l.length:Int):=⟨by omega,by omega⟩
theorem G7{l:List Int}(h:eE l):(l.flatMap jx).length<=9*l.length:=uv λx hx=>kJ (h x hx)
theorem lQ{l:List Int}(h:eE l)(hl:l.length<=4194304):(dG l).length<=9+9*l.length:=by have h1:=kJ (oB (l:=l) (by omega));have h2:=G7 h;unfold dG;grind
theorem Cq{t:List UInt8}(hl:t.length<=4194304):(mE t).length<=9+t.length:=by have h1:=kJ (oB (l:=t) (by omega));unfold mE;rw[ZD,DK];omega
theorem aan{t:List UInt8}(hl:t.length<=4194304):(rr t).length<=18+t.length:=by have h1:=kJ (x:=1) ⟨by omega,by omega⟩;have h2:=Cq hl;unfold rr;grind
theorem Ab{l:List Int}(h:eE l)(hl:l.length<=4194304):nO l=some (dG l)/\True:=by
 have hI:=oB (l:=l) (by omega);have h1:=kJ hI;have h2:=G7 h;have step:∀(i:Nat) (a:Int),i<l.length->l[i]?=some a->ae l (i:Int)=some a/\br a/\ac ((i:Int)+1)=(i:Int)+1:=λi a hi ha=>⟨aV ha,h a (aa2 ha),aD (by omega) (by omega)⟩
 constructor
 ·unfold nO;rw[rE hI,f8];refine(aae (λo:Option (List Int)=>o.bind _) (Ai (λq i=>(q,i)) l jx (f:=mS l) (p:=jx l.length) hl (by omega) (λi a q hi ha hq=>?_) (λq=>?_))).trans rfl
  ·obtain⟨e1,e2,e3⟩:=step i a hi ha;unfold mS;simp only[ax (show(i:Int)<(l.length:Int)by omega),Ze,e1,f8,rE e2,e3,ah,bO (m:=q.length) (k:=(jx a).length) (b:=1) (by omega) (by omega)]
  ·unfold mS;grind
 ·trivial
theorem Dv{t:List UInt8}(hl:t.length<=70368744177664):qC t=some (mE t)/\True:=by
 have hI:=oB (l:=t) (by omega);have h1:=kJ hI;have ha:aP (jx t.length).length t.length 1=true:=bO (by omega) (by omega);have hm:t.length<=maxLen:=by unfold maxLen;omega
 constructor
 ·unfold qC;rw[rE hI,f8,ha];rfl
 ·trivial
theorem TQ{t:List UInt8}(hl:t.length<=4194304):qm [t]=some (rr t)/\True:=by
 have hI:br 1:=⟨by omega,by omega⟩
 have h1:=kJ hI;have h2:=Cq hl;obtain⟨b1,b2⟩:=Dv (t:=t) (by omega);have step:∀(i:Nat) (a:List UInt8),i<[t].length->[t][i]?=some a->ae [t] (i:Int)=some t/\a=t/\ac ((i:Int)+1)=(i:Int)+1:=λi a hi ha=>by
  have:i=0:=by simpa using hi
  subst this;injection ha with ha;exact⟨rfl,ha.symm,rfl⟩
 have e:jx 1++[t].flatMap mE=rr t:=by unfold rr;simp
 have hlen:(jx 1).length+([t].flatMap mE).length<=140737488355328:=by grind
 constructor
 ·unfold qm;rw[show kB (([t]:List (List UInt8)).length:Int)=some (jx 1)from rE hI,f8,<-e];refine(aae (λo:Option (List Int)=>o.bind _) (Ai (λq i=>(q,i)) [t] mE (f:=m8 [t]) (p:=jx 1) (by simp) hlen (λi a q hi ha hq=>?_) (λq=>?_))).trans rfl
  ·obtain⟨e1,e2,e3⟩:=step i a hi ha;subst e2;unfold m8;simp only[ax (show(i:Int)<(([a]:List (List UInt8)).length:Int)by omega),Ze,e1,f8,b1,e3,ah,bO (m:=q.length) (k:=(mE a).length) (b:=1) (by omega) (by omega)]
  ·rfl
 ·trivial
attribute [local irreducible] comp
structure EncTh(t:Th):Prop where
 n:t.1.length<=128
 f:∀f∈t.1,br f.1/\eE f.2/\f.2.length<=1048576
 s:eE t.2.1/\t.2.1.length<=1048576
 w:br t.2.2.1
structure EncS(s:aB):Prop where
 n:s.1.length<=128
 t:∀t∈s.1,EncTh t
 v:eE s.2.1/\s.2.1.length<=1048576
 q:s.2.2.1.length<=1048576/\∀q∈s.2.2.1,eE q/\q.length<=1048577
 o:eE s.2.2.2.1/\s.2.2.2.1.length<=1048576
 f:eE s.2.2.2.2.1/\s.2.2.2.2.1.length<=1048576
 h:eE [s.2.2.2.2.2.1,s.2.2.2.2.2.2.1,s.2.2.2.2.2.2.2.1.1,s.2.2.2.2.2.2.2.1.2.1,s.2.2.2.2.2.2.2.1.2.2,s.2.2.2.2.2.2.2.2.1,s.2.2.2.2.2.2.2.2.2.1,s.2.2.2.2.2.2.2.2.2.2.1]
 w:s.2.2.2.2.2.2.2.2.2.2.2.length<=1048576
def Ea(b:Bool):Int:=if b then 1 else 0
def qy(f:Fr):List Int:=dG (f.1::f.2)
def oq(t:Th):List Int:=dG [t.2.2.1,Ea t.2.2.2,t.1.length]++(t.1.flatMap qy++dG t.2.1)
def pU(s:aB):List Int:=[(s.1.length:Int),(s.2.2.1.length:Int),s.2.2.2.2.2.1,s.2.2.2.2.2.2.1,s.2.2.2.2.2.2.2.1.1,s.2.2.2.2.2.2.2.1.2.1,s.2.2.2.2.2.2.2.1.2.2,s.2.2.2.2.2.2.2.2.1,s.2.2.2.2.2.2.2.2.2.1,s.2.2.2.2.2.2.2.2.2.2.1]
def Ad(s:aB):List Int:=dG (pU s)++(rr s.2.2.2.2.2.2.2.2.2.2.2++(s.1.flatMap oq++(dG s.2.1++(s.2.2.1.flatMap dG++(dG s.2.2.2.1++dG s.2.2.2.2.1)))))
theorem fJ{x:Int}{l:List Int}(h:br x)(hl:eE l):eE (x::l):=λy hy=>(aaa.1 hy).elim (λe=>e▸h) (hl y)
theorem mA:eE []:=λy hy=>by cases hy
theorem amh(b:Bool):br (Ea b):=by unfold Ea;split<;>exact⟨by omega,by omega⟩
theorem WZ{t:Th}(h:EncTh t):eE [t.2.2.1,Ea t.2.2.2,(t.1.length:Int)]:=fJ h.w (fJ (amh _) (fJ (oB (by have:=h.n;omega)) mA))
theorem WB{s:aB}(h:EncS s):eE (pU s):=fJ (oB (by have:=h.n;omega)) (fJ (oB (by have:=h.q.1;omega)) h.h)
theorem F8{f:Fr}(h:br f.1/\eE f.2/\f.2.length<=1048576):eE (f.1::f.2)/\(f.1::f.2).length<=1048577/\(qy f).length<=9437202:=by
 have h1:eE (f.1::f.2):=fJ h.1 h.2.1;have h2:(f.1::f.2).length<=1048577:=by grind
 have:=lQ h1 (by omega);exact⟨h1,h2,by unfold qy;omega⟩
theorem Qs{t:Th}(h:EncTh t):(t.1.flatMap qy).length<=1207961856:=by have:=uv (enc:=qy) (b:=9437202) (xs:=t.1) λf hf=>(F8 (h.f f hf)).2.2;have:=h.n;omega
theorem aai{t:Th}(h:EncTh t):(oq t).length<=1217399094:=by have h1:=lQ (WZ h) (by simp);have h2:=Qs h;have h3:=lQ h.s.1 (by have:=h.s.2;omega);have h4:=h.s.2;have h5:([t.2.2.1,Ea t.2.2.2,(t.1.length:Int)]:List Int).length=3:=rfl;unfold oq;grind
theorem aly{s:aB}(h:EncS s):(s.1.flatMap oq).length<=155827084032:=by have:=uv (enc:=oq) (b:=1217399094) (xs:=s.1) λt ht=>aai (h.t t ht);have:=h.n;omega
theorem amr{s:aB}(h:EncS s):(s.2.2.1.flatMap dG).length<=9895623524352:=by
 have:=uv (enc:=dG) (b:=9437202) (xs:=s.2.2.1) λq hq=>by have h1:=h.q.2 q hq;have:=lQ h1.1 (by omega);omega
 have:=h.q.1;omega
theorem aaP{s:aB}(h:EncS s):(dG (pU s)).length<=99:=lQ (WB h) (by show 10<=_;omega)
theorem N0{s:aB}(h:EncS s):(Ad s).length<=20000000000000:=by have h1:=aaP h;have h2:=aan (t:=s.2.2.2.2.2.2.2.2.2.2.2) (by have:=h.w;omega);have h3:=aly h;have h4:=lQ h.v.1 (by have:=h.v.2;omega);have h5:=amr h;have h6:=lQ h.o.1 (by have:=h.o.2;omega);have h7:=lQ h.f.1 (by have:=h.f.2;omega);have:=h.v.2;have:=h.o.2;have:=h.f.2;have:=h.w;unfold Ad;grind
theorem CR{l:List Int}(h:eE l)(hl:l.length<=4194304){q:List Int}(hq:q.length+(dG l).length<=140737488355328):dm l q=some (q++dG l):=by unfold dm;rw[(Ab h hl).1,f8,bO (by omega) (by omega)];rfl
theorem aco{t:Th}(h:EncTh t){q:List Int}(hq:q.length+(t.1.flatMap qy).length<=140737488355328):Itr.it (iY t) (0,q)=some (q++t.1.flatMap qy):=by
 have hf:=Qs h;have hn:=h.n;refine Ai (λq i=>(i,q)) t.1 qy (by omega) (by omega) (λi f q hi ha hq=>?_) (λq=>?_)
 ·obtain⟨f1,f2,f3⟩:=F8 (h.f f (aa2 ha));have hfl:f.2.length<=1048576:=(h.f f (aa2 ha)).2.2;have e1:dm (([f.1]:List Int)++f.2) q=some (q++qy f):=CR (l:=f.1::f.2) f1 (by omega) hq;unfold iY;simp only[ax (show(i:Int)<(t.1.length:Int)by omega),Ze,aV ha,f8,bO (m:=([f.1]:List Int).length) (k:=f.2.length) (b:=8) (by grind) (by omega),ah,e1,aD (x:=(i:Int)+1) (by omega) (by omega)]
 ·unfold iY;grind
theorem apS(b:Bool):eG b=some (Ea b)/\True:=by cases b<;>exact⟨rfl,trivial⟩
theorem aag(t:Th):(oq t).length=(dG [t.2.2.1,Ea t.2.2.2,(t.1.length:Int)]).length+((t.1.flatMap qy).length+(dG t.2.1).length):=by unfold oq;grind
theorem YA{s:aB}(h:EncS s){q:List Int}(hq:q.length+(s.1.flatMap oq).length<=140737488355328):Itr.it (i8 s) (0,q)=some (q++s.1.flatMap oq):=by
 have hn:=h.n;refine Ai (λq i=>(i,q)) s.1 oq (by omega) hq (λi t q hi ha hq=>?_) (λq=>?_)
 ·have ht:=h.t t (aa2 ha);have h3:=ht.s.2;have hl:=aag t;have e1:=CR (WZ ht) (q:=q) (by simp) (by omega);have e2:=aco ht (q:=q++dG [t.2.2.1,Ea t.2.2.2,(t.1.length:Int)]) (by grind);have e3:=CR ht.s.1 (q:=(q++dG [t.2.2.1,Ea t.2.2.2,(t.1.length:Int)])++t.1.flatMap qy) (by omega) (by grind);unfold i8;simp only[ax (show(i:Int)<(s.1.length:Int)by omega),Ze,aV ha,f8,(apS _).1,e1,e2,e3,aD (x:=(i:Int)+1) (by omega) (by omega)];unfold oq;grind
 ·unfold i8;grind
theorem aaM{s:aB}(h:EncS s){q:List Int}(hq:q.length+(s.2.2.1.flatMap dG).length<=140737488355328):Itr.it (iZ s) (0,q)=some (q++s.2.2.1.flatMap dG):=by
 have hn:=h.q.1;refine Ai (λq i=>(i,q)) s.2.2.1 dG (by omega) hq (λi l q hi ha hq=>?_) (λq=>?_)
 ·have hl:=h.q.2 l (aa2 ha);unfold iZ;simp only[ax (show(i:Int)<(s.2.2.1.length:Int)by omega),Ze,aV ha,f8,CR hl.1 (q:=q) (by omega) hq,aD (x:=(i:Int)+1) (by omega) (by omega)]
 ·unfold iZ;grind
theorem aeS(s:aB):(Ad s).length=(dG (pU s)).length+((rr s.2.2.2.2.2.2.2.2.2.2.2).length+((s.1.flatMap oq).length+((dG s.2.1).length+((s.2.2.1.flatMap dG).length+((dG s.2.2.2.1).length+(dG s.2.2.2.2.1).length))))):=by unfold Ad;grind
theorem OW{s:aB}(h:EncS s):nV s=some (Ad s)/\True:=by
 have hs:=aeS s;have hl:=N0 h;have n10:(pU s).length<=4194304:=by show 10<=_;omega
 obtain⟨h1,h1'⟩:=Ab (WB h) n10;obtain⟨h2,h2'⟩:=TQ (t:=s.2.2.2.2.2.2.2.2.2.2.2) (by have:=h.w;omega);have hv:=h.v;have ho:=h.o;have hf:=h.f;have L2:∀a b:List Int,(a++b).length=a.length+b.length:=λa b=>ZD;constructor
 ·have a1:=YA h (q:=dG (pU s)++rr s.2.2.2.2.2.2.2.2.2.2.2) (by rw[L2];omega);have a2:=CR hv.1 (q:=(dG (pU s)++rr s.2.2.2.2.2.2.2.2.2.2.2)++s.1.flatMap oq) (by omega) (by grind);have a3:=aaM h (q:=((dG (pU s)++rr s.2.2.2.2.2.2.2.2.2.2.2)++s.1.flatMap oq)++dG s.2.1) (by grind);have a4:=CR ho.1 (q:=(((dG (pU s)++rr s.2.2.2.2.2.2.2.2.2.2.2)++s.1.flatMap oq)++dG s.2.1)++s.2.2.1.flatMap dG) (by omega) (by grind);have a5:=CR hf.1 (q:=((((dG (pU s)++rr s.2.2.2.2.2.2.2.2.2.2.2)++s.1.flatMap oq)++dG s.2.1)++s.2.2.1.flatMap dG)++dG s.2.2.2.1) (by omega) (by grind);unfold nV;dsimp only;refine(aae (λo:Option (List Int)=>o.bind _) h1).trans ?_;simp only[f8,h2,ah,bO (m:=(dG (pU s)).length) (k:=(rr s.2.2.2.2.2.2.2.2.2.2.2).length) (b:=1) (by omega) (by omega),Ze,a1,a2,a3,a4,a5];unfold Ad;grind
 ·trivial
theorem apB:Fed AK [] (AK,[],0):=⟨rfl,rfl,rfl,λx hx=>by cases hx⟩
theorem Uf{ts:List (List UInt8)}(hn:ts.length<=4194304)(ht:∀t∈ts,t.length<=70368744177664)(hl:(ts.flatMap mE).length<=140737488353000)(tag:Int):∃v,jn tag ts=some v:=by
 have hb0:yZ [IntKind.u8.wrap tag]:=λx hx=>by rcases ZK.1 hx with rfl;exact w8 _
 obtain⟨S1,p1,F1⟩:=EO apB (j5 [IntKind.u8.wrap tag]) (by rw[ln];simp);rw[aak hb0,abx]at F1;obtain⟨S2,q1,q2⟩:=fj (f:=oR ts) (λs=>ts.length-s.1.toNat) (λs=>∃i:Nat,s.1=(i:Int)/\i<=ts.length/\Fed AK ([IntKind.u8.wrap tag]++(ts.take i).flatMap mE) s.2) (λr=>Fed AK ([IntKind.u8.wrap tag]++ts.flatMap mE) r)
  (λs hs=>by
   obtain⟨z,S⟩:=s;obtain⟨i,rfl,i1,i2⟩:=hs;dsimp only at i2|-;by_cases hi:i<ts.length
   ·right;have ha:ts[i]?=some ts[i]:=ZB hi;have hm:=ht _ (aek hi);have hI:=oB (l:=ts[i]) (by omega);have hbb:yZ (mE ts[i]):=BX (abL hI) (afg _);have hle:=Qc mE ts (i+1);have e:=GS mE ha;obtain⟨S',p2,F2⟩:=EO i2 (j5 (mE ts[i])) (by
     rw[ln];rw[e,ZD]at hle;simp only[ZD,aaG,aer];omega)
    rw[aak hbb,aaf,<-e]at F2;refine⟨((i:Int)+1,S'),?_,⟨i+1,by push_cast;rfl,by omega,F2⟩,by dsimp only;omega⟩;unfold oR;simp only[aV ha,f8,(Dv hm).1,ax (show(i:Int)<(ts.length:Int)by omega),Ze,aD (x:=(i:Int)+1) (by omega) (by omega)];refine(aae (λo:Option bY=>o.bind _) p2).trans ?_;rfl
   ·left;have:i=ts.length:=by omega
    subst this;rw[alJ]at i2;refine⟨S,?_,i2⟩;unfold oR;rw[aQ (by omega)];rfl) (s:=(0,S1)) ⟨0,rfl,by omega,by simpa using F1⟩ (by grind)
 obtain⟨s1,-⟩:=aby (by simp only[ZD,aaG,aer];omega) q2;unfold jn;rw[show yv=some (AK,[],0)from rfl,f8];rw[show gz (AK,[],0) (List.map (λn=>UInt8.ofNat n.toNat) ([IntKind.u8.wrap tag]:List Int))=some S1 from p1,f8,q1,f8,s1,f8];exact⟨_,rfl⟩
theorem F5{s:aB}(h:EncS s):∃v,cS s=some v:=by obtain⟨h1,-⟩:=OW h;have hl:=N0 h;obtain⟨v,v1⟩:=Uf (ts:=[j5 (Ad s)]) (by simp) (λt ht=>by rcases ZK.1 ht with rfl;rw[ln];omega) (by have hI:=oB (l:=j5 (Ad s)) (by rw[ln];omega);have:=kJ hI;rw[ln]at this;simp only[aku,List.flatMap_nil,Z2];unfold mE;rw[ZD,DK,ln];omega) 6;refine⟨v,?_⟩;unfold cS;rw[h1,f8];exact(aae (λo:Option (List Int)=>o.bind _) v1).trans rfl
theorem alw{α R:Type}[DecidableEq α](xs ys:List α)(hl:xs.length=ys.length)(hn:xs.length<4611686018427387904)(Z:R){f:Int->Option (Int⊕(Unit⊕R))}
  (h1:∀(i:Nat) (a b:α),i<xs.length->ac ((i:Int)+1)=(i:Int)+1->a∈xs->b∈ys->ae xs (i:Int)=some a->ae ys (i:Int)=some b->f (i:Int)=if a=b then some (.inl ((i:Int)+1))else some (.inr (.inr Z)))
  (h2:f (xs.length:Int)=some (.inr (.inl ()))):Itr.it f (0:Int)=some (if xs=ys then .inl ()else .inr Z):=by
 rcases iO (f:=f) xs.length (by omega) (λi=>xs[i]?=ys[i]?) (λ_=>Z)
  (λi hi _=>by
   have ha:xs[i]?=some xs[i]:=ZB hi;have hb:ys[i]?=some (ys[i]'(by omega)):=ZB (by omega);rw[h1 i _ _ hi (aD (by omega) (by omega)) (aa2 ha) (aa2 hb) (aV ha) (aV hb),ha,hb];grind)
  (λ_=>h2)with⟨hP,he⟩|⟨i,hi,_,hP,he⟩
 ·rw[he,if_pos];refine ace λi=>?_;grind
 grind
theorem vz{α:Type}[DecidableEq α](a b:List α)(hn:a.length<4611686018427387904){f:Int->Option (Int⊕(Unit⊕Bool))}
  (h1:∀(i:Nat) (x y:α),i<a.length->ac ((i:Int)+1)=(i:Int)+1->x∈a->y∈b->ae a (i:Int)=some x->ae b (i:Int)=some y->f (i:Int)=if x=y then some (.inl ((i:Int)+1))else some (.inr (.inr false)))
  (h2:f (a.length:Int)=some (.inr (.inl ()))):(bif(a.length:Int) != (b.length:Int)then some false else(Itr.it f 0).bind λz=>match z with|Sum.inl _=>some true|Sum.inr t=>some t)=some (decide (a=b)):=by
 by_cases hl:a.length=b.length
 ·rw[nf (by omega),alw a b hl hn false h1 h2];grind
 ·rw[nt (by omega),aQ (λh=>hl (by rw[h]))];rfl
theorem ui(a b:List Int)(h:a.length<4611686018427387904):True/\True/\dD a b=some (decide (a=b)):=by
 have step:∀x y:Int,∀i:Int,(bif x != y then some (Sum.inr (Sum.inr false))else some (Sum.inl i))=if x=y then some (Sum.inl i:Int⊕(Unit⊕Bool))else some (.inr (.inr false)):=λx y i=>by grind
 refine⟨?_,?_,?_⟩
 ·trivial
 ·trivial
 ·exact vz (f:=fV a b) a b h (λi x y hi hw _ _ e1 e2=>by unfold fV;grind) (by unfold fV;grind)
theorem akc(x y:Fr)(h:x.2.length<=1048576):Sr 61 x y=some (decide (x=y)):=by
 show od x y=_;obtain⟨x1,x2⟩:=x;obtain⟨y1,y2⟩:=y;unfold od;by_cases h1:x1=y1
 ·subst h1;simp only[aat,Ze,(ui x2 y2 (by grind)).2.2,f8,ZC,true_and]
 ·simp only[bf h1,Zr,f8,ZC,h1,false_and,aeU]
theorem apG(a b:List Fr)(hn:a.length<=128)(h:∀f∈a,f.2.length<=1048576):bU a b 61=some (decide (a=b)):=
 vz (f:=bi a b 61) a b (by omega) (λi x y hi hw hx _ e1 e2=>by unfold bi;simp only[ax (show(i:Int)<(a.length:Int)by omega),Ze,e1,e2,f8,hw,akc x y (h x hx)];grind) (by unfold bi;grind)
theorem apZ(x y:Th)(h:EncTh x):og x y 61=some (decide (x=y)):=by
 have h1:=ui x.2.1 y.2.1 (by have:=h.s.2;omega);have h2:=apG x.1 y.1 h.n λf hf=>(h.f f hf).2.2;obtain⟨x1,x2,x3,x4⟩:=x;obtain⟨y1,y2,y3,y4⟩:=y;dsimp only at h1 h2;unfold og;dsimp only;by_cases a1:x3=y3;rotate_left
 ·simp[a1,bf a1]
 subst a1;by_cases a2:x4=y4;rotate_left
 ·simp[a2,show(x4==y4)=false from aej.2 a2]
 subst a2;by_cases a3:x2=y2;rotate_left
 ·simp_all
 simp_all
theorem apL(a b:List Th)(hn:a.length<=128)(h:∀t∈a,EncTh t):bS a b 61=some (decide (a=b)):=
 vz (f:=be a b 61) a b (by omega) (λi x y hi hw hx _ e1 e2=>by unfold be;simp only[ax (show(i:Int)<(a.length:Int)by omega),Ze,e1,e2,f8,hw,apZ x y (h x hx)];grind) (by unfold be;grind)
theorem apI(a b:List (List Int))(hn:a.length<=1048576)(h:∀t∈a,t.length<=1048577):fZ a b=some (decide (a=b)):=
 vz (f:=du a b) a b (by omega) (λi x y hi hw hx _ e1 e2=>by unfold du;simp only[ax (show(i:Int)<(a.length:Int)by omega),Ze,e1,e2,f8,hw,(ui x y (by grind)).2.2];grind) (by unfold du;grind)
noncomputable def XN(s t:aB):Bool:=@decide (s=t) (Classical.propDecidable _)
theorem ahX{s t:aB}(h:s=t):XN s t=true:=by unfold XN;grind
theorem BI{s t:aB}(h:¬s=t):XN s t=false:=by unfold XN;grind
theorem ao3{s:aB}(h:EncS s)(t:aB):lk s t=some (XN s t):=by
 have h1:=apL s.1 t.1 h.n h.t;have h2:=apI s.2.2.1 t.2.2.1 h.q.1 λq hq=>(h.q.2 q hq).2;have h3:=(ui s.2.1 t.2.1 (by have:=h.v.2;omega)).2.2;have h4:=(ui s.2.2.2.1 t.2.2.2.1 (by have:=h.o.2;omega)).2.2;have h5:=(ui s.2.2.2.2.1 t.2.2.2.2.1 (by have:=h.f.2;omega)).2.2;obtain⟨a1,a2,a3,a4,a5,a6,a7,⟨b1,b2,b3⟩,a8,a9,a10,a11⟩:=s;obtain⟨c1,c2,c3,c4,c5,c6,c7,⟨d1,d2,d3⟩,c8,c9,c10,c11⟩:=t;dsimp only at h1 h2 h3 h4 h5;unfold lk;dsimp only;rw[h1];by_cases e1:a1=c1;rotate_left
 ·rw[BI (by simp[e1]),aQ e1];rfl
 rw[ax e1];subst e1;simp only[f8,Ze];rw[h2];by_cases e3:a3=c3;rotate_left
 ·rw[BI (by simp[e3]),aQ e3];rfl
 rw[ax e3];subst e3;simp only[f8,Ze];rw[h3];by_cases e2:a2=c2;rotate_left
 ·rw[BI (by simp[e2]),aQ e2];rfl
 rw[ax e2];subst e2;simp only[f8,Ze];rw[h4];by_cases e4:a4=c4;rotate_left
 ·rw[BI (by simp[e4]),aQ e4];rfl
 rw[ax e4];subst e4;simp only[f8,Ze];rw[h5];by_cases e5:a5=c5;rotate_left
 ·rw[BI (by simp[e5]),aQ e5];rfl
 rw[ax e5];subst e5;simp only[f8,Ze];refine aae some ?_;by_cases e:(a6=c6/\a7=c7/\b1=d1/\b2=d2/\b3=d3/\a8=c8/\a9=c9/\a10=c10/\a11=c11)
 ·obtain⟨rfl,rfl,rfl,rfl,rfl,rfl,rfl,rfl,rfl⟩:=e;rw[ahX rfl];grind
 ·rw[BI (λh=>e (by grind)),Bool.eq_false_iff];grind
def yU(f:Fr):Prop:=br f.1/\eE f.2
structure InT(t:Th):Prop where
 f:∀f∈t.1,yU f
 s:eE t.2.1
 w:br t.2.2.1
structure InS(s:aB):Prop where
 t:∀t∈s.1,InT t
 v:eE s.2.1
 q:∀q∈s.2.2.1,eE q
 o:eE s.2.2.2.1
 f:eE s.2.2.2.2.1
 h:eE [s.2.2.2.2.2.1,s.2.2.2.2.2.2.1,s.2.2.2.2.2.2.2.1.1,s.2.2.2.2.2.2.2.1.2.1,s.2.2.2.2.2.2.2.1.2.2,s.2.2.2.2.2.2.2.2.1,s.2.2.2.2.2.2.2.2.2.1,s.2.2.2.2.2.2.2.2.2.2.1]
 w:s.2.2.2.2.2.2.2.2.2.2.2.length<=1048576
structure InC(c:CC):Prop where
 i:∀x∈c.1,br x.2.1
 p:eE c.2.1
 v:∀v∈c.2.2.2.1,br v.2
 n:∀l∈c.2.2.2.2.2.2.2,l.length<=1048576
theorem aq0{c:CC}(hc:bw c)(h:NumC c):InC c:=⟨h.i,λx hx=>by obtain⟨k,hk,rfl⟩:=afL hx;obtain⟨_,_,q1,q2,_⟩:=hc.2.1.2.2.1 k hk;rw[aav,ZB hk,aeQ]at q1 q2;have:=hc.1;exact⟨by omega,by omega⟩,h.v,h.n⟩
theorem lc:br 0:=⟨by omega,by omega⟩
theorem nK{l:List Int}(h:eE l)(i:Nat):br (l.getD i 0):=by
 rw[aav];cases he:l[i]? with
 |none=>exact lc
 |some x=>exact h x (aa2 he)
theorem mz{l:List Int}(h:eE l)(i:Nat){v:Int}(hv:br v):eE (l.set i v):=λx hx=>(ab2 hx).elim (h x) (λe=>e▸hv)
theorem rm{l:List Int}(h:eE l)(i:Nat):eE (l.take i):=λx hx=>h x (ajj hx)
theorem adh{l:List Int}(h:eE l)(i:Nat):eE (l.drop i):=λx hx=>h x (akY hx)
theorem yA{l:List Int}(h:eE l){v:Int}(hv:br v):eE (l++[v]):=λx hx=>(aad.1 hx).elim (h x) (λe=>(ZK.1 e)▸hv)
theorem BG(n:Nat){v:Int}(hv:br v):eE (List.replicate n v):=λx hx=>aeZ hx▸hv
theorem fI{x:Int}(h0 : -10<=x)(h1:x<=4294967296):br x:=⟨by omega,by omega⟩
theorem CS{fs:List Fr}{f:Fr}(h:∀f∈fs,yU f)(hf:yU f):∀g∈fs++[f],yU g:=λg hg=>(aad.1 hg).elim (h g) (λe=>(ZK.1 e)▸hf)
theorem jr{s:aB}{i:Nat}{t:Th}(hs:InS s)(ht:InT t):InS (cg s i t):=
 ⟨λu hu=>(ab2 hu).elim (hs.t u) (λe=>e▸ht),hs.v,hs.q,hs.o,hs.f,hs.h,hs.w⟩
theorem DU{s:aB}(h:InS s):br s.2.2.2.2.2.1/\br s.2.2.2.2.2.2.1/\br s.2.2.2.2.2.2.2.1.1/\br s.2.2.2.2.2.2.2.1.2.1/\br s.2.2.2.2.2.2.2.1.2.2/\br s.2.2.2.2.2.2.2.2.1/\br s.2.2.2.2.2.2.2.2.2.1/\br s.2.2.2.2.2.2.2.2.2.2.1:=by have hh:=h.h;exact⟨hh _ (by simp),hh _ (by simp),hh _ (by simp),hh _ (by simp),hh _ (by simp),hh _ (by simp),hh _ (by simp),hh _ (by simp)⟩
theorem Dj{a b c d e f g h:Int}(h1:br a)(h2:br b)(h3:br c)(h4:br d)(h5:br e)(h6:br f)(h7:br g)(h8:br h):eE [a,b,c,d,e,f,g,h]:=
 fJ h1 (fJ h2 (fJ h3 (fJ h4 (fJ h5 (fJ h6 (fJ h7 (fJ h8 mA)))))))
theorem Le{s:aB}(hs:InS s){o k:Int}{w:List UInt8}(ho:br o)(hk:br k)(hw:w.length<=1048576):InS (tf s o k w):=by obtain⟨a,b,c,d,e,f,g,h⟩:=DU hs;exact⟨hs.t,hs.v,hs.q,hs.o,hs.f,Dj a b c d e f ho hk,hw⟩
theorem acz{s:aB}(hs:InS s)(x:Int):InS (Yi s x):=by obtain⟨a,b,c,d,e,f,g,h⟩:=DU hs;exact⟨hs.t,hs.v,hs.q,hs.o,hs.f,Dj a b c (iq _) e f g h,hs.w⟩
theorem akr{s:aB}(hs:InS s):InS (BU s):=by obtain⟨a,b,c,d,e,f,g,h⟩:=DU hs;exact⟨hs.t,hs.v,hs.q,hs.o,hs.f,Dj a b c d (iq _) f g h,hs.w⟩
theorem Y0{s:aB}(hs:InS s){w:Int}(hw:br w):InS (LM s w):=by obtain⟨a,b,c,d,e,f,g,h⟩:=DU hs;exact⟨hs.t,hs.v,hs.q,hs.o,hs.f,Dj hw b c d e f g h,hs.w⟩
theorem al1{s:aB}(hs:InS s):InS (dB s):=by obtain⟨a,b,c,d,e,f,g,h⟩:=DU hs;exact⟨hs.t,hs.v,hs.q,hs.o,hs.f,Dj (iq _) (iq _) (iq _) d e f g h,hs.w⟩
theorem E2{s:aB}(hs:InS s){p:Int}(hp:br p):InS (bP s p):=by obtain⟨a,b,c,d,e,f,g,h⟩:=DU hs;exact⟨hs.t,hs.v,hs.q,hs.o,hs.f,Dj a b c d e hp g h,hs.w⟩
theorem aoP{s:aB}(hs:InS s){o:Int}(ho:br o):InS (AA s o):=by obtain⟨a,b,c,d,e,f,g,h⟩:=DU hs;exact⟨hs.t,hs.v,hs.q,hs.o,hs.f,Dj a b c d e f ho h,hs.w⟩
theorem JD{s:aB}(hs:InS s)(i:Nat):InT (bg s i):=by
 unfold bg;rw[aav];cases he:s.1[i]? with
 |none=>exact⟨λf hf=>(by cases hf),mA,lc⟩
 |some x=>exact hs.t x (aa2 he)
theorem Yv{t:Th}(h:InT t):yU (sU t):=by
 unfold sU;rcases akJ t.1 with hl|⟨fs,f,hl⟩
 ·rw[hl];exact⟨lc,mA⟩
 ·rw[akQ]at hl;rw[hl,List.getLastD_concat];exact h.f f (by rw[hl];simp)
theorem Qg{t:Th}(h:InT t):∀f∈t.1.dropLast,yU f:=λf hf=>h.f f (List.dropLast_subset _ hf)
theorem apX{c:CC}(h:InC c)(pc:Nat):br (dt c pc).2.1:=by
 unfold dt;rw[aav];cases he:c.1[pc]? with
 |none=>exact lc
 |some x=>exact h.i x (aa2 he)
theorem aiT{c:CC}(h:InC c)(k:Nat):(c.2.2.2.2.2.2.2.getD k []).length<=1048576:=by
 rw[aav];cases he:c.2.2.2.2.2.2.2[k]? with
 |none=>simp
 |some x=>exact h.n x (aa2 he)
theorem xm{c:CC}(h:InC c){s:aB}(hs:InS s)(i:Nat){o:Int}(ho:br o):InS (fA c s i o):=by
 unfold fA;dsimp only;split
 ·exact Le hs ho (iq _) (aiT h _)
 ·exact Le hs ho (DU hs).2.2.2.2.2.2.2 hs.w
theorem rI{p:Prop}[Decidable p]{a b:Int}(ha:br a)(hb:br b):br (if p then a else b):=by grind
theorem RG:br 1:=⟨by omega,by omega⟩
theorem aoo(op a b:Int):br (GQ op a b):=by unfold GQ;exact rI (iq _) (rI (iq _) (rI (iq _) (rI (rI RG lc) (rI (rI RG lc) (rI RG lc)))))
theorem mj{fs:List Fr}{f:Fr}{st:List Int}{w:Int}{b:Bool}(h1:∀f∈fs,yU f)(h2:yU f)(h3:eE st)(h4:br w):InT (fs++[f],st,w,b):=⟨CS h1 h2,h3,h4⟩
theorem aoh{c:CC}(hC:InC c){kind:Int}(hk:br kind){s:aB}(hs:InS s){i:Nat}{fs:List Fr}{f:Fr}{st:List Int}{w:Int}{x:bM}(h1:∀f∈fs,yU f)(h2:yU f)(h3:eE st)(h4:br w)(hx:br x.2.1) :
  ∀s',kh c kind s i fs f st w x=some s'->InS s':=by
 have pu:∀v,br v->∀s',(if 16<=st.length then none else some (cg s i (fs++[(ac (f.1+1),f.2)],st++[v],w,false)))=some s'->InS s':=λv hv s' h=>by
  split at h
  ·cases h
  ·injection h with h;subst h;exact jr hs (mj h1 ⟨iq _,h2.2⟩ (yA h3 hv) h4)
 have po:∀g:Int->aB,(∀v,br v->InS (g v))->∀s',(if st.length=0 then none else some (g (st.getD (st.length-1) 0)))=some s'->InS s':=λg hg s' h=>by
  split at h
  ·cases h
  ·injection h with h;subst h;exact hg _ (nK h3 _)
 intro s' h;unfold kh at h;by_cases e0:x.1=0
 ·grind
 rw[if_neg e0]at h;by_cases e1:x.1=1
 ·rw[if_pos e1]at h;exact pu _ (nK h2.2 _) _ h
 rw[if_neg e1]at h;by_cases e3:x.1=3
 ·grind
 rw[if_neg e3]at h;by_cases e2:x.1=2
 ·rw[if_pos e2]at h;refine po (λv=>cg s i (fs++[(ac (f.1+1),f.2.set x.2.1.toNat v)],st.take (st.length-1),w,false)) (λv hv=>?_) _ h;exact jr hs (mj (f:=(ac (f.1+1),f.2.set x.2.1.toNat v)) h1 ⟨iq _,mz h2.2 _ hv⟩ (rm h3 _) h4)
 rw[if_neg e2]at h;by_cases e10:x.1=10
 ·rw[if_pos e10]at h;injection h with h;subst h;exact jr hs (mj h1 ⟨hx,h2.2⟩ h3 h4)
 rw[if_neg e10]at h;by_cases e11:x.1=11
 ·rw[if_pos e11]at h;exact po (λv=>cg s i (fs++[(if v=0 then x.2.1 else ac (f.1+1),f.2)],st.take (st.length-1),w,false)) (λv hv=>jr hs (mj h1 ⟨rI hx (iq _),h2.2⟩ (rm h3 _) h4)) _ h
 rw[if_neg e11]at h;by_cases e12:x.1=12
 ·rw[if_pos e12]at h;by_cases h8:8<=fs.length+1
  ·grind
  ·rw[if_neg h8]at h;injection h with h;subst h;exact jr hs (mj (CS h1 ⟨iq _,h2.2⟩) ⟨nK hC.p _,BG _ lc⟩ h3 h4)
 rw[if_neg e12]at h;by_cases e13:x.1=13
 ·rw[if_pos e13]at h;injection h with h;subst h;exact jr hs ⟨h1,h3,h4⟩
 rw[if_neg e13]at h;by_cases e14:x.1=14
 ·rw[if_pos e14]at h;refine po (λv=>if v=0 then tf (cg s i (fs++[(ac (f.1+1),f.2)],st.take (st.length-1),w,false)) 1 x.2.1 (c.2.2.2.2.2.2.2.getD x.2.2.toNat [])else cg s i (fs++[(ac (f.1+1),f.2)],st.take (st.length-1),w,false)) (λv hv=>?_) _ h;have hp:=jr (i:=i) hs (mj (b:=false) h1 (f:=(ac (f.1+1),f.2)) ⟨iq _,h2.2⟩ (rm h3 (st.length-1)) h4);split
  ·exact Le hp RG hx (aiT hC _)
  ·exact hp
 rw[if_neg e14]at h;by_cases e15:x.1=15
 ·rw[if_pos e15]at h;injection h with h;subst h;exact acz (jr hs (mj (f:=(ac (f.1+1),f.2)) h1 ⟨iq _,h2.2⟩ h3 h4)) _
 rw[if_neg e15]at h;by_cases hl:st.length<2
 ·grind
 ·rw[if_neg hl]at h;injection h with h;subst h;exact jr hs (mj h1 ⟨iq _,h2.2⟩ (yA (rm h3 _) (aoo _ _ _)) h4)
theorem Yq{c:CC}(hC:InC c){kind:Int}(hk:br kind){i:Nat}:∀(m:Nat) {s:aB},InS s->InS (bT c kind i m s).2:=by
 intro m;induction m with
 |zero=>
  intro s hs;unfold bT;split
  ·exact hs
  split
  ·exact hs
  exact xm hC hs _ (fI (by omega) (by omega))
 |succ m ih=>
  intro s hs;unfold bT;split
  ·exact hs
  split
  ·exact hs
  have ht:=JD hs i;dsimp only;split
  ·exact xm hC hs _ (fI (by omega) (by omega))
  ·next s' he=>exact ih (aoh hC hk hs (Qg ht) (Yv ht) ht.s ht.w (apX hC _) s' he)
theorem abf{c:CC}{s:aB}(hs:InS s)(i:Nat):InS (oE c s i).1:=by
 have ht:=JD hs i;unfold oE;dsimp only;split
 ·exact jr hs ⟨ht.f,ht.s,iq _⟩
 split
 ·show InS (if _ then _ else _);split
  ·exact akr hs
  ·exact hs
 grind
theorem L8{c:CC}(hC:InC c){kind:Int}(hk:br kind){i:Nat}{s:aB}(hs:InS s):InS (bh c kind i s).1:=by
 have h:=Yq hC hk (i:=i) 64 hs;unfold bh;split
 ·exact abf h i
 ·exact h
theorem anu{c:CC}(hC:InC c){kind:Int}(hk:br kind):∀(l:List Int) {s:aB},InS s->InS (bn c kind l s).1:=by
 intro l;induction l with
 |nil=>intro s hs;exact hs
 |cons z l ih=>intro s hs;exact ih (L8 hC hk hs)
theorem akv{c:CC}{s:aB}(hs:InS s):∀n,br (jK c s n):=by
 intro n;induction n with
 |zero=>exact fI (x:=-1) (by omega) (by omega)
 |succ n ih=>exact rI (JD hs n).w ih
theorem GV{c:CC}(hC:InC c){s:aB}(hs:InS s):InS (cn c s):=by
 unfold cn;split
 ·exact hs
 split
 ·exact xm hC hs _ (fI (by omega) (by omega))
 split
 ·exact hs
 split
 ·exact Y0 hs (akv hs _)
 ·exact xm hC hs _ (fI (by omega) (by omega))
theorem QR{a b:List Th}{r:yP}(h:InS (a,r))(hb:∀t∈b,InT t):InS (b,r):=⟨hb,h.v,h.q,h.o,h.f,h.h,h.w⟩
theorem EY{q:List (List Int)}(h:∀l∈q,eE l)(i:Nat):eE (q.getD i []):=by
 rw[aav];cases he:q[i]? with
 |none=>exact mA
 |some x=>exact h x (aa2 he)
theorem PQ{q:List (List Int)}(h:∀l∈q,eE l)(i:Nat){l:List Int}(hl:eE l):∀m∈q.set i l,eE m:=λm hm=>(ab2 hm).elim (h m) (λe=>e▸hl)
theorem aph{i:Nat}(hi:i<=1048576){f:Fr}{st:List Int}{x:bM}{k:Int}(hk:br k){r:yP}(h2:eE f.2)(h3:eE st)(hr:InS ([],r)) :
  eE (gn i f st x k r).2.2.1/\eE (gn i f st x k r).2.2.2.1/\InS ([],(gn i f st x k r).2.2.2.2):=by
 have h4:=nK h3 (st.length-1);have h5:=rm h3 (st.length-1);obtain⟨a,b,c,d,e,g,o,z⟩:=DU hr;unfold gn;dsimp only;by_cases e16:x.1=16
 ·rw[if_pos e16];split
  ·exact⟨h2,h3,hr⟩
  ·exact⟨h2,yA h3 (nK hr.v _),hr⟩
 rw[if_neg e16];by_cases e17:x.1=17
 ·rw[if_pos e17];split
  ·exact⟨h2,h3,hr⟩
  ·exact⟨h2,h5,⟨hr.t,mz hr.v _ h4,hr.q,hr.o,hr.f,hr.h,hr.w⟩⟩
 rw[if_neg e17];by_cases e20:x.1=20
 ·rw[if_pos e20];exact⟨mz h2 _ (nK (EY hr.q _) _),h3,⟨hr.t,hr.v,PQ hr.q _ (adh (EY hr.q _) _),hr.o,hr.f,hr.h,hr.w⟩⟩
 rw[if_neg e20];by_cases e21:x.1=21
 ·rw[if_pos e21];exact⟨h2,h3,⟨hr.t,hr.v,hr.q,mz hr.o _ (fI (by omega) (by omega)),hr.f,hr.h,hr.w⟩⟩
 rw[if_neg e21];by_cases e22:x.1=22
 ·rw[if_pos e22];exact⟨h2,h3,⟨hr.t,hr.v,hr.q,mz hr.o _ (fI (by omega) (by omega)),hr.f,hr.h,hr.w⟩⟩
 rw[if_neg e22];by_cases e23:x.1=23
 ·rw[if_pos e23];exact⟨mz h2 _ hk,h3,hr⟩
 rw[if_neg e23];by_cases e24:x.1=24
 ·rw[if_pos e24];exact⟨mz h2 _ (iq _),h3,⟨hr.t,hr.v,hr.q,hr.o,hr.f,Dj (iq _) b c d e g o z,hr.w⟩⟩
 rw[if_neg e24];by_cases e25:x.1=25
 ·rw[if_pos e25];exact⟨h2,h3,hr⟩
 rw[if_neg e25];by_cases e26:x.1=26
 ·rw[if_pos e26];split
  ·exact⟨h2,h3,hr⟩
  split
  ·exact⟨h2,h5,⟨hr.t,hr.v,hr.q,hr.o,mz hr.f _ h4,hr.h,hr.w⟩⟩
  ·exact⟨h2,h5,hr⟩
 rw[if_neg e26];exact⟨mz h2 _ (nK hr.f _),h3,hr⟩
theorem anW{l:List Th}{i:Nat}{t:Th}(h:∀t∈l,InT t)(ht:InT t):∀u∈l.set i t,InT u:=λu hu=>(ab2 hu).elim (h u) (λe=>e▸ht)
theorem aki{c:CC}(hC:InC c){s:aB}(hs:InS s){i:Nat}(hi:i<=1048576){fs:List Fr}{f:Fr}{st:List Int}{w:Int}{x:bM}{j:Int}(h1:∀f∈fs,yU f)(h2:yU f)(h3:eE st)(h4:br w)(hj:br j):InS (eT c s i fs f st w x j).2.2.2:=by
 unfold eT;split
 ·unfold sN;split
  ·exact hs
  ·have hn:InS (mR s i fs f st w):=jr hs (mj (f:=(ac (f.1+1),f.2)) h1 ⟨iq _,h2.2⟩ h3 h4);refine⟨λt ht=>?_,hn.v,hn.q,hn.o,hn.f,hn.h,hn.w⟩;rcases aad.1 ht with ht|ht
   ·exact hn.t t ht
   ·rcases ZK.1 ht with rfl;exact⟨λg hg=>by rcases ZK.1 hg with rfl;exact⟨nK hC.p _,BG _ lc⟩,mA,lc⟩
 split
 ·unfold ko;split
  ·exact hs
  have hn:InS (cg s i (fs++[(ac (f.1+1),f.2)],st.take (st.length-1),w,false)):=jr hs (mj (f:=(ac (f.1+1),f.2)) h1 ⟨iq _,h2.2⟩ (rm h3 _) h4);dsimp only;split
  ·exact⟨hn.t,hn.v,PQ hn.q _ (yA (EY hs.q _) (nK h3 _)),hn.o,hn.f,hn.h,hn.w⟩
  ·have ht:=JD hs ((hU c s x.2.1).getD j.toNat 0).toNat;exact jr hn ⟨CS (Qg ht) ⟨iq _,mz (Yv ht).2 _ (nK h3 _)⟩,ht.s,ht.w⟩
 split
 ·have hE:=aph (i:=i) hi (f:=f) (st:=st) (x:=x) (k:=j) hj h2.2 h3 (QR (b:=[]) hs (λt ht=>by cases ht));have hS:InS (tj s i fs f st w x j):=QR hE.2.2 (anW hs.t (mj (f:=(f.1,(gn i f st x j s.2).2.2.1)) h1 ⟨h2.1,hE.1⟩ hE.2.1 h4));unfold mw;dsimp only;split
  ·exact jr hS (mj (f:=(ac (f.1+1),(gn i f st x j s.2).2.2.1)) h1 ⟨iq _,hE.1⟩ hE.2.1 h4)
  ·exact hS
 ·unfold rx;have hn:InS (cg s i ([],[],0,true)):=jr hs ⟨λf hf=>(by cases hf),mA,lc⟩;dsimp only;split
  ·exact aoP hn lc
  ·exact hn
theorem amU{c:CC}(hC:InC c){e:bM}(he:br e.1){s:aB}(hs:InS s){i:Nat}{q:wV}(hq:InS q.2.2.2):InS (pW c e s i q).1:=by
 unfold pW;split
 ·exact GV hC (anu hC he _ (al1 hq))
 ·exact xm hC (E2 hs (fI (by omega) (by omega))) _ (fI (by omega) (by omega))
theorem Mj(c:CC)(s:aB)(i:Nat)(o:Int):(fA c s i o).1=s.1:=by unfold fA;dsimp only;split<;>rfl
theorem U1(c:CC)(s:aB):(cn c s).1=s.1:=by
 unfold cn;split
 ·rfl
 split
 ·exact Mj ..
 split
 ·rfl
 split
 ·rfl
 ·exact Mj ..
theorem abm{c:CC}(hc:bw c)(hC:InC c){e:bM}(he:iD e):InS (fG c e [])/\(fG c e []).1.length<=1:=by
 obtain⟨r1,r2,r3⟩:=Ei hc [];obtain⟨_,_,st3⟩:=Ch hc e.1 (TA hc []) r1 r3;have h0:InS (eR c []):=⟨λt ht=>by rcases ZK.1 ht with rfl;exact⟨λg hg=>by rcases ZK.1 hg with rfl;exact⟨nK hC.p _,BG _ lc⟩,mA,lc⟩,
  λx hx=>by obtain⟨v,hv,rfl⟩:=ZA.1 hx;exact hC.v v hv,
  λq hq=>by rw[aeZ hq];exact mA,BG _ (fI (by omega) (by omega)),
  λx hx=>by obtain⟨v,hv,rfl⟩:=ZA.1 hx;exact lc,
  Dj lc (fI (x:=64) (by omega) (by omega)) lc lc lc (fI (x:=-1) (by omega) (by omega)) (fI (x:=-1) (by omega) (by omega)) lc,by show 0<=_;omega⟩
 refine⟨GV hC (L8 hC (fI (by have:=he.1;omega) (by have:=he.2.1;omega)) h0),?_⟩;unfold fG;rw[U1,st3];show 1<=1;omega
structure SizeS(d:Nat)(s:aB):Prop where
 n:s.1.length<=100+d
 t:∀t∈s.1,t.1.length<=100/\t.2.1.length<=1048576/\∀f∈t.1,f.2.length<=1000+d
 v:s.2.1.length<=100000+d
 q:s.2.2.1.length<=100000/\∀q∈s.2.2.1,q.length<=1000+d
 o:s.2.2.2.1.length<=100000
 f:s.2.2.2.2.1.length<=100000
theorem apl{d:Nat}{s:aB}(hd:d<=5)(h:SizeS d s)(hI:InS s):EncS s:=
 ⟨by have:=h.n;omega,λt ht=>⟨by have:=(h.t t ht).1;omega,λf hf=>⟨(hI.t t ht |>.f f hf).1,(hI.t t ht |>.f f hf).2,by have:=(h.t t ht).2.2 f hf;omega⟩,⟨(hI.t t ht).s,by have:=(h.t t ht).2.1;omega⟩,(hI.t t ht).w⟩,⟨hI.v,by have:=h.v;omega⟩,
  ⟨by have:=h.q.1;omega,λq hq=>⟨hI.q q hq,by have:=h.q.2 q hq;omega⟩⟩,⟨hI.o,by have:=h.o;omega⟩,⟨hI.f,by have:=h.f;omega⟩,hI.h,hI.w⟩
theorem akX{c:CC}(hc:bw c)(ht:UW c){s:aB}(h:StOk c s)(hsm:ly s)(hn:s.1.length<=100):SizeS 0 s:=by
 obtain⟨t1,t2,t3,t4,t5,t6,t7⟩:=ht;obtain⟨f1,f2,f3,f4⟩:=h.fit;refine⟨by omega,λt ht=>?_,by omega,⟨by omega,λq hq=>?_⟩,by omega,by omega⟩
 ·rcases h.th t ht with⟨h1,h2⟩|⟨_,fs,f,h1,hr⟩
  ·exact⟨by rw[h2];simp,(hsm.2.1 t ht).2.1,λf hf=>by rw[h2]at hf;cases hf⟩
  ·have:=hr.n;have:=hr.m;refine⟨by rw[h1,ZD,aal];omega,by omega,λg hg=>?_⟩;have:=zR hc (hr.fr g (by rw[<-h1];exact hg));omega
 ·obtain⟨j,hj,rfl⟩:=afL hq;have h1:=h.cap j (by rw[<-f2];exact hj);rw[aav,ZB hj,aeQ]at h1;have:=(hc.2.1.2.2.2 j (by rw[<-f2];exact hj)).2;omega
structure EndW(s:aB):Prop where
 n1:1<=s.1.length
 n:s.1.length<=65
 own:∀k,k<s.2.2.2.1.length->kK s k
 so:∀k,k<s.1.length->((bg s k).2.2.2=true->(bg s k).2.1.length=0/\(bg s k).2.2.1=0)/\((bg s k).2.2.2=false->0<=(bg s k).2.2.1/\(bg s k).2.2.1<=1048576)
 live:eA s s.1.length<=5
 cl:0<=s.2.2.2.2.2.1/\s.2.2.2.2.2.1<=1048576
 fu:0<=s.2.2.2.2.2.2.1/\s.2.2.2.2.2.2.1<=64
 st:0<=s.2.2.2.2.2.2.2.1.1
 al:0<=s.2.2.2.2.2.2.2.1.2.1
 wa:0<=s.2.2.2.2.2.2.2.1.2.2
 si:0<=s.2.2.2.2.2.2.2.2.2.2.1
 pk:s.2.2.2.2.2.2.2.2.1 = -1
theorem XP{c:CC}(hk:CodeOk c){s:aB}(hg:GoodS c s)(h:EndW s)(ho:0<=aU s):fw c s=some 0:=by
 obtain⟨k,v1⟩:=hk.p;have hsh:xH c s:=⟨⟨h.n1,h.n⟩,h.own,λk hk=>by
  have:=h.so k hk;unfold ml;split
  ·rename_i h1;exact ax (this.1 h1)
  ·rename_i h1;have:=this.2 (by simpa using h1);exact ax ⟨this.1,this.2,.inl ho⟩,h.live⟩
 obtain⟨b1,p1,p2⟩:=MD hk.v (0,0,0) [] hg.ok hg.sm;obtain rfl:=p2.2 hsh;have hhi:=hg.hi;unfold aU at ho hhi;have ew:ac (s.2.2.2.2.2.2.2.2.2.1+1)=s.2.2.2.2.2.2.2.2.2.1+1:=aD (by omega) (by omega);have hcl:=h.cl;have hfu:=h.fu;have hst:=h.st;have hal:=h.al;have hwa:=h.wa;have hsi:=h.si;unfold fw;dsimp only;rw[v1];simp only[f8,aaH,Zr,rD s hg.sm,p1,acF,aaX,Ze,iC,Ep,ew];rw[ax (show 0<=s.2.2.2.2.2.1/\s.2.2.2.2.2.1<=1048576 by omega),ax (show 0<=s.2.2.2.2.2.2.1/\s.2.2.2.2.2.2.1<=64 by omega),aQ (show¬yE s.2.2.2.2.2.2.2.1.1 s.2.2.2.2.2.2.2.1.2.1 s.2.2.2.2.2.2.2.1.2.2 s.2.2.2.2.2.2.2.2.2.2.1<0 by rw[Qx];omega),
  ax (show 0<=s.2.2.2.2.2.2.2.2.2.1+1/\s.2.2.2.2.2.2.2.2.2.1+1<=5 by omega),ax (show(0:Int)<=s.2.2.2.2.2.2.2.2.2.1 by omega),h.pk]
 rfl
theorem CN{c:CC}{s:aB}{L:List Int}{K A N:Int}(h:RunV c s L K A N)(hL:∀k:Nat,k<s.1.length->(k:Int)∈L->(bg s k).2.2.2=false)(hK:K<=10000)(hN:(s.1.length:Int)<=65)(hf:s.2.2.2.2.2.2.1<=64)(hp:s.2.2.2.2.2.2.2.2.1 = -1):EndW s:=by
 have hcl:=h.cl;refine⟨h.n1,by omega,h.own,λk hk=>⟨λh1=>?_,λh1=>?_⟩,h.live,⟨hcl.1,by omega⟩,⟨h.fu,hf⟩,h.st.1,h.al.1,h.wa.1,by rw[h.wh];exact acH _,hp⟩
 ·by_cases hm:(k:Int)∈L
  ·rw[hL k hk hm]at h1;cases h1
  ·have:=h.so k hk hm;unfold ml at this;rw[if_pos h1]at this;exact aaq this
 ·have:=h.wk k hk;exact⟨this.1,by omega⟩
theorem M0{s:aB}(h:EndW s)(o:Int){k:Int}(w:List UInt8)(hk:0<=k):EndW (tf s o k w):=
 ⟨h.n1,h.n,h.own,h.so,aiv (jl (s:=s) (t:=tf s o k w) s.1.length λ_ _ h=>h) h.live,h.cl,h.fu,h.st,h.al,h.wa,hk,h.pk⟩
theorem Xd{s t:aB}{i:Nat}{a a':List Fr}{b b':List Int}{w:Int}(h:EndW s)(ht:s.1[i]?=some (a,b,w,false))(e:t.1=s.1.set i (a',b',w,false))(k:tk s t)(hal:0<=t.2.2.2.2.2.2.2.1.2.1)(hsi:0<=t.2.2.2.2.2.2.2.2.2.2.1):EndW t:=by
 obtain⟨k1,k2,k3,k4,k5,k6,k7,k8,k9⟩:=k;have hi:=dl ht;have hlen:t.1.length=s.1.length:=by rw[e,aa1]
 have hth:∀q,q≠i->bg t q=bg s q:=λq hq=>D6 (by rw[e,acN (ami hq)]);have hti:bg t i=(a',b',w,false):=dW (by rw[e,abG hi]);have hsi':bg s i=(a,b,w,false):=dW ht;refine⟨by rw[hlen];exact h.n1,by rw[hlen];exact h.n,λq hq=>?_,λq hq=>?_,?_,by rw[k5];exact h.cl,by rw[k6];exact h.fu,by rw[k7];exact h.st,hal,by rw[k8];exact h.wa,hsi,by rw[k9];exact h.pk⟩
 ·have:=h.own q (by rw[<-k3];exact hq);unfold kK at *;rw[k3,hlen];exact this
 ·rw[hlen]at hq;by_cases hqi:q=i
  ·subst hqi;have:=(h.so q hq).2 (by rw[hsi']);rw[hsi']at this;rw[hti];exact⟨λh=>(by cases h),λ_=>this⟩
  ·rw[hth q hqi];exact h.so q hq
 ·rw[hlen];refine aiv (jl (s:=s) (t:=t) s.1.length λq _ hq=>?_) h.live;by_cases hqi:q=i
  ·subst hqi;rw[hsi']at hq;cases hq
  ·rw[hth q hqi];exact hq
theorem vW{c:CC}(hc:bw c){s:aB}{i:Nat}{fs:List Fr}{f:Fr}{st:List Int}{w:Int}{x:bM}{k pc:Nat}(h:AtP c s i fs f st w x k pc)(o:Int):∃q w',0<=q/\fA c s i o=tf s o q w':=by refine⟨_,_,?_,ru hc h o⟩;have h1:=h.pc1;have h2:=h.pc2;have h3:=hc.1;obtain⟨g1,g2,_⟩:=h.pr;obtain⟨_,_,_,q4,_⟩:=hc.2.1.2.2.1 k g1;rw[aD (by omega) (by omega)];omega
theorem aet{c:CC}{kind:Int}{s:aB}{i:Nat}{fs:List Fr}{f:Fr}{st:List Int}{w:Int}{x:bM}(ho:aU s<0):Co (λs'=>0<=aU s'->x.1=14/\s'.2.2.2.2.2.2.2.2.2.2.1=x.2.1) (kh c kind s i fs f st w x):=by
 unfold aU at *;unfold kh;dsimp only;repeat' (first|exact GX|exact nN (λh=>absurd (show(0:Int)<=s.2.2.2.2.2.2.2.2.2.1 from h) (by omega))|refine Lv (λh=>?_) (λh=>?_))
 split
 ·exact nN λ_=>⟨by assumption,rfl⟩
 ·exact nN (λh=>absurd (show(0:Int)<=s.2.2.2.2.2.2.2.2.2.1 from h) (by omega))
theorem VR{c:CC}(hc:bw c)(kind:Int){i:Nat}:∀(m:Nat) {s:aB} {fs:List Fr} {f:Fr} {st:List Int} {w:Int},s.1[i]?=some (fs++[f],st,w,false)->Run1 c fs f st->aU s<0 ->
  0<=s.2.2.2.2.2.2.2.1.2.1->s.2.2.2.2.2.2.2.1.2.1+100*m<=2000000000->0<=aU (bT c kind i m s).2->0<=(bT c kind i m s).2.2.2.2.2.2.2.2.1.2.1/\0<=(bT c kind i m s).2.2.2.2.2.2.2.2.2.2.2.1:=by
 intro m;induction m with
 |zero=>
  intro s fs f st w ht hr ho h1 h2;obtain⟨k,pc,hA⟩:=gb ht hr;rw[mZ c kind 0 hA,if_neg (by omega)];split
  ·intro hq;exact absurd hq (by dsimp only;omega)
  ·intro _;obtain⟨q,w',hq,he⟩:=vW hc hA 3;dsimp only;rw[he];exact⟨h1,hq⟩
 | succ m ih=>
  intro s fs f st w ht hr ho h1 h2;obtain⟨k,pc,hA⟩:=gb ht hr;rw[mZ c kind (m+1) hA,if_neg (by omega)];split
  ·intro hq;exact absurd hq (by dsimp only;omega)
  rename_i n2;obtain⟨hop,hb⟩:=sJ hc hA (by simpa using n2);dsimp only;cases hsil:kh c kind s i fs f st w (dt c f.1.toNat)with
  |none=>
   intro _;obtain⟨q,w',hq,he⟩:=vW hc hA 4;dsimp only;rw[he];exact⟨h1,hq⟩
  | some s' =>
   dsimp only;obtain⟨fs1,f1,st1,g1,g2,g3⟩:=Dg hc hA hr hop hb hsil;obtain⟨_,m1,m2⟩:=Ci _ hsil;have hsite:=aet ho _ hsil;have hF:=hc.2.2.1 k pc hA.pc2 hA.pr;rw[hA.x]at hF;obtain⟨_,_,_,_,_,o14,o5,_⟩:=hF;have ha:0<=s'.2.2.2.2.2.2.2.1.2.1/\s'.2.2.2.2.2.2.2.1.2.1<=s.2.2.2.2.2.2.2.1.2.1+100:=by
    rcases m2 with m2|⟨m2,m3⟩
    ·omega
    ·obtain⟨o1,o2⟩:=o5 m2;rw[m3,aD (by omega) (by omega)];omega
   by_cases hs':aU s'<0
   ·exact ih (s:=s') (w:=w) (by rw[g1];exact abG (dl ht)) g2 hs' ha.1 (by omega)
   ·have e:bT c kind i m s'=(true,s'):=by unfold bT;rw[if_pos (by omega)]
    rw[e];obtain⟨x14,xs⟩:=hsite (by omega);intro _;exact⟨ha.1,by dsimp only;rw[xs];exact(o14 x14).1⟩
theorem GP{c:CC}(hc:bw c)(kind:Int){s:aB}{i:Nat}{L:List Int}{K A N:Int}(hr:oM c s i)(h:RunV c s ((i:Int)::L) K A N)(hL:∀k:Nat,k<s.1.length->(k:Int)∈(i:Int)::L->(bg s k).2.2.2=false)(hK:K<=10000)(hA:A<=1000000000)(hN:(s.1.length:Int)<=65)(hf:s.2.2.2.2.2.2.1<=64)(hp:s.2.2.2.2.2.2.2.2.1 = -1)
  (ho:aU s<0) (he:0<=aU (bh c kind i s).1):EndW (bh c kind i s).1:=by
 obtain⟨fs,f,st,w,ht,hr⟩:=hr;obtain⟨fs',f',st',g1,g2,g3,g4⟩:=sK hc kind 64 ht hr;have hal:=h.al;have hm:=VR hc kind 64 ht hr ho hal.1 (by omega);unfold bh at *;split at he
 ·rename_i h1;rw[Gl]at he;omega
 ·rename_i h1;rw[if_neg h1];obtain⟨m1,m2⟩:=hm he;exact Xd (CN h hL hK hN hf hp) ht g1 g3 m1 m2
theorem aaO{c:CC}{l:List Int}{s:aB}(h:CanRun c l s):∀k:Nat,k<s.1.length->(k:Int)∈l->(bg s k).2.2.2=false:=λk _ hm=>by
 obtain⟨n,e,fs,f,st,w,ht,_⟩:=h.run _ hm;obtain rfl:k=n:=by omega
 rw[dW ht]
theorem Q5{c:CC}(hc:bw c)(kind:Int):∀{l:List Int} {s:aB} {K A N:Int},CanRun c l s->RunV c s l K A N->K<=10000->A+6401*l.length<=1000000000->(s.1.length:Int)<=65->s.2.2.2.2.2.2.1<=64->s.2.2.2.2.2.2.2.2.1 = -1->aU s<0->0<=aU (bn c kind l s).1->EndW (bn c kind l s).1
 |[],s,K,A,N,hcan,h,hK,hA,hN,hf,hp,ho,he=>absurd he (by show¬0<=aU s;omega)
 |z::l,s,K,A,N,hcan,h,hK,hA,hN,hf,hp,ho,he=>by
  have hlive:=aaO hcan;obtain⟨n,rfl,hr⟩:=hcan.run z (ZO ..);have hnx:=ya hc kind hcan;rw[ZH]at hnx;rw[aaG]at hA;have he':0<=aU (bn c kind l (bh c kind n s).1).1:=he;show EndW (bn c kind l (bh c kind n s).1).1;by_cases h1:aU (bh c kind n s).1<0
  ·have h6:=(wn c kind n s).2;exact Q5 hc kind hnx (vT hc kind hcan.g hr h hK (by omega) h1) hK (by omega) (by rw[(qG hc kind hcan.g hr).2.1];exact hN) (by rw[h6.1];exact hf) (by rw[h6.2];exact hp) h1 he'
  ·rw[uO c kind l (by omega)];exact GP hc kind hr h hlive hK (by omega) hN hf hp ho (by omega)
theorem DH{c:CC}(hc:bw c){s:aB}{K A N:Int}(h:RunV c s [] K A N)(hs:StOk c s)(hK:K<=10000)(hN:(s.1.length:Int)<=65)(hf:s.2.2.2.2.2.2.1<=64)(hp:s.2.2.2.2.2.2.2.2.1 = -1)(ho:aU s<0)(he:0<=aU (cn c s)):EndW (cn c s):=by
 have hw:=CN h (λk _ hm=>by cases hm) hK hN hf hp;have hov:∀o,EndW (fA c s 0 o):=λo=>by
  rcases lI hs h.n1 with⟨h1,_⟩|⟨_,fs,f,st,w,h1,h2⟩
  ·rw[h.t0]at h1;cases h1
  ·obtain⟨k,pc,hA⟩:=gb (s:=s) (i:=0) (by rw[kO h.n1,h1]) h2;obtain⟨q,w',hq,e⟩:=vW hc hA o;rw[e];exact M0 hw o w' hq
 unfold cn at *;rw[if_neg (by omega)]at he|-;split
 ·exact hov 3
 rename_i h1;rw[if_neg h1]at he;split
 ·rename_i h2;rw[if_pos h2]at he;omega
 rename_i h2;rw[if_neg h2]at he;split
 ·rename_i h3;rw[if_pos h3]at he;exact absurd he (by show¬0<=aU s;omega)
 ·exact hov 2
structure OnRun(c:CC)(s:aB):Prop where
 i:Idle c s
 w:0<=aU s->EndW s
theorem A0{c:CC}(hk:CodeOk c){s:aB}(h:OnRun c s):fw c s=some 0:=by
 by_cases ho:aU s<0
 ·exact Oh hk h.i ho
 ·exact XP hk h.i.g (h.w (by omega)) (by omega)
def rH(s:aB):Nat:=2*s.2.2.2.2.2.2.1.toNat+(if s.2.2.2.2.2.2.2.2.1<0 then 1 else 0)
theorem Wx{c:CC}(hc:bw c)(e:bM)(l:List iP):OnRun c (fG c e l)/\(aU (fG c e l)<0->rH (fG c e l)<=129):=by
 obtain⟨r1,r2,r3⟩:=Ei hc l;have hg:GoodS c (eR c l):=⟨TA hc l,r3,(by show(-1:Int)<=-1;omega),(by show(-1:Int)<=4;omega)⟩
 have h0:RunV c (eR c l) [((0:Nat):Int)] 0 0 65:=by
  refine⟨by simp[eR],by simp[eR],by simp[eR],λk hk=>?_,λk hk hL=>?_,λk hk=>?_,by simp[eR,eA,bg],by simp[eR],by simp[eR],by simp[eR],by simp[eR],rfl,rfl⟩
  ·have:(eR c l).2.2.2.1.getD k 0 = -1:=by
    have hk':k<c.2.2.2.2.2.1.length:=by simpa[eR]using hk
    simp[eR,aav,hk']
   unfold kK;rw[this];simp[eR]
  ·have:k=0:=by simpa[eR]using hk
   subst this;exact absurd (ZK.2 rfl) hL
  ·have:k=0:=by simpa[eR]using hk
   subst this;exact⟨acH _,by show(0:Int)<=0+10;omega⟩
 have h6:=(wn c e.1 0 (eR c l)).2;have hqg:=qG hc e.1 hg r1;have hgs:GoodS c (fG c e l):=B8 hqg.1;have hlen:((bh c e.1 0 (eR c l)).1.1.length:Int)<=65:=by rw[hqg.2.1];simp[eR]
 have hf6:(bh c e.1 0 (eR c l)).1.2.2.2.2.2.2.1<=64:=by rw[h6.1];exact acH _
 have hp6:(bh c e.1 0 (eR c l)).1.2.2.2.2.2.2.2.2.1 = -1:=by rw[h6.2];rfl
 have ho0:aU (eR c l)<0:=by show(-1:Int)<0;omega
 have ho1:aU (fG c e l)<0->aU (bh c e.1 0 (eR c l)).1<0:=λho=>by
  rcases ac5 (aU (bh c e.1 0 (eR c l)).1) 0 with h1|h1
  ·exact h1
  ·unfold fG cn at ho;rw[if_pos h1]at ho;exact ho
 have hgo:aU (fG c e l)<0->RunV c (fG c e l) [] 10 6401 65/\1<=(fG c e l).2.2.2.2.2.2.1/\0<(ji c (fG c e l)).length/\(fG c e l).2.2.2.2.2.2=(bh c e.1 0 (eR c l)).1.2.2.2.2.2.2:=λho=>by obtain⟨s1,s2,s3,s4⟩:=Dp (vT hc e.1 hg r1 h0 (by omega) (by omega) (ho1 ho)) ho;exact⟨jt s1 (by omega) (by omega) (by omega),s2,s3,s4⟩
 refine⟨⟨⟨hgs,λho=>?_⟩,λhe=>?_⟩,λho=>?_⟩
 ·obtain⟨s1,s2,s3,s4⟩:=hgo ho;have ef:(fG c e l).2.2.2.2.2.2.1=64:=by rw[s4,h6.1];rfl
  refine⟨?_,s2,s3,.inl ?_⟩
  ·rw[ef];exact jt s1 (by omega) (by omega) (by omega)
  ·rw[s4,h6.2];rfl
 ·by_cases h1:aU (bh c e.1 0 (eR c l)).1<0
  ·exact DH hc (vT hc e.1 hg r1 h0 (by omega) (by omega) h1) hqg.1.ok (by omega) hlen hf6 hp6 h1 he
  ·have e1:fG c e l=(bh c e.1 0 (eR c l)).1:=by unfold fG cn;rw[if_pos (by omega)]
   rw[e1];refine GP hc e.1 r1 h0 (λk hk hm=>?_) (by omega) (by omega) (by simp[eR]) (acH _) rfl ho0 (by omega);have:k=0:=by simpa[eR]using hk
   subst this;rfl
 ·obtain⟨s1,s2,s3,s4⟩:=hgo ho;have ef:(fG c e l).2.2.2.2.2.2.1=64:=by rw[s4,h6.1];rfl
  unfold rH;rw[ef];split<;>simp
theorem acq{c:CC}(hc:bw c)(e:bM){s:aB}(h:Idle c s)(ho:aU s<0){j:Int}{i:Nat}{fs:List Fr}{f:Fr}{st:List Int}{w:Int}{x:bM}(hm:Moves c e s j i fs f st w x)(hj:x.1=24->0<=j/\j<=1) :
  OnRun c (pW c e s i (eT c (bP s (-1)) i fs f st w x j)).1/\(aU (pW c e s i (eT c (bP s (-1)) i fs f st w x j)).1<0->rH (pW c e s i (eT c (bP s (-1)) i fs f st w x j)).1<rH s):=by
 obtain⟨v,f1,l1,hp⟩:=h.v ho;have hd:=yB hc (lD hm.gs (-1)) (show(bP s (-1)).1.length<=70 by have:=hm.n;show s.1.length<=70;omega) hm.can hm.run hm.hq;obtain⟨k,pc,hA⟩:=hm.can.at_;have v':RunV c (bP s (-1)) [] (20*(65-s.2.2.2.2.2.2.1)) (20000*(65-s.2.2.2.2.2.2.1)) 65:=⟨v.n1,v.n,v.fu,v.own,v.so,v.wk,aiv (jl (s:=s) (t:=bP s (-1)) s.1.length λk _ h=>h) v.live,v.cl,v.st,v.al,v.wa,v.wh,v.t0⟩
 have n1:=v.n1;have n2:=v.n;have vfu:=v.fu;have hw0:EndW (bP s (-1)):=CN v' (λk _ h=>by cases h) (by omega) (by show(s.1.length:Int)<=65;omega) (by show s.2.2.2.2.2.2.1<=64;omega) rfl;have hrun:=Rj hc v' hm.can.ok (by omega) hA hj hm.can.to;have hi:=dl hm.t;have hfu:(eT c (bP s (-1)) i fs f st w x j).2.2.2.2.2.2.2.2.2.1=s.2.2.2.2.2.2.1/\(eT c (bP s (-1)) i fs f st w x j).2.2.2.2.2.2.2.2.2.2.2.1 = -1 /\
   (aU (eT c (bP s (-1)) i fs f st w x j).2.2.2=aU s\/i=0/\(eT c (bP s (-1)) i fs f st w x j).2.2.2=AA (cg (bP s (-1)) 0 ([],[],0,true)) 0):=by
  unfold eT;split
  ·unfold sN;split<;>exact⟨rfl,rfl,.inl rfl⟩
  split
  ·unfold ko;dsimp only;split
   ·exact⟨rfl,rfl,.inl rfl⟩
   split<;>exact⟨rfl,rfl,.inl rfl⟩
  split
  ·rename_i hpl;have e1:=Aa (i:=i) (f:=f) (st:=st) (k:=j) (r:=(bP s (-1)).2) hpl;unfold mw tj;dsimp only;split<;>exact⟨aae (λr=>r.1) e1,aae (λr=>r.2.2.1) e1,.inl (aae (λr=>r.2.2.2.1) e1)⟩
  ·unfold rx;dsimp only;split
   ·rename_i h0;subst h0;exact⟨rfl,rfl,.inr ⟨rfl,rfl⟩⟩
   ·exact⟨rfl,rfl,.inl rfl⟩
 have hg:=(ET hc e hm).choose_spec.2;have hidle:=Xz hc e h ho hm hj;refine⟨⟨hidle,λhe=>?_⟩,λhlt=>?_⟩
 ·generalize eT c (bP s (-1)) i fs f st w x j=q at *;unfold pW at *;cases hok:q.2.2.1
  ·rw[hok]at he;simp only[acZ,aaS]at he|-;obtain⟨k',pc',hA'⟩:=gb (s:=bP s (-1)) (i:=i) hm.t hm.run;obtain⟨y,w',hy,ey⟩:=vW hc hA' 4;rw[ey];exact M0 hw0 _ _ hy
  rw[hok]at he;simp only[aaL]at he|-;have hl:=hd.left hok;have hcan:CanRun c q.1 (dB q.2.2.2):=⟨vL hl.g,λz hz=>by obtain⟨n,rfl,fs',f',st',w',h1,h2⟩:=hl.run z hz;exact⟨n,rfl,fs',f',st',w',h1,h2⟩,hl.nd⟩
  obtain⟨f2,f3,f4⟩:=hfu;rcases f4 with f4|⟨rfl,f4⟩
  ·have ho4:aU q.2.2.2<0:=by omega
   have ht:=LQ (hrun hok ho4) (by rw[f2];exact f1) (by rw[f2];omega) (by omega) (by omega);have htn:=ht.n;have htf:=ht.fu;have htwo:=hl.two;have hfl:(dB q.2.2.2).2.2.2.2.2.2.1<=64:=by show ac (q.2.2.2.2.2.2.2.2.2.1-1)<=64;rw[f2,aD (by omega) (by omega)];omega
   have hot:aU (dB q.2.2.2)<0:=ho4;by_cases ho3:aU (bn c e.1 q.1 (dB q.2.2.2)).1<0
   ·have ha:=FU hc e.1 hcan ht (by omega) (by omega) ho3;have hk6:=(vH c e.1 q.1 (dB q.2.2.2)).2;obtain⟨g1,g2,_⟩:=xZ hc e.1 hcan;exact DH hc ha g1.ok (by omega) (by rw[g2];omega) (by rw[hk6.1];exact hfl) (by rw[hk6.2];exact f3) ho3 he
   ·have e3:cn c (bn c e.1 q.1 (dB q.2.2.2)).1=(bn c e.1 q.1 (dB q.2.2.2)).1:=by unfold cn;rw[if_pos (by omega)]
    rw[e3];exact Q5 hc e.1 hcan ht (by omega) (by omega) (by omega) hfl f3 hot (by omega)
  ·have e1:aU (dB q.2.2.2)=0:=by rw[f4];rfl
   have e2:(bn c e.1 q.1 (dB q.2.2.2)).1=dB q.2.2.2:=uO c e.1 q.1 (by omega);have e3:cn c (dB q.2.2.2)=dB q.2.2.2:=by unfold cn;rw[if_pos (by omega)]
   rw[e2,e3,f4];have hsl:((bP s (-1)).1.set 0 (([],[],0,true):Th)).length=s.1.length:=by rw[aa1];rfl
   have vcl:=v.cl;have vst:=v.st;have hth:∀a,a≠0->bg (dB (AA (cg (bP s (-1)) 0 ([],[],0,true)) 0)) a=bg s a:=λa ha=>D6 (by show(s.1.set 0 _)[a]?=_;rw[acN (ami ha)]);have ht0:bg (dB (AA (cg (bP s (-1)) 0 ([],[],0,true)) 0)) 0=([],[],0,true):=dW (by show(s.1.set 0 _)[0]?=_;rw[abG hi]);refine⟨by show 1<=(List.set _ _ _).length;rw[hsl];exact n1,by show(List.set _ _ _).length<=65;rw[hsl];omega,λa ha=>?_,λa ha=>?_,?_,⟨?_,?_⟩,⟨?_,?_⟩,?_,v.al.1,v.wa.1,?_,rfl⟩
   ·have:=v.own a ha;unfold kK at *;show -1<=s.2.2.2.1.getD a 0/\s.2.2.2.1.getD a 0<((List.set _ _ _).length:Int);rw[hsl];exact this
   ·by_cases ha0:a=0
    ·subst ha0;rw[ht0];exact⟨λ_=>⟨rfl,rfl⟩,λh=>(by cases h)⟩
    ·rw[hth a ha0];exact hw0.so a (by have h2:a<((bP s (-1)).1.set 0 (([],[],0,true):Th)).length:=ha;rw[hsl]at h2;exact h2)
   ·show eA _ (List.set _ _ _).length<=5;rw[hsl];refine aiv (jl (s:=s) _ λa _ h' => ?_) v.live;by_cases ha0:a=0
    ·subst ha0;rw[ht0]
    ·rw[hth a ha0];exact h'
   ·show 0<=ac (s.2.2.2.2.2.1+1);rw[aD (by omega) (by omega)];omega
   ·show ac (s.2.2.2.2.2.1+1)<=1048576;rw[aD (by omega) (by omega)];omega
   ·show 0<=ac (s.2.2.2.2.2.2.1-1);rw[aD (by omega) (by omega)];omega
   ·show ac (s.2.2.2.2.2.2.1-1)<=64;rw[aD (by omega) (by omega)];omega
   ·show 0<=ac (s.2.2.2.2.2.2.2.1.1+1);rw[aD (by omega) (by omega)];omega
   ·show 0<=s.2.2.2.2.2.2.2.2.2.2.1;rw[v.wh];exact acH _
 ·obtain⟨v2,g1,_⟩:=hidle.v hlt;generalize eT c (bP s (-1)) i fs f st w x j=q at *;unfold pW at *;cases hok:q.2.2.1
  ·rw[hok]at hlt;simp only[acZ,aaS]at hlt;rw[jE]at hlt;omega
  rw[hok]at hlt g1;simp only[aaL]at hlt g1|-;have ho3:aU (bn c e.1 q.1 (dB q.2.2.2)).1<0:=by
   rcases ac5 (aU (bn c e.1 q.1 (dB q.2.2.2)).1) 0 with h1|h1
   ·exact h1
   ·unfold cn at hlt;rw[if_pos h1]at hlt;exact hlt
  have hk6:=(vH c e.1 q.1 (dB q.2.2.2)).2;have ef:(cn c (bn c e.1 q.1 (dB q.2.2.2)).1).2.2.2.2.2.2.1=s.2.2.2.2.2.2.1-1:=by
   have e4:(cn c (bn c e.1 q.1 (dB q.2.2.2)).1).2.2.2.2.2.2.1=(bn c e.1 q.1 (dB q.2.2.2)).1.2.2.2.2.2.2.1:=by
    unfold cn fA;dsimp only;repeat' split
    all_goals rfl
   rw[e4,hk6.1];show ac (q.2.2.2.2.2.2.2.2.2.1-1)=_;rw[hfu.1];exact aD (by omega) (by omega)
  unfold rH;rw[ef];split<;>split<;>omega
theorem apY{c:CC}(hk:CodeOk c){e:bM}(he:iD e){s:aB}(h:OnRun c s)(ho:aU s<0){j:Int}(hj:0<=j/\j<((gW c e s).2.2.2.length:Int)):∃t v,fE c e s j=some (t,v,0)/\OnRun c t/\(aU t<0->rH t<rH s)/\(InC c->InS s->br j->InS t):=by
 have hc:=hk.v;obtain⟨r1,hg⟩:=CA hk he h.i ho;by_cases hp:s.2.2.2.2.2.2.2.2.1<0/\1<(ji c s).length
 ·have hP:gW c e s=(0,-1,-1,List.replicate (ji c s).length 1):=by unfold gW;rw[if_pos hp]
  rw[hP]at hj;dsimp only at hj;rw[adE]at hj;have hx:ae (ji c s) j=some ((ji c s).getD j.toNat 0):=bI 0 hj.1 hj.2;have hm:(ji c s).getD j.toNat 0∈ji c s:=lP 0 (by omega);obtain⟨z,hz⟩:∃z:Nat,(ji c s).getD j.toNat 0=(z:Int):=by obtain⟨z,_,_,hz⟩:=u6.1 hm;exact⟨z,hz⟩
  obtain⟨v,f1,l1,_⟩:=h.i.v ho;refine⟨bP s ((ji c s).getD j.toNat 0),[],?_,⟨⟨lD h.i.g _,λ_=>?_⟩,λhe=>absurd he (by show¬0<=aU s;omega)⟩,λ_=>?_,λ_ hs _=>?_⟩
  ·unfold fE;rw[r1];simp only[f8,aaH,Zr,rD s h.i.g.sm,BM hc e [] hg,hP,adE];rw[x9,aQ (by omega),ax (show(-1:Int)<0 by omega)];simp only[Zr,Ze,vB hc h.i.g.ok,f8,hx];rfl
  ·exact⟨⟨v.n1,v.n,v.fu,v.own,v.so,v.wk,aiv (jl (s:=s) (t:=bP s ((ji c s).getD j.toNat 0)) s.1.length λk _ h=>h) v.live,v.cl,v.st,v.al,v.wa,v.wh,v.t0⟩,f1,l1,.inr hm⟩
  ·unfold rH;show 2*s.2.2.2.2.2.2.1.toNat+(if(ji c s).getD j.toNat 0<0 then 1 else 0)<2*s.2.2.2.2.2.2.1.toNat+(if s.2.2.2.2.2.2.2.2.1<0 then 1 else 0)
   rw[if_neg (by omega),if_pos hp.1];omega
  ·obtain⟨z',hz1,_,hz2⟩:=u6.1 hm;have:=h.i.g.ok.n;exact E2 hs (by rw[hz2];exact⟨by omega,by omega⟩)
 ·obtain⟨i,fs,f,st,w,x,hm⟩:=acj hc e h.i.g r1 hg hp hj;obtain⟨v,d1,d2⟩:=ET hc e hm;have hA:=hm.can.at_;obtain⟨k,pc,hA⟩:=hA;have h24:x.1=24->0<=j/\j<=1:=λhx=>by
   obtain⟨p,p1,p3,p4,p5⟩:=hm.pt;rw[BM hc e [] hg]at p1;injection p1 with p1;subst p1;have hwho:gW c e s=jA c e s i:=by
    have:gW c e s=jA c e s (zA c s).toNat:=by unfold gW;rw[if_neg hp]
    rw[this,y5]at p3;rw[this];congr 1;omega
   rw[hwho]at p5;refine O2 (k:=i) ?_ ⟨p4,p5⟩;rw[dW hm.t];have:=hA.x;unfold fF;rw[fp,show f.1.toNat=pc by have:=hA.pc1;omega,this];exact hx
  obtain⟨g1,g2⟩:=acq hc e h.i ho hm h24;refine⟨_,v,d1,g1,g2,λhC hs hj64=>?_⟩;have ht:=hs.t _ (aa2 hm.t);have hi:=dl hm.t;have hn:=hm.n;exact amU hC (fI (by have:=he.1;omega) (by have:=he.2.1;omega)) hs (aki hC (E2 hs (fI (by omega) (by omega))) (by omega) (λg hg=>ht.f g (aad.2 (.inl hg))) (ht.f f (by simp)) ht.s ht.w hj64)
theorem Xo{c:CC}(hk:CodeOk c)(ht:UW c){s:aB}(h:OnRun c s)(hs:InS s):EncS s:=by
 refine apl (d:=0) (by omega) (akX hk.v ht h.i.g.ok h.i.g.sm ?_) hs;by_cases ho:aU s<0
 ·have h1:=(h.i.v ho).1.n;have h2:=(h.i.v ho).2.1;omega
 ·have:=(h.w (by omega)).n;omega
theorem XB(s:aB)(p:bL){seed:Int}(hs:br seed) :
  ∃k,jh s p seed=some k/\0<=k/\k<=16/\(k<(p.2.2.2.length:Int)\/k=0)/\(p.2.2.2.length<2->k=0):=by
 by_cases hl:16<p.2.2.2.length
 ·have h1:Itr.it (fK p) (0,0)=some (.inr 0):=
   eh (f:=fK p) (λ_=>0) (λ_=>.inr 0) (λz=>z=(0,0)) (λz hz=>by subst hz;left;have hx:ae p.2.2.2 (0:Int)=some (p.2.2.2[0]'(by omega)):=aV (i:=0) (ZB (by omega));unfold fK;simp only[ax (show(0:Int)<(p.2.2.2.length:Int)by omega),Ze,hx,f8,ax (show(16:Int)<(p.2.2.2.length:Int)by omega)];cases decide (p.2.2.2[0]<(1:Int))<;>cases decide ((16:Int)<p.2.2.2[0])<;>rfl) rfl (by decide)
  refine⟨0,?_,by omega,by omega,.inr rfl,λ_=>rfl⟩;unfold jh;rw[h1];rfl
 obtain⟨r1,h1,h2⟩:=fj (f:=fK p) (λz=>p.2.2.2.length-z.2.toNat) (λz=>∃i:Nat,z.2=(i:Int)/\i<=p.2.2.2.length/\(p.2.2.2.length<2->z.1=0)) (λr=>match r with|.inl x=>(p.2.2.2.length<2->x=0)|.inr y=>y=0)
  (λz hz=>by
   obtain⟨a,b⟩:=z;obtain⟨i,rfl,hi,h0⟩:=hz;dsimp only at h0|-;by_cases hlt:i<p.2.2.2.length
   ·have hx:=aV (ZB hlt);unfold fK;simp only[ax (show(i:Int)<(p.2.2.2.length:Int)by omega),Ze,hx,f8];by_cases hc:(bif bif bif decide (p.2.2.2[i]<(1:Int))then true else decide ((16:Int)<p.2.2.2[i])then true else decide ((16:Int)<(p.2.2.2.length:Int))then true else decide ((p.2.2.2.length:Int)<(2:Int)))=true
    ·left;rw[hc];exact⟨.inr 0,rfl,rfl⟩
    ·right;rw[Bool.not_eq_true]at hc;rw[hc];refine⟨_,rfl,⟨i+1,by dsimp only;rw[aD (by omega) (by omega)];push_cast;rfl,by omega,λh=>?_⟩,?_⟩
     ·rw[ax (show(p.2.2.2.length:Int)<2 by omega)]at hc;grind
     ·dsimp only;rw[aD (by omega) (by omega)];omega
   ·left;refine⟨.inl a,?_,h0⟩;unfold fK;rw[aQ (by dsimp only;omega)];rfl) (s:=(0,0)) ⟨0,rfl,by omega,λ_=>rfl⟩ (by grind)
 unfold jh;rw[h1,f8];cases r1 with
 |inr y=>exact⟨y,rfl,by dsimp only at h2;omega,by dsimp only at h2;omega,.inr h2,λ_=>h2⟩
 | inl x=>
  dsimp only at h2|-;by_cases hx:x=0
  ·rw[bt hx];exact⟨0,rfl,by omega,by omega,.inr rfl,λ_=>rfl⟩
  rw[bf hx];have hlen:2<=p.2.2.2.length:=by
   rcases abD p.2.2.2.length 2 with h|h
   ·exact absurd (h2 h) hx
   ·exact h
  obtain⟨s5,e5,i5⟩:∃s5,(bif decide ((0:Int)<=s.2.2.2.2.2.2.2.2.1)then some (ac ((ac ((2:Int)*s.2.2.2.2.2.2.2.1.1))+(1:Int)))else some (ac ((2:Int)*s.2.2.2.2.2.2.2.1.1)):Option Int)=some s5/\br s5:=by
   cases decide ((0:Int)<=s.2.2.2.2.2.2.2.2.1)
   ·exact⟨_,rfl,iq _⟩
   ·exact⟨_,rfl,iq _⟩
  have hI:eE [seed,s5]:=fJ hs (fJ i5 mA);have hE:=lQ hI (by simp);obtain⟨r7,e7⟩:=Uf (ts:=[j5 (dG [seed,s5])]) (by simp) (λt ht=>by rcases ZK.1 ht with rfl;rw[ln];simp at hE;omega) (by have hI:=oB (l:=j5 (dG [seed,s5])) (by rw[ln];simp at hE;omega);have:=kJ hI;rw[ln]at this;simp only[aku,List.flatMap_nil,Z2];unfold mE;rw[ZD,DK,ln];simp at hE;omega) 15;obtain⟨r8,h8,h9⟩:=fj (f:=kY p) (λz=>p.2.2.2.length-z.2.toNat) (λz=>∃i:Nat,z.2=(i:Int)/\i<=p.2.2.2.length) (λr=>match r with|.inl _=>True|.inr y=>0<=y/\y<(p.2.2.2.length:Int))
   (λz hz=>by
    obtain⟨a,b⟩:=z;obtain⟨i,rfl,hi⟩:=hz;dsimp only;by_cases hlt:i<p.2.2.2.length
    ·have hx:=aV (ZB hlt);unfold kY;simp only[ax (show(i:Int)<(p.2.2.2.length:Int)by omega),Ze,hx,f8];by_cases hc:a<p.2.2.2[i]
     ·left;rw[ax hc];exact⟨.inr (i:Int),rfl,by dsimp only;omega⟩
     ·right;rw[aQ hc];refine⟨_,rfl,⟨i+1,by dsimp only;rw[aD (by omega) (by omega)];push_cast;rfl,by omega⟩,?_⟩;dsimp only;rw[aD (by omega) (by omega)];omega
    ·left;refine⟨.inl (),?_,trivial⟩;unfold kY;rw[aQ (by dsimp only;omega)];rfl) (s:=(Int.tmod (bJ .or .i64 (bJ .or .i64 (tq .i64 (ac (List.getD r7 (0:Int).toNat (0:Int))) (16:Int)) (tq .i64 (ac (List.getD r7 (1:Int).toNat (0:Int))) (8:Int))) (ac (List.getD r7 (2:Int).toNat (0:Int)))) x,0)) ⟨0,rfl,by omega⟩ (by grind)
  have ei:nO [seed,s5]=some (dG [seed,s5]):=(Ab hI (by simp)).1;have e7':jn 15 ([List.map (λn=>UInt8.ofNat n.toNat) (dG [seed,s5])]:List (List UInt8))=some r7:=e7;have hx0:(!(x==0))=true:=by simp[hx]
  rw[Zr,e5,f8,ei,f8,e7',f8];simp only[ah,ax (show 0<=(0:Int)/\(0:Int)<16 by omega),ax (show 0<=(1:Int)/\(1:Int)<16 by omega),ax (show 0<=(2:Int)/\(2:Int)<16 by omega),ax (show 0<=(16:Int)by omega),ax (show 0<=(8:Int)by omega),hx0,Ze];rw[h8,f8];cases r8 with
  |inl _=>exact⟨0,rfl,by omega,by omega,.inr rfl,λ_=>rfl⟩
  |inr y=>exact⟨y,rfl,h9.1,by have:=h9.2;omega,.inl h9.2,λh=>by omega⟩
theorem ab8(a b:iP):∃r,oc a b=some r:=by
 unfold oc;cases Op.bytesLess a.1 b.1
 ·cases (!(false||a.1==b.1))<;>exact⟨_,rfl⟩
 ·exact⟨_,rfl⟩
theorem ajO{n:Nat}(h20:n<20)(d:List iP){j:Nat}{l:List iP}(hj:j<n)(hl:l.length=n):∃r,Itr.it (cQ (d,0,(n:Int)) 0) ((j:Int),l)=some r/\r.length=n:=
 fj (f:=cQ (d,0,(n:Int)) 0) (λz=>z.1.toNat) (λz=>∃j:Nat,z.1=(j:Int)/\j<n/\z.2.length=n) (λr=>r.length=n)
  (λz hz=>by
   obtain⟨a,l⟩:=z;obtain⟨j,rfl,hj,hl⟩:=hz;dsimp only at hl|-;unfold cQ;dsimp only;cases j with
   |zero=>
    left;rw[aQ (show¬(0:Int)<((0:Nat):Int)by omega)];exact⟨l,rfl,hl⟩
   |succ j=>
    have e1:ac (((j+1:Nat):Int)-1)=(j:Int):=by rw[aD (by omega) (by omega)];omega
    have x1:ae l ((j+1:Nat):Int)=some l[j+1]:=aV (ZB (by omega));have x2:ae l (j:Int)=some l[j]:=aV (ZB (by omega));have x3:ae (l.set (j+1) l[j]) (j:Int)=some l[j]:=aV (by rw[acN (by omega)];exact ZB (by omega));obtain⟨r,hr⟩:=ab8 l[j+1] l[j];rw[ax (show(0:Int)<((j+1:Nat):Int)by omega)];simp only[acF,ajF,ah,e1,ae2,Int.sub_zero,ax (show 0<=((j+1:Nat):Int)/\((j+1:Nat):Int)<(n:Int)by omega),ax (show 0<=(j:Int)/\(j:Int)<(n:Int)by omega),Ze,x1,x2,hr,f8,ZH,x3];cases decide (r<0)
    ·left;exact⟨l,rfl,hl⟩
    ·right;exact⟨_,rfl,⟨j,rfl,by omega,by dsimp only;rw[aa1,aa1];exact hl⟩,by dsimp only;omega⟩) (s:=((j:Int),l)) ⟨j,rfl,hj,hl⟩ (by dsimp only;omega)
theorem Ye{n:Nat}(h20:n<20){d:List iP}(hd:d.length=n):∃r,di (d,0,(n:Int))=some r:=by
 obtain⟨r,h1,h2⟩:=fj (f:=d5 (d,0,(n:Int)) 0 (n:Int)) (λz=>n-z.1.toNat) (λz=>∃j:Nat,z.1=(j:Int)/\j<=n+1/\z.2.length=n) (λr=>r.length=n)
  (λz hz=>by
   obtain⟨a,l⟩:=z;obtain⟨j,rfl,hj,hl⟩:=hz;dsimp only at hl|-;unfold d5;by_cases hlt:j<n
   ·right;obtain⟨r,r1,r2⟩:=ajO h20 d hlt hl;simp only[ax (show(j:Int)<(n:Int)by omega),Ze];refine⟨((j:Int)+1,r),?_,⟨j+1,by push_cast;rfl,by omega,r2⟩,by dsimp only;omega⟩;refine(aae (λo:Option (List iP)=>o.bind _) r1).trans ?_;rw[f8,aD (by omega) (by omega)]
   ·left;rw[aQ (by dsimp only;omega)];exact⟨l,rfl,hl⟩) (s:=(1,d)) ⟨1,rfl,by omega,hd⟩ (by dsimp only;omega)
 have s1:Itr.it (dN (d,0,(n:Int)) (n:Int)) (0,20,d)=some (0,d):=
  eh (f:=dN (d,0,(n:Int)) (n:Int)) (λ_=>0) (λ_=>(0,d)) (λz=>z=(0,20,d)) (λz hz=>by subst hz;left;unfold dN;rw[aQ (by dsimp only;omega)];rfl) rfl (by decide)
 have s2:Itr.it (dP (n:Int) r) 20=some r:=
  eh (f:=dP (n:Int) r) (λ_=>0) (λ_=>r) (λz=>z=20) (λz hz=>by subst hz;left;unfold dP;rw[aQ (by omega)];rfl) rfl (by decide)
 have h1':dF (d,0,(n:Int)) 0 (n:Int)=some r:=h1;have s3:eX (d,0,(n:Int)) (n:Int)=some r:=by unfold eX;refine(aae (λo:Option (Int×List iP)=>o.bind _) s1).trans ?_;rw[f8];refine(aae (λo:Option (List iP)=>o.bind _) h1').trans ?_;exact s2
 refine⟨r,?_⟩;unfold di;dsimp only;rw[Int.sub_zero,s3];rfl
theorem alD{c:CC}(hk:CodeOk c){s:aB}(h:OnRun c s)(hn:c.2.2.2.1.length+c.2.2.2.2.2.2.1.length<20):∃l,qt c s=some l:=by
 obtain⟨f1,f2,f3,f4⟩:=h.i.g.ok.fit;obtain⟨r1,a1,a2⟩:=fj (f:=mX c s) (λz=>c.2.2.2.1.length-z.2.toNat) (λz=>∃j:Nat,z.2=(j:Int)/\j<=c.2.2.2.1.length/\z.1.length=j) (λr=>r.length=c.2.2.2.1.length)
  (λz hz=>by
   obtain⟨l,a⟩:=z;obtain⟨j,rfl,hj,hl⟩:=hz;dsimp only at hl|-;unfold mX;by_cases hlt:j<c.2.2.2.1.length
   ·right;have x1:ae c.2.2.2.1 (j:Int)=some c.2.2.2.1[j]:=aV (ZB (by omega));have x2:ae s.2.1 (j:Int)=some (s.2.1[j]'(by omega)):=aV (ZB (by omega));simp only[ax (show(j:Int)<(c.2.2.2.1.length:Int)by omega),Ze,x1,x2,f8,ah,bO (m:=l.length) (k:=1) (b:=24) (by omega) (by omega),aal];exact⟨_,rfl,⟨j+1,by dsimp only;rw[aD (by omega) (by omega)];push_cast;rfl,by omega,by dsimp only;rw[ZD,hl];rfl⟩,by dsimp only;rw[aD (by omega) (by omega)];omega⟩
   ·left;rw[aQ (by dsimp only;omega)];exact⟨l,rfl,by omega⟩) (s:=([],0)) ⟨0,rfl,by omega,rfl⟩ (by dsimp only;omega)
 obtain⟨r2,b1,b2⟩:=fj (f:=nG c s) (λz=>c.2.2.2.2.2.2.1.length-z.2.toNat) (λz=>∃j:Nat,z.2=(j:Int)/\j<=c.2.2.2.2.2.2.1.length/\z.1.length=c.2.2.2.1.length+j) (λr=>r.length=c.2.2.2.1.length+c.2.2.2.2.2.2.1.length)
  (λz hz=>by
   obtain⟨l,a⟩:=z;obtain⟨j,rfl,hj,hl⟩:=hz;dsimp only at hl|-;unfold nG;by_cases hlt:j<c.2.2.2.2.2.2.1.length
   ·right;have x1:ae c.2.2.2.2.2.2.1 (j:Int)=some c.2.2.2.2.2.2.1[j]:=aV (ZB (by omega));have x2:ae s.2.2.2.2.1 (j:Int)=some (s.2.2.2.2.1[j]'(by omega)):=aV (ZB (by omega));simp only[ax (show(j:Int)<(c.2.2.2.2.2.2.1.length:Int)by omega),Ze,x1,x2,f8,ah,bO (m:=l.length) (k:=1) (b:=24) (by omega) (by omega),aal];exact⟨_,rfl,⟨j+1,by dsimp only;rw[aD (by omega) (by omega)];push_cast;rfl,by omega,by dsimp only;rw[ZD,hl];rfl⟩,by dsimp only;rw[aD (by omega) (by omega)];omega⟩
   ·left;simp only[aQ (show¬(j:Int)<(c.2.2.2.2.2.2.1.length:Int)by omega)];exact⟨l,rfl,by omega⟩) (s:=(r1,0)) ⟨0,rfl,by omega,by dsimp only;omega⟩ (by dsimp only;omega)
 obtain⟨r,hr⟩:=Ye (n:=r2.length) (by omega) rfl;refine⟨r,?_⟩;unfold qt;rw[A0 hk h,f8];simp only[aaH,Zr];refine(aae (λo:Option (List iP)=>o.bind _) a1).trans ?_;rw[f8];refine(aae (λo:Option (List iP)=>o.bind _) b1).trans ?_;rw[f8,hr];rfl
abbrev TF:Type:=List UInt8×List UInt8
theorem xN{ts:List (List UInt8)}(hn:ts.length<=4)(h:∀t∈ts,t.length<=100000)(tag:Int):∃v,jn tag ts=some v:=
 Uf (by omega) (λt ht=>by have:=h t ht;omega) (by
  have:=uv (enc:=mE) (b:=100009) (xs:=ts) λt ht=>by have h1:=h t ht;have:=Cq (t:=t) (by omega);omega
  omega) tag
theorem Q0{x:TF}(h:x.1.length<=65536/\x.2.length<=65536):∃v,rL x=some v:=by obtain⟨v,hv⟩:=xN (ts:=[x.1,x.2]) (by simp) (λt ht=>by simp at ht;rcases ht with rfl|rfl<;>omega) 3;exact⟨v,by unfold rL;rw[hv];rfl⟩
theorem HC(x:List Int):(List.map (λn=>UInt8.ofNat n.toNat) (((dJ 16 (0:Int) x).take (16:Int).toNat).drop (0:Int).toNat)).length=16:=by rw[aes,adT,acs,EH];rfl
theorem al0(x y:List Int):∃v,rW x y=some v:=by
 obtain⟨v,hv⟩:=xN (ts:=[List.map (λn=>UInt8.ofNat n.toNat) (((dJ 16 (0:Int) x).take (16:Int).toNat).drop (0:Int).toNat),List.map (λn=>UInt8.ofNat n.toNat) (((dJ 16 (0:Int) y).take (16:Int).toNat).drop (0:Int).toNat)]) (by simp) (λt ht=>by
  rcases aaa.1 ht with rfl|ht
  ·rw[HC];omega
  ·rcases ZK.1 ht with rfl;rw[HC];omega) 4
 refine⟨v,?_⟩;unfold rW;rw[hv];rfl
theorem Wq{a n:Nat}(h2:2<=n)(hn:a+n<=100000):∃j:Nat,oL (a:Int) ((a+n:Nat):Int)=some ((a+2 ^ j:Nat):Int)/\2 ^ j<n/\n<=2*2 ^ j:=by
 obtain⟨r,h1,j,rfl,h3,h4⟩:=fj (f:=mM (a:Int) ((a+n:Nat):Int)) (λz=>n-z.toNat) (λz=>∃j:Nat,z=((2 ^ j:Nat):Int)/\2 ^ j<n) (λr=>∃j:Nat,r=((2 ^ j:Nat):Int)/\2 ^ j<n/\n<=2*2 ^ j)
  (λz hz=>by
   obtain⟨j,rfl,hj⟩:=hz;have hp:2 ^ (j+1)=2*2 ^ j:=by rw[Nat.pow_succ];omega
   have hpos:0<2 ^ j:=Nat.pow_pos (by omega);unfold mM;generalize hq:2 ^ j=q at *;rw[aD (x:=2*(q:Int)) (by omega) (by omega),aD (x:=((a+n:Nat):Int)-(a:Int)) (by omega) (by omega)];by_cases hlt:2*q<n
   ·right;rw[ax (show 2*(q:Int)<((a+n:Nat):Int)-(a:Int)by omega)];refine⟨ac ((q:Int)*2),rfl,⟨j+1,by rw[hp,aD (by omega) (by omega)];omega,by omega⟩,?_⟩;rw[aD (by omega) (by omega)];omega
   ·left;rw[aQ (by omega)];exact⟨(q:Int),rfl,j,by rw[hq],by rw[hq];omega,by rw[hq];omega⟩) (s:=1) ⟨0,rfl,by omega⟩ (by omega)
 refine⟨j,?_,h3,h4⟩;unfold oL;refine(aae (λo:Option Int=>o.bind _) h1).trans ?_;rw[f8,aD (by omega) (by omega)];push_cast;rfl
theorem aoE{l:List TF}(hl:l.length<=100000)(hs:∀x∈l,x.1.length<=65536/\x.2.length<=65536):∀(k a n:Nat),1<=n->n<=2 ^ k->a+n<=l.length->∃v,iX (k+1) l (a:Int) ((a+n:Nat):Int)=some v:=by
 intro k;induction k with
 |zero=>
  intro a n h1 h2 h3;have:n=1:=by omega
  subst this;have hx:=aV (ZB (show a<l.length by omega));obtain⟨v,hv⟩:=Q0 (hs l[a] (aek _));unfold iX;rw[aD (by omega) (by omega),bt (by omega)];simp only[Ze,hx,f8,hv];exact⟨v,rfl⟩
 | succ k ih=>
  intro a n h1 h2 h3;unfold iX;rw[aD (by omega) (by omega)];by_cases hn:n=1
  ·subst hn;have hx:=aV (ZB (show a<l.length by omega));obtain⟨v,hv⟩:=Q0 (hs l[a] (aek _));rw[bt (by omega)];simp only[Ze,hx,f8,hv];exact⟨v,rfl⟩
  rw[bf (by omega)];obtain⟨j,m1,m2,m3⟩:=Wq (a:=a) (n:=n) (by omega) (by omega);have hj:2 ^ j<=2 ^ k:=by
   refine Nat.pow_le_pow_right (by omega) ?_;have:2 ^ j<2 ^ (k+1):=by omega
   have:=(Nat.pow_lt_pow_iff_right (by omega:1<2)).1 this;omega
  have hpos:0<2 ^ j:=Nat.pow_pos (by omega);obtain⟨x,hx⟩:=ih a (2 ^ j) (by omega) hj (by omega);obtain⟨y,hy⟩:=ih (a+2 ^ j) (n-2 ^ j) (by omega) (by omega) (by omega);rw[show a+2 ^ j+(n-2 ^ j)=a+n by omega]at hy;obtain⟨v,hv⟩:=al0 x y;simp only[Zr,m1,f8,hx,hy,hv];exact⟨v,rfl⟩
theorem abi{n:Int}(hn:br n)(x:List Int):∃v,oy n x=some v:=by
 unfold oy;have he:=kJ hn;by_cases h:n=0
 ·subst h;obtain⟨v,hv⟩:=xN (ts:=[j5 (jx 0)]) (by simp) (λt ht=>by rcases ZK.1 ht with rfl;rw[ln];omega) 4;have hv':jn 4 ([List.map (λn=>UInt8.ofNat n.toNat) (jx 0)]:List (List UInt8))=some v:=hv;simp only[aat,Ze,rE hn,f8,hv'];exact⟨v,rfl⟩
 ·obtain⟨v,hv⟩:=xN (ts:=[j5 (jx n),List.map (λn=>UInt8.ofNat n.toNat) (((dJ 16 (0:Int) x).take (16:Int).toNat).drop (0:Int).toNat)]) (by simp) (λt ht=>by
   rcases aaa.1 ht with rfl|ht
   ·rw[ln];omega
   ·rcases ZK.1 ht with rfl;rw[HC];omega) 4
  have hv':jn 4 ([List.map (λn=>UInt8.ofNat n.toNat) (jx n),List.map (λn=>UInt8.ofNat n.toNat) (((dJ 16 (0:Int) x).take (16:Int).toNat).drop (0:Int).toNat)]:List (List UInt8))=some v:=hv;rw[bf h];simp only[Zr,rE hn,f8,hv'];exact⟨v,rfl⟩
def key(i:Nat):List UInt8:=(pV 20 (10000+i)).drop 1
theorem C2:∀i:Fin 1000,(pV 20 (10000+i.val)).length=5:=by decide +kernel
theorem aja:∀i:Fin 1000,Op.bytesLess (key i.val) (key (i.val+1))=true:=by decide +kernel
theorem Ww{L:List TF}(hl:L.length<=1000)(h:∀i,i<L.length->∃d:List UInt8,d.length=16/\L[i]?=some (key i,d)):pX L=some 0:=by
 have c1:Itr.it (cB L) 0=some (.inl ()):=
  eh (f:=cB L) (λz=>L.length-z.toNat) (λ_=>.inl ()) (λz=>∃i:Nat,z=(i:Int)/\i<=L.length)
   (λz hz=>by
    obtain⟨i,rfl,hi⟩:=hz;unfold cB;by_cases hlt:i<L.length
    ·right;obtain⟨d,hd,he⟩:=h i hlt;have kl:(key i).length=4:=by unfold key;rw[adT,C2 ⟨i,by omega⟩]
     have ev:oh (key i,d)=some false:=by unfold oh;dsimp only;rw[kl,hd];rfl
     rw[ax (show(i:Int)<(L.length:Int)by omega)];simp only[Ze,aV he,f8,ev,Zr];exact⟨_,rfl,⟨i+1,by rw[aD (by omega) (by omega)];push_cast;rfl,by omega⟩,by rw[aD (by omega) (by omega)];omega,trivial⟩
    ·left;rw[aQ (by omega)];rfl) (s:=0) ⟨0,rfl,by omega⟩ (by omega)
 have c2:cN L=some false:=by unfold cN eu;rw[c1];rfl
 have c3:Itr.it (j8 L) 0=some (.inl ()):=
  eh (f:=j8 L) (λz=>L.length-z.toNat) (λ_=>.inl ()) (λz=>∃i:Nat,z=(i:Int)/\i<=L.length)
   (λz hz=>by
    obtain⟨i,rfl,hi⟩:=hz;unfold j8;by_cases hlt:i<L.length
    ·right;refine⟨ac ((i:Int)+1),?_,⟨i+1,by rw[aD (by omega) (by omega)];push_cast;rfl,by omega⟩,by rw[aD (by omega) (by omega)];omega,rfl⟩;rw[ax (show(i:Int)<(L.length:Int)by omega)];cases i with
     |zero=>
      rw[aQ (show¬(0:Int)<((0:Nat):Int)by omega)];rfl
     |succ i=>
      obtain⟨d,hd,he⟩:=h i (by omega);obtain⟨d',hd',he'⟩:=h (i+1) hlt;have e1:ac (((i+1:Nat):Int)-1)=(i:Int):=by rw[aD (by omega) (by omega)];omega
      have hk:=aja ⟨i,by omega⟩;dsimp only at hk;rw[ax (show(0:Int)<((i+1:Nat):Int)by omega)];simp only[Ze,e1,aV he,aV he',f8,hk];rfl
    ·left;rw[aQ (by omega)];rfl) (s:=0) ⟨0,rfl,by omega⟩ (by omega)
 unfold pX;rw[aQ (show¬(4096:Int)<(L.length:Int)by omega)];simp only[aaX,Ze,c2,f8,Zr];rw[c3];rfl
theorem alV{l:List aB}(h0:1<=l.length)(hl:l.length<=1000)(hd:∀s∈l,EncS s):∃r,vG l=some (r,0):=by
 obtain⟨L,a1,a2,a3⟩:=fj (f:=qD l) (λz=>l.length-z.2.toNat) (λz=>∃i:Nat,z.2=(i:Int)/\i<=l.length/\z.1.length=i/\∀j,j<i->∃d:List UInt8,d.length=16/\z.1[j]?=some (key j,d)) (λr=>r.length=l.length/\∀j,j<r.length->∃d:List UInt8,d.length=16/\r[j]?=some (key j,d))
  (λz hz=>by
   obtain⟨q,a⟩:=z;obtain⟨i,rfl,hi,hq,hj⟩:=hz;dsimp only at hq hj|-;unfold qD;by_cases hlt:i<l.length
   ·right;have hx:=aV (ZB hlt);obtain⟨v,hv⟩:=F5 (hd l[i] (aek _));have kl:=C2 ⟨i,by omega⟩;dsimp only at kl;have e1:ac (10000+(i:Int))=((10000+i:Nat):Int):=by rw[aD (by omega) (by omega)];omega
    have e2:Ed ((10000+i:Nat):Int)=some (pV 20 (10000+i)):=by unfold Ed;rw[ax (show(0:Int)<=((10000+i:Nat):Int)by omega),ax (show((10000+i:Nat):Int)<=9223372036854775807 by omega)];rfl
    have e3:((pV 20 (10000+i)).take ((pV 20 (10000+i)).length:Int).toNat).drop (1:Int).toNat=key i:=by rw[ZH,alJ];rfl
    rw[ax (show(i:Int)<(l.length:Int)by omega)];simp only[Ze,hx,f8,hv,e1,e2,e3,ah,ax (show 0<=(1:Int)/\(1:Int)<=((pV 20 (10000+i)).length:Int)/\((pV 20 (10000+i)).length:Int)<=((pV 20 (10000+i)).length:Int)by omega),ax (show 0<=(0:Int)/\(0:Int)<=(16:Int)/\(16:Int)<=(16:Int)by omega),aal,bO (m:=q.length) (k:=1) (b:=32) (by omega) (by omega)];refine⟨_,rfl,⟨i+1,by dsimp only;rw[aD (by omega) (by omega)];push_cast;rfl,by omega,by dsimp only;rw[ZD,hq];rfl,λj hj' => ?_⟩,by dsimp only;rw[aD (by omega) (by omega)];omega⟩;dsimp only;by_cases hji:j<i
    ·obtain⟨d,d1,d2⟩:=hj j hji;exact⟨d,d1,by rw[adv (by omega)];exact d2⟩
    ·have:j=i:=by omega
     subst this;exact⟨_,HC v,by rw[abV (by omega),hq,aj8];rfl⟩
   ·left;rw[aQ (by dsimp only;omega)];exact⟨q,rfl,by omega,λj hj'=>hj j (by omega)⟩) (s:=([],0)) ⟨0,rfl,by omega,rfl,λj hj=>by omega⟩ (by dsimp only;omega)
 have hsm:∀x∈L,x.1.length<=65536/\x.2.length<=65536:=λx hx=>by
  obtain⟨j,hj,rfl⟩:=afL hx;obtain⟨d,d1,d2⟩:=a3 j hj;rw[ZB hj]at d2;injection d2 with d2;have kl:(key j).length=4:=by unfold key;rw[adT,C2 ⟨j,by omega⟩]
  rw[d2];dsimp only;omega
 obtain⟨v,hv⟩:=aoE (by omega) hsm 63 0 L.length (by omega) (by omega) (by omega);rw[aj7]at hv;obtain⟨w,hw⟩:=abi (n:=(L.length:Int)) ⟨by omega,by omega⟩ v;have hm:oQ L=some v:=by unfold oQ;rw[show iX 64 L 0 (L.length:Int)=some v from hv];rfl
 refine⟨w,?_⟩;unfold vG wM;rw[bf (show¬(l.length:Int)=0 by omega),aQ (show¬(1000:Int)<(l.length:Int)by omega)];simp only[Zr];refine(aae (λo:Option (List TF)=>o.bind _) a1).trans ?_;rw[f8,Ww (by omega) a3];simp only[f8,aaH,Zr,bf (show¬(L.length:Int)=0 by omega),hm,hw]
theorem py{x n:Int}(hx:br x)(hn:0<n)(hn2:n<=9223372036854775807):∃r,bF x n=some r/\0<=r/\r<n:=by
 unfold bF;obtain⟨h1,h2⟩:=hx;have fin:∀y:Int,0<=y->∃r,(some y:Option Int).bind (λs1=>ah (!(n==0)) (some (Int.tmod s1 n)))=some r/\0<=r/\r<n:=by
  intro y hy;refine⟨Int.tmod y n,?_,?_,?_⟩
  ·simp only[f8];rw[tO (by grind)]
  ·rw[ade hy];exact Int.emod_nonneg _ (by omega)
  ·rw[ade hy];exact Int.emod_lt_of_pos _ hn
 grind[ax,aD]
theorem W0{n:Nat}{k:Int}(hk:0<k)(h:(n:Int)<k):bF (n:Int) k=some (n:Int):=by unfold bF;rw[aQ (by omega)];simp only[Zr,f8];rw[tO (by grind),ade (by omega),Int.emod_eq_of_lt (by omega) h]
theorem x6(a:Nat)(b:Nat):Int.tmod (a:Int) (b:Int)=((a%b:Nat):Int):=by rw[ade (by omega)];rfl
theorem FC{a:Nat}(ha:a<4611686018427387904)(b:Nat):ac (Int.tdiv (a:Int) (b:Int))=((a / b:Nat):Int):=by have:a / b<=a:=Nat.div_le_self ..;rw[ajJ (by omega)];have e:((a:Int) / (b:Int))=((a / b:Nat):Int):=rfl;rw[e];clear e;generalize a / b=q at *;exact aD (by omega) (by omega)
theorem amv{x:Int}(h:br x):∃e,lR x=some e/\iD e:=by
 obtain⟨r,e1,g,k⟩:=py h (n:=4096) (by omega) (by omega);obtain⟨n,rfl⟩:∃n:Nat,r=(n:Int):=⟨r.toNat,by omega⟩
 have key:∀a:Fin 4,∀b:Fin 5,∀c:Fin 4,iD ((a.val:Int),([0,0,1,8,4]:List Int).getD b.val 0,([0,0,2,8]:List Int).getD c.val 0):=by unfold iD;decide +kernel
 have q1:ac (Int.tdiv (n:Int) 4)=((n / 4:Nat):Int):=FC (by omega) 4;have q2:ac (Int.tdiv (n:Int) 20)=((n / 20:Nat):Int):=FC (by omega) 20;have q3:Int.tmod ((n / 4:Nat):Int) 5=((n / 4%5:Nat):Int):=x6 (n / 4) 5;have q4:Int.tmod ((n / 20:Nat):Int) 4=((n / 20%4:Nat):Int):=x6 (n / 20) 4;have q5:Int.tmod (n:Int) 4=((n%4:Nat):Int):=x6 n 4;unfold lR;rw[e1];simp only[f8,ah,show(!((4:Int)==0))=true from rfl,show(!((5:Int)==0))=true from rfl,show(!((20:Int)==0))=true from rfl,Ze,q1,q2,q3,q4,q5];rw[bk (xs:=([0,0,1,8,4]:List Int)) 0 (show n / 4%5<5 by omega),bk (xs:=([0,0,2,8]:List Int)) 0 (show n / 20%4<4 by omega)];exact⟨_,rfl,key ⟨n%4,by omega⟩ ⟨n / 4%5,by omega⟩ ⟨n / 20%4,by omega⟩⟩
theorem aoF(x n:Int):eS [0,x] 1 n=bF x n:=by unfold eS;show(bF x n).bind some=_;cases bF x n<;>rfl
theorem ac9(x y:Int){i:Int}(n:Int)(h:i≠1):eS [0,x] i n=eS [0,y] i n:=by
 by_cases h0:i=0
 ·subst h0;rfl
 ·unfold eS;rw[x9,x9];have hx:i<0\/(([0,x]:List Int).length:Int)<=i:=by
   rcases ac5 i 0 with h1|h1
   ·exact .inl h1
   ·right;show(2:Int)<=i;omega
  have hy:i<0\/(([0,y]:List Int).length:Int)<=i:=hx;rw[ax hx,ax hy];rfl
theorem Yy{x y r r':Int}(hx:bF x 4096=some r)(hy:bF y 4096=some r')(h1:Int.tmod r 14=Int.tmod r' 14)
  (h2:∀i,dH (Int.tmod r 14) i (ac (Int.tdiv r 14))=dH (Int.tmod r' 14) i (ac (Int.tdiv r' 14))):cW [0,x]=cW [0,y]:=by
 rw[h1]at h2;have e:fU [0,x]=fU [0,y]:=by
  funext s;unfold fU;rw[ac9 x y 3 (show(0:Int)≠1 by omega)];by_cases hi:ac (1+s.2.2)=1
  ·rw[hi,aoF,aoF,hx,hy];simp only[f8,h2,h1]
  ·rw[ac9 x y 4096 hi]
 unfold cW;simp only[e,ac9 x y 64 (show(4:Int)≠1 by omega)]
theorem ZP{q q':Int}(e1:Int.tmod (ac (Int.tdiv q 2)) 4=Int.tmod (ac (Int.tdiv q' 2)) 4)(e2:Int.tmod q 2=Int.tmod q' 2)(e3:Int.tmod (ac (Int.tdiv q 2)) 2=Int.tmod (ac (Int.tdiv q' 2)) 2)(k i:Int):cf k i q=cf k i q':=by unfold cf;simp only[e1,e2,e3]
theorem PJ(i q:Int):∀k:Nat,k<6->dH (k:Int) i q=(cf (k:Int) i q).bind some
 |0,_=>by show(Option.bind (Option.bind _ _) _)=_;cases cf ((0:Nat):Int) i q<;>rfl
 |1,_=>by show(Option.bind (Option.bind _ _) _)=_;cases cf ((1:Nat):Int) i q<;>rfl
 |2,_=>by show(Option.bind (Option.bind _ _) _)=_;cases cf ((2:Nat):Int) i q<;>rfl
 |3,_=>by show(Option.bind (Option.bind _ _) _)=_;cases cf ((3:Nat):Int) i q<;>rfl
 |4,_=>by show(Option.bind (Option.bind _ _) _)=_;cases cf ((4:Nat):Int) i q<;>rfl
 |5,_=>by show(Option.bind (Option.bind _ _) _)=_;cases cf ((5:Nat):Int) i q<;>rfl
 |k+6,h=>by omega
theorem aei{α β:Type}(b:Bool)(o:Option α)(f:α->Option β):(ah b o).bind f=ah b (o.bind f):=by cases b<;>rfl
def sO:List Nat:=[8,8,8,8,8,8,3,3,2,2,3,3,3,18]
theorem ajY(i:Int):∀k q:Nat,k<14->q<1000->dH (k:Int) i (q:Int)=dH (k:Int) i ((q%sO.getD k 1:Nat):Int):=by
 intro k q hk hq;have t:∀(p a:Nat),a ∣ p->Int.tmod (q:Int) (a:Int)=Int.tmod ((q%p:Nat):Int) (a:Int):=λp a ha=>by rw[x6,x6,Nat.mod_mod_of_dvd _ ha]
 have d:∀(p a b:Nat),0<a->a*b ∣ p->Int.tmod (ac (Int.tdiv (q:Int) (a:Int))) (b:Int)=Int.tmod (ac (Int.tdiv ((q%p:Nat):Int) (a:Int))) (b:Int):=λp a b ha hd=>by have:q%p<=q:=Nat.mod_le ..;rw[FC (by omega),FC (by omega),x6,x6];obtain⟨m,rfl⟩:=hd;congr 1;rw[Nat.mul_assoc,Nat.mod_mul_right_div_self,Nat.mod_mul_right_mod]
 by_cases h6:k<6
 ·rw[PJ i _ k h6,PJ i _ k h6];have hp:sO.getD k 1=8:=by
   have:∀k:Fin 6,sO.getD k.val 1=8:=by decide
   exact this ⟨k,h6⟩
  rw[hp];have e1:=d 8 2 4 (by omega) (by decide);have e2:=t 8 2 (by decide);have e3:=d 8 2 2 (by omega) (by decide);rw[ZP e1 e2 e3]
 have t3:Int.tmod (q:Int) 3=Int.tmod ((q%3:Nat):Int) 3:=t 3 3 (by decide);have t2:Int.tmod (q:Int) 2=Int.tmod ((q%2:Nat):Int) 2:=t 2 2 (by decide);have t9:Int.tmod (q:Int) 9=Int.tmod ((q%18:Nat):Int) 9:=t 18 9 (by decide);have d9:Int.tmod (ac (Int.tdiv (q:Int) 9)) 2=Int.tmod (ac (Int.tdiv ((q%18:Nat):Int) 9)) 2:=d 18 9 2 (by omega) (by decide);have hk':k=6\/k=7\/k=8\/k=9\/k=10\/k=11\/k=12\/k=13:=by omega
 rcases hk' with rfl|rfl|rfl|rfl|rfl|rfl|rfl|rfl;all_goals
  unfold dH om
  simp only[show((6:Nat):Int)=6 from rfl,show((7:Nat):Int)=7 from rfl,show((8:Nat):Int)=8 from rfl,show((9:Nat):Int)=9 from rfl,show((10:Nat):Int)=10 from rfl,show((11:Nat):Int)=11 from rfl,show((12:Nat):Int)=12 from rfl,show((13:Nat):Int)=13 from rfl,Int.reduceBEq,Zr,Ze,aei,Option.bind_assoc,f8,sO,List.getD_cons_succ,List.getD_cons_zero,t3,t2,t9,d9]
theorem adH{x:Int}(hx:br x):∃k q:Nat,k<14/\q<sO.getD k 1/\cW [0,x]=cW [0,((14*q+k:Nat):Int)]:=by
 obtain⟨r,e1,g,h⟩:=py hx (n:=4096) (by omega) (by omega);obtain⟨n,rfl⟩:∃n:Nat,r=(n:Int):=⟨r.toNat,by omega⟩
 have hp:∀k:Fin 14,0<sO.getD k.val 1/\sO.getD k.val 1<=18:=by decide
 have hp:=hp ⟨n%14,by omega⟩;dsimp only at hp;have hlt:=aka (n / 14) hp.1;refine⟨n%14,n / 14%sO.getD (n%14) 1,by omega,hlt,?_⟩;have m:Int.tmod (n:Int) 14=((n%14:Nat):Int):=x6 n 14;have v:ac (Int.tdiv (n:Int) 14)=((n / 14:Nat):Int):=FC (by omega) 14;have m':Int.tmod ((14*(n / 14%sO.getD (n%14) 1)+n%14:Nat):Int) 14=(((14*(n / 14%sO.getD (n%14) 1)+n%14)%14:Nat):Int):=x6 (14*(n / 14%sO.getD (n%14) 1)+n%14) 14;have v':ac (Int.tdiv ((14*(n / 14%sO.getD (n%14) 1)+n%14:Nat):Int) 14)=(((14*(n / 14%sO.getD (n%14) 1)+n%14) / 14:Nat):Int):=FC (by omega) 14;rw[show(14*(n / 14%sO.getD (n%14) 1)+n%14)%14=n%14 by omega]at m';rw[show(14*(n / 14%sO.getD (n%14) 1)+n%14) / 14=n / 14%sO.getD (n%14) 1 by omega]at v';refine Yy e1 (W0 (by omega) (by omega)) (by rw[m,m']) λi=>?_;rw[m,m',v,v'];exact ajY i (n%14) (n / 14) (by omega) (by omega)
def ao2(c:aC):Bool:=
 Nat.ble c.2.1.length 1000&&Nat.ble c.2.2.1.length 1000&&Nat.ble c.2.2.2.1.length 1000&&Nat.ble c.2.2.2.2.1.length 1000&&Nat.ble c.2.2.2.2.2.1.length 1000&&Nat.ble c.2.2.2.2.2.2.1.length 1000&&Nat.ble c.2.2.2.2.2.2.2.length 1000 &&
 c.1.all (λx=>decide (br x.2.1))&&c.2.2.2.1.all (λv=>decide (br v.2))&&c.2.2.2.2.2.2.2.all (λl=>Nat.ble l.length 1000)&&Nat.ble (c.2.2.2.1.length+c.2.2.2.2.2.2.1.length) 19
def okC(c:aC):Bool:=(match lX c with|some v=>v.2==0|none=>false)&&ao2 c
def pI(p:Option (List (List UInt8×List UInt8))):Bool:=match p.bind λr=>kN r lE with|some c=>okC c|none=>false
def eI(R:Nat):Option (List (List UInt8×List UInt8)):=cW [0,(R:Int)]
structure GoodC(c:aC):Prop where
 k:CodeOk c
 t:UW c
 n:NumC c
 l:c.2.2.2.1.length+c.2.2.2.2.2.2.1.length<20
theorem adM{c:aC}(h:okC c=true):GoodC c:=by
 unfold okC ao2 at h;simp only[Y5,Nat.ble_eq,Zy,acK]at h;obtain⟨hv,⟨⟨⟨⟨⟨⟨⟨⟨⟨a1,a2⟩,a3⟩,a4⟩,a5⟩,a6⟩,a7⟩,b1⟩,b2⟩,b3⟩,b4⟩:=h;have hs:kg c:=⟨by omega,by omega,by omega,by omega,by omega,by omega,by omega⟩
 obtain⟨k,e,v1,v2⟩:=Rv c hs;rw[v1]at hv;have he:e=0:=eq_of_beq hv;subst he;refine⟨⟨?_,⟨k,v1⟩⟩,⟨by omega,by omega,by omega,by omega,by omega,by omega,by omega⟩,⟨b1,b2,λl hl=>by have:=b3 l hl;omega⟩,by omega⟩;unfold VE at v2;rcases v2 with⟨_,h⟩|⟨_,_,h⟩|⟨_,_,_,h⟩|⟨h1,h2,h3,_⟩
 ·omega
 ·omega
 ·omega
 ·exact⟨h1,h2,h3,hs⟩
set_option maxRecDepth 100000
theorem apU:(List.range 8).all (λq=>pI (eI (14*q+0)))=true:=by kernel_rfl
theorem ap0:(List.range 8).all (λq=>pI (eI (14*q+1)))=true:=by kernel_rfl
theorem aqu:(List.range 4).all (λq=>pI (eI (14*q+2)))=true:=by kernel_rfl
theorem aqm:(List.range 4).all (λq=>decide (eI (14*(q+4)+2)=eI (14*(q%4)+2)))=true:=by kernel_rfl
theorem aqd:(List.range 2).all (λq=>pI (eI (14*q+3)))=true:=by kernel_rfl
theorem aqe:(List.range 6).all (λq=>decide (eI (14*(q+2)+3)=eI (14*(q%2)+3)))=true:=by kernel_rfl
theorem ap5:(List.range 2).all (λq=>pI (eI (14*q+4)))=true:=by kernel_rfl
theorem aqs:(List.range 6).all (λq=>decide (eI (14*(q+2)+4)=eI (14*(q%2)+4)))=true:=by kernel_rfl
theorem aqh:(List.range 4).all (λq=>pI (eI (14*q+5)))=true:=by kernel_rfl
theorem apA:(List.range 4).all (λq=>decide (eI (14*(q+4)+5)=eI (14*(q%4)+5)))=true:=by kernel_rfl
theorem ap6:(List.range 3).all (λq=>pI (eI (14*q+6)))=true:=by kernel_rfl
theorem aqp:(List.range 3).all (λq=>pI (eI (14*q+7)))=true:=by kernel_rfl
theorem aqk:(List.range 2).all (λq=>pI (eI (14*q+8)))=true:=by kernel_rfl
theorem apO:(List.range 2).all (λq=>pI (eI (14*q+9)))=true:=by kernel_rfl
theorem apn:(List.range 3).all (λq=>pI (eI (14*q+10)))=true:=by kernel_rfl
theorem aom:(List.range 3).all (λq=>pI (eI (14*q+11)))=true:=by kernel_rfl
theorem aob:(List.range 3).all (λq=>pI (eI (14*q+12)))=true:=by kernel_rfl
theorem am6:(List.range 18).all (λq=>pI (eI (14*q+13)))=true:=by kernel_rfl
theorem jU{n k:Nat}(h:(List.range n).all (λq=>pI (eI (14*q+k)))=true){q:Nat}(hq:q<n):pI (eI (14*q+k))=true:=Zy.1 h q (adp.2 hq)
theorem yq{n m k:Nat}(hm:0<m)(h:(List.range m).all (λq=>pI (eI (14*q+k)))=true)(h2:(List.range (n-m)).all (λq=>decide (eI (14*(q+m)+k)=eI (14*(q%m)+k)))=true){q:Nat}(hq:q<n):pI (eI (14*q+k))=true:=by
 by_cases hlt:q<m
 ·exact jU h hlt
 ·have:=Zy.1 h2 (q-m) (adp.2 (by omega));rw[acK,show q-m+m=q by omega]at this;rw[this];exact jU h (aka _ hm)
theorem Z1:∀k q:Nat,k<14->q<sO.getD k 1->pI (eI (14*q+k))=true
 |0,q,_,h=>jU apU h
 |1,q,_,h=>jU ap0 h
 |2,q,_,h=>yq (n:=8) (m:=4) (by omega) aqu aqm h
 |3,q,_,h=>yq (n:=8) (m:=2) (by omega) aqd aqe h
 |4,q,_,h=>yq (n:=8) (m:=2) (by omega) ap5 aqs h
 |5,q,_,h=>yq (n:=8) (m:=4) (by omega) aqh apA h
 |6,q,_,h=>jU ap6 h
 |7,q,_,h=>jU aqp h
 |8,q,_,h=>jU aqk h
 |9,q,_,h=>jU apO h
 |10,q,_,h=>jU apn h
 |11,q,_,h=>jU aom h
 |12,q,_,h=>jU aob h
 |13,q,_,h=>jU am6 h
 |k+14,q,h,_=>by omega
theorem O8{x:Int}(hx:br x):∃c,iF x=some (c,c)/\GoodC c:=by
 obtain⟨k,q,hk,hq,e⟩:=adH hx;have h:=Z1 k q hk hq;unfold pI eI at h;rw[<-e]at h;unfold iF pe;cases hp:cW [0,x]with
 |none=>rw[hp]at h;cases h
 | some p=>
  rw[hp]at h;simp only[f8]at h|-;cases hc:kN p lE with
  |none=>rw[hc]at h;cases h
  |some c=>
   rw[hc]at h;exact⟨c,rfl,adM h⟩
end Go.Proofs.YtgghcmbaidihjaaGreatDoor
