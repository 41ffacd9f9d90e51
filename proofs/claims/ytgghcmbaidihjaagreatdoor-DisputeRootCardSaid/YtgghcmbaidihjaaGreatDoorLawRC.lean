/- Laws for the row. No condition. -/
import Derived.Test.YtgghcmbaidihjaaGreatDoorLawH4
import Derived.Test.YtgghcmbaidihjaaGreatDoorLawE3
import Derived.Test.YtgghcmbaidihjaaGreatDoorLawS3
import Derived.KernelRfl
namespace Go.Proofs.YtgghcmbaidihjaaGreatDoor
open Go.Sm
set_option linter.unusedVariables false
set_option maxRecDepth 4000
variable {n a j q:Nat} {i x:Int} {s:aG} {ds:List (List Int)} {ts:List (List UInt8)} {c:CC} {e:bO} {α R:Type} {r v:List Int}
abbrev dp:Type:=List UInt8×List UInt8
def vQ(tag:Int)(ts:List (List UInt8)):List Int:=GJ (vH tag ts)
theorem A6(g:ts.length<=4)(h:∀t∈ts,t.length<=100000):(ts.flatMap iV).length<=500000:=by
 have:=wX (enc:=iV) (b:=100009) (xs:=ts) λt d=>by have f:=h t d;have:=Fq (t:=t) (by omega);omega
 omega
theorem Al(b:ts.length<=4)(h:∀t∈ts,t.length<=100000)(tag:Int):lH tag ts=some (vQ tag ts):=
 PU (by omega) (λt d=>by have:=h t d;omega) (by have:=A6 b h;omega) tag
def hZ(x:List Int):List UInt8:=List.map (λn=>UInt8.ofNat n.toNat) (cT 16 (0:Int) x)
theorem FA(x:List Int):List.map (λn=>UInt8.ofNat n.toNat) (((cT 16 (0:Int) x).take (16:Int).toNat).drop (0:Int).toNat)=hZ x:=by rw[aeQ (by rw[DM];exact ad3 _)];rfl
theorem wx(x:List Int):(hZ x).length=16:=by unfold hZ;rw[afN,DM]
def GK(x:dp):List Int:=vQ 3 [x.1,x.2]
def Lt(x y:List Int):List Int:=vQ 4 [hZ x,hZ y]
def ul(n:Int)(x:List Int):List Int:=vQ 4 [d6 (gf n),hZ x]
def kL(x:dp):Prop:=x.1.length<=65536/\x.2.length<=65536
theorem G7{x:dp}(h:kL x):qz x=some (GK x):=by have d:=Al (ts:=[x.1,x.2]) (by simp) (λt b=>by have:=h.1;have:=h.2;simp at b;rcases b with rfl|rfl<;>omega) 3;unfold qz;rw[d];rfl
theorem JK(x y:List Int):∀t∈[hZ x,hZ y],t.length<=100000:=λt b=>by have:=wx x;have:=wx y;simp at b;rcases b with rfl|rfl<;>omega
theorem V2(x y:List Int):qK x y=some (Lt x y):=by have b:=Al (ts:=[hZ x,hZ y]) (by simp) (JK x y) 4;unfold qK;rw[FA,FA,b];rfl
def hf(n:Nat):Nat:=2 ^ Nat.log2 (n-1)
theorem pW(h:2<=n):0<hf n/\hf n<n/\n<=2*hf n:=by have d:=Nat.log2_self_le (n:=n-1) (by omega);have b:=Nat.lt_log2_self (n:=n-1);rw[alu]at b;unfold hf;have:0<2 ^ Nat.log2 (n-1):=Nat.pow_pos (by omega);omega
theorem auZ(h:2<=n)(f:2 ^ j<n)(g:n<=2*2 ^ j):hf n=2 ^ j:=by
 obtain⟨a,b,c⟩:=pW h;unfold hf at *;have d:∀{i k:Nat},2 ^ i<n->n<=2*2 ^ k->i<=k:=λ{i k} p q=>by
  by_cases m:i<=k
  ·exact m
  ·have:=alL (n:=2) (by omega) (show k+1<=i by omega);rw[alu]at this;omega
 rw[Nat.le_antisymm (d b g) (d f c)]
theorem Uw{f:Int->Option (Int⊕Int)}(k:2<=n)(w:n<=100000)(d:∀q:Nat,0<q->q<n->f (q:Int)=if 2*q<n then some (.inl ((2*q:Nat):Int))else some (.inr (q:Int))):Itr.it f 1=some ((hf n:Nat):Int):=by
 obtain⟨r,h,j,rfl,m,o⟩:=fD (f:=f) (λz=>n-z.toNat) (λz=>∃j:Nat,z=((2 ^ j:Nat):Int)/\2 ^ j<n) (λr=>∃j:Nat,r=((2 ^ j:Nat):Int)/\2 ^ j<n/\n<=2*2 ^ j)
  (λz u=>by
   obtain⟨j,rfl,g⟩:=u;have t:2 ^ (j+1)=2*2 ^ j:=by rw[alu];omega
   have b:0<2 ^ j:=Nat.pow_pos (by omega);rw[d _ b g];split
   ·rename_i p;exact .inr ⟨_,rfl,⟨j+1,by rw[t],by omega⟩,by omega⟩
   ·exact .inl ⟨_,rfl,j,rfl,g,by omega⟩) (s:=1) ⟨0,rfl,by omega⟩ (by omega)
 rw[h,auZ k m o]
theorem I4(b:2<=n)(h:a+n<=100000):lz (a:Int) ((a+n:Nat):Int)=some ((a+hf n:Nat):Int):=by
 have d:=Uw (f:=ou (a:Int) ((a+n:Nat):Int)) b (by omega) λq g hq=>by
  unfold ou;rw[ay (x:=2*(q:Int)) (by omega) (by omega),ay (x:=((a+n:Nat):Int)-(a:Int)) (by omega) (by omega)];split
  ·rw[ax (show 2*(q:Int)<((a+n:Nat):Int)-(a:Int)by omega),abv,ay (by omega) (by omega),Int.mul_comm];push_cast;rfl
  ·rw[aP (by omega)];rfl
 have:=pW b;unfold lz;refine(aei (λo:Option Int=>o.bind _) d).trans ?_;rw[f8,ay (by omega) (by omega)];push_cast;rfl
def tree(ls:List dp):List Int:=if h:ls.length<=1 then GK (ls.headD ([],[]))else Lt (tree (ls.take (hf ls.length))) (tree (ls.drop (hf ls.length)))
termination_by ls.length
decreasing_by
 all_goals
  have:=pW (n:=ls.length) (by omega)
  simp only[afi,agk]
  omega
def gu(l:List dp)(a n:Nat):List dp:=(l.drop a).take n
theorem rC{l:List dp}(h:a+n<=l.length):(gu l a n).length=n:=by unfold gu;rw[afi,agk];omega
theorem aaw{l:List dp}(h:a<l.length):gu l a 1=[l[a]]:=by unfold gu;rw[aqd h];rfl
theorem aoW{l:List dp}(h:j<=n):(gu l a n).take j=gu l a j:=by unfold gu;rw[ahK,afn h]
theorem alQ{l:List dp} :(gu l a n).drop j=gu l (a+j) (n-j):=by unfold gu;rw[agI,agG]
theorem If(l:List dp):gu l 0 l.length=l:=by unfold gu;rw[agY,ajR]
theorem Cw{l:List dp}(h:a<l.length):tree (gu l a 1)=GK l[a]:=by rw[aaw h,tree];rfl
theorem Qn{l:List dp}(b:2<=n)(h:a+n<=l.length):tree (gu l a n)=Lt (tree (gu l a (hf n))) (tree (gu l (a+hf n) (n-hf n))):=by have:=pW b;rw[tree,aqX (by rw[rC h];omega),rC h,aoW (by omega),alQ]
theorem Yf{k:Nat}(d:2<=n)(h:n<=2 ^ (k+1)):hf n<=2 ^ k:=by obtain⟨_,b,_⟩:=pW d;unfold hf at *;refine alL (by omega) ?_;have:=(Nat.pow_lt_pow_iff_right (by omega:1<2)).1 (ajq b h);omega
theorem G5{l:List dp}(h:a<l.length):ae l (a:Int)=some l[a]:=aV (acz h)
theorem awh{l:List dp}(hl:l.length<=100000)(hs:∀x∈l,kL x):∀(k a n:Nat),1<=n->n<=2 ^ k->a+n<=l.length->lJ (k+1) l (a:Int) ((a+n:Nat):Int)=some (tree (gu l a n)):=by
 intro k;induction k with
 |zero=>
  intro a n h b d;have:n=1:=by omega
  subst this;unfold lJ;rw[ay (by omega) (by omega),bt (by omega)];simp only[abv,G5 (show a<l.length by omega),f8,Qz2,G7 (hs _ (agl _)),Cw (show a<l.length by omega)]
 |succ k g=>
  intro a n h b d;unfold lJ;rw[ay (by omega) (by omega)];by_cases o:n=1
  ·subst o;rw[bt (by omega)];simp only[abv,G5 (show a<l.length by omega),f8,Qz2,G7 (hs _ (agl _)),Cw (show a<l.length by omega)]
  obtain⟨t,u,w⟩:=pW (show 2<=n by omega);have m:=Yf (by omega) b;have p:=g a (hf n) (by omega) m (by omega);have f:=g (a+hf n) (n-hf n) (by omega) (by omega) (by omega);rw[show a+hf n+(n-hf n)=a+n by omega]at f;rw[bf (by omega)];simp only[ab7,I4 (a:=a) (n:=n) (by omega) (by omega),f8,Qz2,p,f,V2,Qn (show 2<=n by omega) d]
theorem Jz{l:List dp}(b:1<=l.length)(hl:l.length<=100000)(hs:∀x∈l,kL x):nU l=some (tree l):=by have h:=awh hl hs 63 0 l.length b (by omega) (by omega);rw[ahw,If]at h;unfold nU Ek;rw[show lJ 64 l 0 (l.length:Int)=_ from h];rfl
theorem I2{n:Int}(d:bk n)(x:List Int):∀t∈[d6 (gf n),hZ x],t.length<=100000:=λt b=>by
 have:=kH d;have:=wx x;simp at b;rcases b with rfl|rfl
 ·rw[jn];omega
 ·omega
theorem Ns{n:Int}(b:bk n)(d:¬n=0)(x:List Int):je n x=some (ul n x):=by have f:=Al (ts:=[d6 (gf n),hZ x]) (by simp) (I2 b x) 4;unfold je;rw[bf d];simp only[ab7,tG b,f8,Qz2,FA];exact(aei (λo:Option (List Int)=>o.bind _) f).trans rfl
def key(i:Nat):List UInt8:=(sR 20 (10000+i)).drop 1
theorem Og:∀i:Fin 1000,(sR 20 (10000+i.val)).length=5:=by decide +kernel
theorem ari:∀i:Fin 1000,Op.bytesLess (key i.val) (key (i.val+1))=true:=by decide +kernel
theorem T1{i:Nat}(h:i<1000):(key i).length=4:=by unfold key;rw[agk,Og ⟨i,h⟩]
def lvs(ds:List (List Int)):List dp:=(List.range' 0 ds.length).map λi=>(key i,hZ (ds.getD i []))
theorem fW(ds:List (List Int)):(lvs ds).length=ds.length:=by unfold lvs;rw[afN,List.length_range']
theorem uH{i:Nat}(h:i<ds.length):(lvs ds)[i]?=some (key i,hZ (ds.getD i [])):=by unfold lvs;rw[afX,List.getElem?_range' h];simp
theorem uF(h:ds.length<=1000):∀x∈lvs ds,kL x:=λx b=>by
 obtain⟨i,hi,rfl⟩:=acG.1 b;have hi:i<ds.length:=by simpa using hi
 have:=T1 (i:=i) (by omega);have:=wx (ds.getD i []);exact⟨by dsimp only;omega,by dsimp only;omega⟩
theorem Ii{f:List dp×Int->Option ((List dp×Int)⊕List dp)}(m:n<=1000)(g:Nat->dp)
  (b:∀(i:Nat) (x:List dp),i<n->x.length<=1000->f (x,(i:Int))=af (aN x.length 1 32) (some (.inl (x++[g i],ac ((i:Int)+1))))) (d:∀x,f (x,(n:Int))=some (.inr x)):Itr.it f ([],0)=some ((List.range' 0 n).map g):=by
 have h:=(lC (f:=f) (λi x=>(x,i)) 0 n (λx i=>x++[g i]) (λx=>x) (λi x=>x.length=i) (by omega) (by omega)
  (λi x _ hi k=>⟨by
   rw[b i x hi (by omega),bh (by omega) (by omega),ay (by omega) (by omega)];rfl,by rw[acA,k];rfl⟩) (λx _=>d x) (x:=[]) rfl).1
 refine h.trans ?_;rw[Ai,ae4,akV]
theorem IJ{L:List dp}(hl:L.length+q<=1000)(h:∀i,i<L.length->∃d:List UInt8,d.length=16/\L[i]?=some (key (q+i),d)):jo L=some 0:=by
 have p:Itr.it (cI L) 0=some (.inl ()):=
  eM (f:=cI L) (λz=>L.length-z.toNat) (λ_=>.inl ()) (λz=>∃i:Nat,z=(i:Int)/\i<=L.length)
   (λz o=>by
    obtain⟨i,rfl,hi⟩:=o;unfold cI;by_cases b:i<L.length
    ·right;obtain⟨d,hd,g⟩:=h i b;have ev:qf (key (q+i),d)=some false:=by
      unfold qf;dsimp only;rw[T1 (by omega),hd];rfl
     rw[ax (show(i:Int)<(L.length:Int)by omega)];simp only[abv,aV g,f8,Qz2,ev,ab7];exact⟨_,rfl,⟨i+1,by rw[ay (by omega) (by omega)];push_cast;rfl,by omega⟩,by rw[ay (by omega) (by omega)];omega,trivial⟩
    ·left;rw[aP (by omega)];rfl) (s:=0) ⟨0,rfl,by omega⟩ (by omega)
 have c2:cX L=some false:=by unfold cX eP;rw[p];rfl
 have c3:Itr.it (l9 L) 0=some (.inl ()):=
  eM (f:=l9 L) (λz=>L.length-z.toNat) (λ_=>.inl ()) (λz=>∃i:Nat,z=(i:Int)/\i<=L.length)
   (λz o=>by
    obtain⟨i,rfl,hi⟩:=o;unfold l9;by_cases b:i<L.length
    ·right;refine⟨ac ((i:Int)+1),?_,⟨i+1,by rw[ay (by omega) (by omega)];push_cast;rfl,by omega⟩,by rw[ay (by omega) (by omega)];omega,rfl⟩;rw[ax (show(i:Int)<(L.length:Int)by omega)];cases i with
     |zero=>
      rw[aP (show¬(0:Int)<((0:Nat):Int)by omega)];rfl
     |succ i=>
      obtain⟨d,hd,g⟩:=h i (by omega);obtain⟨d',u,k⟩:=h (i+1) b;have t:ac (((i+1:Nat):Int)-1)=(i:Int):=by rw[ay (by omega) (by omega)];omega
      have m:=ari ⟨q+i,by omega⟩;dsimp only at m;rw[ajn]at m;rw[ax (show(0:Int)<((i+1:Nat):Int)by omega)];simp only[abv,t,aV g,aV k,f8,Qz2,m];rfl
    ·left;rw[aP (by omega)];rfl) (s:=0) ⟨0,rfl,by omega⟩ (by omega)
 unfold jo;rw[aP (show¬(4096:Int)<(L.length:Int)by omega)];simp only[aeN,abv,c2,f8,Qz2,ab7];rw[c3];rfl
theorem BR(h:ds.length<=1000):jo (lvs ds)=some 0:=IJ (q:=0) (by rw[fW];omega) λi hi=>by rw[fW]at hi;exact⟨_,wx _,by rw[uH hi,ahw]⟩
def lh(ds:List (List Int)):List Int:=ul ds.length (tree (lvs ds))
theorem Rr(b:1<=ds.length)(h:ds.length<=1000):mf (lvs ds)=some (lh ds,0):=by have e:=fW ds;unfold mf lh;rw[BR h];simp only[f8,Qz2,aeA,ab7,e,bf (show¬(ds.length:Int)=0 by omega),Jz (l:=lvs ds) (by omega) (by omega) (uF h),Ns (n:=(ds.length:Int)) ⟨by omega,by omega⟩ (by omega)]
def DV(s:aG):List Int:=GJ (vH 6 [d6 (y9 s)])
theorem arj{l:List aG}(t:1<=l.length)(hl:l.length<=1000)(hd:∀s∈l,EncS s):xY l=some (lh (l.map DV),0):=by
 have b:(l.map DV).length=l.length:=afN ..;have d:Itr.it (oH l) ([],0)=some (lvs (l.map DV)):=by
  unfold lvs;rw[b];refine Ii hl _ (λi x hi u=>?_) λx=>?_
  ·have m:=Ag (hd l[i] (agl hi));have p:=Og ⟨i,by omega⟩;dsimp only at p;have f:ac (10000+(i:Int))=((10000+i:Nat):Int):=by rw[ay (by omega) (by omega)];omega
   have g:Gk ((10000+i:Nat):Int)=some (sR 20 (10000+i)):=by unfold Gk;rw[ax (show(0:Int)<=((10000+i:Nat):Int)by omega),ax (show((10000+i:Nat):Int)<=9223372036854775807 by omega)];rfl
   have h:((sR 20 (10000+i)).take ((sR 20 (10000+i)).length:Int).toNat).drop (1:Int).toNat=key i:=by rw[ac6,ajR];rfl
   have k:(l.map DV).getD i []=DV l[i]:=by rw[aee,afX,acz hi];rfl
   unfold oH;rw[ax (show(i:Int)<(l.length:Int)by omega)];simp only[abv,aV (acz hi),f8,Qz2,m,f,g,h,k,FA,ax (show 0<=(1:Int)/\(1:Int)<=((sR 20 (10000+i)).length:Int)/\((sR 20 (10000+i)).length:Int)<=((sR 20 (10000+i)).length:Int)by omega),ax (show 0<=(0:Int)/\(0:Int)<=(16:Int)/\(16:Int)<=(16:Int)by omega),adC];rfl
  ·unfold oH;rw[aP (by dsimp only;omega)];rfl
 unfold xY;rw[bf (show¬(l.length:Int)=0 by omega),aP (show¬(1000:Int)<(l.length:Int)by omega)];simp only[ab7];refine(aei (λo:Option (List dp)=>o.bind _) d).trans ?_;rw[f8,Rr (by omega) (by omega)];rfl
theorem DZ(m:List Int):(GJ m).length=16:=by simp[GJ]
theorem H0(m:List Int):m6 (GJ m):=λx d=>by obtain⟨j,b,rfl⟩:=acG.1 d;have b:j<16:=af1.1 b;unfold YY;rw[aee,afX,ahF (by omega)];exact w8 _
theorem DP{x y:List Int}(b:m6 x/\x.length=16)(d:m6 y/\y.length=16)(h:hZ x=hZ y):x=y:=by unfold hZ at h;rw[G6 _ b.2,G6 _ d.2]at h;exact(Ay b.1).symm.trans ((aei cQ h).trans (Ay d.1))
theorem RG{s t:List UInt8}(hs:s.length<=4194304)(o:t.length<=4194304){a b:List Int}(h:iV s++a=iV t++b):s=t/\a=b:=by unfold iV at h;rw[aeh,aeh]at h;obtain⟨m,d⟩:=adZ (jW (by omega)) (jW (by omega)) h;obtain⟨f,g⟩:=List.append_inj d (by rw[yu,yu];omega);refine⟨(List.map_inj_right λx y k=>?_).1 f,g⟩;exact UInt8.toNat_inj.1 (by omega)
theorem asO{g:Int}{p q d f:List UInt8}(u:p.length<=100000)(w:q.length<=100000)(y:d.length<=100000)(z:f.length<=100000)(h:vH g [p,q]=vH g [d,f]):p=d/\q=f:=by unfold vH at h;simp only[ajA,aqm,ad0,afO,ae4,ah6,aq1]at h;obtain⟨k,m⟩:=RG (s:=p) (t:=d) (by omega) (by omega) h;have o:=RG (s:=q) (t:=f) (a:=[]) (b:=[]) (by omega) (by omega) (by rw[ad0,ad0];exact m);exact⟨k,o.1⟩
def AM(ts:List (List UInt8)):Prop:=ts.length<=4/\∀t∈ts,t.length<=100000
theorem ub(tag:Int)(h:AM ts):m6 (vH tag ts)/\(vH tag ts).length<=500001:=by refine⟨tN (λx d=>by rcases ade.1 d with rfl;exact w8 _) (adX λt b=>tN (Qm (jW (by have:=h.2 t b;omega))) (Lo _)),?_⟩;have:=A6 h.1 h.2;unfold vH;simp only[acA,adC];omega
def tx(tag:Int)(ts:List (List UInt8)):List UInt8:=d6 (vH tag ts)
def dT(s:List UInt8):List Int:=GJ (cQ s)
theorem LO(tag:Int)(h:AM ts):dT (tx tag ts)=vQ tag ts:=by unfold dT tx vQ;rw[Ay (ub tag h).1]
theorem Qg(tag:Int){p q b d:List UInt8}(h:AM [p,q])(h':AM [b,d])(f:tx tag [p,q]=tx tag [b,d]):p=b/\q=d:=by refine asO (g:=tag) (h.2 _ (by simp)) (h.2 _ (by simp)) (h'.2 _ (by simp)) (h'.2 _ (by simp)) ?_;exact(Ay (ub tag h).1).symm.trans ((aei cQ f).trans (Ay (ub tag h').1))
theorem ajf(tag:Int)(h:AM ts):lS tag ts=some (vH tag ts):=by
 have hf:=A6 h.1 h.2;have g:=h.1;have l:=zM (f:=ig ts) (p:=[IntKind.u8.wrap tag]) (λq i=>(q,i)) ts iV (by omega) (by simp only[adC];omega) (λi a q hi ha hq=>by
  have d:=(Av (t:=a) (by have:=h.2 a (aeK ha);omega)).2;unfold ig;simp only[aV ha,f8,Qz2,d,ax (show(i:Int)<(ts.length:Int)by omega),abv,af,bh (m:=q.length) (k:=(iV a).length) (b:=1) (by omega) (by omega),ay (x:=(i:Int)+1) (by omega) (by omega)]) (λq=>by
  unfold ig;rw[aP (by dsimp only;omega)];rfl)
 unfold lS;rw[l];rfl
theorem P6{m:List Int}(b:m6 m)(hl:m.length<=1000000):gH m=some (GJ m):=by obtain⟨S,_,F⟩:=DC aml (d6 m) (by rw[jn];simp only[afW];omega);rw[Ay b,ae4]at F;have h:=(Np (by omega) F).2;unfold gH;rw[h,f8,aet];rfl
theorem KO{T:List (List UInt8)}(f:T.length<=100000)(z:List (List Int)×Int×Bool)(tag:Int)(h:AM ts):fV (T,z) tag ts=some (vQ tag ts,(T++[tx tag ts],z)):=by obtain⟨b,d⟩:=ub tag h;unfold fV;rw[ajf tag h,f8,adC,bh (by dsimp only;omega) (by omega),P6 b (by omega)];rfl
theorem Uq(d:List Int):iu d=some (hZ d):=by
 have h:=(lC (f:=lx d) (λi x=>(x,i)) 0 16 (λx i=>x++[d.getD i 0]) (λx=>x) (λi x=>x.length=i) (by omega) (by omega)
  (λi x _ hi g=>⟨by
   unfold lx;simp only[ax (show(i:Int)<16 by omega),abv,af,ax (show 0<=(i:Int)/\(i:Int)<16 by omega),ac6,adC,bh (m:=x.length) (k:=1) (b:=1) (by omega) (by omega),ay (x:=(i:Int)+1) (by omega) (by omega)],by rw[acA,g];rfl⟩)
  (λx _=>rfl) (x:=[]) rfl).1
 unfold iu;refine(aei (λo:Option (List Int)=>o.bind _) h).trans ?_;rw[Ai];rfl
theorem asb(d:2<=n)(g:n<=100000):mw (n:Int)=some ((hf n:Nat):Int):=by
 have b:=Uw (f:=lw (n:Int)) d g λq h hq=>by
  unfold lw;rw[ay (x:=2*(q:Int)) (by omega) (by omega)];split
  ·rw[ax (show 2*(q:Int)<(n:Int)by omega)];push_cast;rfl
  ·rw[aP (by omega)];rfl
 unfold mw;exact(aei (λo:Option Int=>o.bind _) b).trans rfl
def gR(ls:List dp):List (List UInt8):=if h:ls.length<=1 then [tx 3 [(ls.headD ([],[])).1,(ls.headD ([],[])).2]]else gR (ls.take (hf ls.length))++gR (ls.drop (hf ls.length))++[tx 4 [hZ (tree (ls.take (hf ls.length))),hZ (tree (ls.drop (hf ls.length)))]]
termination_by ls.length
decreasing_by
 all_goals
  have:=pW (n:=ls.length) (by omega)
  simp only[afi,agk]
  omega
theorem VI{l:List dp}(h:a<l.length):gR (gu l a 1)=[tx 3 [l[a].1,l[a].2]]:=by rw[aaw h,gR];rfl
theorem asy{l:List dp}(b:2<=n)(h:a+n<=l.length):gR (gu l a n)=gR (gu l a (hf n))++gR (gu l (a+hf n) (n-hf n))++[tx 4 [hZ (tree (gu l a (hf n))),hZ (tree (gu l (a+hf n) (n-hf n)))]]:=by have:=pW b;rw[gR,aqX (by rw[rC h];omega),rC h,aoW (by omega),alQ]
theorem qi{x:dp}(h:kL x):AM [x.1,x.2]:=⟨by simp,λt b=>by have:=h.1;have:=h.2;simp at b;rcases b with rfl|rfl<;>omega⟩
theorem se(x y:List Int):AM [hZ x,hZ y]:=⟨by simp,JK x y⟩
theorem xR:∀(n:Nat) (ls:List dp),ls.length=n->1<=n->(gR ls).length+1<=2*n:=by
 intro n;induction n using Nat.strongRecOn with
 |_ n b=>
  intro ls h g;rw[gR];split
  ·simp;omega
  ·have:=pW (n:=ls.length) (by omega);have d:=b (hf ls.length) (by omega) (ls.take (hf ls.length)) (by rw[afi];omega) (by omega);have f:=b (ls.length-hf ls.length) (by omega) (ls.drop (hf ls.length)) (by rw[agk]) (by omega);simp only[acA,adC];omega
theorem awV{l:List dp}(hl:l.length<=1000)(hs:∀x∈l,kL x)(z:List (List Int)×Int×Bool):∀(k a n:Nat) (T:List (List UInt8)),1<=n->n<=2 ^ k->a+n<=l.length->T.length+2*n<=100000 ->
  fB (k+1) (T,z) l 0 (a:Int) ((a+n:Nat):Int)=some (tree (gu l a n),(T++gR (gu l a n),z)):=by
 intro k;induction k with
 |zero=>
  intro a n T h d b m;have:n=1:=by omega
  subst this;have ha:a<l.length:=by omega
  show eX _ _ _ _ _ _=_;unfold eX;rw[aP (show¬((a+1:Nat):Int)<=0 by omega),ab7,ay (x:=0+(l.length:Int)) (by omega) (by omega),aP (show¬0+(l.length:Int)<=(a:Int)by omega),ab7,ay (x:=((a+1:Nat):Int)-(a:Int)) (by omega) (by omega),bt (by omega),abv,ay (x:=(a:Int)-0) (by omega) (by omega),aqt];simp only[G5 ha,f8,Qz2,KO (T:=T) (by omega) z 3 (qi (hs _ (agl ha))),Cw ha,VI ha];rfl
 |succ k g=>
  intro a n T h d b m;have ha:a<l.length:=by omega
  show eX _ _ _ _ _ _=_;unfold eX;rw[aP (show¬((a+n:Nat):Int)<=0 by omega),ab7,ay (x:=0+(l.length:Int)) (by omega) (by omega),aP (show¬0+(l.length:Int)<=(a:Int)by omega),ab7,ay (x:=((a+n:Nat):Int)-(a:Int)) (by omega) (by omega),ay (x:=(a:Int)-0) (by omega) (by omega),aqt];by_cases p:n=1
  ·subst p;rw[bt (by omega),abv];simp only[G5 ha,f8,Qz2,KO (T:=T) (by omega) z 3 (qi (hs _ (agl ha))),Cw ha,VI ha];rfl
  obtain⟨A,B,C⟩:=pW (show 2<=n by omega);have o:=Yf (by omega) d;have w:=xR (hf n) (gu l a (hf n)) (rC (by omega)) (by omega);have y:=xR (n-hf n) (gu l (a+hf n) (n-hf n)) (rC (by omega)) (by omega);have u:=g a (hf n) T (by omega) o (by omega) (by omega);have f:=g (a+hf n) (n-hf n) (T++gR (gu l a (hf n))) (by omega) (by omega) (by omega) (by rw[acA];omega);rw[show a+hf n+(n-hf n)=a+n by omega]at f;rw[bf (by omega),ab7,show((a+n:Nat):Int)-(a:Int)=(n:Int)by omega,asb (by omega) (by omega),f8,ay (x:=(a:Int)+((hf n:Nat):Int)) (by omega) (by omega),show(a:Int)+((hf n:Nat):Int)=((a+hf n:Nat):Int)by omega];have t:=KO (T:=T++gR (gu l a (hf n))++gR (gu l (a+hf n) (n-hf n))) (by simp only[acA];omega) z 4 (se (tree (gu l a (hf n))) (tree (gu l (a+hf n) (n-hf n))));simp only[u,f,f8,Qz2,Uq];rw[t,f8,Qn (show 2<=n by omega) b,asy (show 2<=n by omega) b];simp only[aeh];rfl
theorem zx{n:Int}(b:bk n)(x:List Int):AM [d6 (gf n),hZ x]:=⟨by simp,I2 b x⟩
def Ax(l:List dp):List (List UInt8):=gR l++[tx 4 [d6 (gf l.length),hZ (tree l)]]
theorem Q4{l:List dp}(b:1<=l.length)(hl:l.length<=1000)(hs:∀x∈l,kL x):gr ([],[],0,false) l 0 (l.length:Int)=some (ul l.length (tree l),(Ax l,[],0,false)):=by have d:bk (l.length:Int):=jW (by omega);have f:=awV hl hs ([],0,false) 63 0 l.length [] b (by omega) (by omega) (by simp only[afW];omega);have g:=xR l.length l rfl b;rw[ahw,If,ae4]at f;unfold gr mP;rw[Vz d,f8,ax (show(0:Int)<(l.length:Int)by omega),abv,show fB 64 ([],[],0,false) l 0 0 (l.length:Int)=_ from f];simp only[f8,Qz2,Uq];refine(aei (λo:Option (List Int×bE)=>o.bind some) (KO (T:=gR l) (by omega) ([],0,false) 4 (zx d (tree l)))).trans ?_;rfl
theorem TB{x:dp}(h:kL x):dT (tx 3 [x.1,x.2])=GK x:=LO 3 (qi h)
theorem Uh(x y:List Int):dT (tx 4 [hZ x,hZ y])=Lt x y:=LO 4 (se x y)
theorem ac9(x:dp):tree [x]=GK x:=by rw[tree];rfl
theorem tS(ls:List dp):m6 (tree ls)/\(tree ls).length=16:=by rw[tree];split<;>exact⟨H0 _,DZ _⟩
def aS(A B:List (List UInt8)):Prop:=∃s∈A,∃t∈B,s≠t/\dT s=dT t
theorem ayx:∀(n:Nat) (ls ms:List dp),ls.length=n->ms.length=n->1<=n->(∀x∈ls,kL x)->(∀x∈ms,kL x)->tree ls=tree ms->ls=ms\/aS (gR ls) (gR ms):=by
 intro n;induction n using Nat.strongRecOn with
 | _ n w=>
  intro ls ms hl k z sl sm h;by_cases p:n=1
  ·obtain⟨x,rfl⟩:=ajt.1 (hl.trans p);obtain⟨y,rfl⟩:=ajt.1 (k.trans p);have b:=sl x (by simp);have u:=sm y (by simp);by_cases d:tx 3 [x.1,x.2]=tx 3 [y.1,y.2]
   ·obtain⟨f,g⟩:=Qg 3 (qi b) (qi u) d;exact .inl (by rw[Prod.ext f g])
   ·refine .inr ⟨tx 3 [x.1,x.2],by rw[gR];simp,tx 3 [y.1,y.2],by rw[gR];simp,d,?_⟩;rw[TB b,TB u];exact(ac9 x).symm.trans (h.trans (ac9 y))
  ·have A:=pW (n:=n) (by omega);rw[tree,aqX (by omega),hl,tree.eq_def ms,aqX (by omega),k]at h;rw[gR,aqX (by omega),hl,gR.eq_def ms,aqX (by omega),k];by_cases d:tx 4 [hZ (tree (ls.take (hf n))),hZ (tree (ls.drop (hf n)))]=tx 4 [hZ (tree (ms.take (hf n))),hZ (tree (ms.drop (hf n)))]
   ·obtain⟨f,g⟩:=Qg 4 (se _ _) (se _ _) d;have m:=w (hf n) (by omega) (ls.take (hf n)) (ms.take (hf n)) (by rw[afi];omega) (by rw[afi];omega) (by omega) (λx b=>sl x (agT b)) (λx b=>sm x (agT b)) (DP (tS _) (tS _) f);have o:=w (n-hf n) (by omega) (ls.drop (hf n)) (ms.drop (hf n)) (by rw[agk];omega) (by rw[agk];omega) (by omega) (λx b=>sl x (ag4 b)) (λx b=>sm x (ag4 b)) (DP (tS _) (tS _) g);rcases m with m|⟨s,hs,t,d,hq⟩
    ·rcases o with o|⟨s,hs,t,d,hq⟩
     ·exact .inl (by rw[<-ags (hf n) ls,m,o,ags])
     ·exact .inr ⟨s,by simp[hs],t,by simp[d],hq⟩
    ·exact .inr ⟨s,by simp[hs],t,by simp[d],hq⟩
   ·exact .inr ⟨_,adF _ (ade.2 rfl),_,adF _ (ade.2 rfl),d,by rw[Uh,Uh];exact h⟩
theorem acK{ls ms:List dp}(hl:ms.length=ls.length)(m:1<=ls.length)(o:ls.length<=1000)(sl:∀x∈ls,kL x)(sm:∀x∈ms,kL x)(g:ul ls.length (tree ls)=ul ms.length (tree ms))(f:ls≠ms):aS (Ax ls) (Ax ms):=by
 have b:bk (ls.length:Int):=jW (by omega);rw[hl]at g;unfold Ax;rw[hl];by_cases d:tx 4 [d6 (gf ls.length),hZ (tree ls)]=tx 4 [d6 (gf ls.length),hZ (tree ms)]
 ·obtain⟨_,k⟩:=Qg 4 (zx b _) (zx b _) d;rcases ayx ls.length ls ms rfl hl m sl sm (DP (tS _) (tS _) k)with h|⟨s,hs,t,d,hq⟩
  ·exact absurd h f
  ·exact⟨s,by simp[hs],t,by simp[d],hq⟩
 ·exact⟨_,adF _ (ade.2 rfl),_,adF _ (ade.2 rfl),d,by rw[LO 4 (zx b _),LO 4 (zx b _)];exact g⟩
abbrev PF:Type:=Int×Int×List dp×List (List Int)
theorem aj9{L:List dp}(hl:L.length<=1000)(hs:∀x∈L,kL x){i:Nat}(hi:i<L.length):∀(k a n:Nat),1<=n->n<=2 ^ k->a+n<=L.length->∃S:List (List Int),S.length<=n /\
  (∀p:PF,p.2.2.2.length+n<=10000->ji (k+1) L (i:Int) ((i+1:Nat):Int) (a:Int) ((a+n:Nat):Int) p=some (p.1,p.2.1,p.2.2.1,p.2.2.2++S)) /\
  ∀(p:PF) (rest:List (List Int)),p.1=i->p.2.2.1=[L[i]]->rest.length+n<=10000->im (k+1) p ((i+1:Nat):Int) (a:Int) ((a+n:Nat):Int) true (S++rest)=some (tree (gu L a n),true,rest):=by
 have out:∀{k a n:Nat},1<=n->a+n<=L.length->(a+n<=i\/i+1<=a)->∃S:List (List Int),S.length<=n /\
  (∀p:PF,p.2.2.2.length+n<=10000->ji (k+1) L (i:Int) ((i+1:Nat):Int) (a:Int) ((a+n:Nat):Int) p=some (p.1,p.2.1,p.2.2.1,p.2.2.2++S)) /\
  ∀(p:PF) (rest:List (List Int)),p.1=i->p.2.2.1=[L[i]]->rest.length+n<=10000->im (k+1) p ((i+1:Nat):Int) (a:Int) ((a+n:Nat):Int) true (S++rest)=some (tree (gu L a n),true,rest):=by
  intro k a n d m f;have w:(bif decide (((a+n:Nat):Int)<=(i:Int))then true else decide (((i+1:Nat):Int)<=(a:Int)))=true:=by
   rcases f with h|h
   ·rw[ax (by omega)];rfl
   ·rw[ax (show((i+1:Nat):Int)<=(a:Int)by omega)];cases decide (((a+n:Nat):Int)<=(i:Int))<;>rfl
  refine⟨[tree (gu L a n)],by simpa using d,λp z=>?_,λp rest b g A=>?_⟩
  ·have e:(L.take ((a+n:Nat):Int).toNat).drop ((a:Nat):Int).toNat=gu L a n:=by
    rw[ac6,ac6,agI,ai4];rfl
   have hd:=Jz (l:=gu L a n) (by rw[rC m];exact d) (by rw[rC m];omega) λx t=>hs x (ag4 (agT t));unfold ji;rw[w,abv,ax (by omega),e,hd,f8,adC,bh (by omega) (by omega)];rfl
  ·unfold im;rw[b,w];have t:ae ([tree (gu L a n)]++rest) 0=some (tree (gu L a n)):=rfl;have o:(([tree (gu L a n)]++rest).length:Int)=(rest.length:Int)+1:=by simp
   have G:(([tree (gu L a n)]++rest).take ((rest.length:Int)+1).toNat).drop (1:Int).toNat=rest:=by rw[show((rest.length:Int)+1).toNat=([tree (gu L a n)]++rest).length by simp,ajR];rfl
   simp only[afg,ab7,abv,t,f8,Qz2,o,G,ax (show(0:Int)<(rest.length:Int)+1 by omega)];rw[ax (by simp;omega)];rfl
 have one:∀{k a:Nat},a=i->∃S:List (List Int),S.length<=1 /\
  (∀p:PF,p.2.2.2.length+1<=10000->ji (k+1) L (i:Int) ((i+1:Nat):Int) (a:Int) ((a+1:Nat):Int) p=some (p.1,p.2.1,p.2.2.1,p.2.2.2++S)) /\
  ∀(p:PF) (rest:List (List Int)),p.1=i->p.2.2.1=[L[i]]->rest.length+1<=10000->im (k+1) p ((i+1:Nat):Int) (a:Int) ((a+1:Nat):Int) true (S++rest)=some (tree (gu L a 1),true,rest):=by
  rintro k a rfl;refine⟨[],by simp,λp z=>?_,λp rest b g A=>?_⟩
  ·unfold ji;rw[aP (show¬((a+1:Nat):Int)<=(a:Int)by omega),ab7,ab7,ay (x:=((a+1:Nat):Int)-(a:Int)) (by omega) (by omega),aP (by omega),ab7,ad0]
  ·have t:ae [L[a]] (ac ((a:Int)-(a:Int)))=some L[a]:=by rw[Int.sub_self];rfl
   unfold im;rw[b,g,aP (show¬((a+1:Nat):Int)<=(a:Int)by omega),ab7,ay (x:=((a+1:Nat):Int)-(a:Int)) (by omega) (by omega),bt (by omega)];simp only[afg,ab7,abv,t,f8,Qz2,G7 (hs _ (agl hi)),Cw hi];rfl
 intro k;induction k with
 |zero=>
  intro a n d m f;have:n=1:=by omega
  subst this;by_cases u:a+1<=i\/i+1<=a
  ·exact out d f u
  ·exact one (by omega)
 |succ k B=>
  intro a n d m f;by_cases u:a+n<=i\/i+1<=a
  ·exact out d f u
  by_cases F:n=1
  ·subst F;exact one (by omega)
  obtain⟨J,K,M⟩:=pW (show 2<=n by omega);have E:=Yf (by omega) m;obtain⟨S1,N,H,I⟩:=B a (hf n) (by omega) E (by omega);obtain⟨S2,O,C,D⟩:=B (a+hf n) (n-hf n) (by omega) (by omega) (by omega);rw[show a+hf n+(n-hf n)=a+n by omega]at C D;have y:=I4 (a:=a) (n:=n) (by omega) (by omega);refine⟨S1++S2,by rw[acA];omega,λp z=>?_,λp rest b g A=>?_⟩
  ·unfold ji;rw[aP (by omega),ab7,aP (by omega),ab7,ay (x:=((a+n:Nat):Int)-(a:Int)) (by omega) (by omega),ax (by omega),abv,y,f8,H p (by omega),f8,C _ (by dsimp only;rw[acA];omega),aeh];rfl
  ·unfold im;rw[b,aP (by omega),ab7,aP (by omega),ay (x:=((a+n:Nat):Int)-(a:Int)) (by omega) (by omega),bf (by omega)];simp only[afg,ab7,y,f8,Qz2,aeh,I p (S2++rest) b g (by rw[acA];omega),D p rest b g (by omega),V2,Qn (show 2<=n by omega) f]
structure ProofOk(L:List dp)(i:Nat)(p:PF):Prop where
 f:p.1=i
 n:p.2.1=L.length
 l:∃x,L[i]?=some x/\p.2.2.1=[x]
 u:∀r:List Int,lP p r=some (dM 16 (ul L.length (tree L)) r)
theorem Ox(h:ds.length<=999){i:Nat}(hi:i<ds.length):∃p,pp (lvs ds) (i:Int) ((i+1:Nat):Int)=some p/\ProofOk (lvs ds) i p:=by
 have w:=fW ds;have hs:=uF (ds:=ds) (by omega);generalize g:lvs ds=L at *;have b:i<L.length:=by omega
 have d:L[i]?=some L[i]:=acz b;obtain⟨S,y,t,u⟩:=aj9 (by omega) hs b 63 0 L.length (by omega) (by omega) (by omega);rw[ahw,If]at *;have e:(L.take ((i+1:Nat):Int).toNat).drop (i:Int).toNat=[L[i]]:=by rw[ac6,ac6,agI,ai4];exact aaw b
 have m:jo [L[i]]=some 0:=IJ (q:=i) (by simp;omega) λj k=>by
  have:j=0:=by simpa using k
  subst this;refine⟨_,wx (ds.getD i []),?_⟩;have:=uH (ds:=ds) hi;rw[g,d]at this;simpa using this
 refine⟨(i,L.length,[L[i]],[]++S),?_,⟨rfl,rfl,⟨_,d,rfl⟩,λr=>?_⟩⟩
 ·unfold pp fS Er;have:=t (i,L.length,[L[i]],[]) (by simp only[afW];omega);rw[e,ax (by omega),afW,adC,bh (by omega) (by omega),ax (show(0:Int)<(L.length:Int)by omega)];simp only[af,abv,f8,Qz2,ae4];exact(aei (λo:Option PF=>o.bind some) this).trans rfl
 ·have f:=u (i,L.length,[L[i]],[]++S) [] rfl rfl (by simp only[afW];omega);rw[ad0]at f;unfold lP Eb;dsimp only;rw[adC,ay (x:=(i:Int)+((1:Nat):Int)) (by omega) (by omega),aP (show¬(L.length:Int)<0 by omega),aP (show¬(4096:Int)<(L.length:Int)by omega),aP (show¬(i:Int)<0 by omega),aP (show¬(L.length:Int)<(i:Int)by omega),aP (show¬(L.length:Int)<(i:Int)+((1:Nat):Int)by omega),m,bf (show¬(L.length:Int)=0 by omega),bf (show¬((1:Nat):Int)=0 by omega)];simp only[ab7,abv,aeN,f8,Qz2,aeA];rw[show im 64 (i,L.length,[L[i]],[]++S) ((i:Int)+((1:Nat):Int)) 0 (L.length:Int) true ([]++S)=_ from f,f8];simp only[abv,afW];rw[bt (show((0:Nat):Int)=0 from rfl)];simp only[abv,Ns (n:=(L.length:Int)) ⟨by omega,by omega⟩ (by omega),f8,Qz2]
def avw(i:Nat):Bool:=(key i==[UInt8.ofNat (48+i / 1000),UInt8.ofNat (48+i / 100%10),UInt8.ofNat (48+i / 10%10),UInt8.ofNat (48+i%10)])&&((match kh (i:Int)with|some k=>k==key i|none=>false)&&(match i9 (i:Int)with|some k=>k==key i|none=>false))
theorem ak3:(List.range 1000).all avw=true:=by kernel_rfl
theorem pP{i:Nat}(h:i<1000):key i=[UInt8.ofNat (48+i / 1000),UInt8.ofNat (48+i / 100%10),UInt8.ofNat (48+i / 10%10),UInt8.ofNat (48+i%10)]/\kh (i:Int)=some (key i)/\i9 (i:Int)=some (key i):=by
 have g:=acr.1 ak3 i (af1.2 h);unfold avw at g;simp only[abF,aix]at g;obtain⟨m,b,d⟩:=g;refine⟨m,?_,?_⟩
 ·split at b
  ·rename_i k f;rw[f,eq_of_beq b]
  ·cases b
 ·split at d
  ·rename_i k f;rw[f,eq_of_beq d]
  ·cases d
theorem Dw{x y:Nat}(b:x<10)(d:y<10)(s t:List UInt8):Lib.compareBytes (UInt8.ofNat (48+x)::s) (UInt8.ofNat (48+y)::t)=if x<y then -1 else if y<x then 1 else Lib.compareBytes s t:=by
 have e:∀{u v:Nat},u<10->v<10->(UInt8.ofNat (48+u)<UInt8.ofNat (48+v)↔u<v):=λ{u v} f g=>by rw[UInt8.lt_iff_toNat_lt,apy,apy];omega
 rw[Lib.compareBytes];simp only[e b d,e d b]
theorem as8{i:Nat}(hi:i<1000)(f:j<1000):Lib.compareBytes (key i) (key j)=if i<j then -1 else if i=j then 0 else 1:=by
 rw[(pP hi).1,(pP f).1,Dw (by omega) (by omega),Dw (by omega) (by omega),Dw (by omega) (by omega),Dw (by omega) (by omega),Lib.compareBytes];have k:i=1000*(i / 1000)+100*(i / 100%10)+10*(i / 10%10)+i%10/\i / 100%10<10/\i / 10%10<10/\i%10<10:=by omega
 have m:j=1000*(j / 1000)+100*(j / 100%10)+10*(j / 10%10)+j%10/\j / 100%10<10/\j / 10%10<10/\j%10<10:=by omega
 generalize i / 1000=a at *;generalize i / 100%10=b at *;generalize i / 10%10=c at *;generalize i%10=d at *;generalize j / 1000=g at *;generalize j / 100%10=h at *;generalize j / 10%10=c' at *;generalize j%10=d' at *;repeat' split
 all_goals omega
def KU(q:Nat)(L:List dp):Prop:=∀i,i<L.length->∃d,L[i]?=some (key (q+i),d)
theorem In{L:List dp}{t:Nat}(m:KU q L)(hq:q+L.length<=1000)(y:t<1000):qF L (key t)=some ((min (t-q) L.length:Nat):Int):=by
 generalize B:min (t-q) L.length=r;obtain⟨x,h,k⟩:=fD (f:=cE L (key t)) (λz=>z.2.toNat-z.1.toNat) (λz=>∃a b:Nat,z=((a:Int),(b:Int))/\a<=r/\r<=b/\b<=L.length) (λx=>x=(r:Int))
  (λz A=>by
   obtain⟨a,b,rfl,h,k,p⟩:=A;unfold cE;by_cases u:a<b
   ·right;have em:ac (dD .u64 (IntKind.u64.wrap (ac ((a:Int)+(b:Int)))) (1:Int))=(((a+b) / 2:Nat):Int):=by
     rw[ay (x:=(a:Int)+(b:Int)) (by omega) (by omega),IntKind.wrap_u64,show((a:Int)+(b:Int))%18446744073709551616=((a+b:Nat):Int)by omega,show(1:Int)=((1:Nat):Int)from rfl,HE _ (by omega)];exact ay (by omega) (by omega)
    obtain⟨d,hd⟩:=m ((a+b) / 2) (by omega);have w:=as8 (i:=q+(a+b) / 2) (j:=t) (by omega) y;dsimp only;rw[ax (show(a:Int)<(b:Int)by omega),ax (show 0<=(1:Int)by omega)];simp only[abv,af,em,aV hd,f8,Qz2,oa,R9,w];by_cases g:q+(a+b) / 2<t
    ·rw[if_pos g,ax (show(-1:Int)<0 by omega)];exact⟨_,rfl,⟨(a+b) / 2+1,b,by rw[ay (by omega) (by omega)];push_cast;rfl,by omega,k,p⟩,by rw[ay (by omega) (by omega)];omega⟩
    ·rw[if_neg g,aP (by split<;>omega)];exact⟨_,rfl,⟨a,(a+b) / 2,rfl,h,by omega,by omega⟩,by omega⟩
   ·left;rw[aP (by dsimp only;omega)];exact⟨(a:Int),rfl,by omega⟩) (s:=(0,(L.length:Int))) ⟨0,L.length,rfl,by omega,by omega,by omega⟩ (by dsimp only;omega)
 subst k;unfold qF cW;refine(aei (λo:Option (Int×Bool)=>o.bind λr1=>some r1.1) ((aei (λo:Option Int=>o.bind _) h).trans (f8 ..))).trans ?_;by_cases g:r<L.length
 ·obtain⟨d,hd⟩:=m r g;simp only[ax (show(r:Int)<(L.length:Int)by omega),abv,aV hd,f8,Qz2,oa,R9]
 ·simp only[aP (show¬(r:Int)<(L.length:Int)by omega),ab7,f8,Qz2]
theorem adB(ds:List (List Int)):KU 0 (lvs ds):=λi hi=>by rw[fW]at hi;exact⟨_,by rw[uH hi,ahw]⟩
theorem RQ(o:1<=ds.length)(h:ds.length<=999){t:Nat}(m:t<=ds.length):∃p,oT (lvs ds) (key t)=some (p,0)/\ProofOk (lvs ds) (min t (ds.length-1)) p:=by
 have k:=fW ds;have b:=In (adB ds) (by omega) (show t<1000 by omega);rw[k,akV,afn m]at b;unfold oT;rw[BR (by omega),f8,b];simp only[aeA,ab7,f8,Qz2,k];by_cases d:t<ds.length
 ·obtain⟨p,f,g⟩:=Ox h d;rw[afn (by omega)];refine⟨p,?_,g⟩;simp only[ax (show(t:Int)<(ds.length:Int)by omega),abv,aV (uH d),f8,Qz2,aer,ay (x:=(t:Int)+1) (by omega) (by omega)];rw[show(t:Int)+1=((t+1:Nat):Int)by omega,f];rfl
 ·obtain⟨p,f,g⟩:=Ox h (i:=ds.length-1) (by omega);rw[Nat.min_eq_right (by omega)];refine⟨p,?_,g⟩;simp only[aP (show¬(t:Int)<(ds.length:Int)by omega),ab7,f8,Qz2,ay (x:=(t:Int)+1) (by omega) (by omega),ay (x:=(t:Int)-1) (by omega) (by omega)];rw[if_neg (by omega),if_pos (by omega),show(t:Int)-1=((ds.length-1:Nat):Int)by omega,show(ds.length:Int)=((ds.length-1+1:Nat):Int)by omega,f];rfl
theorem ae0{L:List dp}{i:Nat}{p:PF}(h:ProofOk L i p)(b:dM 16 (ul L.length (tree L)) r=false)(k:List UInt8):ij r k p=some ([],false,17):=by unfold ij;dsimp only;rw[h.u r,b];rfl
theorem akh(h:ds.length<=999){i:Nat}(hi:i<ds.length){p:PF}(f:ProofOk (lvs ds) i p)(m:dM 16 (ul (lvs ds).length (tree (lvs ds))) r=true):ij r (key i) p=some (hZ (ds.getD i []),true,0):=by
 obtain⟨x,d,u⟩:=f.l;rw[uH hi]at d;injection d with d;subst d;have k:KU i [(key i,hZ (ds.getD i []))]:=λj g=>by
  have:j=0:=by simpa using g
  subst this;exact⟨_,rfl⟩
 have b:=In (t:=i) k (by simp;omega) (by omega);rw[ak8,Nat.zero_min]at b;have o:ae [(key i,hZ (ds.getD i []))] ((0:Nat):Int)=some (key i,hZ (ds.getD i [])):=rfl;unfold ij;dsimp only;rw[f.u r,m,u,f8,b];simp only[afg,ab7,f8,Qz2,adC,ax (show((0:Nat):Int)<((1:Nat):Int)by omega),abv,o,aer]
theorem ac0(y:1<=ds.length)(h:ds.length<=999){p:PF}(d:ProofOk (lvs ds) (ds.length-1) p)(u:dM 16 (ul (lvs ds).length (tree (lvs ds))) r=true):ij r (key ds.length) p=some ([],false,0):=by
 obtain⟨x,f,w⟩:=d.l;have g:=fW ds;have o:=d.n;rw[uH (by omega)]at f;injection f with f;have m:KU (ds.length-1) [x]:=λj k=>by
  have:j=0:=by simpa using k
  subst this;exact⟨_,aei some f.symm⟩
 have b:=In (t:=ds.length) m (by simp;omega) (by omega);rw[show ds.length-(ds.length-1)=1 by omega,adC,Nat.min_self]at b;unfold ij;dsimp only;rw[d.u r,u,w,f8,b,d.f,o,g];simp only[afg,ab7,f8,Qz2,adC,aP (show¬((1:Nat):Int)<((1:Nat):Int)by omega),ax (show(0:Int)<((1:Nat):Int)by omega),abv,ay (x:=((ds.length-1:Nat):Int)+((1:Nat):Int)) (by omega) (by omega)];rw[bt (by omega)];rfl
theorem rE{n:Int}(h:bk x)(f:0<n)(g:n<=9223372036854775807):∃r,bI x n=some r/\0<=r/\r<n:=by
 unfold bI;obtain⟨m,o⟩:=h;have d:∀y:Int,0<=y->∃r,(some y:Option Int).bind (λk=>af (!(n==0)) (some (Int.tmod k n)))=some r/\0<=r/\r<n:=by
  intro y b;refine⟨Int.tmod y n,?_,?_,?_⟩
  ·simp only[f8,Qz2];rw[vY (by grind)]
  ·rw[agJ b];exact Int.emod_nonneg _ (by omega)
  ·rw[agJ b];exact Int.emod_lt_of_pos _ f
 grind[ax,ay]
theorem ab3{k:Int}(b:0<k)(h:(n:Int)<k):bI (n:Int) k=some (n:Int):=by unfold bI;rw[aP (by omega)];simp only[ab7,f8,Qz2];rw[vY (by grind),agJ (by omega),Int.emod_eq_of_lt (by omega) h]
theorem Ab(a:Nat)(b:Nat):Int.tmod (a:Int) (b:Int)=((a%b:Nat):Int):=by rw[agJ (by omega)];rfl
theorem H7(ha:a<4611686018427387904)(b:Nat):ac (Int.tdiv (a:Int) (b:Int))=((a / b:Nat):Int):=by have:a / b<=a:=Nat.div_le_self ..;rw[aip (by omega)];have e:((a:Int) / (b:Int))=((a / b:Nat):Int):=rfl;rw[e];clear e;generalize a / b=q at *;exact ay (by omega) (by omega)
theorem awM(h:bk x):∃e,ng x=some e/\iW e:=by
 obtain⟨r,d,g,k⟩:=rE h (n:=4096) (by omega) (by omega);obtain⟨n,rfl⟩:∃n:Nat,r=(n:Int):=⟨r.toNat,by omega⟩
 have key:∀a:Fin 4,∀b:Fin 5,∀c:Fin 4,iW ((a.val:Int),([0,0,1,8,4]:List Int).getD b.val 0,([0,0,2,8]:List Int).getD c.val 0):=by unfold iW;decide +kernel
 have f:ac (Int.tdiv (n:Int) 4)=((n / 4:Nat):Int):=H7 (by omega) 4;have m:ac (Int.tdiv (n:Int) 20)=((n / 20:Nat):Int):=H7 (by omega) 20;have o:Int.tmod ((n / 4:Nat):Int) 5=((n / 4%5:Nat):Int):=Ab (n / 4) 5;have p:Int.tmod ((n / 20:Nat):Int) 4=((n / 20%4:Nat):Int):=Ab (n / 20) 4;have t:Int.tmod (n:Int) 4=((n%4:Nat):Int):=Ab n 4;unfold ng;rw[d];simp only[f8,Qz2,af,show(!((4:Int)==0))=true from rfl,show(!((5:Int)==0))=true from rfl,show(!((20:Int)==0))=true from rfl,abv,f,m,o,p,t];rw[br (xs:=([0,0,1,8,4]:List Int)) 0 (show n / 4%5<5 by omega),br (xs:=([0,0,2,8]:List Int)) 0 (show n / 20%4<4 by omega)];exact⟨_,rfl,key ⟨n%4,by omega⟩ ⟨n / 4%5,by omega⟩ ⟨n / 20%4,by omega⟩⟩
theorem av2(x n:Int):fC [0,x] 1 n=bI x n:=by unfold fC;show(bI x n).bind some=_;cases bI x n<;>rfl
theorem afj(x y:Int)(n:Int)(h:i≠1):fC [0,x] i n=fC [0,y] i n:=by
 by_cases f:i=0
 ·subst f;rfl
 ·unfold fC;rw[BQ,BQ];have d:i<0\/(([0,x]:List Int).length:Int)<=i:=by
   rcases ag0 i 0 with b|b
   ·exact .inl b
   ·right;show(2:Int)<=i;omega
  have g:i<0\/(([0,y]:List Int).length:Int)<=i:=d;rw[ax d,ax g];rfl
theorem adP{y r r':Int}(f:bI x 4096=some r)(g:bI y 4096=some r')(b:Int.tmod r 14=Int.tmod r' 14)
  (d:∀i,dX (Int.tmod r 14) i (ac (Int.tdiv r 14))=dX (Int.tmod r' 14) i (ac (Int.tdiv r' 14))):dw [0,x]=dw [0,y]:=by
 rw[b]at d;have e:gA [0,x]=gA [0,y]:=by
  funext s;unfold gA;rw[afj x y 3 (show(0:Int)≠1 by omega)];by_cases hi:ac (1+s.2.2)=1
  ·rw[hi,av2,av2,f,g];simp only[f8,Qz2,d,b]
  ·rw[afj x y 4096 hi]
 unfold dw;simp only[e,afj x y 64 (show(4:Int)≠1 by omega)]
theorem ahE{q b:Int}(d:Int.tmod (ac (Int.tdiv q 2)) 4=Int.tmod (ac (Int.tdiv b 2)) 4)(f:Int.tmod q 2=Int.tmod b 2)(g:Int.tmod (ac (Int.tdiv q 2)) 2=Int.tmod (ac (Int.tdiv b 2)) 2)(k i:Int):cr k i q=cr k i b:=by unfold cr;simp only[d,f,g]
theorem Vq(i q:Int):∀k:Nat,k<6->dX (k:Int) i q=(cr (k:Int) i q).bind some
 |0,_=>by show(Option.bind (Option.bind _ _) _)=_;cases cr ((0:Nat):Int) i q<;>rfl
 |1,_=>by show(Option.bind (Option.bind _ _) _)=_;cases cr ((1:Nat):Int) i q<;>rfl
 |2,_=>by show(Option.bind (Option.bind _ _) _)=_;cases cr ((2:Nat):Int) i q<;>rfl
 |3,_=>by show(Option.bind (Option.bind _ _) _)=_;cases cr ((3:Nat):Int) i q<;>rfl
 |4,_=>by show(Option.bind (Option.bind _ _) _)=_;cases cr ((4:Nat):Int) i q<;>rfl
 |5,_=>by show(Option.bind (Option.bind _ _) _)=_;cases cr ((5:Nat):Int) i q<;>rfl
 |k+6,h=>by omega
theorem aiK{β:Type}(b:Bool)(o:Option α)(f:α->Option β):(af b o).bind f=af b (o.bind f):=by cases b<;>rfl
def uI:List Nat:=[8,8,8,8,8,8,3,3,2,2,3,3,3,18]
theorem as9(i:Int):∀k q:Nat,k<14->q<1000->dX (k:Int) i (q:Int)=dX (k:Int) i ((q%uI.getD k 1:Nat):Int):=by
 intro k q C hq;have t:∀(p a:Nat),a ∣ p->Int.tmod (q:Int) (a:Int)=Int.tmod ((q%p:Nat):Int) (a:Int):=λp a ha=>by rw[Ab,Ab,Nat.mod_mod_of_dvd _ ha]
 have d:∀(p a b:Nat),0<a->a*b ∣ p->Int.tmod (ac (Int.tdiv (q:Int) (a:Int))) (b:Int)=Int.tmod (ac (Int.tdiv ((q%p:Nat):Int) (a:Int))) (b:Int):=λp a b ha hd=>by have:q%p<=q:=Nat.mod_le ..;rw[H7 (by omega),H7 (by omega),Ab,Ab];obtain⟨m,rfl⟩:=hd;congr 1;rw[Nat.mul_assoc,Nat.mod_mul_right_div_self,Nat.mod_mul_right_mod]
 by_cases f:k<6
 ·rw[Vq i _ k f,Vq i _ k f];have y:uI.getD k 1=8:=by
   have:∀k:Fin 6,uI.getD k.val 1=8:=by decide
   exact this ⟨k,f⟩
  rw[y];have o:=d 8 2 4 (by omega) (by decide);have u:=t 8 2 (by decide);have w:=d 8 2 2 (by omega) (by decide);rw[ahE o u w]
 have A:Int.tmod (q:Int) 3=Int.tmod ((q%3:Nat):Int) 3:=t 3 3 (by decide);have z:Int.tmod (q:Int) 2=Int.tmod ((q%2:Nat):Int) 2:=t 2 2 (by decide);have B:Int.tmod (q:Int) 9=Int.tmod ((q%18:Nat):Int) 9:=t 18 9 (by decide);have h:Int.tmod (ac (Int.tdiv (q:Int) 9)) 2=Int.tmod (ac (Int.tdiv ((q%18:Nat):Int) 9)) 2:=d 18 9 2 (by omega) (by decide);have g:k=6\/k=7\/k=8\/k=9\/k=10\/k=11\/k=12\/k=13:=by omega
 rcases g with rfl|rfl|rfl|rfl|rfl|rfl|rfl|rfl;all_goals
  unfold dX qm
  simp only[show((6:Nat):Int)=6 from rfl,show((7:Nat):Int)=7 from rfl,show((8:Nat):Int)=8 from rfl,show((9:Nat):Int)=9 from rfl,show((10:Nat):Int)=10 from rfl,show((11:Nat):Int)=11 from rfl,show((12:Nat):Int)=12 from rfl,show((13:Nat):Int)=13 from rfl,Int.reduceBEq,ab7,abv,aiK,Option.bind_assoc,f8,Qz2,uI,List.getD_cons_succ,List.getD_cons_zero,A,z,B,h]
theorem afP(t:bk x):∃k q:Nat,k<14/\q<uI.getD k 1/\dw [0,x]=dw [0,((14*q+k:Nat):Int)]:=by
 obtain⟨r,p,g,h⟩:=rE t (n:=4096) (by omega) (by omega);obtain⟨n,rfl⟩:∃n:Nat,r=(n:Int):=⟨r.toNat,by omega⟩
 have b:∀k:Fin 14,0<uI.getD k.val 1/\uI.getD k.val 1<=18:=by decide
 have b:=b ⟨n%14,by omega⟩;dsimp only at b;have d:=ajQ (n / 14) b.1;refine⟨n%14,n / 14%uI.getD (n%14) 1,by omega,d,?_⟩;have m:Int.tmod (n:Int) 14=((n%14:Nat):Int):=Ab n 14;have v:ac (Int.tdiv (n:Int) 14)=((n / 14:Nat):Int):=H7 (by omega) 14;have f:Int.tmod ((14*(n / 14%uI.getD (n%14) 1)+n%14:Nat):Int) 14=(((14*(n / 14%uI.getD (n%14) 1)+n%14)%14:Nat):Int):=Ab (14*(n / 14%uI.getD (n%14) 1)+n%14) 14;have o:ac (Int.tdiv ((14*(n / 14%uI.getD (n%14) 1)+n%14:Nat):Int) 14)=(((14*(n / 14%uI.getD (n%14) 1)+n%14) / 14:Nat):Int):=H7 (by omega) 14;rw[show(14*(n / 14%uI.getD (n%14) 1)+n%14)%14=n%14 by omega]at f;rw[show(14*(n / 14%uI.getD (n%14) 1)+n%14) / 14=n / 14%uI.getD (n%14) 1 by omega]at o;refine adP p (ab3 (by omega) (by omega)) (by rw[m,f]) λi=>?_;rw[m,f,v,o];exact as9 i (n%14) (n / 14) (by omega) (by omega)
def avF(c:aD):Bool:=
 Nat.ble c.2.1.length 1000&&Nat.ble c.2.2.1.length 1000&&Nat.ble c.2.2.2.1.length 1000&&Nat.ble c.2.2.2.2.1.length 1000&&Nat.ble c.2.2.2.2.2.1.length 1000&&Nat.ble c.2.2.2.2.2.2.1.length 1000&&Nat.ble c.2.2.2.2.2.2.2.length 1000 &&
 c.1.all (λx=>decide (bk x.2.1))&&c.2.2.2.1.all (λv=>decide (bk v.2))&&c.2.2.2.2.2.2.2.all (λl=>Nat.ble l.length 1000)&&Nat.ble (c.2.2.2.1.length+c.2.2.2.2.2.2.1.length) 19
def okC(c:aD):Bool:=(match nI c with|some v=>v.2==0|none=>false)&&avF c
def rq(p:Option (List (List UInt8×List UInt8))):Bool:=match p.bind λr=>mD r pz with|some c=>okC c|none=>false
def fc(R:Nat):Option (List (List UInt8×List UInt8)):=dw [0,(R:Int)]
structure GoodC(c:aD):Prop where
 k:CodeOk c
 t:aaO c
 n:NumC c
 l:c.2.2.2.1.length+c.2.2.2.2.2.2.1.length<20
theorem aeC{c:aD}(h:okC c=true):GoodC c:=by
 unfold okC avF at h;simp only[abF,Nat.ble_eq,acr,agD]at h;obtain⟨b,⟨⟨⟨⟨⟨⟨⟨⟨⟨w,y⟩,z⟩,A⟩,B⟩,C⟩,D⟩,f⟩,g⟩,m⟩,E⟩:=h;have hs:lN c:=⟨by omega,by omega,by omega,by omega,by omega,by omega,by omega⟩
 obtain⟨k,e,v1,d⟩:=Z3 c hs;rw[v1]at b;have u:e=0:=eq_of_beq b;subst u;refine⟨⟨?_,⟨k,v1⟩⟩,⟨by omega,by omega,by omega,by omega,by omega,by omega,by omega⟩,⟨f,g,λl hl=>by have:=m l hl;omega⟩,by omega⟩;unfold VE at d;rcases d with⟨_,h⟩|⟨_,_,h⟩|⟨_,_,_,h⟩|⟨o,p,t,_⟩
 ·omega
 ·omega
 ·omega
 ·exact⟨o,p,t,hs⟩
set_option maxRecDepth 100000
theorem ax0:(List.range 8).all (λq=>rq (fc (14*q+0)))=true:=by kernel_rfl
theorem aw4:(List.range 8).all (λq=>rq (fc (14*q+1)))=true:=by kernel_rfl
theorem aw5:(List.range 4).all (λq=>rq (fc (14*q+2)))=true:=by kernel_rfl
theorem axm:(List.range 4).all (λq=>decide (fc (14*(q+4)+2)=fc (14*(q%4)+2)))=true:=by kernel_rfl
theorem aw1:(List.range 2).all (λq=>rq (fc (14*q+3)))=true:=by kernel_rfl
theorem aw8:(List.range 6).all (λq=>decide (fc (14*(q+2)+3)=fc (14*(q%2)+3)))=true:=by kernel_rfl
theorem aw2:(List.range 2).all (λq=>rq (fc (14*q+4)))=true:=by kernel_rfl
theorem axJ:(List.range 6).all (λq=>decide (fc (14*(q+2)+4)=fc (14*(q%2)+4)))=true:=by kernel_rfl
theorem axv:(List.range 4).all (λq=>rq (fc (14*q+5)))=true:=by kernel_rfl
theorem aw0:(List.range 4).all (λq=>decide (fc (14*(q+4)+5)=fc (14*(q%4)+5)))=true:=by kernel_rfl
theorem axY:(List.range 3).all (λq=>rq (fc (14*q+6)))=true:=by kernel_rfl
theorem axQ:(List.range 3).all (λq=>rq (fc (14*q+7)))=true:=by kernel_rfl
theorem aw9:(List.range 2).all (λq=>rq (fc (14*q+8)))=true:=by kernel_rfl
theorem axp:(List.range 2).all (λq=>rq (fc (14*q+9)))=true:=by kernel_rfl
theorem auf:(List.range 3).all (λq=>rq (fc (14*q+10)))=true:=by kernel_rfl
theorem av1:(List.range 3).all (λq=>rq (fc (14*q+11)))=true:=by kernel_rfl
theorem aws:(List.range 3).all (λq=>rq (fc (14*q+12)))=true:=by kernel_rfl
theorem atP:(List.range 18).all (λq=>rq (fc (14*q+13)))=true:=by kernel_rfl
theorem lB{k:Nat}(h:(List.range n).all (λq=>rq (fc (14*q+k)))=true)(hq:q<n):rq (fc (14*q+k))=true:=acr.1 h q (af1.2 hq)
theorem A8{m k:Nat}(f:0<m)(h:(List.range m).all (λq=>rq (fc (14*q+k)))=true)(d:(List.range (n-m)).all (λq=>decide (fc (14*(q+m)+k)=fc (14*(q%m)+k)))=true)(hq:q<n):rq (fc (14*q+k))=true:=by
 by_cases b:q<m
 ·exact lB h b
 ·have:=acr.1 d (q-m) (af1.2 (by omega));rw[agD,show q-m+m=q by omega]at this;rw[this];exact lB h (ajQ _ f)
theorem akA:∀k q:Nat,k<14->q<uI.getD k 1->rq (fc (14*q+k))=true
 |0,q,_,h=>lB ax0 h
 |1,q,_,h=>lB aw4 h
 |2,q,_,h=>A8 (n:=8) (m:=4) (by omega) aw5 axm h
 |3,q,_,h=>A8 (n:=8) (m:=2) (by omega) aw1 aw8 h
 |4,q,_,h=>A8 (n:=8) (m:=2) (by omega) aw2 axJ h
 |5,q,_,h=>A8 (n:=8) (m:=4) (by omega) axv aw0 h
 |6,q,_,h=>lB axY h
 |7,q,_,h=>lB axQ h
 |8,q,_,h=>lB aw9 h
 |9,q,_,h=>lB axp h
 |10,q,_,h=>lB auf h
 |11,q,_,h=>lB av1 h
 |12,q,_,h=>lB aws h
 |13,q,_,h=>lB atP h
 |k+14,q,h,_=>by omega
theorem Tl(g:bk x):∃c,jC x=some (c,c)/\GoodC c:=by
 obtain⟨k,q,f,hq,e⟩:=afP g;have h:=akA k q f hq;unfold rq fc at h;rw[<-e]at h;unfold jC rk;cases d:dw [0,x]with
 |none=>rw[d]at h;cases h
 | some p=>
  rw[d]at h;simp only[f8,Qz2]at h|-;cases b:mD p pz with
  |none=>rw[b]at h;cases h
  |some c=>
   rw[b]at h;exact⟨c,rfl,aeC h⟩
set_option maxRecDepth 4000
inductive Leads{S R:Type}(f:S->Option (S⊕R)):Nat->S->R->Prop
 |stop {s:S} {r:R}:f s=some (.inr r)->Leads f 1 s r
 |step {n:Nat} {s t:S} {r:R}:f s=some (.inl t)->Leads f n t r->Leads f (n+1) s r
theorem Xk{S:Type}{f:S->Option (S⊕R)}{s:S}{r:R}(h:Leads f n s r):∀k,n<=k->ov f k s=some r:=by
 induction h with
 |stop h=>
  intro k b;cases k with
  |zero=>omega
  |succ k=>simp only[ov,h,f8,Qz2]
 |step h _ d=>
  intro k b;cases k with
  |zero=>omega
  |succ k=>simp only[ov,h,f8,Qz2];exact d k (by omega)
theorem PJ{S:Type}{f:S->Option (S⊕R)}{s:S}{r:R}(h:Leads f n s r)(b:n<=1000):Itr.it f s=some r:=
 Xk h EL (show n<=9223372036854775808 by omega)
theorem arN(W:List Int)(m:W.length<=1000):∃w,ya W=some w/\w.length<=W.length:=by
 obtain⟨r,d,j,rfl,g⟩:=fD (f:=rZ W) (λz=>z.toNat) (λz=>∃j:Nat,z=(j:Int)/\j<=W.length) (λr=>∃j:Nat,r=(j:Int)/\j<=W.length)
  (λz k=>by
   obtain⟨j,rfl,p⟩:=k;unfold rZ;cases j with
   |zero=>
    left;rw[aP (show¬(0:Int)<((0:Nat):Int)by omega)];exact⟨0,rfl,0,rfl,by omega⟩
   |succ j=>
    have b:ac (((j+1:Nat):Int)-1)=(j:Int):=by rw[ay (by omega) (by omega)];omega
    have h:=aV (acz (show j<W.length by omega));rw[ax (show(0:Int)<((j+1:Nat):Int)by omega)];simp only[abv,b,h,f8,Qz2];cases (W[j]==(0:Int))
    ·left;exact⟨_,rfl,j+1,rfl,by omega⟩
    ·right;exact⟨_,rfl,⟨j,rfl,by omega⟩,by omega⟩) (s:=(W.length:Int)) ⟨W.length,rfl,by omega⟩ (by omega)
 have hl:((W.take (j:Int).toNat).drop (0:Int).toNat).length=j:=by rw[ac6];show(List.drop 0 _).length=j;rw[agY,afi];omega
 refine⟨(W.take (j:Int).toNat).drop (0:Int).toNat,?_,by rw[hl];exact g⟩;unfold ya;refine(aei (λo:Option Int=>o.bind _) d).trans ?_;rw[f8,ax (show 0<=(0:Int)/\(0:Int)<=(j:Int)/\(j:Int)<=(W.length:Int)by omega)];simp only[af,abv];rw[lX (by rw[hl];omega)];rfl
def L8(c:CC)(e:bO)(seed:Int)(s t:aG):Prop:=∃p k v,eW c e s=some (p,0)/\ja s p seed=some k/\eN c e s k=some (t,v,0)
theorem x9(c:CC)(e:bO)(i:Int)(s:aG)(w:List Int)(seed:Int):qt c e (i,oF s (w,seed)) =
  (bif decide (aW s<0)then
   (eW c e s).bind λr1=>
   bif r1.2 != (0:Int)then(bif r1.2 != (0:Int)then none else some (Sum.inr (w,0)))
   else
    bif decide ((1:Int)<(r1.1.2.2.2.length:Int))then
     (ja s r1.1 seed).bind λb=>
     af (aN w.length ([b]:List Int).length 8) (
      (ae (w++([b]:List Int)) i).bind λ_=>
      (ae (w++([b]:List Int)) i).bind λv=>
      kT c e (i,oF s (w,seed)) (ac (i+(1:Int))) v (w++([b]:List Int)))
    else kT c e (i,oF s (w,seed)) i 0 w
  else some (Sum.inr (w,0))):=rfl
theorem IY{w:List Int}{seed:Int}{b k:Int}{w':List Int}{t:aG}{v:List mR}(h:eN c e s k=some (t,v,0)) :
  kT c e (i,oF s (w,seed)) b k w'=some (.inl (b,oF t (w',seed))):=by
 show(eN c e s k).bind _=_;rw[h];rfl
theorem as4(p:bN)(k:Int)(l:List mR)(m:Ee)(K:Ee->Option R)(w:m.1.length<=1000)(y:m.2.1.length<=1000)(z:m.2.2.1.length<=1000) :
  ∃b:Ee,vr p k l m K=K b/\b.2.2.2=m.2.2.2/\b.1.length=m.1.length+(if 1<p.2.2.2.length then 1 else 0)/\b.2.1.length<=m.2.1.length+1/\b.2.2.1.length<=m.2.2.1.length+1:=by
 have key:∀d:List (bN×Int),∃b:Ee,(bif decide ((0:Int)<=p.2.1)then
   af (aN m.2.1.length ([p.2.1]:List Int).length 8) (
    af (aN m.2.2.1.length ([l]:List (List (Int×Int×Bool))).length 24) (K (d,m.2.1++[p.2.1],m.2.2.1++[l],m.2.2.2)))
  else K (d,m.2.1,m.2.2.1,m.2.2.2))=K b/\b.2.2.2=m.2.2.2/\b.1=d/\b.2.1.length<=m.2.1.length+1/\b.2.2.1.length<=m.2.2.1.length+1:=λd=>by
  cases decide ((0:Int)<=p.2.1)
  ·exact⟨(d,m.2.1,m.2.2.1,m.2.2.2),rfl,rfl,rfl,by dsimp only;omega,by dsimp only;omega⟩
  ·refine⟨(d,m.2.1++[p.2.1],m.2.2.1++[l],m.2.2.2),?_,rfl,rfl,by dsimp only;rw[acA];exact ad3 _,by dsimp only;rw[acA];exact ad3 _⟩;rw[abv,adC,adC,bh (by omega) (by omega),bh (by omega) (by omega)];rfl
 unfold vr;dsimp only;by_cases u:1<p.2.2.2.length
 ·obtain⟨b,f,g,h,o,t⟩:=key (m.1++[(p,k)]);refine⟨b,?_,g,by rw[h,if_pos u,acA];rfl,o,t⟩;rw[ax (show(1:Int)<(p.2.2.2.length:Int)by omega),abv,adC,bh (by omega) (by omega)];exact f
 ·obtain⟨b,f,g,h,o,t⟩:=key m.1;refine⟨b,?_,g,by rw[h,if_neg u];rfl,o,t⟩;rw[aP (show¬(1:Int)<(p.2.2.2.length:Int)by omega),ab7];exact f
theorem QA(c:CC)(e:bO)(i:Int)(s d:aG)(b:Bs):mX c e (i,oF s (oF d b)) =
  af (aN b.2.1.length ([s]:List aJ).length 200) (
   bif decide (aW s<0)then
    (eW c e s).bind λr1=>
    bif r1.2 != (0:Int)then vC c s r1.2 (b.2.1++[s]) b.2.2.2.2.2.2.2.2.2
    else
     bif decide ((1:Int)<(r1.1.2.2.2.length:Int))then
      (qM b.2.2.2.2.2.2.2.2.2.2.2.2.2 i).bind λk=>lD c e s (b.2.1++[s]) b (ac (i+(1:Int))) k r1.1
     else lD c e s (b.2.1++[s]) b i 0 r1.1
   else(oW c s (b.2.1++[s]) b.2.2.2.2.2.2.2.2.2).map Sum.inr):=rfl
theorem Rj{out:List aG}{b:Bs}{k:Int}{p:bN}{t:aG}{v:List mR}(h:eN c e s k=some (t,v,0))(g:b.2.2.2.2.2.2.2.2.2.1.length<=1000)(o:b.2.2.2.2.2.2.2.2.2.2.1.length<=1000)(u:b.2.2.2.2.2.2.2.2.2.2.2.1.length<=1000) :
  ∃d:Bs,lD c e s out b i k p=some (.inl (i,oF t (oF s d)))/\d.2.1=out/\d.2.2.2.2.2.2.2.2.2.2.2.2.2=b.2.2.2.2.2.2.2.2.2.2.2.2.2/\d.2.2.2.2.2.2.2.2.2.1.length=b.2.2.2.2.2.2.2.2.2.1.length+(if 1<p.2.2.2.length then 1 else 0) /\
   d.2.2.2.2.2.2.2.2.2.2.1.length<=b.2.2.2.2.2.2.2.2.2.2.1.length+1/\d.2.2.2.2.2.2.2.2.2.2.2.1.length<=b.2.2.2.2.2.2.2.2.2.2.2.1.length+1:=by
 obtain⟨f,w,y,z,A,B⟩:=as4 p k v b.2.2.2.2.2.2.2.2.2 (λm=>some (Sum.inl (i,oF t (oF s (0,out,b.2.2.1,b.2.2.2.1,b.2.2.2.2.1,b.2.2.2.2.2.1,b.2.2.2.2.2.2.1,b.2.2.2.2.2.2.2.1,b.2.2.2.2.2.2.2.2.1,m)))):Ee->Option ((Int×xZ (xZ Bs))⊕RR_)) g o u;refine⟨(0,out,b.2.2.1,b.2.2.2.1,b.2.2.2.2.1,b.2.2.2.2.2.1,b.2.2.2.2.2.2.1,b.2.2.2.2.2.2.2.1,b.2.2.2.2.2.2.2.2.1,f),?_,rfl,by show f.2.2.2.2=_;rw[y],z,A,B⟩;unfold lD;rw[h,f8];simp only[aeA,ab7];exact w
def Ez(s:aG):eU:=(s.2.2.2.2.2.2.2.2.2.1,s.2.2.2.2.2.2.2.2.2.2.2,s.2.2.2.2.2.2.2.2.2.2.1,s.2.2.2.2.2.2.2.1,[])
theorem Jd(h:CodeOk c)(hs:OnRun c s)(f:c.2.2.2.1.length+c.2.2.2.2.2.2.1.length<20)(k:¬aW s<0){s0:aG}{b:Bs}
  (t:b.2.2.2.2.2.2.2.2.2.2.2.2.2.length<=b.2.2.2.2.2.2.2.2.2.1.length) (o:b.2.1.length<=1000) (p:b.2.2.2.2.2.2.2.2.2.1.length<=1000):∃R,mX c e (i,oF s (oF s0 b))=some (.inr (b.2.1++[s],R,0))/\R.1=Ez s:=by
 obtain⟨L,d⟩:=asW h hs f;obtain⟨w,m,u⟩:=arN b.2.2.2.2.2.2.2.2.2.2.2.2.2 (by omega);have g:mX c e (i,oF s (oF s0 b))=(oW c s (b.2.1++[s]) b.2.2.2.2.2.2.2.2.2).map Sum.inr:=by rw[QA,aP k,adC,bh (by omega) (by omega)];rfl
 rw[g];unfold oW;rw[m,f8,aP (by omega),ab7,d,f8];exact⟨_,rfl,rfl⟩
theorem aiO(I:CodeOk c)(hC:InC c)(M:c.2.2.2.1.length+c.2.2.2.2.2.2.1.length<20)(Z:iW e){seed:Int}(hsd:bk seed):∀(N:Nat) (s:aG),N<=200->OnRun c s->InS s->(aW s<0->ur s<=N) ->
  ∃ (v:List Int) (l:List aG),v.length+1<=l.length/\l.length<=N+2/\l[0]?=some s/\(∀t:aG,l[l.length-1]?=some t->¬aW t<0)/\(∀t∈l,OnRun c t/\InS t)/\(∀i t u,l[i]?=some t->l[i+1]?=some u->L8 c e seed t u) /\
   (∀w:List Int,w.length+N<=500->Leads (qt c e) l.length ((w.length:Int),oF s (w,seed)) (w++v,0)) /\
   (∀(P:List Int) (s0:aG) (b:Bs),b.2.2.2.2.2.2.2.2.2.2.2.2.2=P++v->P.length+N<=500->b.2.1.length+N<=500->b.2.2.2.2.2.2.2.2.2.1.length=P.length->b.2.2.2.2.2.2.2.2.2.2.1.length+N<=500->b.2.2.2.2.2.2.2.2.2.2.2.1.length+N<=500 ->
    ∃R,Leads (mX c e) l.length ((P.length:Int),oF s (oF s0 b)) (b.2.1++l,R,0)/\∀t,l[l.length-1]?=some t->R.1=Ez t):=by
 intro N;induction N with
 |zero=>
  intro s hN hs L X;by_cases o:aW s<0
  ·have h1:=(hs.i.v o).2.1;have h2:=X o;unfold ur at h2;omega
  refine⟨[],[s],by simp,by simp,rfl,λt d=>by injection d with d;subst d;exact o,λt d=>by rcases ade.1 d with rfl;exact⟨hs,L⟩,λi t u _ h=>by simp at h,λw hw=>?_,λP s0 b D Y F g G H=>?_⟩
  ·refine .stop ?_;rw[x9,aP o,ad0];rfl
  ·obtain⟨R,A,hq⟩:=Jd I hs M o (e:=e) (i:=(P.length:Int)) (s0:=s0) (b:=b) (by rw[D,g,ad0];omega) (by omega) (by rw[g];omega);exact⟨R,.stop A,λt d=>by injection d with d;subst d;exact hq⟩
 | succ N ih=>
  intro s hN hs L X;by_cases o:aW s<0;rotate_left
  ·refine⟨[],[s],by simp,by simp,rfl,λt d=>by injection d with d;subst d;exact o,λt d=>by rcases ade.1 d with rfl;exact⟨hs,L⟩,λi t u _ h=>by simp at h,λw hw=>?_,λP s0 b D Y F g G H=>?_⟩
   ·refine .stop ?_;rw[x9,aP o,ad0];rfl
   ·obtain⟨R,A,hq⟩:=Jd I hs M o (e:=e) (i:=(P.length:Int)) (s0:=s0) (b:=b) (by rw[D,g,ad0];omega) (by omega) (by rw[g];omega);exact⟨R,.stop A,λt d=>by injection d with d;subst d;exact hq⟩
  have O:=aqn I Z hs.i o;have hpos:=abo I.v e (EU I Z hs.i o).2;obtain⟨k,k1,k2,k3,k4,k5⟩:=acD s (iP c e s) hsd;have hkl:0<=k/\k<((iP c e s).2.2.2.length:Int):=⟨k2,by omega⟩
  obtain⟨t,vv,K,d2,d3,d4⟩:=axG I Z hs o hkl;have hLs:=X o;obtain⟨v,l,a1,a2,a3,az,a4,a5,a6,a7⟩:=ih t (by omega) d2 (d4 hC L ⟨by omega,by omega⟩) (λh=>by have:=d3 h;omega);generalize hp:iP c e s=p at *;have hst:L8 c e seed s t:=⟨p,k,vv,O,k1,K⟩
  have y:∀u:aG,(s::l)[(s::l).length-1]?=some u->l[l.length-1]?=some u:=λu f=>by rw[aeH,show l.length+1-1=(l.length-1)+1 by omega,ajg]at f;exact f
  have hz:∀u:aG,(s::l)[(s::l).length-1]?=some u->¬aW u<0:=λu f=>az u (y u f);have C:∀u∈s::l,OnRun c u/\InS u:=λu f=>by
   rcases aen.1 f with rfl|f
   ·exact⟨hs,L⟩
   ·exact a4 u f
  have B:∀i x u,(s::l)[i]?=some x->(s::l)[i+1]?=some u->L8 c e seed x u:=λi x u z f=>by
   cases i with
   |zero=>
    rw[agE]at z;rw[ajg,a3]at f;injection z with z;injection f with f;subst z f;exact hst
   |succ i=>
    rw[ajg]at z f;exact a5 i x u z f
  by_cases Q:1<p.2.2.2.length
  ·refine⟨k::v,s::l,by simp only[aeH];omega,by simp only[aeH];omega,rfl,hz,C,B,λw hw=>?_,λP s0 b D Y F g G H=>?_⟩
   ·have S:(w++[k]).length=w.length+1:=by rw[acA];rfl
    have h6:=a6 (w++[k]) (by rw[S];omega);rw[S,aeh]at h6;refine .step ?_ h6;have z:ae (w++[k]) (w.length:Int)=some k:=aV (by rw[afT (by omega),ak8];rfl);rw[x9,ax o,O];simp only[abv,f8,Qz2,aeA,ab7,ax (show(1:Int)<(p.2.2.2.length:Int)by omega),k1,af,adC,bh (m:=w.length) (k:=1) (b:=8) (by omega) (by omega),z];rw[IY K,ay (by omega) (by omega)];push_cast;rfl
   ·obtain⟨T,U,J,V,W,b5,b6⟩:=Rj (e:=e) (s:=s) (out:=b.2.1++[s]) (b:=b) (i:=ac ((P.length:Int)+1)) (p:=p) K (by omega) (by omega) (by omega);have E:(P++[k]).length=P.length+1:=by rw[acA];rfl
    obtain⟨R,A,hq⟩:=a7 (P++[k]) s T (by rw[V,D,aeh];rfl) (by rw[E];omega) (by rw[J,acA,adC];omega) (by rw[W,if_pos Q,E];omega) (by omega) (by omega);rw[E,J,aeh]at A;refine⟨R,.step ?_ A,λu f=>hq u (y u f)⟩;have z:qM b.2.2.2.2.2.2.2.2.2.2.2.2.2 (P.length:Int)=some k:=by have hx':ae (P++k::v) (P.length:Int)=some k:=aV (by rw[afT (by omega),ak8];rfl);unfold qM;rw[D,ax (by rw[acA,aeH];omega),hx'];rfl
    rw[QA,ax o,O];simp only[abv,f8,Qz2,aeA,ab7,ax (show(1:Int)<(p.2.2.2.length:Int)by omega),af,adC,bh (m:=b.2.1.length) (k:=1) (b:=200) (by omega) (by omega),z];rw[U,ay (by omega) (by omega)];push_cast;rfl
  ·have hk0:k=0:=k5 (by omega);subst hk0;refine⟨v,s::l,by simp only[aeH];omega,by simp only[aeH];omega,rfl,hz,C,B,λw hw=>?_,λP s0 b D Y F g G H=>?_⟩
   ·refine .step ?_ (a6 w (by omega));rw[x9,ax o,O];simp only[abv,f8,Qz2,aeA,ab7,aP (show¬(1:Int)<(p.2.2.2.length:Int)by omega)];exact IY K
   ·obtain⟨T,U,J,V,W,b5,b6⟩:=Rj (e:=e) (s:=s) (out:=b.2.1++[s]) (b:=b) (i:=(P.length:Int)) (p:=p) K (by omega) (by omega) (by omega);obtain⟨R,A,hq⟩:=a7 P s T (by rw[V,D]) (by omega) (by rw[J,acA,adC];omega) (by rw[W,if_neg Q,g,afu]) (by omega) (by omega);rw[J,aeh]at A;refine⟨R,.step ?_ A,λu f=>hq u (y u f)⟩;rw[QA,ax o,O];simp only[abv,f8,Qz2,aeA,ab7,aP (show¬(1:Int)<(p.2.2.2.length:Int)by omega),af,adC,bh (m:=b.2.1.length) (k:=1) (b:=200) (by omega) (by omega)];exact U
structure HonestL(c:CC)(e:bO)(seed:Int)(l:List aG)(ds:List (List Int))(res:eU):Prop where
 n:1<=l.length/\l.length<=200
 s:l[0]?=some (fQ c e [])
 r:∀t∈l,OnRun c t/\EncS t
 z:∀t:aG,l[l.length-1]?=some t->¬aW t<0/\res=((Ez t).1,(Ez t).2.1,(Ez t).2.2.1,(Ez t).2.2.2.1,lh ds)
 w:∀(i:Nat) (t u:aG),l[i]?=some t->l[i+1]?=some u->L8 c e seed t u
 d:ds=l.map DV
theorem abN(P:GoodC c){a:iz}(z:iW a.2.2.1)(B:bk a.2.2.2) :
  ∃l ds res,m7 c a=some (res,l,0)/\pZ c a=some (ds,l,0)/\HonestL c a.2.2.1 a.2.2.2 l ds res:=by
 obtain⟨k,t,nn,y⟩:=P;have E:=ayo k.v nn;obtain⟨Q,S⟩:=abV k.v a.2.2.1 [];obtain⟨T,_⟩:=ahQ k.v E z;have p:=Oi k z [] (by simp);obtain⟨v,l,U,V,G,K,w,H,I,J⟩:=aiO k E y z B 129 (fQ c a.2.2.1 []) (by omega) Q T S;have d:∀t∈l,EncS t:=λu F=>ac3 k t (w u F).1 (w u F).2;have L:uC c a.2.2.1 [] a.2.2.2=some (v,0):=by have h:=PJ (I [] (by simp)) (by omega);unfold uC;rw[p,f8];simp only[aeA,ab7];exact h
 obtain⟨R,O,hq⟩:=J [] (fQ c a.2.2.1 []) (0,[],0,[],0,0,0,0,[],[],[],[],[],v) rfl (by simp) (by simp) rfl (by simp) (by simp);have C:wM c a.2.2.1 [] v=some (l,R,0):=by have h:=PJ O (by omega);unfold wM;rw[p,f8];simp only[aeA,ab7];rw[aP (by omega),ab7];exact h
 have A:=arj (l:=l) (by omega) (by omega) d;have M:ym c a.2.2.1 [] v=some (((R.1.1,R.1.2.1,R.1.2.2.1,R.1.2.2.2.1,lh (l.map DV)),R.2),0):=by unfold ym;rw[C,f8];simp only[aeA,ab7,A,f8,Qz2]
 have N:ui c a.2.2.1 [] v=some (l,0):=by unfold ui;rw[C];rfl
 have D:m7 c a=some ((R.1.1,R.1.2.1,R.1.2.2.1,R.1.2.2.2.1,lh (l.map DV)),l,0):=by unfold m7;rw[L,f8];simp only[aeA,ab7,M,N,f8,Qz2]
 have hd:=HH (f:=kn ((R.1.1,R.1.2.1,R.1.2.2.1,R.1.2.2.2.1,lh (l.map DV)),l,0)) (λi q=>(i,q)) l (λq t=>q++[DV t]) (λq=>q) (λi q=>q.length=i) (by omega)
  (λi t q g hq=>by
   have hi:=cG g;refine⟨?_,by rw[acA,hq];rfl⟩;unfold kn;simp only[ax (show(i:Int)<(l.length:Int)by omega),abv,aV g,f8,Qz2,Ag (d t (aeK g)),af,adC,bh (m:=q.length) (k:=1) (b:=16) (by omega) (by omega),ay (x:=(i:Int)+1) (by omega) (by omega)];rfl)
  (λq _=>by
   unfold kn;rw[aP (by dsimp only;omega)];rfl) (a:=[]) rfl
 rw[Ai,ae4]at hd;refine⟨l,l.map DV,_,D,?_,⟨⟨by omega,by omega⟩,G,λt g=>⟨(w t g).1,d t g⟩,λt g=>⟨K t g,by rw[hq t g]⟩,H,rfl⟩⟩;unfold pZ;rw[D,f8];simp only[aeA,ab7];refine(aei (λo:Option (List (List Int))=>o.bind _) hd).trans ?_;rfl
abbrev Cl:Type:=List (List Int)
theorem QH{a:List α}(b:0<=i)(d:i<a.length):∃v,ae a i=some v:=
 ⟨a[i.toNat]'(by omega),by
  have:=aV (xs:=a) (i:=i.toNat) (acz (by omega));rwa [anc b]at this⟩
theorem wy{a:List α}(h:i<0\/(a.length:Int)<=i):ae a i=none:=by
 unfold ae;split
 ·exact List.getElem?_eq_none (by omega)
 ·rfl
def AK:Option (List Int)->Option (List Int)->Bool
 |some a,some b=>dM 16 a b
 |none,none=>true
 |_,_=>false
def jM(a b:Cl)(i:Int):Bool:=AK (ae a i) (ae b i)
def qJ(a b:Cl)(i:Int):Bool:=(ae a i).isSome&&jM a b i
theorem As(n:Nat)(x:List Int):dM n x x=true:=by simp[dM]
theorem ahJ(n:Nat)(x y:List Int):dM n x y=dM n y x:=by unfold dM;rw[Bool.eq_iff_iff];simp only[acr,aix];exact⟨λh i hi=>(h i hi).symm,λh i hi=>(h i hi).symm⟩
theorem WJ(x:Option (List Int)):AK x x=true:=by cases x<;>simp[AK,As]
theorem Dz(a:Cl)(i:Int):bQ a i=some (ae a i):=by
 unfold bQ;by_cases b:i<0
 ·rw[ax b,wy (.inl b)];rfl
 ·by_cases d:(a.length:Int)<=i
  ·rw[aP b,ax d,wy (.inr d)];rfl
  ·obtain⟨v,f⟩:=QH (a:=a) (i:=i) (by omega) (by omega);rw[aP b,aP d,f];rfl
theorem EJ(x y:Option (List Int)):gv x y=some (AK x y):=by cases x<;>cases y<;>rfl
theorem RW(a b:Cl)(i:Int):lG a b i=some (qJ a b i):=by
 unfold lG qJ jM;rw[Dz,Dz];simp only[f8,Qz2];cases h:ae a i with
 |none=>rfl
 |some v=>
  show((some (some v)).bind λd=>(some (ae b i)).bind λf=>(gv d f).bind λg=>some g)=_;simp only[f8,Qz2,EJ];rfl
theorem wF{a b:Cl}(h:i<0\/((a.length:Int)<=i/\(b.length:Int)<=i)):jM a b i=true:=by unfold jM;rw[wy (a:=a) (by omega),wy (a:=b) (by omega)];rfl
theorem U0{a b:Cl}(h:jM a b i=false):0<=i/\(i<a.length\/i<b.length):=by
 rcases ag0 i 0 with d|d
 ·rw[wF (.inl d)]at h;cases h
 ·refine⟨d,?_⟩;rcases ag0 i a.length with f|f
  ·exact .inl f
  ·rcases ag0 i b.length with g|g
   ·exact .inr g
   ·rw[wF (.inr ⟨f,g⟩)]at h;cases h
theorem ajE{a b:Cl}(h:qJ a b i=true):0<=i/\i<a.length/\jM a b i=true:=by
 unfold qJ at h;simp only[abF]at h;rcases ag0 i 0 with d|d
 ·rw[wy (a:=a) (.inl d)]at h;cases h.1
 ·rcases ag0 i a.length with f|f
  ·exact⟨d,f,h.2⟩
  ·rw[wy (a:=a) (.inr f)]at h;cases h.1
theorem agH{a b:Cl}{m h:Int}(k:0<=m)(o:m<h)(hd:jM a b h=false)(hs:qJ a b m=false):jM a b m=false:=by
 cases d:ae a m with
 |some v=>simpa[qJ,d]using hs
 | none=>
  have ha:(a.length:Int)<=m:=by
   rcases ag0 m a.length with f|f
   ·obtain⟨v,g⟩:=QH k f;rw[g]at d;cases d
   ·exact f
  have:=(U0 hd).2;obtain⟨v,g⟩:=QH (a:=b) k (by omega);simp[jM,d,g,AK]
structure Gam(a b:Cl)(g:Int×Int×List Int):Prop where
 lo : -1<=g.1
 hi:g.1<g.2.1
 df:jM a b g.2.1=false
 sh:g.1 = -1\/qJ a b g.1=true
 n:(g.2.2.length:Int)+(g.2.1-g.1)<=1100
theorem Rw{a b:Cl}(ha:a.length<=1000)(d:b.length<=1000):oN a b=some false:=by unfold oN;rw[aP (by split<;>omega)]
theorem aid{a b:Cl}(ha:a.length<=1000)(p:b.length<=1000):(lE a b=some ((0,0,[]),6)/\∀i:Int,jM a b i=true)\/∃g,lE a b=some (g,0)/\Gam a b g:=by
 have em:(if(b.length:Int)>(a.length:Int)then(b.length:Int)else(a.length:Int))=((max a.length b.length:Nat):Int):=by split<;>omega
 obtain⟨r,o,d⟩:=fD (f:=oz a b) (λz=>(z+1).toNat) (λz=>∃n:Nat,z=(n:Int)-1/\n<=1000/\∀i:Int,(n:Int)<=i->jM a b i=true) (λr=>match r with|.inl _=>∀i:Int,jM a b i=true|.inr x=>x.2=0/\Gam a b x.1)
  (λz u=>by
   obtain⟨n,rfl,w,hs⟩:=u;unfold oz;cases n with
   |zero=>
    left;rw[aP (by omega)];refine⟨.inl (),rfl,λi=>?_⟩;rcases ag0 i 0 with h|h
    ·exact wF (.inl h)
    ·exact hs i (by omega)
   | succ n=>
    have e:((n+1:Nat):Int)-1=(n:Int):=by omega
    rw[e,ax (by omega)];simp only[abv,Dz,f8,Qz2,EJ];have m:AK (ae a (n:Int)) (ae b (n:Int))=jM a b n:=rfl;rw[m];cases k:jM a b n
    ·left;exact⟨.inr ((-1,(n:Int),[]),0),rfl,rfl,⟨af3 _,by dsimp only;omega,k,.inl rfl,by dsimp only;simp;omega⟩⟩
    ·right;refine⟨ac ((n:Int)-1),rfl,⟨n,ay (by omega) (by omega),by omega,λi hi=>?_⟩,by rw[ay (by omega) (by omega)];omega⟩;by_cases t:i=n
     ·rw[t];exact k
     ·exact hs i (by omega)) (s:=((max a.length b.length:Nat):Int)-1) ⟨max a.length b.length,rfl,by omega,λi hi=>wF (.inr ⟨by omega,by omega⟩)⟩ (by omega)
 unfold lE;rw[Rw ha p,em,ay (by omega) (by omega)];simp only[f8,Qz2,ab7];rw[o,f8];cases r with
 |inl _=>exact .inl ⟨rfl,d⟩
 |inr x=>
  obtain⟨g,y⟩:=x;obtain⟨rfl,d⟩:=d;exact .inr ⟨g,rfl,d⟩
theorem akm{a b:Cl}(ha:a.length<=1000)(D:b.length<=1000){g:Int×Int×List Int}(h:Gam a b g) :
  (iA g a b=some ((0,0,[]),8)/\g.2.1=g.1+1)\/∃p,iA g a b=some (p,0)/\Gam a b p/\p.2.1-p.1<g.2.1-g.1:=by
 obtain⟨d,f,q⟩:=g;obtain⟨y,B,o,t,C⟩:=h;dsimp only at y B o t C;have E:=U0 o;have F:(bif(!(decide (d<(-1:Int))))&&(decide ((0:Int)<=d))then lG a b d else some false)=some (decide (0<=d)):=by
  rw[aP (by omega),aeN,Bool.true_and];by_cases w:0<=d
  ·rw[ax w,abv,RW,t.resolve_left (by omega)]
  ·rw[aP w];rfl
 have c0:(bif bif decide (d<(-1:Int))then true else bif decide ((0:Int)<=d)then !(decide (0<=d))else false then true else decide (f<=d))=false:=by rw[aP (by omega),aP (show¬f<=d by omega)];cases decide ((0:Int)<=d)<;>rfl
 unfold iA;dsimp only;rw[Rw ha D];simp only[f8,Qz2,ab7];rw[F];simp only[f8,Qz2,c0,aeN,abv,Dz,EJ];have z:AK (ae a f) (ae b f)=false:=o;simp only[z,ab7];by_cases u:f=d+1
 ·left;refine⟨?_,u⟩;rw[ay (by omega) (by omega),bt u];rfl
 ·right;have A:(f-d).tdiv 2=(f-d) / 2:=aip (by omega);have em:ac (d+(ac (Int.tdiv (ac (f-d)) (2:Int))))=d+(f-d) / 2:=by
   rw[ay (x:=f-d) (by omega) (by omega),A,ay (x:=(f-d) / 2) (by omega) (by omega),ay (by omega) (by omega)]
  rw[ay (x:=d+1) (by omega) (by omega),bf u,em,lX (by omega)];generalize G:d+(f-d) / 2=m;simp only[ab7,af,show(!((2:Int)==0))=true from rfl,abv,f8,Qz2,adC,bh (m:=q.length) (k:=1) (b:=8) (by omega) (by omega),RW];have hq:((q++[m]).length:Int)=(q.length:Int)+1:=by rw[acA];rfl
  cases hs:qJ a b m
  ·exact⟨_,rfl,⟨y,by dsimp only;omega,agH (m:=m) (h:=f) (by omega) (by omega) o hs,t,by dsimp only;rw[hq];omega⟩,by dsimp only;omega⟩
  ·exact⟨_,rfl,⟨by dsimp only;omega,by dsimp only;omega,o,.inr hs,by dsimp only;rw[hq];omega⟩,by dsimp only;omega⟩
theorem ai7{a b:Cl}(ha:a.length<=1000)(t:b.length<=1000):(iF a b=some (0,0,6)/\∀i:Int,jM a b i=true) \/
  ∃k n,iF a b=some (k,n,0)/\-1<=k/\(k = -1\/qJ a b k=true)/\jM a b (k+1)=false:=by
 unfold iF;rcases aid ha t with⟨p,h⟩|⟨g,p,h⟩
 ·left;rw[p];exact⟨rfl,h⟩
 ·right;obtain⟨r,r1,u,y,A,B⟩:=fD (f:=oq a b) (λg=>(g.2.1-g.1).toNat) (λg=>Gam a b g) (λr=>r.2.2=0/\-1<=r.1/\(r.1 = -1\/qJ a b r.1=true)/\jM a b (r.1+1)=false)
   (λg m=>by
    unfold oq;rcases akm ha t m with⟨o,d⟩|⟨w,o,d,C⟩
    ·left;rw[o];exact⟨_,rfl,rfl,m.lo,m.sh,by rw[<-d];exact m.df⟩
    ·right;rw[o];have:=d.hi;exact⟨w,rfl,d,by omega⟩) h (by have:=h.n;omega)
  obtain⟨k,n,z⟩:=r;dsimp only at u;subst u;refine⟨k,n,?_,y,A,B⟩;rw[p];exact r1
def D16(d:List Int):Prop:=m6 d/\d.length=16
def me(l:List (List Int)):Prop:=∀d∈l,D16 d
theorem zn{l:List (List Int)}(h:me l)(i:Nat)(b:D16 v):me (l.set i v):=λd hd=>(afx hd).elim (h d) λe=>e▸b
theorem C8{l:List (List Int)}(h:me l)(b:ae l i=some v):D16 v:=h v (aeK (kK b).2.1)
theorem TE{l:List Int}(h:m6 l)(i:Nat)(x:Int):m6 (l.set i (IntKind.u8.wrap x)):=λd hd=>(afx hd).elim (h d) λe=>e▸w8 x
theorem HO(h:D16 v)(t:Nat)(x:Int):D16 (bR 16 (0:Int) v t (IntKind.u8.wrap x)):=by
 unfold bR;refine⟨λd hd=>?_,by simp⟩;obtain⟨j,b,rfl⟩:=acG.1 hd;have b:j<16:=af1.1 b;split
 ·exact w8 x
 ·rw[aee,acz (by rw[h.2];exact b)];exact h.1 _ (agl _)
theorem Hg{a:List α}(b:0<=i)(d:i<a.length):∃v,ae a i=some v:=
 ⟨a[i.toNat]'(by omega),by
  have:=aV (xs:=a) (i:=i.toNat) (acz (by omega));rwa [anc b]at this⟩
theorem axg{x:List (List Int)}(o:x.length<=200)(by_:Int){k:Int}(h:0<=k)(m:k<x.length)(b:me x):∃r,Itr.it (iJ x by_) (k,[]++x)=some r/\r.length<=300/\me r:=by
 refine fD (f:=iJ x by_) (λz=>x.length-z.1.toNat) (λz=>∃i:Nat,z.1=(i:Int)/\i<=x.length/\z.2.length=x.length/\me z.2) (λr=>r.length<=300/\me r)
  (λz g=>by
   obtain⟨a,l⟩:=z;obtain⟨i,rfl,hi,hl,hq⟩:=g;dsimp only at hl hq|-;unfold iJ;rw[ae4];by_cases d:i<x.length
   ·right;have e:=aV (acz (show i<l.length by omega));simp only[ax (show(i:Int)<(x.length:Int)by omega),abv,e,f8,Qz2,af,ax (show 0<=(0:Int)/\(0:Int)<16 by omega),show(!((200:Int)==0))=true from rfl];exact⟨_,rfl,⟨i+1,by dsimp only;rw[ay (by omega) (by omega)];push_cast;rfl,by omega,by dsimp only;rw[afa];exact hl,zn hq _ (HO (C8 hq e) _ _)⟩,by dsimp only;rw[ay (by omega) (by omega)];omega⟩
   ·left;rw[aP (by dsimp only;omega)];exact⟨l,rfl,by omega,hq⟩) (s:=(k,[]++x)) ⟨k.toNat,by dsimp only;omega,by omega,rfl,b⟩ (by dsimp only;omega)
theorem axC{x:List (List Int)}(h:x.length<=200)(o:me x){by_:Int}(p:bk by_):∃r,Itr.it (iK by_) (0,[]++x)=some r/\r.length<=300/\me r:=by
 obtain⟨q,u,w,y⟩:=rE p (n:=9) (by omega) (by omega);refine fD (f:=iK by_) (λz=>10-z.1.toNat) (λz=>∃i:Nat,z.1=(i:Int)/\i<=10/\z.2.length=x.length+i/\me z.2) (λr=>r.length<=300/\me r)
  (λz t=>by
   obtain⟨a,l⟩:=z;obtain⟨i,rfl,hi,hl,hq⟩:=t;dsimp only at hl hq|-;unfold iK;rw[u,f8,ay (x:=1+q) (by omega) (by omega)];by_cases g:(i:Int)<1+q
   ·right;simp only[ax g,abv,af,adC,bh (m:=l.length) (k:=1) (b:=16) (by omega) (by omega)];exact⟨_,rfl,⟨i+1,by dsimp only;rw[ay (by omega) (by omega)];push_cast;rfl,by omega,by dsimp only;rw[acA,hl];rfl,λd hd=>(aef.1 hd).elim (hq d) λhd=>by rw[ade.1 hd];exact⟨TE (TE (λx h=>by rw[(List.mem_replicate.1 h).2];omega) _ _) _ _,by simp⟩⟩,by dsimp only;rw[ay (by omega) (by omega)];omega⟩
   ·left;rw[aP (by dsimp only;omega)];exact⟨l,rfl,by omega,hq⟩) (s:=(0,[]++x)) ⟨0,rfl,by omega,rfl,o⟩ (by dsimp only;omega)
theorem axM{x:List (List Int)}(h:x.length<=200)(b:me x):∃r,Itr.it (iL x) (0,[]++x)=some r/\r.length<=300/\me r:=by
 refine fD (f:=iL x) (λz=>x.length+2-z.1.toNat) (λz=>∃i:Nat,z.1=(i:Int)/\i<=x.length+1/\z.2.length=x.length/\me z.2) (λr=>r.length<=300/\me r)
  (λz g=>by
   obtain⟨a,l⟩:=z;obtain⟨i,rfl,hi,hl,hq⟩:=g;dsimp only at hl hq|-;unfold iL;rw[ae4];by_cases d:i<x.length
   ·right;have e:=aV (acz (show i<l.length by omega));simp only[ax (show(i:Int)<(x.length:Int)by omega),abv,e,f8,Qz2,af,ax (show 0<=(1:Int)/\(1:Int)<16 by omega)];exact⟨_,rfl,⟨i+2,by dsimp only;rw[ay (by omega) (by omega)];push_cast;rfl,by omega,by dsimp only;rw[afa];exact hl,zn hq _ (HO (C8 hq e) _ _)⟩,by dsimp only;rw[ay (by omega) (by omega)];omega⟩
   ·left;rw[aP (by dsimp only;omega)];exact⟨l,rfl,by omega,hq⟩) (s:=(0,[]++x)) ⟨0,rfl,by omega,rfl,b⟩ (by dsimp only;omega)
theorem avv(h:bk x):bk (ac (Int.tdiv x 16)):=jy _
theorem asQ{x:List (List Int)}(C:1<=x.length)(t:x.length<=200)(f:me x){m by_:Int}(I:bk m)(p:bk by_):∃r,mA x m by_=some r/\r.length<=300/\me r:=by
 obtain⟨k,H,E,F⟩:=rE p (n:=(x.length:Int)) (by omega) (by omega);obtain⟨c,G,O,c2⟩:=rE I (n:=7) (by omega) (by omega);have b:(([]:List (List Int))++x)=x:=ae4 x;have g:=Hg (a:=x) E F;have key:∃r,nv m x by_ k=some r/\r.length<=300/\me r:=by
  unfold nv;rw[G];simp only[f8,Qz2];have es:(bif c==(0:Int)then some (c==(0:Int))else some (c==(1:Int)):Option Bool)=some (decide (c=0\/c=1)):=by
   by_cases h:c=0
   ·simp[h]
   ·have:(c==0)=false:=by simpa using h
    rw[this];by_cases C:c=1<;>simp[C,h]
  rw[es,f8];by_cases o:c=0\/c=1
  ·rw[ax o,abv];exact axg t by_ E F f
  rw[aP o,ab7];by_cases y:c=2
  ·obtain⟨q,K,L,M⟩:=rE (avv p) (n:=16) (by omega) (by omega);obtain⟨v,g⟩:=g;rw[bt y];simp only[b,abv,ax (show(0:Int)<(x.length:Int)by omega),af,show(!((16:Int)==0))=true from rfl,K,g,f8,Qz2,ax (show 0<=q/\q<16 from⟨L,M⟩)];exact⟨_,rfl,by rw[afa];omega,zn f _ (HO (C8 f g) _ _)⟩
  rw[bf y,ab7];by_cases z:c=3
  ·rw[bt z];simp only[b,abv];rw[vY (ahk (by split<;>omega))];exact⟨_,rfl,by rw[afi];omega,λd hd=>f d (agT hd)⟩
  rw[bf z,ab7];by_cases A:c=4
  ·rw[bt A,abv];exact axC t f p
  rw[bf A,ab7];by_cases B:c=5
  ·rw[bt B];simp only[b,abv];by_cases hl:1<x.length
   ·obtain⟨v,g⟩:=g;obtain⟨u,D⟩:=Hg (a:=x) (i:=(x.length:Int)-1) (by omega) (by omega);obtain⟨w,J⟩:=Hg (a:=x.set k.toNat u) (i:=(x.length:Int)-1) (by omega) (by rw[afa];omega);rw[ax (show(1:Int)<(x.length:Int)by omega),ay (by omega) (by omega)];simp only[abv,g,D,J,f8,Qz2];exact⟨_,rfl,by rw[afa,afa];omega,zn (zn f _ (C8 f D)) _ (C8 f g)⟩
   ·rw[aP (by omega)];exact⟨x,rfl,by omega,f⟩
  rw[bf B,ab7];exact axM t f
 obtain⟨r,r1,N⟩:=key;refine⟨r,?_,N⟩;unfold mA;have em:(if(1:Int)>((([]:List (List Int))++x).length:Int)then(1:Int)else((([]:List (List Int))++x).length:Int))=(x.length:Int):=by rw[b];split<;>omega
 rw[em,H,vY (bh (by simp;omega) (by omega))];simp only[f8,Qz2,r1]
theorem NM(h:EncS s):oY s=some (hZ (DV s)):=by unfold oY;rw[show fh s=some (DV s)from Ag h,f8,FA];rfl
theorem adN{l:List aG}(g:1<=l.length)(hl:l.length<=999)(hd:∀s∈l,EncS s):qN l=some (lvs (l.map DV),0):=by
 have b:(l.map DV).length=l.length:=afN ..;have d:Itr.it (lq l) ([],0)=some (lvs (l.map DV)):=by
  unfold lvs;rw[b];refine Ii (by omega) _ (λi x hi h=>?_) λx=>?_
  ·have f:(l.map DV).getD i []=DV l[i]:=by rw[aee,afX,acz hi];rfl
   unfold lq;rw[ax (show(i:Int)<(l.length:Int)by omega)];simp only[abv,aV (acz hi),f8,Qz2,(pP (i:=i) (by omega)).2.1,NM (hd l[i] (agl hi)),f,adC]
  ·unfold lq;rw[aP (by dsimp only;omega)];rfl
 unfold qN;rw[bf (show¬(l.length:Int)=0 by omega),aP (show¬(1000:Int)<(l.length:Int)by omega)];simp only[ab7];exact(aei (λo:Option (List dp)=>o.bind _) d).trans rfl
theorem II(m:CodeOk c)(k:iW e)(h:OnRun c s)(t:¬aW s<0):eW c e s=some ((0,0,0,[]),8):=by
 have p:=CH m h;obtain⟨b,f,g⟩:=E4 e;have d:(0:Int)<=s.2.2.2.2.2.2.2.2.2.1:=by have:aW s=s.2.2.2.2.2.2.2.2.2.1:=rfl;omega
 have o:gx c e s=some 8:=by unfold gx;rw[p];simp only[f8,Qz2,aeA,ab7,f,g.2 k,afg,ax d,abv]
 unfold eW;rw[o];rfl
section
variable {c:CC} {a:iz} {l:List aG} {ds:List (List Int)} {res:eU}
theorem Gx(h:CodeOk c)(g:iW a.2.2.1)(H:HonestL c a.2.2.1 a.2.2.2 l ds res)(hs:l[n]?=some s):∃d,d.length<=1/\jS c a s=some d /\
  ((l.length=n+1/\¬aW s<0)\/aW s<0/\∃u k v,l[n+1]?=some u/\d=[k]/\eN c a.2.2.1 s k=some (u,v,0)):=by
 have y:=cG hs;have m:=(H.r s (aeK hs)).1;unfold jS;by_cases hl:n+1<l.length
 ·have o:l[n+1]?=some l[n+1]:=acz hl;obtain⟨p,k,v,f,t,w⟩:=H.w n s _ hs o;refine⟨[k],by simp,?_,.inr ⟨?_,_,k,v,o,rfl,w⟩⟩
  ·rw[f];simp only[f8,Qz2,aeA,ab7,t]
  ·by_cases b:aW s<0
   ·exact b
   ·rw[II h g m b]at f;cases f
 ·have b:=(H.z s (by rw[show l.length-1=n by omega];exact hs)).1;refine⟨[],by simp,?_,.inl ⟨by omega,b⟩⟩;rw[II h g m b];rfl
theorem axB(H:HonestL c a.2.2.1 a.2.2.2 l ds res)(hs:l[n]?=some s):ds.getD n []=DV s:=by rw[H.d,aee,afX,hs];rfl
theorem arU(o:CodeOk c)(m:iW a.2.2.1)(H:HonestL c a.2.2.1 a.2.2.2 l ds res)(f:m7 c a=some (res,l,0))(hs:l[n]?=some s) :
  ∃d p q,uz c a (n:Int)=some (((n:Int),s,d,p,q),0)/\jS c a s=some d/\ProofOk (lvs ds) n p/\ProofOk (lvs ds) (min (n+1) (ds.length-1)) q:=by
 have A:=cG hs;have z:=H.n;have k:ds.length=l.length:=by rw[H.d,afN]
 obtain⟨d,_,g,_⟩:=Gx o m H hs;obtain⟨p,u,h⟩:=RQ (ds:=ds) (t:=n) (by omega) (by omega) (by omega);obtain⟨q,w,y⟩:=RQ (ds:=ds) (t:=n+1) (by omega) (by omega) (by omega);rw[afn (by omega)]at h;refine⟨d,p,q,?_,g,h,y⟩;have b:=adN (l:=l) (by omega) (by omega) λs hs=>(H.r s hs).2;rw[<-H.d]at b;unfold uz;rw[f];simp only[f8,Qz2,aeA,ab7,aP (show¬(n:Int)<0 by omega),aP (show¬(l.length:Int)<=(n:Int)by omega),b,aV hs,g,(pP (i:=n) (by omega)).2.1,u,ay (x:=(n:Int)+1) (by omega) (by omega)];rw[show(n:Int)+1=((n+1:Nat):Int)by omega,(pP (i:=n+1) (by omega)).2.1];simp only[f8,Qz2,w,aeA,ab7]
theorem PK(H:HonestL c a.2.2.1 a.2.2.2 l ds res)(hs:l[n]?=some s){p:PF}(f:ProofOk (lvs ds) n p){r:eU}(g:dM 16 (lh ds) r.2.2.2.2=true):jJ (n:Int) p s r=some true:=by
 have k:=cG hs;have h:=H.n;have d:ds.length=l.length:=by rw[H.d,afN]
 have b:=akh (ds:=ds) (by omega) (i:=n) (by omega) f (r:=r.2.2.2.2) (by rw[fW];exact g);rw[axB H hs]at b;unfold jJ;rw[(pP (i:=n) (by omega)).2.1,f8,b];simp only[f8,Qz2,aer,abv,NM (H.r s (aeK hs)).2]
theorem aqx(y:CodeOk c)(A:iW a.2.2.1)(H:HonestL c a.2.2.1 a.2.2.2 l ds res)(hs:l[n]?=some s){b:List Int}{p q:PF}(z:jS c a s=some b)(B:ProofOk (lvs ds) n p)(hq:ProofOk (lvs ds) (min (n+1) (ds.length-1)) q)(x:List Int) :
  i4 c a (res.1,res.2.1,res.2.2.1,res.2.2.2.1,x) ((n:Int),s,b,p,q)=some (if dM 16 (lh ds) x=true then 0 else 17):=by
 have M:=cG hs;have L:=H.n;have I:ds.length=l.length:=by rw[H.d,afN]
 have d:=H.r s (aeK hs);have c3:oI ((n:Int),s,b,p,q) c=some true:=by unfold oI;simp only[ax (show(0:Int)<=(n:Int)by omega),ax (show(n:Int)<=998 by omega),abv,CH y d.1,f8,Qz2,aer]
 have c4:oG ((n:Int),s,b,p,q) (fQ c a.2.2.1 [])=some true:=by
  unfold oG;by_cases E:n=0
  ·subst E;have:=H.s;rw[hs]at this;injection this with this;subst this;simp only[aP (show¬(0:Int)<((0:Nat):Int)by omega),aeN,abv,au6 d.2,aoP,f8,Qz2,ab7]
  ·simp only[ax (show(0:Int)<(n:Int)by omega),afg,ab7,f8,Qz2,abv]
 unfold i4;rw[Oi y A [] (by simp)];simp only[f8,Qz2,aeA,ab7,c3,c4,afg];by_cases f:dM 16 (lh ds) x=true;rotate_left
 ·have m:=ae0 B (r:=x) (by rw[fW];exact(ap9.2 f:dM 16 (lh ds) x=false)) (key n);have c5:lL (res.1,res.2.1,res.2.2.1,res.2.2.2.1,x) ((n:Int),s,b,p,q)=some false:=by
   unfold lL jJ;simp only[(pP (i:=n) (by omega)).2.1,f8,Qz2,m];rfl
  rw[c5,if_neg f];rfl
 have c5:lL (res.1,res.2.1,res.2.2.1,res.2.2.2.1,x) ((n:Int),s,b,p,q)=some true:=by unfold lL;simp only[PK H hs B (r:=(res.1,res.2.1,res.2.2.1,res.2.2.2.1,x)) f,f8,Qz2]
 obtain⟨D,J,o,w⟩:=Gx y A H hs;rw[z]at o;injection o with o;subst o;have C:oA ((n:Int),s,b,p,q) c a=some true:=by unfold oA;simp only[z,f8,Qz2,(tY b b (by omega)).2.2,ahW]
 have c2:oB ((n:Int),s,b,p,q)=some (decide (0<=aW s)):=rfl;have g:sN c a (res.1,res.2.1,res.2.2.1,res.2.2.2.1,x) ((n:Int),s,b,p,q)=some true/\sI (res.1,res.2.1,res.2.2.1,res.2.2.2.1,x) ((n:Int),s,b,p,q)=some true:=by
  unfold sN sI;rw[c2];rcases w with⟨F,t⟩|⟨F,u,k,v,t,rfl,G⟩
  ·have K:=(H.z s (by rw[show l.length-1=n by omega];exact hs)).2;rw[show min (n+1) (ds.length-1)=ds.length-1 by omega]at hq;have m:=ac0 (ds:=ds) (by omega) (by omega) hq (r:=x) (by rw[fW];exact f);rw[ax (show 0<=aW s by omega)];refine⟨rfl,?_⟩;have h:kh (ac ((n:Int)+1))=some (key ds.length):=by
    rw[ay (by omega) (by omega),show(n:Int)+1=((ds.length:Nat):Int)by omega];exact(pP (by omega)).2.1
   simp only[f8,Qz2,afg,ab7,h,m,aer,aeN,abv,K,Ez,ahg]
  ·have N:=cG t;rw[show min (n+1) (ds.length-1)=n+1 by omega]at hq;rw[aP (show¬0<=aW s by omega)];refine⟨?_,rfl⟩;have m:ae [k] 0=some k:=rfl;simp only[f8,Qz2,ab7,m,G,aer,abv];rw[ay (by omega) (by omega),show(n:Int)+1=((n+1:Nat):Int)by omega,PK H t hq (r:=(res.1,res.2.1,res.2.2.1,res.2.2.2.1,x)) f];rfl
 simp only[c5,C,g.1,g.2,f8,Qz2,afg,ab7,if_pos f]
end
end Go.Proofs.YtgghcmbaidihjaaGreatDoor
