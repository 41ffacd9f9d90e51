/- Laws for the row. No condition. -/
import Derived.Test.YtgghcmbaidihjaaGreatDoorLawS3
namespace Go.Proofs.YtgghcmbaidihjaaGreatDoor
open Go.Sm
set_option linter.unusedVariables false
set_option maxRecDepth 4000
variable {s:aG} {i k pc:Nat} {c:CC} {st:List Int} {w j:Int} {t:Th} {fs:List Fr} {f:Fr} {x e:bO} {acc:List ((Int×Int×Bool)×Bool)}
abbrev Af:Type:=List Int×List (List Int)×List Int×List Int×Int×Int×(Int×Int×Int)×Int×Int×Int×List UInt8
def gS(i:Nat)(f:Fr)(st:List Int)(x:bO)(k:Int)(r:Af):List mR×Bool×List Int×List Int×Af:=
 let a:=st.take (st.length-1)
 let v:=st.getD (st.length-1) 0
 if x.1=16 then(if 16<=st.length then([(0,x.2.1,false)],false,f.2,st,r)else([(0,x.2.1,false)],true,f.2,st++[r.1.getD x.2.1.toNat 0],r))
 else if x.1=17 then(if st.length=0 then([(0,x.2.1,true)],false,f.2,st,r)else([(0,x.2.1,true)],true,f.2,a,(r.1.set x.2.1.toNat v,r.2)))
 else if x.1=20 then([(1,x.2.1,true)],true,f.2.set x.2.2.toNat ((r.2.1.getD x.2.1.toNat []).getD 0 0),st,(r.1,r.2.1.set x.2.1.toNat ((r.2.1.getD x.2.1.toNat []).drop 1),r.2.2))
 else if x.1=21 then([(2,x.2.1,true)],true,f.2,st,(r.1,r.2.1,r.2.2.1.set x.2.1.toNat (i:Int),r.2.2.2))
 else if x.1=22 then([(2,x.2.1,true)],r.2.2.1.getD x.2.1.toNat 0==(i:Int),f.2,st,(r.1,r.2.1,r.2.2.1.set x.2.1.toNat (-1),r.2.2.2))
 else if x.1=23 then([],true,f.2.set x.2.2.toNat k,st,r)
 else if x.1=24 then([(4,0,k==1)],true,f.2.set x.2.1.toNat (ac (r.2.2.2.2.1+k)),st,(r.1,r.2.1,r.2.2.1,r.2.2.2.1,ac (r.2.2.2.2.1+k),r.2.2.2.2.2))
 else if x.1=25 then([(4,0,false)],true,f.2,st,r)
 else if x.1=26 then(if st.length=0 then([(3,x.2.1,true)],false,f.2,st,r)else if k=0 then([(3,x.2.1,true)],true,f.2,a,(r.1,r.2.1,r.2.2.1,r.2.2.2.1.set x.2.1.toNat v,r.2.2.2.2))else([(3,x.2.1,true)],true,f.2,a,r))
 else([(3,x.2.1,false)],true,f.2.set x.2.2.toNat (r.2.2.2.1.getD x.2.1.toNat 0),st,r)
def vE(s:aG)(i:Nat)(fs:List Fr)(f:Fr)(st:List Int)(w:Int)(x:bO)(k:Int):aG:=
 let q:=gS i f st x k s.2
 (s.1.set i (fs++[(f.1,q.2.2.1)],q.2.2.2.1,w,false),q.2.2.2.2)
theorem Rv(h:s.1[i]?=some t):(s.1.set i t,s.2)=s:=by rw[jQ h]
def iX(op:Int):Prop:=op=16\/op=17\/op=20\/op=21\/op=22\/op=23\/op=24\/op=25\/op=26\/op=27
theorem axs(W:bC c)(h:AtP c s i fs f st w x k pc)(hf:Fit1 c s)(F:iX x.1)(hq:x.1=20->0<(s.2.2.1.getD x.2.1.toNat []).length)(j:Int) :
  cZ x (c,e,s,acc) (i:Int) j=some (.inl ((gS i f st x j s.2).2.1,(fl 0 (c,e,vE s i fs f st w x j,(gS i f st x j s.2).1.foldl cz acc)).2)):=by
 obtain⟨H,hn,hm,P,G,K,X,Y⟩:=h;have O:=W.2.2.1 k pc G K;rw[Y]at O;obtain⟨⟨U,_⟩,_,V⟩:=O;have A:=aV H;have q:∀g:Fr,ae (fs++[g]) (fs.length:Int)=some g:=λg=>by simp[ae]
 have l:=jQ H;have r:∀g:Fr,((fs++[g]).length:Int)=(fs.length:Int)+1:=λg=>by simp
 have u:ac ((fs.length:Int)+1-1)=(fs.length:Int):=by rw[ay (by omega) (by omega)];omega
 have p:decide (0<=(fs.length:Int)/\(fs.length:Int)<(fs.length:Int)+1-0)=true:=ax (by omega);obtain⟨op,a,b⟩:=x;obtain⟨fv,fq,fo,ff⟩:=hf;unfold cZ vE gS;have E:ac ((st.length:Int)-1)=(st.length:Int)-1:=ay (by omega) (by omega);have n:((st.length:Int)-1).toNat=st.length-1:=by omega
 have S:¬st.length=0->ae st ((st.length:Int)-1)=some (st.getD (st.length-1) 0):=λo=>by rw[bL 0 (by omega) (by omega),n]
 have pu:∀v:Int,aN st.length ([v]:List Int).length 8=true:=λv=>bh (by grind) (by omega);obtain⟨Q,Z,o3,o4,o5,M,R,N,o9,L,C,y⟩:=V;dsimp only at F U Q Z o3 o4 o5 M R N o9 L C y hq|-;rcases F with h|h|h|h|h|h|h|h|h|h
 ·subst h;obtain⟨m,D⟩:=M (.inl rfl);have d:ae s.2.1 a=some (s.2.1.getD a.toNat 0):=bL 0 m (by omega);simp only[A,d,f8,Qz2,aer,af,abv,Int.reduceBEq,ab7,aeP,ac6,pu,l];by_cases o:16<=st.length
  ·rw[ax (show(16:Int)<=(st.length:Int)by omega),if_pos o,Rv H];rfl
  ·rw[aP (show¬(16:Int)<=(st.length:Int)by omega),if_neg o];rfl
 ·subst h;obtain⟨m,D⟩:=M (.inr rfl);have d:ae s.2.1 a=some (s.2.1.getD a.toNat 0):=bL 0 m (by omega);simp only[A,d,f8,Qz2,aer,af,abv,Int.reduceBEq,ab7,aeP,aeU,Int.reduceEq,ac6,l,E];by_cases o:st.length=0
  ·rw[ax (show(st.length:Int)-1<0 by omega),if_pos o,Rv H];rfl
  ·rw[aP (show¬(st.length:Int)-1<0 by omega),if_neg o,ax (show 0<=(st.length:Int)-1/\(st.length:Int)-1<=st.length by omega)];simp only[ab7,abv,S o,f8,Qz2,n];rfl
 ·subst h;obtain⟨m,D⟩:=R (.inr rfl);obtain⟨B,J⟩:=y (.inl rfl);have hq:=hq rfl;have d:ae s.2.2.1 a=some (s.2.2.1.getD a.toNat []):=bL [] m (by omega);have z:ae f.2 b=some (f.2.getD b.toNat 0):=bL 0 B (by omega);have T:ae (s.2.2.1.getD a.toNat []) 0=some ((s.2.2.1.getD a.toNat []).getD 0 0):=bL (k:=0) 0 (by omega) (by omega);simp only[A,d,z,T,q,r,u,p,f8,Qz2,aer,af,abv,Int.reduceBEq,ab7,aeP,aeU,Int.reduceEq,ac6,fp,ai1];rw[ax (show 0<=a/\a<(s.2.2.1.length:Int)-0 by omega),ax (show(0:Int)<=1/\(1:Int)<=((s.2.2.1.getD a.toNat []).length:Int)/\((s.2.2.1.getD a.toNat []).length:Int)<=((s.2.2.1.getD a.toNat []).length:Int)by omega),ajR];rfl
 ·subst h;obtain⟨m,D⟩:=N (.inl rfl);have d:ae s.2.2.2.1 a=some (s.2.2.2.1.getD a.toNat 0):=bL 0 m (by omega);simp only[d,f8,Qz2,af,abv,Int.reduceBEq,ab7,aeP,aeU,Int.reduceEq,l];rfl
 ·subst h;obtain⟨m,D⟩:=N (.inr rfl);have d:ae s.2.2.2.1 a=some (s.2.2.2.1.getD a.toNat 0):=bL 0 m (by omega);simp only[d,f8,Qz2,af,abv,Int.reduceBEq,ab7,aeP,aeU,Int.reduceEq,l];rfl
 ·subst h;obtain⟨B,J⟩:=y (.inr (.inl rfl));have z:ae f.2 b=some (f.2.getD b.toNat 0):=bL 0 B (by omega);simp only[A,z,q,r,u,p,f8,Qz2,aer,af,abv,Int.reduceBEq,ab7,aeP,aeU,Int.reduceEq,ac6,fp,ai1];rfl
 ·subst h;obtain⟨B,J⟩:=Q (.inr (.inr rfl));have z:ae f.2 a=some (f.2.getD a.toNat 0):=bL 0 B (by omega);simp only[A,z,q,r,u,p,f8,Qz2,aer,af,abv,Int.reduceBEq,ab7,aeP,aeU,Int.reduceEq,ac6,fp,ai1];rfl
 ·subst h;simp only[af,abv,Int.reduceBEq,ab7,aeP,aeU,Int.reduceEq,l];rfl
 ·subst h;obtain⟨m,D⟩:=C (.inl rfl);have d:ae s.2.2.2.2.1 a=some (s.2.2.2.2.1.getD a.toNat 0):=bL 0 m (by omega);simp only[A,d,f8,Qz2,aer,af,abv,Int.reduceBEq,ab7,aeP,aeU,Int.reduceEq,ac6,l,E];by_cases o:st.length=0
  ·rw[ax (show(st.length:Int)-1<0 by omega),if_pos o,Rv H];rfl
  ·rw[aP (show¬(st.length:Int)-1<0 by omega),if_neg o,ax (show 0<=(st.length:Int)-1/\(st.length:Int)-1<=st.length by omega)];simp only[ab7,abv,S o,f8,Qz2,n];by_cases I:j=0
   ·rw[bt I,if_pos I];rfl
   ·rw[bf I,if_neg I];rfl
 ·subst h;obtain⟨m,D⟩:=C (.inr rfl);obtain⟨B,J⟩:=y (.inr (.inr rfl));have d:ae s.2.2.2.2.1 a=some (s.2.2.2.2.1.getD a.toNat 0):=bL 0 m (by omega);have z:ae f.2 b=some (f.2.getD b.toNat 0):=bL 0 B (by omega);simp only[A,d,z,q,r,u,p,f8,Qz2,aer,af,abv,Int.reduceBEq,ab7,aeU,Int.reduceEq,ac6,fp,ai1];rfl
set_option linter.unusedSimpArgs false
def vD(c:CC)(p:Int):Th:=([(c.2.1.getD p.toNat 0,List.replicate (c.2.2.1.getD p.toNat 0).toNat 0)],[],0,false)
def oL(s:aG)(i:Nat)(fs:List Fr)(f:Fr)(st:List Int)(w:Int):aG:=cq s i (fs++[(ac (f.1+1),f.2)],st,w,false)
abbrev zh:Type:=List Int×List mR×Bool×aG
def uK(c:CC)(s:aG)(i:Nat)(fs:List Fr)(f:Fr)(st:List Int)(w:Int)(p:Int):zh:=
 if 5<=eR s s.1.length then([],[(5,0,true)],false,s)
 else([(s.1.length:Int),(i:Int)],[(5,0,true),(5,(s.1.length:Int)+1,true)],true,((oL s i fs f st w).1++[vD c p],(oL s i fs f st w).2))
theorem ayA(A:bC c)(h:AtP c s i fs f st w x k pc)(u:x.1=18)(Z:s.1.length<=1048575) :
  lW (c,e,s,acc) (i:Int) x.2.1=some ((uK c s i fs f st w x.2.1).1,(uK c s i fs f st w x.2.1).2.2.1,(c,e,(uK c s i fs f st w x.2.1).2.2.2,(uK c s i fs f st w x.2.1).2.1.foldl cz acc)):=by
 obtain⟨C,Q,Y,B,m,v,P,R⟩:=h;have z:=A.2.2.1 k pc m v;rw[R]at z;obtain⟨⟨X,_⟩,_,N⟩:=z;have I:=aV C;have n:∀g:Fr,ae (fs++[g]) (fs.length:Int)=some g:=λg=>by simp[ae]
 have H:∀g:Fr,((fs++[g]).length:Int)=(fs.length:Int)+1:=λg=>by simp
 have J:ac ((fs.length:Int)+1-1)=(fs.length:Int):=by rw[ay (by omega) (by omega)];omega
 obtain⟨op,a,b⟩:=x;obtain⟨o1,o2,V,o4,o5,o6,o7,o8,o9,S,T,U⟩:=N;obtain⟨r,l,M,O⟩:=A;obtain⟨y,K⟩:=V (.inr u);have F:ae c.2.1 a=some (c.2.1.getD a.toNat 0):=bL 0 y K;have G:ae c.2.2.1 a=some (c.2.2.1.getD a.toNat 0):=bL 0 y (by have:=l.1.2.1;grind);obtain⟨_,_,_,_,W,q6⟩:=l.2.2.1 a.toNat (by grind);have hi:=cG C;unfold lW uK;dsimp only;have E:(cP ah (.sc .bool) (5,0,false) (bif(dt ah (.sc .bool) (5,0,false) acc).getD false then true else true) acc)=cz acc (5,0,true):=rfl;rw[E];simp only[adv c e s (cz acc (5,0,true)) (by omega),f8,Qz2];by_cases L:5<=eR s s.1.length
 ·grind
 ·rw[if_neg L,aP (by omega)];have d:ac (((fs.length+1:Nat):Int)-1)=(fs.length:Int):=by grind
  have q:ac (((s.1.length+1:Nat):Int)-1)=(s.1.length:Int):=by rw[ay (by omega) (by omega)];omega
  have p:ac (1+(s.1.length:Int))=(s.1.length:Int)+1:=by rw[ay (by omega) (by omega)];omega
  have o:decide (0<=c.2.2.1.getD a.toNat 0/\c.2.2.1.getD a.toNat 0*8<=281474976710656/\c.2.2.1.getD a.toNat 0<=maxLen)=true:=ax (by refine⟨W,by omega,?_⟩;simp only[maxLen];omega);have D:aN s.1.length 1 64=true:=bh (by omega) (by omega);simp only[ab7,I,F,G,f8,Qz2,n,aer,ai1,af,abv,ac6,fp,acA,afa,adC,d,q,p,o,D,
   ax (show(0:Int)<=(i:Int)/\(i:Int)<(s.1.length:Int)-0 by omega)]
  rfl
theorem wA(hi:i<s.1.length):bo (cq s i t) i=t:=by unfold bo cq;simp[hi]
theorem nP{q:Nat}(h:q≠i):bo (cq s i t) q=bo s q:=by unfold bo cq;grind
theorem cH :(cq s i t).1.length=s.1.length:=by unfold cq;simp
theorem ad1{fr:List Fr}{a:List Int}{b:Bool}(g:s.1[i]?=some (fr,st,w,b))(d:Int):iY c (cq s i (fr,a,w,b)) d=iY c s d:=by
 unfold iY;rw[cH];congr 1;funext q;unfold Su;by_cases h:q=i
 ·subst h;rw[wA (cG g),eC g];rfl
 ·rw[nP h]
theorem adM(hs:StOk c s)(b:afL c t):StOk c (cq s i t):=
 ⟨by rw[cH];exact hs.n,λu a=>by
  rcases afx a with h|h
  ·exact hs.th u h
  grind,⟨hs.fit.vars,hs.fit.qs,hs.fit.own,hs.fit.files⟩,hs.cap⟩
def lU(c:CC)(s:aG)(i:Nat)(fs:List Fr)(f:Fr)(st:List Int)(w:Int)(a j:Int):zh:=
 if st.length=0 then([],[(1,a,true)],false,s)
 else
  let v:=st.getD (st.length-1) 0
  let b:=cq s i (fs++[(ac (f.1+1),f.2)],st.take (st.length-1),w,false)
  if 0<(c.2.2.2.2.1.getD a.toNat ([],0)).2 then([(i:Int)],[(1,a,true)],true,(b.1,b.2.1,b.2.2.1.set a.toNat (s.2.2.1.getD a.toNat []++[v]),b.2.2.2))
  else
   let to:=(iY c s a).getD j.toNat 0
   let t:=bo s to.toNat
   ([to,(i:Int)],[(1,a,true),(5,to+1,true)],true,cq b to.toNat (t.1.dropLast++[(ac ((vp t).1+1),(vp t).2.set (fX c t).2.2.toNat v)],t.2))
structure Takes(c:CC)(s:aG)(i q:Nat)(gs:List Fr)(g:Fr)(tt:List Int)(tw:Int)(y:bO):Prop where
 t:s.1[q]?=some (gs++[g],tt,tw,false)
 ne:q≠i
 n:gs.length<8
 pc:ae c.1 g.1=some y
 yi:y=fX c (bo s q)
 lo:ae g.2 y.2.2=some (g.2.getD y.2.2.toNat 0)
 run:Run1 c gs g tt
 at_:∃k pc,AtP c s q gs g tt tw y k pc
 op:y.1=20
theorem E0(A:bC c)(hs:StOk c s)(h:AtP c s i fs f st w x k pc)(l:x.1=19)(I:0<=j/\j<(iY c s x.2.1).length) :
  ∃q gs g tt tw y,(iY c s x.2.1).getD j.toNat 0=((q:Nat):Int)/\q<s.1.length/\Takes c s i q gs g tt tw y:=by
 have B:(iY c s x.2.1).getD j.toNat 0∈iY c s x.2.1:=nO 0 (by omega);obtain⟨q,n,F,G⟩:=wW.1 B;have hq:(ql c (bo s q)).1=20:=by unfold Su at F;grind
 rcases nR hs n with⟨z,d⟩|⟨z,gs,g,tt,tw,d,o⟩
 ·unfold ql at hq;grind
 ·have m:s.1[q]?=some (gs++[g],tt,tw,false):=by rw[mE n,d]
  obtain⟨p,b,a⟩:=gI m o;have r:=A.2.2.1 p b a.pc2 a.pr;rw[a.x]at r;have C:ql c (bo s q)=dG c g.1.toNat:=by rw[d];show fX c (gs++[g],tt,tw,false)=_;unfold fX;rw[fM]
  rw[C]at hq;obtain⟨D,E⟩:=r.2.2.2.2.2.2.2.2.2.2.2.2.2 (.inl hq);refine⟨q,gs,g,tt,tw,dG c g.1.toNat,G,n,m,?_,a.n,?_,?_,bL 0 D (by rw[a.lo];exact E),o,⟨p,b,a⟩,hq⟩
  ·rintro rfl;have u:=h.t;rw[m]at u;have H:gs++[g]=fs++[f]:=by grind
   have v:g=f:=by simp_all
   rw[v,h.pc1]at hq;rw[ac6,h.x,l]at hq;cases hq
  ·rw[a.pc1];exact br _ a.pc2
  ·rw[d];unfold fX;rw[fM]
theorem atZ(X:bC c)(hs:StOk c s)(hl:∀l∈s.2.2.1,l.length<=1048575)(h:AtP c s i fs f st w x k pc)(F:x.1=19) 
  (O:¬0<(c.2.2.2.2.1.getD x.2.1.toNat ([],0)).2->0<=j/\j<(iY c s x.2.1).length) :
  nH (c,e,s,acc) (i:Int) j x.2.1=some ((lU c s i fs f st w x.2.1 j).1,(lU c s i fs f st w x.2.1 j).2.2.1,(c,e,(lU c s i fs f st w x.2.1 j).2.2.2,(lU c s i fs f st w x.2.1 j).2.1.foldl cz acc)):=by
 have hA:=h;obtain⟨p,hnf,hm,Y,G,P,hlo,hx⟩:=h;have W:=X.2.2.1 k pc G P;rw[hx]at W;obtain⟨⟨h0,_⟩,_,hO⟩:=W;have et:=aV p;have r:∀g:Fr,ae (fs++[g]) (fs.length:Int)=some g:=λg=>by simp[ae]
 have K:=jQ p;have z:∀g:Fr,((fs++[g]).length:Int)=(fs.length:Int)+1:=λg=>by simp
 have D:ac ((fs.length:Int)+1-1)=(fs.length:Int):=by rw[ay (by omega) (by omega)];omega
 obtain⟨op,a,b⟩:=x;obtain⟨o1,o2,o3,o4,o5,o6,o7,o8,o9,o10,o11,o12⟩:=hO;obtain⟨V,g2⟩:=o7 (.inl F);have ei:ae c.2.2.2.2.1 a=some (c.2.2.2.2.1.getD a.toNat ([],0)):=bL _ V g2;have eq:ae s.2.2.1 a=some (s.2.2.1.getD a.toNat []):=bL [] V (by have:=hs.fit.qs;grind);have hi:=cG p;have L:ac ((st.length:Int)-1)=(st.length:Int)-1:=ay (by omega) (by omega);have n:((st.length:Int)-1).toNat=st.length-1:=by omega
 unfold nH lU;dsimp only;simp only[et,f8,Qz2,aer,af,abv,K,L,ac6];by_cases Z:st.length=0
 ·rw[ax (show(st.length:Int)-1<0 by omega),if_pos Z];rfl
 rw[aP (show¬(st.length:Int)-1<0 by omega),if_neg Z,ax (show 0<=(st.length:Int)-1/\(st.length:Int)-1<=st.length by omega)];have po:ae st ((st.length:Int)-1)=some (st.getD (st.length-1) 0):=by rw[bL 0 (by omega) (by omega),n]
 have C:∀m,ae (s.1.set i m) (i:Int)=some m:=λm=>aV (afF hi);simp only[ab7,abv,po,ei,f8,Qz2,n,afg];by_cases d:0<(c.2.2.2.2.1.getD a.toNat ([],0)).2
 ·rw[ax d,if_pos d];have hq:(s.2.2.1.getD a.toNat []).length<=1048575:=hl _ (nO [] (by have:=hs.fit.qs;grind));have a1:aN (s.2.2.1.getD a.toNat []).length 1 8=true:=bh (by omega) (by omega);simp only[abv,C,eq,f8,Qz2,z,D,r,fp,adC,a1,ai1,aer,ac6,aqk,ax (show 0<=a/\a<(s.2.2.1.length:Int)-0 by have:=hs.fit.qs;grind)];rfl
 ·rw[aP d,if_neg d];obtain⟨q,gs,g,tt,tw,y,w1,w2,o⟩:=E0 X hs hA F (O d);have Q:afL c (fs++[f],st.take (st.length-1),w,false):=by
   rcases nR hs hi with⟨R,S⟩|⟨R,N,f',st',w',S,z3⟩
   ·rw[eC p]at R;cases R
   ·rw[eC p]at S;injection S with z4 z5;injection z5 with z6 z7;subst z6;exact .inr ⟨rfl,N,f',z4,⟨z3.n,by rw[afi];omega,z3.fr⟩⟩
  have U:=Pm (c:=c) (e:=e) (acc:=cz acc (1,a,true)) (adM (s:=s) (i:=i) hs Q) a;rw[ad1 p]at U;have J:dI (c,e,(s.1.set i (fs++[f],st.take (st.length-1),w,false),s.2),cP ah (.sc .bool) (1,a,false) (bif(dt ah (.sc .bool) (1,a,false) acc).getD false then true else true) acc) a=some (iY c s a):=U;have T:ae (iY c s a) j=some ((iY c s a).getD j.toNat 0):=bL 0 (O d).1 (O d).2;rw[w1]at T;have B:bo s q=(gs++[g],tt,tw,false):=eC o.t;have H:∀m,ae (s.1.set i m) (q:Int)=some (gs++[g],tt,tw,false):=λm=>aV (by rw[agN (aqR o.ne)];exact o.t);have v:∀g:Fr,ae (gs++[g]) (gs.length:Int)=some g:=λg=>by simp[ae]
  have A:∀g:Fr,((gs++[g]).length:Int)=(gs.length:Int)+1:=λg=>by simp
  have hgn:=o.n;have E:ac ((gs.length:Int)+1-1)=(gs.length:Int):=by rw[ay (by omega) (by omega)];omega
  have I:∀m u,ae ((s.1.set i m).set q u) (q:Int)=some u:=λm u=>aV (afF (by grind));have M:ac (1+(q:Int))=(q:Int)+1:=by have:=hs.n;rw[ay (by omega) (by omega)];omega
  simp only[ab7,J,T,f8,Qz2,C,H,I,z,D,r,A,E,v,fp,aer,abv,ai1,ac6,aqk,pJ,af,o.pc,o.lo,ax (show(0:Int)<=(gs.length:Int)/\(gs.length:Int)<(gs.length:Int)+1-0 by omega),M,w1,B,fM,alk];have hy:=o.yi;rw[B]at hy;rw[<-hy];rfl
def Dk(s:aG)(o:Int):aG:=(s.1,s.2.1,s.2.2.1,s.2.2.2.1,s.2.2.2.2.1,s.2.2.2.2.2.1,s.2.2.2.2.2.2.1,s.2.2.2.2.2.2.2.1,s.2.2.2.2.2.2.2.2.1,o,s.2.2.2.2.2.2.2.2.2.2)
def tH(s:aG)(i:Nat):zh:=([],[(5,0,true)],true,if i=0 then Dk (cq s i ([],[],0,true)) 0 else cq s i ([],[],0,true))
def nW(s:aG)(i:Nat)(fs:List Fr)(f:Fr)(st:List Int)(w:Int)(x:bO)(j:Int):zh:=
 let q:=gS i f st x j s.2
 ([(i:Int)],q.1,q.2.1,if q.2.1=true then cq (vE s i fs f st w x j) i (fs++[(ac (f.1+1),q.2.2.1)],q.2.2.2.1,w,false)else vE s i fs f st w x j)
instance (op:Int):Decidable (iX op):=by unfold iX;infer_instance
def fE(c:CC)(s:aG)(i:Nat)(fs:List Fr)(f:Fr)(st:List Int)(w:Int)(x:bO)(j:Int):zh:=
 if x.1=18 then uK c s i fs f st w x.2.1 else if x.1=19 then lU c s i fs f st w x.2.1 j else if iX x.1 then nW s i fs f st w x j else tH s i
structure CanDo(c:CC)(s:aG)(i:Nat)(fs:List Fr)(f:Fr)(st:List Int)(w:Int)(x:bO)(j:Int):Prop where
 at_:∃k pc,AtP c s i fs f st w x k pc
 ok:StOk c s
 n:s.1.length<=1048575
 qs:∀l∈s.2.2.1,l.length<=1048575
 q:x.1=20->0<(s.2.2.1.getD x.2.1.toNat []).length
 to:x.1=19->¬0<(c.2.2.2.2.1.getD x.2.1.toNat ([],0)).2->0<=j/\j<(iY c s x.2.1).length
theorem ach{op:Int}(a:op≠18)(b:op≠19)(h:¬iX op):op≠16/\op≠17/\op≠20/\op≠21/\op≠22/\op≠23/\op≠24/\op≠25/\op≠26/\op≠27:=by unfold iX at h;omega
theorem aju(y:bC c)(h:CanDo c s i fs f st w x j) :
  lY (c,e,s,acc) (i:Int) j=some ((fE c s i fs f st w x j).1,(fE c s i fs f st w x j).2.2.1,(c,e,(fE c s i fs f st w x j).2.2.2,(fE c s i fs f st w x j).2.1.foldl cz acc)):=by
 obtain⟨⟨k,pc,d⟩,hs,J,z,hq,A⟩:=h;have H:=d.t;have hi:=cG H;have F:=aV H;have q:∀g:Fr,ae (fs++[g]) (fs.length:Int)=some g:=λg=>by simp[ae]
 have r:∀g:Fr,((fs++[g]).length:Int)=(fs.length:Int)+1:=λg=>by simp
 have v:ac ((fs.length:Int)+1-1)=(fs.length:Int):=by have:=d.n;rw[ay (by omega) (by omega)];omega
 have I:pD (c,e,s,acc) (i:Int)=some x:=by
  unfold pD;have P:ae c.1 f.1=some x:=by rw[d.pc1,<-d.x];exact br _ d.pc2
  grind
 unfold lY fE;simp only[F,I,f8,Qz2];by_cases b:x.1=18
 ·rw[if_pos b];have E:cZ x (c,e,s,acc) (i:Int) j=some (.inr ((uK c s i fs f st w x.2.1).1,(uK c s i fs f st w x.2.1).2.2.1,(c,e,(uK c s i fs f st w x.2.1).2.2.2,(uK c s i fs f st w x.2.1).2.1.foldl cz acc))):=by
   unfold cZ;have l:(x.1==(16:Int))=false:=by rw[b];rfl
   have m:(x.1==(17:Int))=false:=by rw[b];rfl
   have n:(x.1==(18:Int))=true:=by rw[b];rfl
   simp only[l,m,n,abv,ab7,ayA y (e:=e) (acc:=acc) d b J,f8,Qz2]
  grind
 rw[if_neg b];by_cases a:x.1=19
 ·rw[if_pos a];have E:cZ x (c,e,s,acc) (i:Int) j=some (.inr ((lU c s i fs f st w x.2.1 j).1,(lU c s i fs f st w x.2.1 j).2.2.1,(c,e,(lU c s i fs f st w x.2.1 j).2.2.2,(lU c s i fs f st w x.2.1 j).2.1.foldl cz acc))):=by
   unfold cZ;have l:(x.1==(16:Int))=false:=by rw[a];rfl
   have m:(x.1==(17:Int))=false:=by rw[a];rfl
   have n:(x.1==(18:Int))=false:=by rw[a];rfl
   have C:(x.1==(19:Int))=true:=by rw[a];rfl
   simp only[l,m,n,C,abv,ab7,atZ y (e:=e) (acc:=acc) hs z d a (A a),f8,Qz2]
  grind
 rw[if_neg a];by_cases p:iX x.1
 ·rw[if_pos p];refine(aei (λo:Option (Y16⊕((List Int)×Bool×aR))=>o.bind _) (axs y (e:=e) (acc:=acc) d hs.fit p hq j)).trans ?_;unfold nW;simp only[f8,Qz2];have u:∀D,ae (s.1.set i D) (i:Int)=some D:=λD=>aV (afF hi);cases O:(gS i f st x j s.2).2.1
  ·rfl
  ·simp only[fl,vE,abv,f8,Qz2,aeP,u,aer,af,r,v,q,ac6,fp];rfl
 ·rw[if_neg p];have E:cZ x (c,e,s,acc) (i:Int) j=some (.inr ((tH s i).1,(tH s i).2.2.1,(c,e,(tH s i).2.2.2,(tH s i).2.1.foldl cz acc))):=by
   obtain⟨n1,K,L,M,N,l,m,n,C,B⟩:=ach b a p;unfold cZ rA tH;simp only[bf n1,bf K,bf L,bf M,bf N,bf l,bf m,bf n,bf C,bf B,bf b,bf a,ab7,F,f8,Qz2,aer,af,abv,ac6];by_cases G:i=0
   ·subst G;rfl
   ·rw[bf (show¬(i:Int)=0 by omega),if_neg G];rfl
  grind
end Go.Proofs.YtgghcmbaidihjaaGreatDoor
