/- Laws for the row. No condition. -/
import Derived.Test.YtgghcmbaidihjaaGreatDoorLawS3
namespace Go.Proofs.YtgghcmbaidihjaaGreatDoor
open Go.Sm
set_option linter.unusedVariables false
set_option maxRecDepth 4000
abbrev yP:Type:=List Int×List (List Int)×List Int×List Int×Int×Int×(Int×Int×Int)×Int×Int×Int×List UInt8
def gn(i:Nat)(f:Fr)(st:List Int)(x:bM)(k:Int)(r:yP):List lu×Bool×List Int×List Int×yP:=
 let st1:=st.take (st.length-1)
 let v:=st.getD (st.length-1) 0
 if x.1=16 then(if 16<=st.length then([(0,x.2.1,false)],false,f.2,st,r)else([(0,x.2.1,false)],true,f.2,st++[r.1.getD x.2.1.toNat 0],r))
 else if x.1=17 then(if st.length=0 then([(0,x.2.1,true)],false,f.2,st,r)else([(0,x.2.1,true)],true,f.2,st1,(r.1.set x.2.1.toNat v,r.2)))
 else if x.1=20 then([(1,x.2.1,true)],true,f.2.set x.2.2.toNat ((r.2.1.getD x.2.1.toNat []).getD 0 0),st,(r.1,r.2.1.set x.2.1.toNat ((r.2.1.getD x.2.1.toNat []).drop 1),r.2.2))
 else if x.1=21 then([(2,x.2.1,true)],true,f.2,st,(r.1,r.2.1,r.2.2.1.set x.2.1.toNat (i:Int),r.2.2.2))
 else if x.1=22 then([(2,x.2.1,true)],r.2.2.1.getD x.2.1.toNat 0==(i:Int),f.2,st,(r.1,r.2.1,r.2.2.1.set x.2.1.toNat (-1),r.2.2.2))
 else if x.1=23 then([],true,f.2.set x.2.2.toNat k,st,r)
 else if x.1=24 then([(4,0,k==1)],true,f.2.set x.2.1.toNat (ac (r.2.2.2.2.1+k)),st,(r.1,r.2.1,r.2.2.1,r.2.2.2.1,ac (r.2.2.2.2.1+k),r.2.2.2.2.2))
 else if x.1=25 then([(4,0,false)],true,f.2,st,r)
 else if x.1=26 then(if st.length=0 then([(3,x.2.1,true)],false,f.2,st,r)else if k=0 then([(3,x.2.1,true)],true,f.2,st1,(r.1,r.2.1,r.2.2.1,r.2.2.2.1.set x.2.1.toNat v,r.2.2.2.2))else([(3,x.2.1,true)],true,f.2,st1,r))
 else([(3,x.2.1,false)],true,f.2.set x.2.2.toNat (r.2.2.2.1.getD x.2.1.toNat 0),st,r)
def tj(s:aB)(i:Nat)(fs:List Fr)(f:Fr)(st:List Int)(w:Int)(x:bM)(k:Int):aB:=
 let q:=gn i f st x k s.2
 (s.1.set i (fs++[(f.1,q.2.2.1)],q.2.2.2.1,w,false),q.2.2.2.2)
theorem KB{s:aB}{i:Nat}{t:Th}(h:s.1[i]?=some t):(s.1.set i t,s.2)=s:=by rw[iR h]
def ia(op:Int):Prop:=op=16\/op=17\/op=20\/op=21\/op=22\/op=23\/op=24\/op=25\/op=26\/op=27
theorem ap3{c:CC}(hc:bw c){e:bM}{s:aB}{acc:List ((Int×Int×Bool)×Bool)}{i:Nat}{fs:List Fr}{f:Fr}{st:List Int}{w:Int}{x:bM}{k pc:Nat}(h:AtP c s i fs f st w x k pc)(hf:Fit1 c s)(hop:ia x.1)(hq:x.1=20->0<(s.2.2.1.getD x.2.1.toNat []).length)(j:Int) :
  cR x (c,e,s,acc) (i:Int) j=some (.inl ((gn i f st x j s.2).2.1,(fl 0 (c,e,tj s i fs f st w x j,(gn i f st x j s.2).1.foldl cv acc)).2)):=by
 obtain⟨ht,hn,hm,hpc1,hpc2,hpr,hlo,hx⟩:=h;have hF:=hc.2.2.1 k pc hpc2 hpr;rw[hx]at hF;obtain⟨⟨h0,_⟩,_,hO⟩:=hF;have et:=aV ht;have efr:∀g:Fr,ae (fs++[g]) (fs.length:Int)=some g:=λg=>by simp[ae]
 have esa:=iR ht;have ela:∀g:Fr,((fs++[g]).length:Int)=(fs.length:Int)+1:=λg=>by simp
 have ewl:ac ((fs.length:Int)+1-1)=(fs.length:Int):=by rw[aD (by omega) (by omega)];omega
 have edl:decide (0<=(fs.length:Int)/\(fs.length:Int)<(fs.length:Int)+1-0)=true:=ax (by omega);obtain⟨op,a,b⟩:=x;obtain⟨fv,fq,fo,ff⟩:=hf;unfold cR tj gn;have ew1:ac ((st.length:Int)-1)=(st.length:Int)-1:=aD (by omega) (by omega);have eto1:((st.length:Int)-1).toNat=st.length-1:=by omega
 have po:¬st.length=0->ae st ((st.length:Int)-1)=some (st.getD (st.length-1) 0):=λhv=>by rw[bI 0 (by omega) (by omega),eto1]
 have pu:∀v:Int,aP st.length ([v]:List Int).length 8=true:=λv=>bO (by grind) (by omega);obtain⟨o1,o2,o3,o4,o5,o6,o7,o8,o9,o10,o11,o12⟩:=hO;dsimp only at hop h0 o1 o2 o3 o4 o5 o6 o7 o8 o9 o10 o11 o12 hq|-;rcases hop with h|h|h|h|h|h|h|h|h|h
 ·subst h;obtain⟨g1,g2⟩:=o6 (.inl rfl);have ei:ae s.2.1 a=some (s.2.1.getD a.toNat 0):=bI 0 g1 (by omega);simp only[et,ei,f8,aat,ah,Ze,Int.reduceBEq,Zr,aaL,ZH,pu,esa];by_cases hv:16<=st.length
  ·rw[ax (show(16:Int)<=(st.length:Int)by omega),if_pos hv,KB ht];rfl
  ·rw[aQ (show¬(16:Int)<=(st.length:Int)by omega),if_neg hv];rfl
 ·subst h;obtain⟨g1,g2⟩:=o6 (.inr rfl);have ei:ae s.2.1 a=some (s.2.1.getD a.toNat 0):=bI 0 g1 (by omega);simp only[et,ei,f8,aat,ah,Ze,Int.reduceBEq,Zr,aaL,aaS,Int.reduceEq,ZH,esa,ew1];by_cases hv:st.length=0
  ·rw[ax (show(st.length:Int)-1<0 by omega),if_pos hv,KB ht];rfl
  ·rw[aQ (show¬(st.length:Int)-1<0 by omega),if_neg hv,ax (show 0<=(st.length:Int)-1/\(st.length:Int)-1<=st.length by omega)];simp only[Zr,Ze,po hv,f8,eto1];rfl
 ·subst h;obtain⟨g1,g2⟩:=o7 (.inr rfl);obtain⟨g3,g4⟩:=o12 (.inl rfl);have hq:=hq rfl;have ei:ae s.2.2.1 a=some (s.2.2.1.getD a.toNat []):=bI [] g1 (by omega);have ej:ae f.2 b=some (f.2.getD b.toNat 0):=bI 0 g3 (by omega);have ek:ae (s.2.2.1.getD a.toNat []) 0=some ((s.2.2.1.getD a.toNat []).getD 0 0):=bI (k:=0) 0 (by omega) (by omega);simp only[et,ei,ej,ek,efr,ela,ewl,edl,f8,aat,ah,Ze,Int.reduceBEq,Zr,aaL,aaS,Int.reduceEq,ZH,eP,ae2];rw[ax (show 0<=a/\a<(s.2.2.1.length:Int)-0 by omega),ax (show(0:Int)<=1/\(1:Int)<=((s.2.2.1.getD a.toNat []).length:Int)/\((s.2.2.1.getD a.toNat []).length:Int)<=((s.2.2.1.getD a.toNat []).length:Int)by omega),alJ];rfl
 ·subst h;obtain⟨g1,g2⟩:=o8 (.inl rfl);have ei:ae s.2.2.2.1 a=some (s.2.2.2.1.getD a.toNat 0):=bI 0 g1 (by omega);simp only[ei,f8,ah,Ze,Int.reduceBEq,Zr,aaL,aaS,Int.reduceEq,esa];rfl
 ·subst h;obtain⟨g1,g2⟩:=o8 (.inr rfl);have ei:ae s.2.2.2.1 a=some (s.2.2.2.1.getD a.toNat 0):=bI 0 g1 (by omega);simp only[ei,f8,ah,Ze,Int.reduceBEq,Zr,aaL,aaS,Int.reduceEq,esa];rfl
 ·subst h;obtain⟨g3,g4⟩:=o12 (.inr (.inl rfl));have ej:ae f.2 b=some (f.2.getD b.toNat 0):=bI 0 g3 (by omega);simp only[et,ej,efr,ela,ewl,edl,f8,aat,ah,Ze,Int.reduceBEq,Zr,aaL,aaS,Int.reduceEq,ZH,eP,ae2];rfl
 ·subst h;obtain⟨g3,g4⟩:=o1 (.inr (.inr rfl));have ej:ae f.2 a=some (f.2.getD a.toNat 0):=bI 0 g3 (by omega);simp only[et,ej,efr,ela,ewl,edl,f8,aat,ah,Ze,Int.reduceBEq,Zr,aaL,aaS,Int.reduceEq,ZH,eP,ae2];rfl
 ·subst h;simp only[ah,Ze,Int.reduceBEq,Zr,aaL,aaS,Int.reduceEq,esa];rfl
 ·subst h;obtain⟨g1,g2⟩:=o11 (.inl rfl);have ei:ae s.2.2.2.2.1 a=some (s.2.2.2.2.1.getD a.toNat 0):=bI 0 g1 (by omega);simp only[et,ei,f8,aat,ah,Ze,Int.reduceBEq,Zr,aaL,aaS,Int.reduceEq,ZH,esa,ew1];by_cases hv:st.length=0
  ·rw[ax (show(st.length:Int)-1<0 by omega),if_pos hv,KB ht];rfl
  ·rw[aQ (show¬(st.length:Int)-1<0 by omega),if_neg hv,ax (show 0<=(st.length:Int)-1/\(st.length:Int)-1<=st.length by omega)];simp only[Zr,Ze,po hv,f8,eto1];by_cases hj:j=0
   ·rw[bt hj,if_pos hj];rfl
   ·rw[bf hj,if_neg hj];rfl
 ·subst h;obtain⟨g1,g2⟩:=o11 (.inr rfl);obtain⟨g3,g4⟩:=o12 (.inr (.inr rfl));have ei:ae s.2.2.2.2.1 a=some (s.2.2.2.2.1.getD a.toNat 0):=bI 0 g1 (by omega);have ej:ae f.2 b=some (f.2.getD b.toNat 0):=bI 0 g3 (by omega);simp only[et,ei,ej,efr,ela,ewl,edl,f8,aat,ah,Ze,Int.reduceBEq,Zr,aaS,Int.reduceEq,ZH,eP,ae2];rfl
set_option linter.unusedSimpArgs false
def ti(c:CC)(p:Int):Th:=([(c.2.1.getD p.toNat 0,List.replicate (c.2.2.1.getD p.toNat 0).toNat 0)],[],0,false)
def mR(s:aB)(i:Nat)(fs:List Fr)(f:Fr)(st:List Int)(w:Int):aB:=cg s i (fs++[(ac (f.1+1),f.2)],st,w,false)
abbrev wV:Type:=List Int×List lu×Bool×aB
def sN(c:CC)(s:aB)(i:Nat)(fs:List Fr)(f:Fr)(st:List Int)(w:Int)(p:Int):wV:=
 if 5<=eA s s.1.length then([],[(5,0,true)],false,s)
 else([(s.1.length:Int),(i:Int)],[(5,0,true),(5,(s.1.length:Int)+1,true)],true,((mR s i fs f st w).1++[ti c p],(mR s i fs f st w).2))
theorem ara{c:CC}(hc:bw c){e:bM}{s:aB}{acc:List ((Int×Int×Bool)×Bool)}{i:Nat}{fs:List Fr}{f:Fr}{st:List Int}{w:Int}{x:bM}{k pc:Nat}(h:AtP c s i fs f st w x k pc)(hop:x.1=18)(hn:s.1.length<=1048575) :
  kv (c,e,s,acc) (i:Int) x.2.1=some ((sN c s i fs f st w x.2.1).1,(sN c s i fs f st w x.2.1).2.2.1,(c,e,(sN c s i fs f st w x.2.1).2.2.2,(sN c s i fs f st w x.2.1).2.1.foldl cv acc)):=by
 obtain⟨ht,hnf,hm,hpc1,hpc2,hpr,hlo,hx⟩:=h;have hF:=hc.2.2.1 k pc hpc2 hpr;rw[hx]at hF;obtain⟨⟨h0,_⟩,_,hO⟩:=hF;have et:=aV ht;have efr:∀g:Fr,ae (fs++[g]) (fs.length:Int)=some g:=λg=>by simp[ae]
 have ela:∀g:Fr,((fs++[g]).length:Int)=(fs.length:Int)+1:=λg=>by simp
 have ewl:ac ((fs.length:Int)+1-1)=(fs.length:Int):=by rw[aD (by omega) (by omega)];omega
 obtain⟨op,a,b⟩:=x;obtain⟨o1,o2,o3,o4,o5,o6,o7,o8,o9,o10,o11,o12⟩:=hO;obtain⟨hl512,hLi,hAF,hSm⟩:=hc;obtain⟨g1,g2⟩:=o3 (.inr hop);have ei:ae c.2.1 a=some (c.2.1.getD a.toNat 0):=bI 0 g1 g2;have ej:ae c.2.2.1 a=some (c.2.2.1.getD a.toNat 0):=bI 0 g1 (by have:=hLi.1.2.1;grind);obtain⟨_,_,_,_,q5,q6⟩:=hLi.2.2.1 a.toNat (by grind);have hi:=dl ht;unfold kv sN;dsimp only;have ea:(cF af (.sc .bool) (5,0,false) (bif(cZ af (.sc .bool) (5,0,false) acc).getD false then true else true) acc)=cv acc (5,0,true):=rfl;rw[ea];simp only[Xv c e s (cv acc (5,0,true)) (by omega),f8];by_cases h5:5<=eA s s.1.length
 ·grind
 ·rw[if_neg h5,aQ (by omega)];have ewl2:ac (((fs.length+1:Nat):Int)-1)=(fs.length:Int):=by grind
  have ewn:ac (((s.1.length+1:Nat):Int)-1)=(s.1.length:Int):=by rw[aD (by omega) (by omega)];omega
  have ewm:ac (1+(s.1.length:Int))=(s.1.length:Int)+1:=by rw[aD (by omega) (by omega)];omega
  have eml:decide (0<=c.2.2.1.getD a.toNat 0/\c.2.2.1.getD a.toNat 0*8<=281474976710656/\c.2.2.1.getD a.toNat 0<=maxLen)=true:=ax (by refine⟨q5,by omega,?_⟩;simp only[maxLen];omega);have a1:aP s.1.length 1 64=true:=bO (by omega) (by omega);simp only[Zr,et,ei,ej,f8,efr,aat,ae2,ah,Ze,ZH,eP,ZD,aa1,aal,ewl2,ewn,ewm,eml,a1,
   ax (show(0:Int)<=(i:Int)/\(i:Int)<(s.1.length:Int)-0 by omega)]
  rfl
theorem uj{s:aB}{i:Nat}{t:Th}(hi:i<s.1.length):bg (cg s i t) i=t:=by unfold bg cg;simp[hi]
theorem lU{s:aB}{i q:Nat}{t:Th}(h:q≠i):bg (cg s i t) q=bg s q:=by unfold bg cg;grind
theorem cA{s:aB}{i:Nat}{t:Th}:(cg s i t).1.length=s.1.length:=by unfold cg;simp
theorem Zg{c:CC}{s:aB}{i:Nat}{fr:List Fr}{st st':List Int}{w:Int}{b:Bool}(ht:s.1[i]?=some (fr,st,w,b))(ch:Int):hU c (cg s i (fr,st',w,b)) ch=hU c s ch:=by
 unfold hU;rw[cA];congr 1;funext q;unfold LC;by_cases h:q=i
 ·subst h;rw[uj (dl ht),dW ht];rfl
 ·rw[lU h]
theorem XH{c:CC}{s:aB}(hs:StOk c s){i:Nat}{t:Th}(ht:YV c t):StOk c (cg s i t):=
 ⟨by rw[cA];exact hs.n,λu hu=>by
  rcases ab2 hu with h|h
  ·exact hs.th u h
  grind,⟨hs.fit.vars,hs.fit.qs,hs.fit.own,hs.fit.files⟩,hs.cap⟩
def ko(c:CC)(s:aB)(i:Nat)(fs:List Fr)(f:Fr)(st:List Int)(w:Int)(a j:Int):wV:=
 if st.length=0 then([],[(1,a,true)],false,s)
 else
  let v:=st.getD (st.length-1) 0
  let s1:=cg s i (fs++[(ac (f.1+1),f.2)],st.take (st.length-1),w,false)
  if 0<(c.2.2.2.2.1.getD a.toNat ([],0)).2 then([(i:Int)],[(1,a,true)],true,(s1.1,s1.2.1,s1.2.2.1.set a.toNat (s.2.2.1.getD a.toNat []++[v]),s1.2.2.2))
  else
   let to:=(hU c s a).getD j.toNat 0
   let t:=bg s to.toNat
   ([to,(i:Int)],[(1,a,true),(5,to+1,true)],true,cg s1 to.toNat (t.1.dropLast++[(ac ((sU t).1+1),(sU t).2.set (fF c t).2.2.toNat v)],t.2))
structure Takes(c:CC)(s:aB)(i q:Nat)(gs:List Fr)(g:Fr)(tt:List Int)(tw:Int)(y:bM):Prop where
 t:s.1[q]?=some (gs++[g],tt,tw,false)
 ne:q≠i
 n:gs.length<8
 pc:ae c.1 g.1=some y
 yi:y=fF c (bg s q)
 lo:ae g.2 y.2.2=some (g.2.getD y.2.2.toNat 0)
 run:Run1 c gs g tt
 at_:∃k pc,AtP c s q gs g tt tw y k pc
 op:y.1=20
theorem CM{c:CC}(hc:bw c){s:aB}(hs:StOk c s){i:Nat}{fs:List Fr}{f:Fr}{st:List Int}{w:Int}{x:bM}{k pc:Nat}(h:AtP c s i fs f st w x k pc)(hop:x.1=19){j:Int}(hj:0<=j/\j<(hU c s x.2.1).length) :
  ∃q gs g tt tw y,(hU c s x.2.1).getD j.toNat 0=((q:Nat):Int)/\q<s.1.length/\Takes c s i q gs g tt tw y:=by
 have hm:(hU c s x.2.1).getD j.toNat 0∈hU c s x.2.1:=lP 0 (by omega);obtain⟨q,q1,q2,q3⟩:=u6.1 hm;have hq:(oi c (bg s q)).1=20:=by unfold LC at q2;grind
 rcases lI hs q1 with⟨h1,h2⟩|⟨h1,gs,g,tt,tw,h2,h3⟩
 ·unfold oi at hq;grind
 ·have ht:s.1[q]?=some (gs++[g],tt,tw,false):=by rw[kO q1,h2]
  obtain⟨p,pc',hA⟩:=gb ht h3;have hF:=hc.2.2.1 p pc' hA.pc2 hA.pr;rw[hA.x]at hF;have hx:oi c (bg s q)=dt c g.1.toNat:=by rw[h2];show fF c (gs++[g],tt,tw,false)=_;unfold fF;rw[fp]
  rw[hx]at hq;obtain⟨l1,l2⟩:=hF.2.2.2.2.2.2.2.2.2.2.2.2.2 (.inl hq);refine⟨q,gs,g,tt,tw,dt c g.1.toNat,q3,q1,ht,?_,hA.n,?_,?_,bI 0 l1 (by rw[hA.lo];exact l2),h3,⟨p,pc',hA⟩,hq⟩
  ·rintro rfl;have e2:=h.t;rw[ht]at e2;have e3:gs++[g]=fs++[f]:=by grind
   have e4:g=f:=by simp_all
   rw[e4,h.pc1]at hq;rw[ZH,h.x,hop]at hq;cases hq
  ·rw[hA.pc1];exact bk _ hA.pc2
  ·rw[h2];unfold fF;rw[fp]
theorem aoO{c:CC}(hc:bw c){e:bM}{s:aB}{acc:List ((Int×Int×Bool)×Bool)}(hs:StOk c s)(hl:∀l∈s.2.2.1,l.length<=1048575){i:Nat}{fs:List Fr}{f:Fr}{st:List Int}{w:Int}{x:bM}{k pc:Nat}(h:AtP c s i fs f st w x k pc)(hop:x.1=19){j:Int}
  (hj:¬0<(c.2.2.2.2.1.getD x.2.1.toNat ([],0)).2->0<=j/\j<(hU c s x.2.1).length) :
  l7 (c,e,s,acc) (i:Int) j x.2.1=some ((ko c s i fs f st w x.2.1 j).1,(ko c s i fs f st w x.2.1 j).2.2.1,(c,e,(ko c s i fs f st w x.2.1 j).2.2.2,(ko c s i fs f st w x.2.1 j).2.1.foldl cv acc)):=by
 have hA:=h;obtain⟨ht,hnf,hm,hpc1,hpc2,hpr,hlo,hx⟩:=h;have hF:=hc.2.2.1 k pc hpc2 hpr;rw[hx]at hF;obtain⟨⟨h0,_⟩,_,hO⟩:=hF;have et:=aV ht;have efr:∀g:Fr,ae (fs++[g]) (fs.length:Int)=some g:=λg=>by simp[ae]
 have esa:=iR ht;have ela:∀g:Fr,((fs++[g]).length:Int)=(fs.length:Int)+1:=λg=>by simp
 have ewl:ac ((fs.length:Int)+1-1)=(fs.length:Int):=by rw[aD (by omega) (by omega)];omega
 obtain⟨op,a,b⟩:=x;obtain⟨o1,o2,o3,o4,o5,o6,o7,o8,o9,o10,o11,o12⟩:=hO;obtain⟨g1,g2⟩:=o7 (.inl hop);have ei:ae c.2.2.2.2.1 a=some (c.2.2.2.2.1.getD a.toNat ([],0)):=bI _ g1 g2;have eq:ae s.2.2.1 a=some (s.2.2.1.getD a.toNat []):=bI [] g1 (by have:=hs.fit.qs;grind);have hi:=dl ht;have ew1:ac ((st.length:Int)-1)=(st.length:Int)-1:=aD (by omega) (by omega);have eto1:((st.length:Int)-1).toNat=st.length-1:=by omega
 unfold l7 ko;dsimp only;simp only[et,f8,aat,ah,Ze,esa,ew1,ZH];by_cases hv:st.length=0
 ·rw[ax (show(st.length:Int)-1<0 by omega),if_pos hv];rfl
 rw[aQ (show¬(st.length:Int)-1<0 by omega),if_neg hv,ax (show 0<=(st.length:Int)-1/\(st.length:Int)-1<=st.length by omega)];have po:ae st ((st.length:Int)-1)=some (st.getD (st.length-1) 0):=by rw[bI 0 (by omega) (by omega),eto1]
 have et1:∀t',ae (s.1.set i t') (i:Int)=some t':=λt'=>aV (abG hi);simp only[Zr,Ze,po,ei,f8,eto1,acF];by_cases hcap:0<(c.2.2.2.2.1.getD a.toNat ([],0)).2
 ·rw[ax hcap,if_pos hcap];have hq:(s.2.2.1.getD a.toNat []).length<=1048575:=hl _ (lP [] (by have:=hs.fit.qs;grind));have a1:aP (s.2.2.1.getD a.toNat []).length 1 8=true:=bO (by omega) (by omega);simp only[Ze,et1,eq,f8,ela,ewl,efr,eP,aal,a1,ae2,aat,ZH,alF,ax (show 0<=a/\a<(s.2.2.1.length:Int)-0 by have:=hs.fit.qs;grind)];rfl
 ·rw[aQ hcap,if_neg hcap];obtain⟨q,gs,g,tt,tw,y,w1,w2,w3⟩:=CM hc hs hA hop (hj hcap);have hth:YV c (fs++[f],st.take (st.length-1),w,false):=by
   rcases lI hs hi with⟨z1,z2⟩|⟨z1,fs',f',st',w',z2,z3⟩
   ·rw[dW ht]at z1;cases z1
   ·rw[dW ht]at z2;injection z2 with z4 z5;injection z5 with z6 z7;subst z6;exact .inr ⟨rfl,fs',f',z4,⟨z3.n,by rw[acs];omega,z3.fr⟩⟩
  have er:=KX (c:=c) (e:=e) (acc:=cv acc (1,a,true)) (XH (s:=s) (i:=i) hs hth) a;rw[Zg ht]at er;have er':dv (c,e,(s.1.set i (fs++[f],st.take (st.length-1),w,false),s.2),cF af (.sc .bool) (1,a,false) (bif(cZ af (.sc .bool) (1,a,false) acc).getD false then true else true) acc) a=some (hU c s a):=er;have ej:ae (hU c s a) j=some ((hU c s a).getD j.toNat 0):=bI 0 (hj hcap).1 (hj hcap).2;rw[w1]at ej;have eq0:bg s q=(gs++[g],tt,tw,false):=dW w3.t;have eq1:∀t',ae (s.1.set i t') (q:Int)=some (gs++[g],tt,tw,false):=λt'=>aV (by rw[acN (ami w3.ne)];exact w3.t);have efr2:∀g:Fr,ae (gs++[g]) (gs.length:Int)=some g:=λg=>by simp[ae]
  have ela2:∀g:Fr,((gs++[g]).length:Int)=(gs.length:Int)+1:=λg=>by simp
  have hgn:=w3.n;have ewl2:ac ((gs.length:Int)+1-1)=(gs.length:Int):=by rw[aD (by omega) (by omega)];omega
  have eq2:∀t' u,ae ((s.1.set i t').set q u) (q:Int)=some u:=λt' u=>aV (abG (by grind));have ewm:ac (1+(q:Int))=(q:Int)+1:=by have:=hs.n;rw[aD (by omega) (by omega)];omega
  simp only[Zr,er',ej,f8,et1,eq1,eq2,ela,ewl,efr,ela2,ewl2,efr2,eP,aat,Ze,ae2,ZH,alF,m6,ah,w3.pc,w3.lo,ax (show(0:Int)<=(gs.length:Int)/\(gs.length:Int)<(gs.length:Int)+1-0 by omega),ewm,w1,eq0,fp,ak4];have hy:=w3.yi;rw[eq0]at hy;rw[<-hy];rfl
def AA(s:aB)(o:Int):aB:=(s.1,s.2.1,s.2.2.1,s.2.2.2.1,s.2.2.2.2.1,s.2.2.2.2.2.1,s.2.2.2.2.2.2.1,s.2.2.2.2.2.2.2.1,s.2.2.2.2.2.2.2.2.1,o,s.2.2.2.2.2.2.2.2.2.2)
def rx(s:aB)(i:Nat):wV:=([],[(5,0,true)],true,if i=0 then AA (cg s i ([],[],0,true)) 0 else cg s i ([],[],0,true))
def mw(s:aB)(i:Nat)(fs:List Fr)(f:Fr)(st:List Int)(w:Int)(x:bM)(j:Int):wV:=
 let q:=gn i f st x j s.2
 ([(i:Int)],q.1,q.2.1,if q.2.1=true then cg (tj s i fs f st w x j) i (fs++[(ac (f.1+1),q.2.2.1)],q.2.2.2.1,w,false)else tj s i fs f st w x j)
instance (op:Int):Decidable (ia op):=by unfold ia;infer_instance
def eT(c:CC)(s:aB)(i:Nat)(fs:List Fr)(f:Fr)(st:List Int)(w:Int)(x:bM)(j:Int):wV:=
 if x.1=18 then sN c s i fs f st w x.2.1 else if x.1=19 then ko c s i fs f st w x.2.1 j else if ia x.1 then mw s i fs f st w x j else rx s i
structure CanDo(c:CC)(s:aB)(i:Nat)(fs:List Fr)(f:Fr)(st:List Int)(w:Int)(x:bM)(j:Int):Prop where
 at_:∃k pc,AtP c s i fs f st w x k pc
 ok:StOk c s
 n:s.1.length<=1048575
 qs:∀l∈s.2.2.1,l.length<=1048575
 q:x.1=20->0<(s.2.2.1.getD x.2.1.toNat []).length
 to:x.1=19->¬0<(c.2.2.2.2.1.getD x.2.1.toNat ([],0)).2->0<=j/\j<(hU c s x.2.1).length
theorem W8{op:Int}(h18:op≠18)(h19:op≠19)(h:¬ia op):op≠16/\op≠17/\op≠20/\op≠21/\op≠22/\op≠23/\op≠24/\op≠25/\op≠26/\op≠27:=by unfold ia at h;omega
theorem aev{c:CC}(hc:bw c){e:bM}{s:aB}{acc:List ((Int×Int×Bool)×Bool)}{i:Nat}{fs:List Fr}{f:Fr}{st:List Int}{w:Int}{x:bM}{j:Int}(h:CanDo c s i fs f st w x j) :
  kb (c,e,s,acc) (i:Int) j=some ((eT c s i fs f st w x j).1,(eT c s i fs f st w x j).2.2.1,(c,e,(eT c s i fs f st w x j).2.2.2,(eT c s i fs f st w x j).2.1.foldl cv acc)):=by
 obtain⟨⟨k,pc,hA⟩,hs,hn,hqs,hq,hto⟩:=h;have ht:=hA.t;have hi:=dl ht;have et:=aV ht;have efr:∀g:Fr,ae (fs++[g]) (fs.length:Int)=some g:=λg=>by simp[ae]
 have ela:∀g:Fr,((fs++[g]).length:Int)=(fs.length:Int)+1:=λg=>by simp
 have ewl:ac ((fs.length:Int)+1-1)=(fs.length:Int):=by have:=hA.n;rw[aD (by omega) (by omega)];omega
 have e5:nI (c,e,s,acc) (i:Int)=some x:=by
  unfold nI;have hx:ae c.1 f.1=some x:=by rw[hA.pc1,<-hA.x];exact bk _ hA.pc2
  grind
 unfold kb eT;simp only[et,e5,f8];by_cases h18:x.1=18
 ·rw[if_pos h18];have e2:cR x (c,e,s,acc) (i:Int) j=some (.inr ((sN c s i fs f st w x.2.1).1,(sN c s i fs f st w x.2.1).2.2.1,(c,e,(sN c s i fs f st w x.2.1).2.2.2,(sN c s i fs f st w x.2.1).2.1.foldl cv acc))):=by
   unfold cR;have n6:(x.1==(16:Int))=false:=by rw[h18];rfl
   have n7:(x.1==(17:Int))=false:=by rw[h18];rfl
   have n8:(x.1==(18:Int))=true:=by rw[h18];rfl
   simp only[n6,n7,n8,Ze,Zr,ara hc (e:=e) (acc:=acc) hA h18 hn,f8]
  grind
 rw[if_neg h18];by_cases h19:x.1=19
 ·rw[if_pos h19];have e2:cR x (c,e,s,acc) (i:Int) j=some (.inr ((ko c s i fs f st w x.2.1 j).1,(ko c s i fs f st w x.2.1 j).2.2.1,(c,e,(ko c s i fs f st w x.2.1 j).2.2.2,(ko c s i fs f st w x.2.1 j).2.1.foldl cv acc))):=by
   unfold cR;have n6:(x.1==(16:Int))=false:=by rw[h19];rfl
   have n7:(x.1==(17:Int))=false:=by rw[h19];rfl
   have n8:(x.1==(18:Int))=false:=by rw[h19];rfl
   have n9:(x.1==(19:Int))=true:=by rw[h19];rfl
   simp only[n6,n7,n8,n9,Ze,Zr,aoO hc (e:=e) (acc:=acc) hs hqs hA h19 (hto h19),f8]
  grind
 rw[if_neg h19];by_cases hp:ia x.1
 ·rw[if_pos hp];refine(aae (λo:Option (XD⊕((List Int)×Bool×aO))=>o.bind _) (ap3 hc (e:=e) (acc:=acc) hA hs.fit hp hq j)).trans ?_;unfold mw;simp only[f8];have et1:∀t',ae (s.1.set i t') (i:Int)=some t':=λt'=>aV (abG hi);cases hg:(gn i f st x j s.2).2.1
  ·rfl
  ·simp only[fl,tj,Ze,f8,aaL,et1,aat,ah,ela,ewl,efr,ZH,eP];rfl
 ·rw[if_neg hp];have e2:cR x (c,e,s,acc) (i:Int) j=some (.inr ((rx s i).1,(rx s i).2.2.1,(c,e,(rx s i).2.2.2,(rx s i).2.1.foldl cv acc))):=by
   obtain⟨n1,n2,n3,n4,n5,n6,n7,n8,n9,n10⟩:=W8 h18 h19 hp;unfold cR px rx;simp only[bf n1,bf n2,bf n3,bf n4,bf n5,bf n6,bf n7,bf n8,bf n9,bf n10,bf h18,bf h19,Zr,et,f8,aat,ah,Ze,ZH];by_cases h0:i=0
   ·subst h0;rfl
   ·rw[bf (show¬(i:Int)=0 by omega),if_neg h0];rfl
  grind
end Go.Proofs.YtgghcmbaidihjaaGreatDoor
