/- Laws for the row. No condition. -/
import Derived.Test.YtfhhiajfciblbaaGreatDoorLawS6
namespace Go.Proofs.YtfhhiajfciblbaaGreatDoor
open Go.Sm
set_option linter.unusedSimpArgs false
set_option linter.unusedVariables false
set_option maxRecDepth 4000
variable {s:aO} {i k pc:Nat} {c:CC} {st:List Int} {w j:Int} {fs:List Fr} {f:Fr} {x e:bI} {t:Th}
theorem aei (hi:i<s.1.length):bL (bV s i t) i=t:=by
 unfold bL bV
 simp [hi]
theorem WN {q:Nat}  (h:q≠i):bL (bV s i t) q=bL s q:=by
 unfold bL bV
 simp only [WT,Yr (ahZ h)]
theorem fZ :(bV s i t).1.length=s.1.length:=by unfold bV; simp
theorem Iv {fr:List Fr} {st':List Int}  {b:Bool} (ht:s.1[i]? = some (fr,st,w,b)) (ch:Int):dY c (bV s i (fr,st',w,b)) ch=dY c s ch:=by
 unfold dY
 rw [fZ]
 congr 1
 funext q
 unfold AX
 by_cases h:q=i
 ·subst h
  rw [aei (dt ht),jN ht]
  rfl
 ·rw [WN h]
theorem IE (hs:StOk c s)   (ht:R3 c t):StOk c (bV s i t):=
 ⟨by rw [fZ]; exact hs.n,fun u hu=>by
  rcases ZH hu with h | h
  ·exact hs.th u h
  ·rw [h]; exact ht,⟨hs.fit.vars,hs.fit.qs,hs.fit.own,hs.fit.files⟩,hs.cap⟩
def iB (c:CC) (s:aO) (i:Nat) (fs:List Fr) (f:Fr) (st:List Int) (w:Int) (a j:Int):vF:=
 if st.length=0 then ([],[(1,a,true)],false,s)
 else
  let v:=st.getD (st.length - 1) 0
  let s1:=bV s i (fs++[(ad (f.1+1),f.2)],st.take (st.length - 1),w,false)
  if 0<(c.2.2.2.2.1.getD a.toNat ([],0)).2 then ([(i:Int)],[(1,a,true)],true,(s1.1,s1.2.1,s1.2.2.1.set a.toNat (s.2.2.1.getD a.toNat []++[v]),s1.2.2.2))
  else
   let to:=(dY c s a).getD j.toNat 0
   let t:=bL s to.toNat
   ([to,(i:Int)],[(1,a,true),(5,to+1,true)],true,bV s1 to.toNat (t.1.dropLast++[(ad ((tC t).1+1),(tC t).2.set (eA c t).2.2.toNat v)],t.2))
structure Takes (c:CC) (s:aO) (i q:Nat) (gs:List Fr) (g:Fr) (tt:List Int) (tw:Int) (y:bI):Prop where
 t:s.1[q]? = some (gs++[g],tt,tw,false)
 ne:q≠i
 n:gs.length<8
 pc:ac c.1 g.1=some y
 yi:y=eA c (bL s q)
 lo:ac g.2 y.2.2=some (g.2.getD y.2.2.toNat 0)
 run:Run1 c gs g tt
 at_ : ∃ k pc,AtP c s q gs g tt tw y k pc
 op:y.1=20
theorem AQ (hc:bj c)  (hs:StOk c s)        (h:AtP c s i fs f st w x k pc) (hop:x.1=19)  (hj:0≤j∧j<(dY c s x.2.1).length) :
  ∃ q gs g tt tw y,(dY c s x.2.1).getD j.toNat 0=((q:Nat):Int)∧q<s.1.length∧Takes c s i q gs g tt tw y:=by
 have hm:(dY c s x.2.1).getD j.toNat 0∈dY c s x.2.1:=de 0 (by omega)
 obtain ⟨q,q1,q2,q3⟩:=I2.1 hm
 have hq:(kG c (bL s q)).1=20:=by
  unfold AX at q2
  simp only [Vf,aag] at q2
  exact q2.1
 rcases jJ hs q1 with ⟨h1,h2⟩ | ⟨h1,gs,g,tt,tw,h2,h3⟩
 ·unfold kG at hq
  rw [if_pos h1] at hq
  cases hq
 ·have ht:s.1[q]? = some (gs++[g],tt,tw,false):=by rw [fJ q1,h2]
  obtain ⟨p,pc',hA⟩:=iK ht h3
  have hF:=hc.2.2.1 p pc' hA.pc2 hA.pr
  rw [hA.x] at hF
  have hx:kG c (bL s q)=cH c g.1.toNat:=by
   rw [h2]
   show eA c (gs++[g],tt,tw,false)=_
   unfold eA
   rw [ef]
  rw [hx] at hq
  obtain ⟨l1,l2⟩:=hF.2.2.2.2.2.2.2.2.2.2.2.2.2 (.inl hq)
  refine ⟨q,gs,g,tt,tw,cH c g.1.toNat,q3,q1,ht,?_,hA.n,?_,?_,aT 0 l1 (by rw [hA.lo]; exact l2),h3,⟨p,pc',hA⟩,hq⟩
  ·rintro rfl
   have e2:=h.t
   rw [ht] at e2
   have e3:gs++[g]=fs++[f]:=by injection e2 with e2; injection e2
   have e4:g=f:=by have:=List.append_inj_right' e3 rfl; injection this
   rw [e4,h.pc1] at hq
   rw [VY,h.x,hop] at hq
   cases hq
  ·rw [hA.pc1]; exact aB _ hA.pc2
  ·rw [h2]; unfold eA; rw [ef]
theorem aga (hc:bj c)   {acc:List ((Int×Int×Bool)×Bool)} (hs:StOk c s) (hl : ∀ l∈s.2.2.1,l.length≤1048575)        (h:AtP c s i fs f st w x k pc) (hop:x.1=19) 
  (hj : ¬ 0<(c.2.2.2.2.1.getD x.2.1.toNat ([],0)).2→0≤j∧j<(dY c s x.2.1).length) :
  ni (c,e,s,acc) (i:Int) j x.2.1=some ((iB c s i fs f st w x.2.1 j).1,(iB c s i fs f st w x.2.1 j).2.2.1,(c,e,(iB c s i fs f st w x.2.1 j).2.2.2,(iB c s i fs f st w x.2.1 j).2.1.foldl cv acc)):=by
 have hA:=h
 obtain ⟨ht,hnf,hm,hpc1,hpc2,hpr,hlo,hx⟩:=h
 have hF:=hc.2.2.1 k pc hpc2 hpr
 rw [hx] at hF
 obtain ⟨⟨h0,_⟩,_,hO⟩:=hF
 have et:=bC ht
 have efr : ∀ g:Fr,ac (fs++[g]) (fs.length:Int)=some g:=fun g=>by simp [ac]
 have esa:=gn ht
 have ela : ∀ g:Fr,((fs++[g]).length:Int)=(fs.length:Int)+1:=fun g=>by simp
 have ewl:ad ((fs.length:Int)+1 - 1)=(fs.length:Int):=by rw [aZ (by omega) (by omega)]; omega
 obtain ⟨op,a,b⟩:=x
 obtain ⟨o1,o2,o3,o4,o5,o6,o7,o8,o9,o10,o11,o12⟩:=hO
 obtain ⟨g1,g2⟩:=o7 (.inl hop)
 have ei:ac c.2.2.2.2.1 a=some (c.2.2.2.2.1.getD a.toNat ([],0)):=aT _ g1 g2
 have eq:ac s.2.2.1 a=some (s.2.2.1.getD a.toNat []):=aT [] g1 (by have:=hs.fit.qs; dsimp only at g1 g2; omega)
 have hi:=dt ht
 have ew1:ad ((st.length:Int) - 1)=(st.length:Int) - 1:=aZ (by omega) (by omega)
 have eto1:((st.length:Int) - 1).toNat=st.length - 1:=by omega
 unfold ni iB
 dsimp only
 simp only [et,f7,ZJ,V9,af,f9,esa,ew1,VY]
 by_cases hv:st.length=0
 ·rw [aw (show (st.length:Int) - 1<0 by omega),if_pos hv]
  rfl
 rw [aG (show ¬ (st.length:Int) - 1<0 by omega),if_neg hv,aw (show 0≤(st.length:Int) - 1∧(st.length:Int) - 1≤st.length by omega)]
 have po:ac st ((st.length:Int) - 1)=some (st.getD (st.length - 1) 0):=by rw [aT 0 (by omega) (by omega),eto1]
 have et1 : ∀ t',ac (s.1.set i t') (i:Int)=some t' := fun t' => bC (W5 hi)
 simp only [no,f9,po,ei,f7,ZJ,eto1,WM]
 by_cases hcap:0<(c.2.2.2.2.1.getD a.toNat ([],0)).2
 ·rw [aw hcap,if_pos hcap]
  have hq:(s.2.2.1.getD a.toNat []).length≤1048575:=hl _ (de [] (by have:=hs.fit.qs; dsimp only at g1 g2; omega))
  have a1:aJ (s.2.2.1.getD a.toNat []).length 1 8=true:=aY (by omega) (by omega)
  simp only [f9,et1,eq,f7,ZJ,ela,ewl,efr,cN,Vp,a1,YS,V9,VY,ae5,aw (show 0≤a∧a<(s.2.2.1.length:Int) - 0 by have:=hs.fit.qs; dsimp only at g1 g2; omega)]
  rfl
 ·rw [aG hcap,if_neg hcap]
  obtain ⟨q,gs,g,tt,tw,y,w1,w2,w3⟩:=AQ hc hs hA hop (hj hcap)
  have hth:R3 c (fs++[f],st.take (st.length - 1),w,false):=by
   rcases jJ hs hi with ⟨z1,z2⟩ | ⟨z1,fs',f',st',w',z2,z3⟩
   ·rw [jN ht] at z1; cases z1
   ·rw [jN ht] at z2
    injection z2 with z4 z5
    injection z5 with z6 z7
    subst z6
    exact .inr ⟨rfl,fs',f',z4,⟨z3.n,by rw [V7]; have:=z3.m; omega,z3.fr⟩⟩
  have er:=Jd (c:=c) (e:=e) (acc:=cv acc (1,a,true)) (IE (s:=s) (i:=i) hs hth) a
  rw [Iv ht] at er
  have er' : du (c,e,(s.1.set i (fs++[f],st.take (st.length - 1),w,false),s.2),cO ae (.sc .bool) (1,a,false) (bif (dh ae (.sc .bool) (1,a,false) acc).getD false then true else true) acc) a=some (dY c s a):=er
  have ej:ac (dY c s a) j=some ((dY c s a).getD j.toNat 0):=aT 0 (hj hcap).1 (hj hcap).2
  rw [w1] at ej
  have eq0:bL s q=(gs++[g],tt,tw,false):=jN w3.t
  have eq1 : ∀ t',ac (s.1.set i t') (q:Int)=some (gs++[g],tt,tw,false):=fun t' => bC (by rw [Yr (ahZ w3.ne)]; exact w3.t)
  have efr2 : ∀ g:Fr,ac (gs++[g]) (gs.length:Int)=some g:=fun g=>by simp [ac]
  have ela2 : ∀ g:Fr,((gs++[g]).length:Int)=(gs.length:Int)+1:=fun g=>by simp
  have hgn:=w3.n
  have ewl2:ad ((gs.length:Int)+1 - 1)=(gs.length:Int):=by rw [aZ (by omega) (by omega)]; omega
  have eq2 : ∀ t' u,ac ((s.1.set i t').set q u) (q:Int)=some u:=fun t' u=>bC (W5 (by rw [XE]; exact w2))
  have ewm:ad (1+(q:Int))=(q:Int)+1:=by have:=hs.n; rw [aZ (by omega) (by omega)]; omega
  simp only [no,er',ej,f7,ZJ,et1,eq1,eq2,ela,ewl,efr,ela2,ewl2,efr2,cN,V9,f9,YS,VY,ae5,oh,af,w3.pc,w3.lo,aw (show (0:Int)≤(gs.length:Int)∧(gs.length:Int)<(gs.length:Int)+1 - 0 by omega),ewm,w1,eq0,ef,aeW]
  have hy:=w3.yi
  rw [eq0] at hy
  rw [← hy]
  rfl
theorem agG (hc:bj c)   {sd:List bR} (hs:StOk c s) (hl : ∀ l∈s.2.2.1,l.length≤1048575)        (h:AtP c s i fs f st w x k pc) (hop:x.1=19) 
  (hj : ¬ 0<(c.2.2.2.2.1.getD x.2.1.toNat ([],0)).2→0≤j∧j<(dY c s x.2.1).length) :
  jo (c,e,s,sd) (i:Int) j x.2.1=some ((iB c s i fs f st w x.2.1 j).1,(iB c s i fs f st w x.2.1 j).2.1,(iB c s i fs f st w x.2.1 j).2.2.1,(c,e,(iB c s i fs f st w x.2.1 j).2.2.2,sd)):=by
 have hA:=h
 obtain ⟨ht,hnf,hm,hpc1,hpc2,hpr,hlo,hx⟩:=h
 have hF:=hc.2.2.1 k pc hpc2 hpr
 rw [hx] at hF
 obtain ⟨⟨h0,_⟩,_,hO⟩:=hF
 have epop:=wu (c:=c) (e:=e) (a:=sd) ht (by omega)
 obtain ⟨op,a,b⟩:=x
 obtain ⟨o1,o2,o3,o4,o5,o6,o7,o8,o9,o10,o11,o12⟩:=hO
 obtain ⟨g1,g2⟩:=o7 (.inl hop)
 have ei:ac c.2.2.2.2.1 a=some (c.2.2.2.2.1.getD a.toNat ([],0)):=aT _ g1 g2
 have eq:ac s.2.2.1 a=some (s.2.2.1.getD a.toNat []):=aT [] g1 (by have:=hs.fit.qs; dsimp only at g1 g2; omega)
 have hi:=dt ht
 unfold jo iB
 dsimp only
 simp only [epop,f7,ZJ]
 by_cases hv:st.length=0
 ·rw [if_pos hv,if_pos hv]
  rfl
 rw [if_neg hv,if_neg hv]
 have et1 : ∀ t',(bV s i t').1[i]? = some t' := fun t' => W5 hi
 have en:=lz (c:=c) (e:=e) (a:=sd) (et1 (fs++[f],st.take (st.length - 1),w,false)) (by omega)
 rw [fB] at en
 simp only [no,f9,ei,f7,ZJ,WM]
 by_cases hcap:0<(c.2.2.2.2.1.getD a.toNat ([],0)).2
 ·rw [aw hcap,if_pos hcap]
  have hq:(s.2.2.1.getD a.toNat []).length≤1048575:=hl _ (de [] (by have:=hs.fit.qs; dsimp only at g1 g2; omega))
  have a1:aJ (s.2.2.1.getD a.toNat []).length 1 8=true:=aY (by omega) (by omega)
  have a2:aJ 0 (s.2.2.1.getD a.toNat []).length 8=true:=aY (by omega) (by omega)
  have eq' : ∀ t',ac (bV s i t').2.2.1 a=some (s.2.2.1.getD a.toNat []):=fun _=>eq
  have ed : ∀ t',decide (0≤a∧a<((bV s i t').2.2.1.length:Int) - 0)=true:=fun t' => aw (by show 0≤a∧a<(s.2.2.1.length:Int) - 0; have:=hs.fit.qs; dsimp only at g1 g2; omega)
  simp only [f9,en,eq',ed,af,f7,ZJ,Vp,List.length_nil,XI,a1,a2,YS,V9]
 ·rw [aG hcap,if_neg hcap]
  obtain ⟨q,gs,g,tt,tw,y,w1,w2,w3⟩:=AQ hc hs hA hop (hj hcap)
  have hth:R3 c (fs++[f],st.take (st.length - 1),w,false):=by
   rcases jJ hs hi with ⟨z1,z2⟩ | ⟨z1,fs',f',st',w',z2,z3⟩
   ·rw [jN ht] at z1; cases z1
   ·rw [jN ht] at z2
    injection z2 with z4 z5
    injection z5 with z6 z7
    subst z6
    exact .inr ⟨rfl,fs',f',z4,⟨z3.n,by rw [V7]; have:=z3.m; omega,z3.fr⟩⟩
  have er:=H6 (c:=c) (e:=e) (a:=sd) (IE (s:=s) (i:=i) hs hth) a
  rw [Iv ht] at er
  have ej:ac (dY c s a) j=some ((dY c s a).getD j.toNat 0):=aT 0 (hj hcap).1 (hj hcap).2
  rw [w1] at ej
  have eq0:bL s q=(gs++[g],tt,tw,false):=jN w3.t
  have eq1 : ∀ t',ac (bV s i t').1 (q:Int)=some (gs++[g],tt,tw,false):=fun t' => bC (by unfold bV; rw [Yr (ahZ w3.ne)]; exact w3.t)
  have efr2 : ∀ g:Fr,ac (gs++[g]) (gs.length:Int)=some g:=fun g=>by simp [ac]
  have ela2 : ∀ g:Fr,((gs++[g]).length:Int)=(gs.length:Int)+1:=fun g=>by simp
  have hgn:=w3.n
  have ewl2:ad ((gs.length:Int)+1 - 1)=(gs.length:Int):=by rw [aZ (by omega) (by omega)]; omega
  have ed : ∀ t',decide ((0:Int)≤(q:Int)∧(q:Int)<((bV s i t').1.length:Int) - 0)=true:=fun t' => aw (by rw [fZ]; omega)
  have enq : ∀ (t' : Th) (u:List Int),bB (c,e,((bV s i t').1.set q (gs++[(g.1,u)],tt,tw,false),(bV s i t').2),sd) (q:Int)=some (c,e,bV (bV s i t') q (gs++[(ad (g.1+1),u)],tt,tw,false),sd):=fun t' u=>by
   have:=lz (c:=c) (e:=e) (a:=sd) (s:=bV (bV s i t') q (gs++[(g.1,u)],tt,tw,false)) (i:=q) (fs:=gs) (f:=(g.1,u)) (st:=tt) (w:=tw) (b:=false) (W5 (by rw [fZ]; exact w2)) (by omega)
   rw [fB] at this
   exact this
  have a3:aJ 1 1 24=true:=aY (by omega) (by omega)
  have hz:((gs.length:Int)+1==0)=false:=by simp only [WW]; omega
  simp only [no,er,ej,f7,ZJ,en,eq1,ela2,ewl2,efr2,cN,V9,f9,YS,VY,ed,oM,af,hz,w3.pc,w3.lo,aw (show (0:Int)≤(gs.length:Int)∧(gs.length:Int)<(gs.length:Int)+1 - 0 by omega),w1,eq0,ef,aeW,Vp,a3,enq,Ak (show q≤1048576 by have:=hs.n; omega)]
  have hy:=w3.yi
  rw [eq0] at hy
  rw [← hy]
  rfl
def afy (s:aO) (o:Int):aO:=(s.1,s.2.1,s.2.2.1,s.2.2.2.1,s.2.2.2.2.1,s.2.2.2.2.2.1,s.2.2.2.2.2.2.1,s.2.2.2.2.2.2.2.1,s.2.2.2.2.2.2.2.2.1,o,s.2.2.2.2.2.2.2.2.2.2)
def qP (s:aO) (i:Nat):vF:=([],[(5,0,true)],true,if i=0 then afy (bV s i ([],[],0,true)) 0 else bV s i ([],[],0,true))
def vM (s:aO) (i:Nat) (fs:List Fr) (f:Fr) (st:List Int) (w:Int) (x:bI) (j:Int):vF:=
 let q:=nI i f st x j s.2
 ([(i:Int)],q.1,q.2.1,if q.2.1=true then bV (qk s i fs f st w x j) i (fs++[(ad (f.1+1),q.2.2.1)],q.2.2.2.1,w,false) else qk s i fs f st w x j)
instance (op:Int):Decidable (jx op):=by unfold jx; infer_instance
def mX (c:CC) (s:aO) (i:Nat) (fs:List Fr) (f:Fr) (st:List Int) (w:Int) (x:bI) (j:Int):vF:=
 if x.1=18 then oN c s i fs f st w x.2.1 else if x.1=19 then iB c s i fs f st w x.2.1 j else if jx x.1 then vM s i fs f st w x j else qP s i
structure CanDo (c:CC) (s:aO) (i:Nat) (fs:List Fr) (f:Fr) (st:List Int) (w:Int) (x:bI) (j:Int):Prop where
 at_ : ∃ k pc,AtP c s i fs f st w x k pc
 ok:StOk c s
 n:s.1.length≤1048575
 qs : ∀ l∈s.2.2.1,l.length≤1048575
 q:x.1=20→0<(s.2.2.1.getD x.2.1.toNat []).length
 to:x.1=19→¬ 0<(c.2.2.2.2.1.getD x.2.1.toNat ([],0)).2→0≤j∧j<(dY c s x.2.1).length
theorem Ej {op:Int} (h18:op≠18) (h19:op≠19) (h : ¬ jx op):op≠16∧op≠17∧op≠20∧op≠21∧op≠22∧op≠23∧op≠24∧op≠25∧op≠26∧op≠27:=by
 unfold jx at h
 omega
theorem Wt (hc:bj c)   {acc:List ((Int×Int×Bool)×Bool)}        (h:CanDo c s i fs f st w x j) :
  lA (c,e,s,acc) (i:Int) j=some ((mX c s i fs f st w x j).1,(mX c s i fs f st w x j).2.2.1,(c,e,(mX c s i fs f st w x j).2.2.2,(mX c s i fs f st w x j).2.1.foldl cv acc)):=by
 obtain ⟨⟨k,pc,hA⟩,hs,hn,hqs,hq,hto⟩:=h
 have ht:=hA.t
 have hi:=dt ht
 have et:=bC ht
 have efr : ∀ g:Fr,ac (fs++[g]) (fs.length:Int)=some g:=fun g=>by simp [ac]
 have ela : ∀ g:Fr,((fs++[g]).length:Int)=(fs.length:Int)+1:=fun g=>by simp
 have ewl:ad ((fs.length:Int)+1 - 1)=(fs.length:Int):=by have:=hA.n; rw [aZ (by omega) (by omega)]; omega
 have e5:oq (c,e,s,acc) (i:Int)=some x:=by
  unfold oq
  have hx:ac c.1 f.1=some x:=by rw [hA.pc1,← hA.x]; exact aB _ hA.pc2
  simp only [et,f7,ZJ,no,mP fs f (by have:=hA.n; omega),hx]
 unfold lA mX
 simp only [et,e5,f7,ZJ]
 by_cases h18:x.1=18
 ·rw [if_pos h18]
  have e2:cZ x (c,e,s,acc) (i:Int) j=some (.inr ((oN c s i fs f st w x.2.1).1,(oN c s i fs f st w x.2.1).2.2.1,(c,e,(oN c s i fs f st w x.2.1).2.2.2,(oN c s i fs f st w x.2.1).2.1.foldl cv acc))):=by
   unfold cZ
   have n6:(x.1==(16:Int))=false:=by rw [h18]; rfl
   have n7:(x.1==(17:Int))=false:=by rw [h18]; rfl
   have n8:(x.1==(18:Int))=true:=by rw [h18]; rfl
   simp only [n6,n7,n8,f9,no,ajP hc (e:=e) (acc:=acc) hA h18 hn,f7,ZJ]
  refine (Xw (fun o:Option (D2⊕((List Int)×Bool×aR))=>o.bind _) e2).trans ?_
  rfl
 rw [if_neg h18]
 by_cases h19:x.1=19
 ·rw [if_pos h19]
  have e2:cZ x (c,e,s,acc) (i:Int) j=some (.inr ((iB c s i fs f st w x.2.1 j).1,(iB c s i fs f st w x.2.1 j).2.2.1,(c,e,(iB c s i fs f st w x.2.1 j).2.2.2,(iB c s i fs f st w x.2.1 j).2.1.foldl cv acc))):=by
   unfold cZ
   have n6:(x.1==(16:Int))=false:=by rw [h19]; rfl
   have n7:(x.1==(17:Int))=false:=by rw [h19]; rfl
   have n8:(x.1==(18:Int))=false:=by rw [h19]; rfl
   have n9:(x.1==(19:Int))=true:=by rw [h19]; rfl
   simp only [n6,n7,n8,n9,f9,no,aga hc (e:=e) (acc:=acc) hs hqs hA h19 (hto h19),f7,ZJ]
  refine (Xw (fun o:Option (D2⊕((List Int)×Bool×aR))=>o.bind _) e2).trans ?_
  rfl
 rw [if_neg h19]
 by_cases hp:jx x.1
 ·rw [if_pos hp]
  refine (Xw (fun o:Option (D2⊕((List Int)×Bool×aR))=>o.bind _) (aiN hc (e:=e) (acc:=acc) hA hs.fit hp hq j)).trans ?_
  unfold vM
  simp only [f7,ZJ]
  have et1 : ∀ t',ac (s.1.set i t') (i:Int)=some t' := fun t' => bC (W5 hi)
  cases hg:(nI i f st x j s.2).2.1
  ·simp only [fl,qk,hg,no,f7,ZJ,XV,WE]
  ·simp only [fl,qk,hg,f9,f7,ZJ,We,et1,V9,af,ela,ewl,efr,VY,cN]
   rfl
 ·rw [if_neg hp]
  have e2:cZ x (c,e,s,acc) (i:Int) j=some (.inr ((qP s i).1,(qP s i).2.2.1,(c,e,(qP s i).2.2.2,(qP s i).2.1.foldl cv acc))):=by
   obtain ⟨n1,n2,n3,n4,n5,n6,n7,n8,n9,n10⟩:=Ej h18 h19 hp
   unfold cZ qd qP
   simp only [bf n1,bf n2,bf n3,bf n4,bf n5,bf n6,bf n7,bf n8,bf n9,bf n10,bf h18,bf h19,no,et,f7,ZJ,V9,af,f9,VY]
   by_cases h0:i=0
   ·subst h0
    rfl
   ·rw [bf (show ¬ (i:Int)=0 by omega),if_neg h0]
    rfl
  refine (Xw (fun o:Option (D2⊕((List Int)×Bool×aR))=>o.bind _) e2).trans ?_
  rfl
theorem Wi (hc:bj c)   {sd:List bR}        (h:CanDo c s i fs f st w x j) :
  iA (c,e,s,sd) (i:Int) j=some ((mX c s i fs f st w x j).1,(mX c s i fs f st w x j).2.1,(mX c s i fs f st w x j).2.2.1,(c,e,(mX c s i fs f st w x j).2.2.2,sd)):=by
 obtain ⟨⟨k,pc,hA⟩,hs,hn,hqs,hq,hto⟩:=h
 have ht:=hA.t
 have hi:=dt ht
 have et:=bC ht
 unfold iA mX
 simp only [VV hA,f7,ZJ]
 by_cases h18:x.1=18
 ·rw [if_pos h18]
  have e2:cr x (c,e,s,sd) (i:Int) j=some (.inr ((oN c s i fs f st w x.2.1).1,(oN c s i fs f st w x.2.1).2.1,(oN c s i fs f st w x.2.1).2.2.1,(c,e,(oN c s i fs f st w x.2.1).2.2.2,sd))):=by
   unfold cr
   have n6:(x.1==(16:Int))=false:=by rw [h18]; rfl
   have n7:(x.1==(17:Int))=false:=by rw [h18]; rfl
   have n8:(x.1==(18:Int))=true:=by rw [h18]; rfl
   simp only [n6,n7,n8,f9,no,ajZ hc (e:=e) (sd:=sd) hA h18 hn,f7,ZJ]
  refine (Xw (fun o:Option (Le⊕((List Int)×(List (Int×Int×Bool))×Bool×ay))=>o.bind _) e2).trans ?_
  rfl
 rw [if_neg h18]
 by_cases h19:x.1=19
 ·rw [if_pos h19]
  have e2:cr x (c,e,s,sd) (i:Int) j=some (.inr ((iB c s i fs f st w x.2.1 j).1,(iB c s i fs f st w x.2.1 j).2.1,(iB c s i fs f st w x.2.1 j).2.2.1,(c,e,(iB c s i fs f st w x.2.1 j).2.2.2,sd))):=by
   unfold cr
   have n6:(x.1==(16:Int))=false:=by rw [h19]; rfl
   have n7:(x.1==(17:Int))=false:=by rw [h19]; rfl
   have n8:(x.1==(18:Int))=false:=by rw [h19]; rfl
   have n9:(x.1==(19:Int))=true:=by rw [h19]; rfl
   simp only [n6,n7,n8,n9,f9,no,agG hc (e:=e) (sd:=sd) hs hqs hA h19 (hto h19),f7,ZJ]
  refine (Xw (fun o:Option (Le⊕((List Int)×(List (Int×Int×Bool))×Bool×ay))=>o.bind _) e2).trans ?_
  rfl
 rw [if_neg h19]
 by_cases hp:jx x.1
 ·rw [if_pos hp]
  refine (Xw (fun o:Option (Le⊕((List Int)×(List (Int×Int×Bool))×Bool×ay))=>o.bind _) (ajp hc (e:=e) (sd:=sd) hA hs.fit hp hq (fun l hl=>by have:=hqs l hl; omega) j)).trans ?_
  unfold vM
  simp only [f7,ZJ]
  cases hg:(nI i f st x j s.2).2.1
  ·unfold gj
   simp only [gw,qk,hg,no,f7,ZJ,XV,WE]
  ·have en:=lz (c:=c) (e:=e) (a:=sd) (s:=qk s i fs f st w x j) (i:=i) (fs:=fs) (f:=(f.1,(nI i f st x j s.2).2.2.1)) (st:=(nI i f st x j s.2).2.2.2.1) (w:=w) (b:=false) (W5 hi) (by have:=hA.n; omega)
   have e2:gj ((nI i f st x j s.2).1,true,(gw 0 (c,e,qk s i fs f st w x j,sd)).2) (i:Int)=some (gw 0 (c,e,bV (qk s i fs f st w x j) i (fs++[(ad (f.1+1),(nI i f st x j s.2).2.2.1)],(nI i f st x j s.2).2.2.2.1,w,false),sd)).2:=by
    unfold gj
    simp only [f9]
    refine (Xw (fun o:Option ay=>o.bind _) en).trans ?_
    rfl
   refine (Xw (fun o:Option oL=>o.bind _) e2).trans ?_
   simp only [We]
   rfl
 ·rw [if_neg hp]
  have e2:cr x (c,e,s,sd) (i:Int) j=some (.inr ((qP s i).1,(qP s i).2.1,(qP s i).2.2.1,(c,e,(qP s i).2.2.2,sd))):=by
   obtain ⟨n1,n2,n3,n4,n5,n6,n7,n8,n9,n10⟩:=Ej h18 h19 hp
   unfold cr nz qP
   simp only [bf n1,bf n2,bf n3,bf n4,bf n5,bf n6,bf n7,bf n8,bf n9,bf n10,bf h18,bf h19,no,et,f7,ZJ,V9,af,f9,VY,jE ht,YS]
   by_cases h0:i=0
   ·subst h0
    rfl
   ·rw [bf (show ¬ (i:Int)=0 by omega),if_neg h0]
    rfl
  refine (Xw (fun o:Option (Le⊕((List Int)×(List (Int×Int×Bool))×Bool×ay))=>o.bind _) e2).trans ?_
  rfl
end Go.Proofs.YtfhhiajfciblbaaGreatDoor
