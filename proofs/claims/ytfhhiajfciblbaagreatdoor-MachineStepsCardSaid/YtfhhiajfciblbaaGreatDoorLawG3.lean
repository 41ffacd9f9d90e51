/- Laws for the row. No condition. -/
import Derived.Test.YtfhhiajfciblbaaGreatDoorLawM7
namespace Go.Proofs.YtfhhiajfciblbaaGreatDoor
open Go.Sm
set_option linter.unusedSimpArgs false
set_option linter.unusedVariables false
set_option maxRecDepth 4000
variable {c:CC} {s:aO} {e:bI} {i k b:Nat} {a:List bR} {acc:List ((Int×Int×Bool)×Bool)} {f:Fr} {α:Type} {r:List Nd}
def gw (n:Int) (r:ay):xF:=(n,r.1.1,r.1.2.1,r.1.2.2.1,r.1.2.2.2.1,r.1.2.2.2.2.1,r.1.2.2.2.2.2.1,r.1.2.2.2.2.2.2.1,r.1.2.2.2.2.2.2.2,r.2.1.1,r.2.1.2.1,r.2.1.2.2,r.2.2.1.1,r.2.2.1.2.1,r.2.2.1.2.2.1,r.2.2.1.2.2.2.1,r.2.2.1.2.2.2.2.1,r.2.2.1.2.2.2.2.2.1,r.2.2.1.2.2.2.2.2.2.1,r.2.2.1.2.2.2.2.2.2.2.1.1,r.2.2.1.2.2.2.2.2.2.2.1.2.1,r.2.2.1.2.2.2.2.2.2.2.1.2.2,r.2.2.1.2.2.2.2.2.2.2.2.1,r.2.2.1.2.2.2.2.2.2.2.2.2.1,r.2.2.1.2.2.2.2.2.2.2.2.2.2.1,r.2.2.1.2.2.2.2.2.2.2.2.2.2.2,r.2.2.2)
theorem adk (hc:bj c)     {fs:List Fr}  {st:List Int} {w:Int} {x:bI} {pc:Nat} (h:AtP c s i fs f st w x k pc) (hf:Fit1 c s) (ha:a.length≤1048576) :
  gb (c,e,s,a) x (i:Int)=some (c,e,(qU c s i).1,a++(qU c s i).2):=by
 have hF:=hc.2.2.1 k pc h.pc2 h.pr
 rw [h.x] at hF
 have hx:eA c (bL s i)=x:=by
  rw [jN h.t]; unfold eA; rw [ef,h.pc1]; exact h.x
 unfold qU
 dsimp only
 rw [hx]
 obtain ⟨op,u,b⟩:=x
 obtain ⟨_,_,o1,o2,o3,o4,o5,o6,o7,o8,o9,o10,o11,o12⟩:=hF
 dsimp only at o1 o2 o3 o4 o5 o6 o7 o8 o9 o10 o11 o12
 have eap : ∀ v:bR,aJ a.length ([v]:List bR).length 24=true:=fun v=>aY (by simp only [Vp]; omega) (by omega)
 unfold gb
 dsimp only
 by_cases h25:op=25
 ·subst h25
  simp only [Int.reduceBEq,f9,no,We,bC h.t,f7,ZJ,eap,af,jN h.t,VY]
  rfl
 rw [bf h25,if_neg h25]
 by_cases h21:op=21
 ·subst h21
  obtain ⟨q1,q2⟩:=o8 (.inl rfl)
  have eo:ac s.2.2.2.1 u=some (s.2.2.2.1.getD u.toNat 0):=aT 0 q1 (by have:=hf.own; omega)
  have hp1:jU (c,e,s,a) (21,u,b)=some (gw 0 (c,e,(if 0≤s.2.2.2.1.getD u.toNat 0 then P6 s else s),a)).2:=by
   unfold jU
   simp only [eo,f7,ZJ]
   by_cases hw:0≤s.2.2.2.1.getD u.toNat 0
   ·rw [aw hw,if_pos hw]
    rfl
   ·rw [aG hw,if_neg hw]
    rfl
  simp only [Int.reduceBEq,f9,no,We,hp1,f7,ZJ]
  generalize (if 0≤s.2.2.2.1.getD u.toNat 0 then P6 s else s)=s2
  simp only [gw,eap,af,f9]
 rw [bf h21,if_neg h21]
 by_cases h20:op=20
 ·subst h20
  obtain ⟨q1,q2⟩:=o7 (.inr rfl)
  have eo:ac c.2.2.2.2.1 u=some (c.2.2.2.2.1.getD u.toNat ([],0)):=aT _ q1 (by omega)
  simp only [Int.reduceBEq,f9,no,We,eo,f7,ZJ]
  by_cases hw:(c.2.2.2.2.1.getD u.toNat ([],0)).2=0
  ·rw [show ((c.2.2.2.2.1.getD u.toNat ([],0)).2==0)=true by simp only [aag]; exact hw,if_pos hw]
   simp only [f9,eap,af]
  ·rw [show ((c.2.2.2.2.1.getD u.toNat ([],0)).2==0)=false by simp only [WW]; exact hw,if_neg hw]
   simp only [no,Wm]
 rw [bf h20,if_neg h20]
 simp only [no,Wm]
theorem UU (i:Int) (n:Int) (r:ay):gZ i (gw n r) =
  bif decide (r.2.2.1.2.2.2.2.2.2.2.2.2.1<(0:Int)) then
   (bU r i).bind fun r2=>(ac r.2.2.1.1 i).bind fun _=>(ac r.2.2.1.1 i).bind fun v4=>(f0 r2 (v4.1.length:Int)).bind fun r5=>
   bif r5 then (gb r r2 i).bind fun r6=>some (Sum.inr r6)
   else bif n==(64:Int) then (bS r 3 i).bind fun r7=>some (Sum.inr r7)
   else (eM r.2.2.1).bind fun r8=>(fP r r2 i).bind fun r9=>
    bif !r9.1 then (bS (r9.2.1,r9.2.2.1,r8,r9.2.2.2.2) 4 i).bind fun r10=>some (Sum.inr r10)
    else some (Sum.inl (gw (ad (n+1)) r9.2))
  else some (Sum.inr r):=rfl
theorem xL (hc:bj c)  (h:tH c f):f.2.length≤512:=by
 obtain ⟨k,pc,_,_,h3,h4⟩:=h
 obtain ⟨_,_,_,_,q5,q6⟩:=hc.2.1.2.2.1 k h3.1
 omega
theorem SW (hc:bj c) {s':aO} (hs:cT s)  {fs:List Fr}  {st:List Int} {w:Int} (h:s'.1=s.1.set i (fs++[f],st,w,false)) (hr:Run1 c fs f st) (k:ui s s'):cT s' := by
 obtain ⟨h1,h2,h3,h4,h5,h6,h7⟩:=hs
 obtain ⟨a1,a2,a3,a4,a5,a6,a7,a8,a9⟩:=k
 unfold cT
 rw [h,a1,a2,a3,a4]
 refine ⟨by simpa using h1,fun t ht=>?_,h3,h4,h5,h6,h7⟩
 rcases ZH ht with ht | rfl
 ·exact h2 t ht
 ·have:=hr.n
  have:=hr.m
  exact ⟨by simp only [Vs,Vp]; omega,by dsimp only; omega,fun g hg=>by have:=xL hc (hr.fr g hg); omega⟩
theorem N8 (hc:bj c) (e:bI) (a:List bR) (ha:a.length≤1048576) {s0:aO}  (hs:pw c s0 i) (hf:Fit1 c s0) (hsm:cT s0) :
  fe (c,e,s0,a) (i:Int)=some (c,e,(cK c e.1 i s0).1,a++(cK c e.1 i s0).2):=by
 obtain ⟨r,h1,h2⟩:=fw (f:=gZ (i:Int)) (fun y=>65 - y.1.toNat) (fun y=>∃ (n:Nat) (s:aO),y=gw (n:Int) (c,e,s,a)∧n≤64∧pw c s i∧Fit1 c s∧cT s∧dH c e.1 i (64 - n) s=dH c e.1 i 64 s0)
  (fun r=>r=(c,e,(cK c e.1 i s0).1,a++(cK c e.1 i s0).2))
  (fun y hy=>by
   obtain ⟨n,s,rfl,hn,⟨fs,f,st,w,ht,hr⟩,hf,hsm,hq⟩:=hy
   obtain ⟨k,pc,hA⟩:=iK ht hr
   unfold cK
   rw [← hq,vb c e.1 (64 - n) hA]
   have eat:bU (c,e,s,a) (i:Int)=some (cH c f.1.toNat):=VV hA
   have eov:=fun o=>Jo hc (e:=e) (a:=a) hA o
   have esi:=fun hop=>aji hc (e:=e) (a:=a) hA hop
   have est:=adk hc (e:=e) hA hf ha
   have esd:=Kg (cH c f.1.toNat) (fs.length+1) (by omega)
   have ela:((fs++[f]).length:Int)=((fs.length+1:Nat):Int):=by simp
   have et:=bC ht
   have ecp:=wg s hsm
   rw [UU]
   by_cases ho:0≤cD s
   ·left
    rw [if_pos ho]
    refine ⟨_,?_,rfl⟩
    have : ¬ (s.2.2.2.2.2.2.2.2.2.1<(0:Int)):=by unfold cD at ho; omega
    simp only [this,Yv,no,ajr]
    rw [if_neg (by omega)]
    simp only [Wm]
   rw [if_neg ho]
   have hlt:s.2.2.2.2.2.2.2.2.2.1<(0:Int):=by unfold cD at ho; omega
   simp only [hlt,YD,f9,eat,et,f7,ZJ,ela,esd]
   by_cases hst:dB (cH c f.1.toNat) (fs.length+1)=true
   ·left
    refine ⟨_,?_,rfl⟩
    simp only [hst,f9,We,ajr,est,f7,ZJ]
    rw [if_pos (by omega)]
   have hst' : dB (cH c f.1.toNat) (fs.length+1)=false:=by simpa using hst
   obtain ⟨hop,hb⟩:=uX hc hA hst'
   have hov : ∀ o:Int,0≤o→¬ cD (iy c s i o)<0:=by
    intro o h0
    rw [qe hc hA]
    unfold cD tM
    dsimp only
    omega
   rw [hst']
   rcases aeB hn with hn | hn
   rotate_left
   ·left
    subst hn
    refine ⟨_,?_,rfl⟩
    simp only [no,XV,WE,show (((64:Nat):Int)==64)=true from rfl,f9,eov,f7,ZJ,ad2,false_and,Wm]
   obtain ⟨m,hm⟩ : ∃ m,64 - n=m+1:=⟨63 - n,by omega⟩
   rw [hm]
   have h64:((n:Int)==64)=false:=by simp only [WW]; omega
   simp only [no,XV,WE,h64,ecp,f7,ZJ,esi hop]
   cases hsil:jA c e.1 s i fs f st w (cH c f.1.toNat) with
   | none=>
    left
    refine ⟨_,?_,rfl⟩
    simp only [Wn,f9,eov,f7,ZJ,XV,false_and,WE,Wm]
   | some s' =>
    right
    obtain ⟨fs1,f1,st1,g1,g2,g3⟩:=HM hc hA hr hop hb hsil
    refine ⟨gw ((n+1:Nat):Int) (c,e,s',a),?_,⟨n+1,s',rfl,by omega,Eo hc hA hr hst' hsil,Lq hf g3,SW hc hsm g1 g2 g3,?_⟩,by show 65 - ((n+1:Nat):Int).toNat<65 - (n:Int).toNat; omega⟩
    ·simp only [WM,no]
     rw [aW (n:=64) (by omega) hn]
     rfl
    ·rw [show 64 - (n+1)=m by omega]) (s:=gw 0 (c,e,s0,a)) ⟨0,s0,rfl,by omega,hs,hf,hsm,rfl⟩ (by show 65 - (0:Int).toNat<_; omega)
 unfold fe
 dsimp only
 refine Eq.trans h1 ?_
 rw [h2]
def R3 (c:CC) (t:Th):Prop:=(t.2.2.2=true∧t.1=[])∨(t.2.2.2=false∧∃ fs f,t.1=fs++[f]∧Run1 c fs f t.2.1)
structure StOk (c:CC) (s:aO):Prop where
 n:s.1.length≤1048576
 th : ∀ t∈s.1,R3 c t
 fit:Fit1 c s
 cap : ∀ j,j<c.2.2.2.2.1.length→((s.2.2.1.getD j []).length:Int)≤(c.2.2.2.2.1.getD j ([],0)).2
def qI (n:Nat) (p:Nat→Bool):List Int:=((List.range n).filter p).map Int.ofNat
theorem Uu (n:Nat) (p:Nat→Bool):qI (n+1) p=if p n then qI n p++[(n:Int)] else qI n p:=by
 unfold qI
 rw [List.range_succ,List.filter_append,Ym]
 cases h:p n <;> simp [h]
theorem nY (n:Nat) (p:Nat→Bool):(qI n p).length≤n:=by
 unfold qI
 rw [abn]
 exact aeM (List.length_filter_le _ _) (by simp)
theorem Cj {f:List Int×Int→Option ((List Int×Int)⊕List Int)} (n:Nat) (p:Nat→Bool) (hn:n≤1048576)
  (hstep : ∀ k,k<n→∀ bk:List Int,aJ bk.length 1 8=true→f (bk,(k:Int))=some (.inl (if p k then bk++[(k:Int)] else bk,(k:Int)+1)))
  (hend : ∀ bk,f (bk,(n:Int))=some (.inr bk)):Itr.it f ([],(0:Int))=some (qI n p):=
 c9 (f:=f) (fun y=>n - y.2.toNat) (fun _=>qI n p) (fun y=>∃ k:Nat,y=(qI k p,(k:Int))∧k≤n)
  (fun y hy=>by
   obtain ⟨k,rfl,hk⟩:=hy
   rcases WG k n with hlt | hge
   ·right
    refine ⟨(qI (k+1) p,((k+1:Nat):Int)),?_,⟨k+1,rfl,by omega⟩,by dsimp only; omega,rfl⟩
    have:=nY k p
    rw [hstep k hlt _ (aY (by omega) (by omega)),Uu]
    rfl
   ·left
    have:k=n:=by omega
    subst this
    exact hend _) (s:=([],0)) ⟨0,rfl,by omega⟩ (by show n - (0:Int).toNat<_; omega)
def kG (c:CC) (t:Th):bI:=if t.2.2.2=true then (29,0,0) else eA c t
def AX (c:CC) (s:aO) (ch:Int) (k:Nat):Bool:=(kG c (bL s k)).1==20&&(kG c (bL s k)).2.1==ch
def dY (c:CC) (s:aO) (ch:Int):List Int:=qI s.1.length (AX c s ch)
def vZ (c:CC) (s:aO) (k:Nat):Bool:=
 let t:=bL s k
 let x:=kG c t
 if t.2.2.2=true then false
 else if x.1=21 then decide (s.2.2.2.1.getD x.2.1.toNat 0<0)
 else if x.1=19 then (if (c.2.2.2.2.1.getD x.2.1.toNat ([],0)).2=0 then decide (0<(dY c s x.2.1).length) else decide (((s.2.2.1.getD x.2.1.toNat []).length:Int)<(c.2.2.2.2.1.getD x.2.1.toNat ([],0)).2))
 else if x.1=20 then decide (0<(s.2.2.1.getD x.2.1.toNat []).length)
 else if x.1=25 then decide (t.2.2.1≤s.2.2.2.2.2.1)
 else true
def fO (c:CC) (s:aO):List Int:=qI s.1.length (vZ c s)
theorem fJ (h:k<s.1.length):s.1[k]? = some (bL s k):=by
 unfold bL
 simp [h]
theorem jJ (hs:StOk c s)  (h:k<s.1.length):((bL s k).2.2.2=true∧(bL s k).1=[])∨((bL s k).2.2.2=false∧∃ fs f st w,bL s k=(fs++[f],st,w,false)∧Run1 c fs f st):=by
 rcases hs.th (bL s k) (de _ h) with h | ⟨h1,fs,f,h2,h3⟩
 ·exact .inl h
 ·refine .inr ⟨h1,fs,f,(bL s k).2.1,(bL s k).2.2.1,?_,h3⟩
  rw [← h1,← h2]
theorem GY (hs:StOk c s)  (h:k<s.1.length) (z:List Int) :
  lE (c,e,s,acc) (z,(k:Int))=some (kG c (bL s k)):=by
 unfold lE kG
 rcases jJ hs h with ⟨h1,h2⟩ | ⟨h1,fs,f,st,w,h2,h3⟩
 ·simp only [bC (fJ h),f7,ZJ,h1,f9,We]
 ·obtain ⟨k',pc,hA⟩:=iK (s:=s) (i:=k) (by rw [fJ h,h2]) h3
  have hx:ac c.1 f.1=some (cH c f.1.toNat):=by rw [hA.pc1]; exact aB _ hA.pc2
  rw [h2] at h1 ⊢
  have ht:=hA.t
  simp only [bC ht,f7,ZJ,no,mP fs f (by have:=h3.n; omega),hx,XV,WE]
  rw [eA,ef]
theorem aiA (hs:StOk c s)  (h:k<s.1.length) (z:Int) :
  sb (c,e,s,acc) (z,(k:Int))=some (kG c (bL s k)):=GY (e:=e) (acc:=acc) hs h []
theorem FD (hs:StOk c s)  (h:k<s.1.length) :
  bU (c,e,s,a) (k:Int)=some (if (bL s k).2.2.2=true then (28,0,0) else kG c (bL s k)):=by
 rcases jJ hs h with ⟨h1,h2⟩ | ⟨h1,fs,f,st,w,h2,h3⟩
 ·unfold bU
  simp only [bC (fJ h),f7,ZJ,h1,h2,List.length_nil,We]
  rfl
 ·obtain ⟨k',pc,hA⟩:=iK (s:=s) (i:=k) (by rw [fJ h,h2]) h3
  rw [VV hA,h2]
  simp only [XV,WE,kG]
  rw [eA,ef]
theorem Jd (hs:StOk c s) (ch:Int):du (c,e,s,acc) ch=some (dY c s ch):=by
 unfold du dY
 rw [Cj s.1.length (AX c s ch) hs.n (fun k hk bk ho=>by
  unfold je
  simp only [aw (show (k:Int)<(s.1.length:Int) by omega),f9,bC (fJ hk),f7,ZJ,GY hs hk,aW (n:=s.1.length) (by have:=hs.n; omega) hk]
  unfold AX
  generalize kG c (bL s k)=x
  rw [show (bif x.1==(20:Int) then x.2.1==ch else false)=(x.1==20&&x.2.1==ch) by cases (x.1==(20:Int)) <;> rfl]
  cases hb:(x.1==20&&x.2.1==ch)
  ·rfl
  ·simp only [f9,Vp,ho,af,f7,ZJ,We]) (fun bk=>by unfold je; simp only [aG (show ¬ (s.1.length:Int)<(s.1.length:Int) by omega),no])]
 rfl
theorem H6 (hs:StOk c s) (ch:Int):dC (c,e,s,a) ch=some (dY c s ch):=by
 unfold dC dY
 rw [Cj s.1.length (AX c s ch) hs.n (fun k hk bk ho=>by
  unfold gq
  simp only [aw (show (k:Int)<(s.1.length:Int) by omega),f9,bC (fJ hk),f7,ZJ,FD hs hk,aW (n:=s.1.length) (by have:=hs.n; omega) hk]
  unfold AX
  cases he:(bL s k).2.2.2
  ·simp only [XV,WE,Wn,f9]
   generalize kG c (bL s k)=x
   rw [show (bif x.1==(20:Int) then x.2.1==ch else false)=(x.1==20&&x.2.1==ch) by cases (x.1==(20:Int)) <;> rfl]
   cases hb:(x.1==20&&x.2.1==ch)
   ·rfl
   ·simp only [f9,Vp,ho,af,f7,ZJ,We]
  ·simp only [WM,no,kG,he,We]
   rfl) (fun bk=>by unfold gq; simp only [aG (show ¬ (s.1.length:Int)<(s.1.length:Int) by omega),no])]
 rfl
theorem xQ (hc:bj c)  (hs:StOk c s)  (h:k<s.1.length) (he:(bL s k).2.2.2=false) : ∃ p,p<c.2.1.length∧yj c p (kG c (bL s k))∧kG c (bL s k)=eA c (bL s k):=by
 rcases jJ hs h with ⟨h1,h2⟩ | ⟨h1,fs,f,st,w,h2,h3⟩
 ·rw [he] at h1; cases h1
 ·obtain ⟨p,pc,hA⟩:=iK (s:=s) (i:=k) (by rw [fJ h,h2]) h3
  have hF:=hc.2.2.1 p pc hA.pc2 hA.pr
  rw [hA.x] at hF
  rw [h2]
  refine ⟨p,hA.pr.1,?_,rfl⟩
  show yj c p (eA c (fs++[f],st,w,false))
  rw [eA,ef]
  exact hF.2.2
theorem uA (hc:bj c)    (hs:StOk c s):eQ (c,e,s,acc)=some (fO c s):=by
 unfold eQ fO
 rw [Cj s.1.length (vZ c s) hs.n (fun k hk bk ho=>by
  unfold jT
  have et:=bC (fJ hk)
  have hp:lM (kG c (bL s k)) (c,e,s,acc) (bk,(k:Int)) (bL s k)=some (vZ c s k):=by
   unfold lM vZ
   dsimp only
   cases he:(bL s k).2.2.2
   rotate_left
   ·have hx:kG c (bL s k)=(29,0,0):=by unfold kG; rw [if_pos he]
    rw [hx]
    rfl
   obtain ⟨p,hpn,hO,-⟩:=xQ hc hs hk he
   generalize kG c (bL s k)=x at *
   obtain ⟨op,u,b⟩:=x
   obtain ⟨o1,o2,o3,o4,o5,o6,o7,o8,o9,o10,o11,o12⟩:=hO
   dsimp only at o1 o2 o3 o4 o5 o6 o7 o8 o9 o10 o11 o12 ⊢
   simp only [XV,WE]
   by_cases h21:op=21
   ·subst h21
    obtain ⟨q1,q2⟩:=o8 (.inl rfl)
    have eo:ac s.2.2.2.1 u=some (s.2.2.2.1.getD u.toNat 0):=aT 0 q1 (by have:=hs.fit.own; omega)
    simp only [Int.reduceBEq,f9,We,eo,f7,ZJ]
   rw [bf h21,if_neg h21]
   by_cases h19:op=19
   ·subst h19
    obtain ⟨q1,q2⟩:=o7 (.inl rfl)
    have ec:ac c.2.2.2.2.1 u=some (c.2.2.2.2.1.getD u.toNat ([],0)):=aT _ q1 (by omega)
    have eq:ac s.2.2.1 u=some (s.2.2.1.getD u.toNat []):=aT _ q1 (by have:=hs.fit.qs; omega)
    simp only [Int.reduceBEq,f9,no,We,ec,eq,f7,ZJ,Jd hs]
    by_cases hz:(c.2.2.2.2.1.getD u.toNat ([],0)).2=0
    ·rw [if_pos hz,show ((c.2.2.2.2.1.getD u.toNat ([],0)).2==0)=true by simp only [aag]; exact hz,aG (show ¬ ((s.2.2.1.getD u.toNat []).length:Int)<(c.2.2.2.2.1.getD u.toNat ([],0)).2 by omega)]
     simp only [Wn,aeu,f9,no,f7,ZJ]
     congr 1
     rw [aat]
     omega
    ·rw [if_neg hz,show ((c.2.2.2.2.1.getD u.toNat ([],0)).2==0)=false by simp only [WW]; exact hz]
     simp only [ajC,no,f7,ZJ]
     cases decide (((s.2.2.1.getD u.toNat []).length:Int)<(c.2.2.2.2.1.getD u.toNat ([],0)).2) <;> rfl
   rw [bf h19,if_neg h19]
   by_cases h20:op=20
   ·subst h20
    obtain ⟨q1,q2⟩:=o7 (.inr rfl)
    have eq:ac s.2.2.1 u=some (s.2.2.1.getD u.toNat []):=aT _ q1 (by have:=hs.fit.qs; omega)
    simp only [Int.reduceBEq,f9,no,We,eq,f7,ZJ]
    congr 1
    rw [aat]
    omega
   rw [bf h20,if_neg h20]
   by_cases h25:op=25
   ·subst h25
    simp only [Int.reduceBEq,f9,no,We,et,f7,ZJ]
   rw [bf h25,if_neg h25]
   simp only [no,he,Wn]
  simp only [aw (show (k:Int)<(s.1.length:Int) by omega),f9,et,f7,ZJ,GY hs hk,hp,aW (n:=s.1.length) (by have:=hs.n; omega) hk]
  cases hb:vZ c s k
  ·rfl
  ·simp only [f9,Vp,ho,af,f7,ZJ,We]) (fun bk=>by unfold jT; simp only [aG (show ¬ (s.1.length:Int)<(s.1.length:Int) by omega),no])]
 rfl
theorem FJ (hc:bj c)    (hs:StOk c s):ep (c,e,s,a)=some (fO c s):=by
 unfold ep fO
 rw [Cj s.1.length (vZ c s) hs.n (fun k hk bk ho=>by
  unfold jF
  have et:=bC (fJ hk)
  have hp:iW (c,e,s,a) (k:Int)=some (vZ c s k):=by
   unfold iW vZ
   dsimp only
   simp only [et,f7,ZJ,FD hs hk]
   cases he:(bL s k).2.2.2
   rotate_left
   ·rfl
   obtain ⟨p,hpn,hO,-⟩:=xQ hc hs hk he
   generalize kG c (bL s k)=x at *
   obtain ⟨op,u,b⟩:=x
   obtain ⟨o1,o2,o3,o4,o5,o6,o7,o8,o9,o10,o11,o12⟩:=hO
   dsimp only at o1 o2 o3 o4 o5 o6 o7 o8 o9 o10 o11 o12 ⊢
   simp only [XV,WE,no]
   by_cases h21:op=21
   ·subst h21
    obtain ⟨q1,q2⟩:=o8 (.inl rfl)
    have eo:ac s.2.2.2.1 u=some (s.2.2.2.1.getD u.toNat 0):=aT 0 q1 (by have:=hs.fit.own; omega)
    simp only [Int.reduceBEq,f9,We,eo,f7,ZJ]
   rw [bf h21,if_neg h21]
   by_cases h19:op=19
   ·subst h19
    obtain ⟨q1,q2⟩:=o7 (.inl rfl)
    have ec:ac c.2.2.2.2.1 u=some (c.2.2.2.2.1.getD u.toNat ([],0)):=aT _ q1 (by omega)
    have eq:ac s.2.2.1 u=some (s.2.2.1.getD u.toNat []):=aT _ q1 (by have:=hs.fit.qs; omega)
    simp only [Int.reduceBEq,f9,no,We,ec,eq,f7,ZJ,H6 hs]
    by_cases hz:(c.2.2.2.2.1.getD u.toNat ([],0)).2=0
    ·rw [if_pos hz,show ((c.2.2.2.2.1.getD u.toNat ([],0)).2==0)=true by simp only [aag]; exact hz]
     simp only [f9]
     congr 1
     rw [aat]
     omega
    ·rw [if_neg hz,show ((c.2.2.2.2.1.getD u.toNat ([],0)).2==0)=false by simp only [WW]; exact hz]
     rfl
   rw [bf h19,if_neg h19]
   by_cases h20:op=20
   ·subst h20
    obtain ⟨q1,q2⟩:=o7 (.inr rfl)
    have ec:ac c.2.2.2.2.1 u=some (c.2.2.2.2.1.getD u.toNat ([],0)):=aT _ q1 (by omega)
    have eq:ac s.2.2.1 u=some (s.2.2.1.getD u.toNat []):=aT _ q1 (by have:=hs.fit.qs; omega)
    have hcap:=hs.cap u.toNat (by omega)
    simp only [Int.reduceBEq,f9,no,We,ec,eq,f7,ZJ]
    by_cases hz:(0:Int)<(c.2.2.2.2.1.getD u.toNat ([],0)).2
    ·simp only [aw hz,f9,f7,ZJ]
     congr 1
     rw [aat]
     omega
    ·simp only [aG hz,no,f7,ZJ]
     congr 1
     rw [eq_comm,YH]
     omega
   rw [bf h20,if_neg h20]
   by_cases h25:op=25
   ·subst h25
    simp only [Int.reduceBEq,f9,no,We,et,f7,ZJ]
   rw [bf h25,if_neg h25]
   simp only [no]
  simp only [aw (show (k:Int)<(s.1.length:Int) by omega),f9,f7,ZJ,hp,aW (n:=s.1.length) (by have:=hs.n; omega) hk]
  cases hb:vZ c s k
  ·rfl
  ·simp only [f9,Vp,ho,af,f7,ZJ,We]) (fun bk=>by unfold jF; simp only [aG (show ¬ (s.1.length:Int)<(s.1.length:Int) by omega),no])]
 rfl
def qh (c:CC) (s:aO):Nat→Int
 | 0=>-1
 | n+1=>if (kG c (bL s n)).1=25∧(qh c s n<0∨(bL s n).2.2.1<qh c s n) then (bL s n).2.2.1 else qh c s n
def agH (s:aO) (w:Int):aO:=(s.1,s.2.1,s.2.2.1,s.2.2.2.1,s.2.2.2.2.1,w,s.2.2.2.2.2.2)
def ko (c:CC) (s:aO):aO:=
 if 0≤cD s then s else if s.2.2.2.2.2.2.1=0 then iy c s 0 3 else if 0<(fO c s).length then s else if 0≤qh c s s.1.length then agH s (qh c s s.1.length) else iy c s 0 2
theorem NK {f:Int×Int→Option ((Int×Int)⊕Int)} (c:CC) (s:aO) (hn:s.1.length≤1048576)
  (hstep : ∀ k,k<s.1.length→∀ w:Int,f (w,(k:Int))=some (.inl (if (kG c (bL s k)).1=25∧(w<0∨(bL s k).2.2.1<w) then (bL s k).2.2.1 else w,(k:Int)+1)))
  (hend : ∀ w,f (w,(s.1.length:Int))=some (.inr w)):Itr.it f (-1,(0:Int))=some (qh c s s.1.length):=
 c9 (f:=f) (fun y=>s.1.length - y.2.toNat) (fun _=>qh c s s.1.length) (fun y=>∃ k:Nat,y=(qh c s k,(k:Int))∧k≤s.1.length)
  (fun y hy=>by
   obtain ⟨k,rfl,hk⟩:=hy
   rcases WG k s.1.length with hlt | hge
   ·right
    refine ⟨(qh c s (k+1),((k+1:Nat):Int)),?_,⟨k+1,rfl,by omega⟩,by dsimp only; omega,rfl⟩
    rw [hstep k hlt]
    rfl
   ·left
    have:k=s.1.length:=by omega
    subst this
    exact hend _) (s:=(-1,0)) ⟨0,rfl,by omega⟩ (by show s.1.length - (0:Int).toNat<_; omega)
theorem Ng (hc:bj c)    (hs:StOk c s)  (hi:i<s.1.length) (o:Int):bS (c,e,s,a) o (i:Int)=some (c,e,iy c s i o,a):=by
 rcases jJ hs hi with ⟨h1,h2⟩ | ⟨h1,fs,f,st,w,h2,h3⟩
 ·unfold bS iy
  dsimp only
  rw [if_neg (by rw [h1]; simp)]
  simp only [bC (fJ hi),f7,ZJ,h2,List.length_nil]
  rfl
 ·obtain ⟨k',pc,hA⟩:=iK (s:=s) (i:=i) (by rw [fJ hi,h2]) h3
  exact Jo hc hA o
theorem HT (hc:bj c)    (hs:StOk c s) (h1:0<s.1.length):fN (c,e,s,a)=some (c,e,ko c s,a):=by
 unfold fN ko
 dsimp only
 by_cases ho:0≤cD s
 ·rw [if_pos ho]
  have:(0:Int)≤s.2.2.2.2.2.2.2.2.2.1:=ho
  simp only [this,YD,f9]
 rw [if_neg ho]
 have : ¬ (0:Int)≤s.2.2.2.2.2.2.2.2.2.1:=ho
 simp only [this,Yv,no]
 by_cases hf:s.2.2.2.2.2.2.1=0
 ·rw [if_pos hf,bt hf]
  simp only [f9]
  rw [show bS (c,e,s,a) 3 0=_ from Ng hc hs h1 3]
  rfl
 rw [if_neg hf,bf hf]
 simp only [no,FJ hc hs,f7,ZJ]
 by_cases hl:0<(fO c s).length
 ·rw [if_pos hl,aw (by omega)]
  rfl
 rw [if_neg hl,aG (by omega)]
 have hw:=NK (f:=fc (c,e,s,a)) c s hs.n (fun k hk w=>by
  unfold fc
  simp only [aw (show (k:Int)<(s.1.length:Int) by omega),f9,bC (fJ hk),f7,ZJ,FD hs hk,aW (n:=s.1.length) (by have:=hs.n; omega) hk]
  cases he:(bL s k).2.2.2
  ·simp only [Wn,f9,XV,WE,f7,ZJ,pm,mU,kT]
   by_cases hq:(kG c (bL s k)).1=25∧(w<0∨(bL s k).2.2.1<w)
   ·rw [if_pos hq,aw hq]
    rfl
   ·rw [if_neg hq,aG hq]
    rfl
  ·have hx : ¬ ((kG c (bL s k)).1=25∧(w<0∨(bL s k).2.2.1<w)):=by unfold kG; rw [if_pos he]; simp
   simp only [WM,no,f7,ZJ,if_neg hx]) (fun w=>by unfold fc; simp only [aG (show ¬ (s.1.length:Int)<(s.1.length:Int) by omega),no])
 simp only [no,hw,f7,ZJ]
 by_cases hz:0≤qh c s s.1.length
 ·rw [if_pos hz,aw hz]
  rfl
 ·rw [if_neg hz,aG hz]
  simp only [no]
  rw [show bS (c,e,s,a) 2 0=_ from Ng hc hs h1 2]
  rfl
theorem HV (hc:bj c)    (hs:StOk c s) (h1:0<s.1.length):i8 (c,e,s,acc)=some (c,e,ko c s,acc):=by
 unfold i8 ko
 dsimp only
 by_cases ho:0≤cD s
 ·rw [if_pos ho]
  have:(0:Int)≤s.2.2.2.2.2.2.2.2.2.1:=ho
  simp only [this,YD,f9]
 rw [if_neg ho]
 have : ¬ (0:Int)≤s.2.2.2.2.2.2.2.2.2.1:=ho
 simp only [this,Yv,no]
 have et:=fJ h1
 have e0:ac s.1 0=some (bL s 0):=bC et
 by_cases hf:s.2.2.2.2.2.2.1=0
 ·rw [if_pos hf,bt hf]
  simp only [f9,e0,f7,ZJ]
  rcases jJ hs h1 with ⟨g1,g2⟩ | ⟨g1,fs,f,st,w,g2,g3⟩
  ·rw [g1]
   unfold iy
   dsimp only
   rw [if_neg (by rw [g1]; simp)]
   rfl
  ·obtain ⟨k',pc,hA⟩:=iK (s:=s) (i:=0) (by rw [et,g2]) g3
   obtain ⟨q1,q2,q3,q4⟩:=vS hc hA
   rw [qe hc hA,g2]
   simp only [Wn,f9,mP fs f (by have:=g3.n; omega),f7,ZJ,q1,q3,q4]
   rfl
 rw [if_neg hf,bf hf]
 simp only [no,uA hc hs,f7,ZJ]
 by_cases hl:0<(fO c s).length
 ·rw [if_pos hl,aw (by omega)]
  rfl
 rw [if_neg hl,aG (by omega)]
 have hw:=NK (f:=hZ (c,e,s,acc)) c s hs.n (fun k hk w=>by
  unfold hZ
  simp only [aw (show (k:Int)<(s.1.length:Int) by omega),f9,bC (fJ hk),f7,ZJ,aiA hs hk,aW (n:=s.1.length) (by have:=hs.n; omega) hk]
  generalize (kG c (bL s k)).1=op
  by_cases h25:op=25
  ·rw [bt h25]
   by_cases hwz:w<0
   ·rw [aw hwz,if_pos ⟨h25, .inl hwz⟩]
    rfl
   ·rw [aG hwz]
    simp only [Wn,ada,f9,no,f7,ZJ]
    by_cases hq:(bL s k).2.2.1<w
    ·rw [aw hq,if_pos ⟨h25, .inr hq⟩]
     rfl
    ·rw [aG hq,if_neg (by intro h; rcases h.2 with h | h; exact hwz h; exact hq h)]
     rfl
  ·rw [bf h25,if_neg (fun h=>h25 h.1)]
   rfl) (fun w=>by unfold hZ; simp only [aG (show ¬ (s.1.length:Int)<(s.1.length:Int) by omega),no])
 simp only [no,hw,f7,ZJ]
 by_cases hz:0≤qh c s s.1.length
 ·rw [if_pos hz,aG (by omega)]
  rfl
 ·rw [if_neg hz,aw (by omega)]
  simp only [f9,e0,f7,ZJ]
  rcases jJ hs h1 with ⟨g1,g2⟩ | ⟨g1,fs,f,st,w,g2,g3⟩
  ·rw [g1]
   unfold iy
   dsimp only
   rw [if_neg (by rw [g1]; simp)]
   rfl
  ·obtain ⟨k',pc,hA⟩:=iK (s:=s) (i:=0) (by rw [et,g2]) g3
   obtain ⟨q1,q2,q3,q4⟩:=vS hc hA
   rw [qe hc hA,g2]
   simp only [Wn,f9,mP fs f (by have:=g3.n; omega),f7,ZJ,q1,q3,q4]
   rfl
theorem oJ {l:List Int} (h:l.length≤1048576):dg l=some l:=by
 unfold dg
 rw [jv (aY (by simp only [List.length_nil]; omega) (by omega))]
 rfl
theorem ahw (r:List Fr) (z:List Int×Int×Bool) (h1:r.length≤1048576) (h2 : ∀ f∈r,f.2.length≤1048576):Itr.it (la r) ((),0,(r,0),z)=some ((r,(r.length:Int)),z):=
 c9 (f:=la r) (fun s=>r.length - s.2.1.toNat) (fun _=>((r,(r.length:Int)),z)) (fun s=>∃ i:Nat,s=((),(i:Int),(r,(i:Int)),z)∧i≤r.length)
  (fun s hs=>by
   obtain ⟨i,rfl,hi⟩:=hs
   unfold la
   rcases WG i r.length with hlt | hge
   ·right
    refine ⟨((),((i+1:Nat):Int),(r,((i+1:Nat):Int)),z),?_,⟨i+1,rfl,by omega⟩,by dsimp only; omega,rfl⟩
    have hf:=h2 _ (de (0,[]) hlt)
    simp only [aw (show (i:Int)<(r.length:Int) by omega),f9,aB (0,[]) hlt,f7,oJ hf,V9,af,aW (n:=r.length) (by omega) hlt,VY]
    rw [show ((r.getD i (0,[])).1,(r.getD i (0,[])).2)=r.getD i (0,[]) from rfl,gn (show r[i]? = some (r.getD i (0,[])) by simp [hlt])]
    rfl
   ·left
    have:i=r.length:=by omega
    subst this
    simp) (s:=((),0,(r,0),z)) ⟨0,rfl,by omega⟩ (by show r.length - (0:Int).toNat<_; omega)
theorem ahV (r:List Th) (z:List Int×List (List Int)×List Int×List Int×Int×Int×Int×Int×Int×Int×Int×Int×List UInt8) (h1:r.length≤1048576) (h2 : ∀ t∈r,Bw t):Itr.it (kY r) ((),0,(r,0),z)=some ((r,(r.length:Int)),z):=
 c9 (f:=kY r) (fun s=>r.length - s.2.1.toNat) (fun _=>((r,(r.length:Int)),z)) (fun s=>∃ i:Nat,s=((),(i:Int),(r,(i:Int)),z)∧i≤r.length)
  (fun s hs=>by
   obtain ⟨i,rfl,hi⟩:=hs
   unfold kY
   rcases WG i r.length with hlt | hge
   ·right
    refine ⟨((),((i+1:Nat):Int),(r,((i+1:Nat):Int)),z),?_,⟨i+1,rfl,by omega⟩,by dsimp only; omega,rfl⟩
    obtain ⟨q1,q2,q3⟩:=h2 _ (de ([],[],0,false) hlt)
    have ec:dc (r.getD i ([],[],0,false)).1=some (r.getD i ([],[],0,false)).1:=by
     unfold dc
     rw [jv (aY (by simp only [List.length_nil]; omega) (by omega))]
     rfl
    simp only [aw (show (i:Int)<(r.length:Int) by omega),f9,aB ([],[],0,false) hlt,f7,oJ q2,ec,ahw _ _ q1 q3,V9,af,aW (n:=r.length) (by omega) hlt,VY,aw (ad0 _)]
    rw [show ((r.getD i ([],[],0,false)).1,(r.getD i ([],[],0,false)).2.1,(r.getD i ([],[],0,false)).2.2)=r.getD i ([],[],0,false) from rfl,gn (show r[i]? = some (r.getD i ([],[],0,false)) by simp [hlt])]
    rfl
   ·left
    have:i=r.length:=by omega
    subst this
    simp) (s:=((),0,(r,0),z)) ⟨0,rfl,by omega⟩ (by show r.length - (0:Int).toNat<_; omega)
theorem agT (r:List (List Int)) (a:List Th) (b:List Int) (z:List Int×List Int×Int×Int×Int×Int×Int×Int×Int×Int×List UInt8) (h1:r.length≤1048576) (h2 : ∀ q∈r,q.length≤1048576) :
  Itr.it (kV r) ((),0,a,b,(r,0),z)=some (a,b,(r,(r.length:Int)),z):=
 c9 (f:=kV r) (fun s=>r.length - s.2.1.toNat) (fun _=>(a,b,(r,(r.length:Int)),z)) (fun s=>∃ i:Nat,s=((),(i:Int),a,b,(r,(i:Int)),z)∧i≤r.length)
  (fun s hs=>by
   obtain ⟨i,rfl,hi⟩:=hs
   unfold kV
   rcases WG i r.length with hlt | hge
   ·right
    refine ⟨((),((i+1:Nat):Int),a,b,(r,((i+1:Nat):Int)),z),?_,⟨i+1,rfl,by omega⟩,by dsimp only; omega,rfl⟩
    have hf:=h2 _ (de [] hlt)
    simp only [aw (show (i:Int)<(r.length:Int) by omega),f9,aB [] hlt,f7,oJ hf,V9,af,aW (n:=r.length) (by omega) hlt,VY]
    rw [gn (show r[i]? = some (r.getD i []) by simp [hlt])]
    rfl
   ·left
    have:i=r.length:=by omega
    subst this
    simp) (s:=((),0,a,b,(r,0),z)) ⟨0,rfl,by omega⟩ (by show r.length - (0:Int).toNat<_; omega)
theorem rj (s:aO) (hs:cT s):im s=some s:=by
 obtain ⟨h1,h2,h3,h4,h5,h6,h7⟩:=hs
 unfold im dV jW
 dsimp only
 rw [jv (aY (by simp only [List.length_nil]; omega) (by omega))]
 simp only [XI,f7,ZJ,ahV s.1 _ h1 h2,af,aw (ad0 _),f9,oJ h3,oJ h6,oJ h7]
 rw [show aJ ([]:List (List Int)).length s.2.2.1.length 24=true from aY (by simp only [List.length_nil]; omega) (by omega)]
 simp only [f9,f7,ZJ,agT s.2.2.1 _ _ _ h4 h5,aw (ad0 _)]
set_option linter.unusedSectionVars false
abbrev mq:Type:=List UInt8×Int
def zt (l:List mq) (nm:List UInt8):Option mq:=l.find? fun x=>x.1==nm
def rB (l:List mq) (nm:List UInt8) (n:Int):Int:=match zt l nm with | some x=>x.2 | none=>n
theorem wo {α:Type} {p:α→Bool} (d:α) : ∀ {l:List α} {i:Nat},i<l.length→(∀ j,j<i→p (l.getD j d)=false)→p (l.getD i d)=true→l.find? p=some (l.getD i d)
 | [],_,h,_,_=>by simp at h
 | x::r,0,_,_,h=>by
  have h' : p x=true:=h
  simp [List.find?,h']
 | x::r,i+1,h,h1,h2=>by
  have hx:p x=false:=h1 0 (by omega)
  have:=wo (p:=p) d (l:=r) (i:=i) (by simpa using h) (fun j hj=>h1 (j+1) (by omega)) h2
  simp only [List.find?,hx]
  exact this
theorem DZ {p:α→Bool} (d:α) {l:List α} (h : ∀ j,j<l.length→p (l.getD j d)=false):l.find? p=none:=by
 rw [List.find?_eq_none]
 intro x hx
 obtain ⟨j,hj,rfl⟩:=ZG.1 hx
 have:=h j hj
 simp [hj] at this
 simp [this]
theorem MY (l:List mq) (hl:l.length≤1048576) (nm:List UInt8) (n:Int):lw nm n l=some (rB l nm n):=by
 unfold lw fA rB zt
 rcases cE (f:=cY l nm) l.length (by omega) (fun i=>((l.getD i ([],0)).1==nm)=false) (fun i=>(i:Int))
  (fun i hi _=>by
   unfold cY oR
   simp only [aw (show (i:Int)<(l.length:Int) by omega),f9,aB ([],0) hi,f7,aW (n:=l.length) (by omega) hi]
   cases hb:((l.getD i ([],0)).1==nm)
   ·left; exact ⟨rfl,rfl⟩
   ·right; exact ⟨by simp,rfl⟩)
  (fun _=>by unfold cY; rw [aG (by omega)]; rfl) with ⟨hP,he⟩ | ⟨i,hi,hj,hP,he⟩
 ·rw [he,DZ (([],0):mq) hP]
  rfl
 ·rw [he,wo (([],0):mq) hi hj (by simpa using hP)]
  simp only [f7,ZJ,aw (show (0:Int)≤(i:Int) by omega),f9,aB ([],0) hi]
theorem Tg (l:List mq) (hl:l.length≤1048576) (nm:List UInt8):jP l nm=some (match zt l nm with | some x=>(x.2,true) | none=>(0,false)):=by
 unfold jP zt
 rcases cE (f:=iD l nm) l.length (by omega) (fun i=>((l.getD i ([],0)).1==nm)=false) (fun i=>((l.getD i ([],0)).2,true))
  (fun i hi _=>by
   unfold iD
   simp only [aw (show (i:Int)<(l.length:Int) by omega),f9,aB ([],0) hi,f7,aW (n:=l.length) (by omega) hi]
   cases hb:((l.getD i ([],0)).1==nm)
   ·left; exact ⟨rfl,rfl⟩
   ·right; exact ⟨by simp,rfl⟩)
  (fun _=>by unfold iD; rw [aG (by omega)]; rfl) with ⟨hP,he⟩ | ⟨i,hi,hj,hP,he⟩
 ·rw [he,DZ (([],0):mq) hP]
  rfl
 ·rw [he,wo (([],0):mq) hi hj (by simpa using hP)]
  rfl
def nZ (s:aO) (l:List Int):aO:=(s.1,l,s.2.2)
def qw (s:aO) (l:List Int):aO:=(s.1,s.2.1,s.2.2.1,s.2.2.2.1,l,s.2.2.2.2.2)
def sE (s:aO) (l:List Int):aO:=(s.1,s.2.1,s.2.2.1,l,s.2.2.2.2)
def fV (c:CC) (l:List mq):List Int:=c.2.2.2.1.map fun v=>rB l v.1 v.2
def fm (c:CC) (l:List mq):List Int:=c.2.2.2.2.2.2.1.map fun f=>rB l f 0
theorem py {β:Type} {xs:List α} (g:α→β) (d:α) (h:i<xs.length):(xs.map g).take (i+1)=(xs.map g).take i++[g (xs.getD i d)]:=by
 rw [ahC]
 simp [h]
section
variable (c:CC) (hs:eV c) (l:List mq) (hl:l.length≤1048576)
include hs hl
theorem aiq (e:bI) (s:aO) (acc:List ((Int×Int×Bool)×Bool)):Itr.it (kZ c l) (fl 0 (c,e,nZ s [],acc))=some (fl 0 (c,e,nZ s (fV c l),acc)).2:=by
 have hn:c.2.2.2.1.length≤1048576:=hs.2.2.1
 refine c9 (f:=kZ c l) (fun y=>c.2.2.2.1.length - y.1.toNat) (fun _=>(fl 0 (c,e,nZ s (fV c l),acc)).2) (fun y=>∃ i:Nat,y=fl (i:Int) (c,e,nZ s ((fV c l).take i),acc)∧i≤c.2.2.2.1.length)
  (fun y hy=>by
   obtain ⟨i,rfl,hi⟩:=hy
   unfold kZ
   rcases WG i c.2.2.2.1.length with hlt | hge
   ·right
    refine ⟨fl ((i+1:Nat):Int) (c,e,nZ s ((fV c l).take (i+1)),acc),?_,⟨i+1,rfl,by omega⟩,by show _ - ((i+1:Nat):Int).toNat<_ - (i:Int).toNat; omega,rfl⟩
    have e1 : ∀ v:Int,aJ ((fV c l).take i).length ([v]:List Int).length 8=true:=fun v=>aY (by simp only [V7,Vp]; omega) (by omega)
    have hd:decide ((fl (i:Int) (c,e,nZ s ((fV c l).take i),acc)).1<(c.2.2.2.1.length:Int))=true:=aw (show (i:Int)<(c.2.2.2.1.length:Int) by omega)
    rw [show fV c l=c.2.2.2.1.map (fun v=>rB l v.1 v.2) from rfl] at e1 ⊢
    rw [py _ (([],0):mq) hlt]
    simp only [fl,nZ,show (i:Int)<(c.2.2.2.1.length:Int) by omega,YD,f9,aB ([],0) hlt,f7,MY l hl,af,e1,aW (n:=c.2.2.2.1.length) (by omega) hlt]
    rfl
   ·left
    have:i=c.2.2.2.1.length:=by omega
    subst this
    have ht:(fV c l).take c.2.2.2.1.length=fV c l:=WF (by simp [fV])
    simp only [fl,ht,adv,Yv,no]) ⟨0,rfl,by omega⟩ (by show c.2.2.2.1.length - (0:Int).toNat<_; omega)
theorem agW (e:bI) (s:aO) (a:List bR):Itr.it (gO c l) (gw 0 (c,e,nZ s [],a))=some (gw 0 (c,e,nZ s (fV c l),a)).2:=by
 have hn:c.2.2.2.1.length≤1048576:=hs.2.2.1
 refine c9 (f:=gO c l) (fun y=>c.2.2.2.1.length - y.1.toNat) (fun _=>(gw 0 (c,e,nZ s (fV c l),a)).2) (fun y=>∃ i:Nat,y=gw (i:Int) (c,e,nZ s ((fV c l).take i),a)∧i≤c.2.2.2.1.length)
  (fun y hy=>by
   obtain ⟨i,rfl,hi⟩:=hy
   unfold gO
   rcases WG i c.2.2.2.1.length with hlt | hge
   ·right
    refine ⟨gw ((i+1:Nat):Int) (c,e,nZ s ((fV c l).take (i+1)),a),?_,⟨i+1,rfl,by omega⟩,by show _ - ((i+1:Nat):Int).toNat<_ - (i:Int).toNat; omega,rfl⟩
    have e1 : ∀ v:Int,aJ ((fV c l).take i).length ([v]:List Int).length 8=true:=fun v=>aY (by simp only [V7,Vp]; omega) (by omega)
    rw [show fV c l=c.2.2.2.1.map (fun v=>rB l v.1 v.2) from rfl] at e1 ⊢
    rw [py _ (([],0):mq) hlt]
    simp only [gw,nZ,show (i:Int)<(c.2.2.2.1.length:Int) by omega,YD,f9,aB ([],0) hlt,f7,Tg l hl,af,e1,aW (n:=c.2.2.2.1.length) (by omega) hlt]
    unfold rB
    cases zt l (c.2.2.2.1.getD i ([],0)).1
    ·simp only [Wn,f9,f7,ZJ,e1]
     rfl
    ·simp only [WM,no,f7,ZJ,e1,f9]
     rfl
   ·left
    have:i=c.2.2.2.1.length:=by omega
    subst this
    have ht:(fV c l).take c.2.2.2.1.length=fV c l:=WF (by simp [fV])
    simp only [gw,ht,adv,Yv,no]) ⟨0,rfl,by omega⟩ (by show c.2.2.2.1.length - (0:Int).toNat<_; omega)
theorem aec (e:bI) (s:aO) (acc:List ((Int×Int×Bool)×Bool)):Itr.it (kX c l) (fl 0 (c,e,qw s [],acc))=some (fl 0 (c,e,qw s (fm c l),acc)).2:=by
 have hn:c.2.2.2.2.2.2.1.length≤1048576:=hs.2.2.2.2.2.1
 refine c9 (f:=kX c l) (fun y=>c.2.2.2.2.2.2.1.length - y.1.toNat) (fun _=>(fl 0 (c,e,qw s (fm c l),acc)).2) (fun y=>∃ i:Nat,y=fl (i:Int) (c,e,qw s ((fm c l).take i),acc)∧i≤c.2.2.2.2.2.2.1.length)
  (fun y hy=>by
   obtain ⟨i,rfl,hi⟩:=hy
   unfold kX
   rcases WG i c.2.2.2.2.2.2.1.length with hlt | hge
   ·right
    refine ⟨fl ((i+1:Nat):Int) (c,e,qw s ((fm c l).take (i+1)),acc),?_,⟨i+1,rfl,by omega⟩,by show _ - ((i+1:Nat):Int).toNat<_ - (i:Int).toNat; omega,rfl⟩
    have e1 : ∀ v:Int,aJ ((fm c l).take i).length ([v]:List Int).length 8=true:=fun v=>aY (by simp only [V7,Vp]; omega) (by omega)
    rw [show fm c l=c.2.2.2.2.2.2.1.map (fun f=>rB l f 0) from rfl] at e1 ⊢
    rw [py _ ([]:List UInt8) hlt]
    simp only [fl,qw,show (i:Int)<(c.2.2.2.2.2.2.1.length:Int) by omega,YD,f9,aB [] hlt,f7,MY l hl,af,e1,aW (n:=c.2.2.2.2.2.2.1.length) (by omega) hlt]
    rfl
   ·left
    have:i=c.2.2.2.2.2.2.1.length:=by omega
    subst this
    have ht:(fm c l).take c.2.2.2.2.2.2.1.length=fm c l:=WF (by simp [fm])
    simp only [fl,ht,adv,Yv,no]) ⟨0,rfl,by omega⟩ (by show c.2.2.2.2.2.2.1.length - (0:Int).toNat<_; omega)
theorem adg (e:bI) (s:aO) (a:List bR):Itr.it (gM c l) (gw 0 (c,e,qw s [],a))=some (gw 0 (c,e,qw s (fm c l),a)).2:=by
 have hn:c.2.2.2.2.2.2.1.length≤1048576:=hs.2.2.2.2.2.1
 refine c9 (f:=gM c l) (fun y=>c.2.2.2.2.2.2.1.length - y.1.toNat) (fun _=>(gw 0 (c,e,qw s (fm c l),a)).2) (fun y=>∃ i:Nat,y=gw (i:Int) (c,e,qw s ((fm c l).take i),a)∧i≤c.2.2.2.2.2.2.1.length)
  (fun y hy=>by
   obtain ⟨i,rfl,hi⟩:=hy
   unfold gM
   rcases WG i c.2.2.2.2.2.2.1.length with hlt | hge
   ·right
    refine ⟨gw ((i+1:Nat):Int) (c,e,qw s ((fm c l).take (i+1)),a),?_,⟨i+1,rfl,by omega⟩,by show _ - ((i+1:Nat):Int).toNat<_ - (i:Int).toNat; omega,rfl⟩
    have e1 : ∀ v:Int,aJ ((fm c l).take i).length ([v]:List Int).length 8=true:=fun v=>aY (by simp only [V7,Vp]; omega) (by omega)
    rw [show fm c l=c.2.2.2.2.2.2.1.map (fun f=>rB l f 0) from rfl] at e1 ⊢
    rw [py _ ([]:List UInt8) hlt]
    simp only [gw,qw,show (i:Int)<(c.2.2.2.2.2.2.1.length:Int) by omega,YD,f9,aB [] hlt,f7,Tg l hl,af,e1,aW (n:=c.2.2.2.2.2.2.1.length) (by omega) hlt]
    unfold rB
    cases zt l (c.2.2.2.2.2.2.1.getD i []) <;> rfl
   ·left
    have:i=c.2.2.2.2.2.2.1.length:=by omega
    subst this
    have ht:(fm c l).take c.2.2.2.2.2.2.1.length=fm c l:=WF (by simp [fm])
    simp only [gw,ht,adv,Yv,no]) ⟨0,rfl,by omega⟩ (by show c.2.2.2.2.2.2.1.length - (0:Int).toNat<_; omega)
end
section
variable (c:CC) (hs:eV c)
include hs
theorem ahp (e:bI) (s:aO) (acc:List ((Int×Int×Bool)×Bool)):Itr.it (kQ c) (fl 0 (c,e,sE s [],acc))=some (fl 0 (c,e,sE s (List.replicate c.2.2.2.2.2.1.length (-1)),acc)).2:=by
 have hn:c.2.2.2.2.2.1.length≤1048576:=hs.2.2.2.2.1
 refine c9 (f:=kQ c) (fun y=>c.2.2.2.2.2.1.length - y.1.toNat) (fun _=>(fl 0 (c,e,sE s (List.replicate c.2.2.2.2.2.1.length (-1)),acc)).2) (fun y=>∃ i:Nat,y=fl (i:Int) (c,e,sE s (List.replicate i (-1)),acc)∧i≤c.2.2.2.2.2.1.length)
  (fun y hy=>by
   obtain ⟨i,rfl,hi⟩:=hy
   unfold kQ
   rcases WG i c.2.2.2.2.2.1.length with hlt | hge
   ·right
    refine ⟨fl ((i+1:Nat):Int) (c,e,sE s (List.replicate (i+1) (-1)),acc),?_,⟨i+1,rfl,by omega⟩,by show _ - ((i+1:Nat):Int).toNat<_ - (i:Int).toNat; omega,rfl⟩
    have e1:aJ (List.replicate i (-1:Int)).length ([-1]:List Int).length 8=true:=aY (by simp only [Zi,Vp]; omega) (by omega)
    rw [aeg]
    simp only [fl,sE,show (i:Int)<(c.2.2.2.2.2.1.length:Int) by omega,YD,f9,af,e1,aW (n:=c.2.2.2.2.2.1.length) (by omega) hlt]
    rfl
   ·left
    have:i=c.2.2.2.2.2.1.length:=by omega
    subst this
    simp only [fl,adv,Yv,no]) ⟨0,rfl,by omega⟩ (by show c.2.2.2.2.2.1.length - (0:Int).toNat<_; omega)
theorem ahF (e:bI) (s:aO) (a:List bR):Itr.it (ic c) (gw 0 (c,e,sE s [],a))=some (gw 0 (c,e,sE s (List.replicate c.2.2.2.2.2.1.length (-1)),a)).2:=by
 have hn:c.2.2.2.2.2.1.length≤1048576:=hs.2.2.2.2.1
 refine c9 (f:=ic c) (fun y=>c.2.2.2.2.2.1.length - y.1.toNat) (fun _=>(gw 0 (c,e,sE s (List.replicate c.2.2.2.2.2.1.length (-1)),a)).2) (fun y=>∃ i:Nat,y=gw (i:Int) (c,e,sE s (List.replicate i (-1)),a)∧i≤c.2.2.2.2.2.1.length)
  (fun y hy=>by
   obtain ⟨i,rfl,hi⟩:=hy
   unfold ic
   rcases WG i c.2.2.2.2.2.1.length with hlt | hge
   ·right
    refine ⟨gw ((i+1:Nat):Int) (c,e,sE s (List.replicate (i+1) (-1)),a),?_,⟨i+1,rfl,by omega⟩,by show _ - ((i+1:Nat):Int).toNat<_ - (i:Int).toNat; omega,rfl⟩
    have e1:aJ (List.replicate i (-1:Int)).length ([-1]:List Int).length 8=true:=aY (by simp only [Zi,Vp]; omega) (by omega)
    rw [aeg]
    simp only [gw,sE,show (i:Int)<(c.2.2.2.2.2.1.length:Int) by omega,YD,f9,af,e1,aW (n:=c.2.2.2.2.2.1.length) (by omega) hlt]
    rfl
   ·left
    have:i=c.2.2.2.2.2.1.length:=by omega
    subst this
    simp only [gw,adv,Yv,no]) ⟨0,rfl,by omega⟩ (by show c.2.2.2.2.2.1.length - (0:Int).toNat<_; omega)
end
def xu (c:CC):aO:=([],[],List.replicate c.2.2.2.2.1.length [],[],[],0,64,(0,0,0),-1,-1,0,[])
def pU (c:CC) (l:List mq):aO:=([([(c.2.1.getD (c.2.1.length - 1) 0,List.replicate (c.2.2.1.getD (c.2.1.length - 1) 0).toNat 0)],[],0,false)],fV c l,List.replicate c.2.2.2.2.1.length [],List.replicate c.2.2.2.2.2.1.length (-1),fm c l,0,64,(0,0,0),-1,-1,0,[])
def lS:aO:=([],[],[],[],[],0,0,(0,0,0),0,0,0,[])
def Hk (c:CC) (e:bI) (l:List mq):aO:=ko c (cK c e.1 0 (pU c l)).1
def NG (e:bI):Prop:=0≤e.1∧e.1<4∧0≤e.2.1∧e.2.1≤8∧0≤e.2.2∧e.2.2≤8
theorem JE (e:bI) : ∃ b,mr e=some b∧iF e=some b∧(b=true↔NG e):=by
 refine ⟨decide (0≤e.1∧e.1<4∧0≤e.2.1∧e.2.1≤8∧0≤e.2.2∧e.2.2≤8),?_,?_,afZ⟩
 ·unfold mr
  simp only [kT]
  congr 1
  rw [aat]
  omega
 ·unfold iF
  simp only [kT]
  congr 1
  rw [aat]
  omega
theorem TJ (hs:eV c):cT (xu c):=by
 obtain ⟨s1,s2,s3,s4,s5,s6,s7⟩:=hs
 refine ⟨by simp [xu],fun t ht=>by simp [xu] at ht,by simp [xu],by simpa [xu] using s4,fun q hq=>?_,by simp [xu],by simp [xu]⟩
 rw [ajv hq]
 simp
theorem KD (hc:bj c) (l:List mq):pw c (pU c l) 0∧Fit1 c (pU c l)∧cT (pU c l):=by
 have hn:=hc.2.1.1.1
 obtain ⟨s1,s2,s3,s4,s5,s6,s7⟩:=hc.2.2.2
 have hfr:tH c (c.2.1.getD (c.2.1.length - 1) 0,List.replicate (c.2.2.1.getD (c.2.1.length - 1) 0).toNat 0):=CQ hc (by omega)
 have hloc:=xL hc hfr
 refine ⟨⟨[],_,[],0,rfl,⟨by simp,by simp,fun g hg=>?_⟩⟩,⟨by simp [pU,fV],by simp [pU],by simp [pU],by simp [pU,fm]⟩,by simp [pU],fun t ht=>?_,by simpa [pU,fV] using s3,by simpa [pU] using s4,fun q hq=>?_,by simpa [pU] using s5,by simpa [pU,fm] using s6⟩
 ·simp only [XI,Vt] at hg
  rw [hg]; exact hfr
 ·simp only [pU,Vt] at ht
  rw [ht]
  refine ⟨by simp,by simp,fun g hg=>?_⟩
  simp only [Vt] at hg
  rw [hg]
  omega
 ·rw [ajv hq]
  simp
theorem Iw (hc:bj c) (kind:Int)   (hs:StOk c s) (hr:pw c s i) (hsm:cT s):StOk c (cK c kind i s).1∧cT (cK c kind i s).1∧(cK c kind i s).1.1.length=s.1.length:=by
 obtain ⟨fs,f,st,w,ht,hr⟩:=hr
 obtain ⟨fs',f',st',g1,g2,g3,g4⟩:=ya hc kind 64 ht hr
 have base : ∀ (q:aO) (w' : Int),q.1=s.1.set i (fs' ++ [f'],st',w',false)→q.2.1=s.2.1→q.2.2.1=s.2.2.1→q.2.2.2.1=s.2.2.2.1→q.2.2.2.2.1=s.2.2.2.2.1→StOk c q∧cT q∧q.1.length=s.1.length:=by
  intro q w' h1 h2 h3 h4 h5
  refine ⟨⟨by rw [h1]; simpa using hs.n,fun t ht=>?_,⟨by rw [h2]; exact hs.fit.1,by rw [h3]; exact hs.fit.2,by rw [h4]; exact hs.fit.3,by rw [h5]; exact hs.fit.4⟩,fun j hj=>by rw [h3]; exact hs.cap j hj⟩,?_,by rw [h1]; simp⟩
  ·rw [h1] at ht
   rcases ZH ht with ht | rfl
   ·exact hs.th t ht
   ·exact .inr ⟨rfl,fs',f',rfl,g2⟩
  ·obtain ⟨h1',h2',h3',h4',h5',h6',h7'⟩:=hsm
   unfold cT
   rw [h1,h2,h3,h4,h5]
   refine ⟨by simpa using h1',fun t ht=>?_,h3',h4',h5',h6',h7'⟩
   rcases ZH ht with ht | rfl
   ·exact h2' t ht
   ·have:=g2.n
    have:=g2.m
    exact ⟨by simp only [Vs,Vp]; omega,by dsimp only; omega,fun g hg=>by have:=xL hc (g2.fr g hg); omega⟩
 unfold cK
 generalize dH c kind i 64 s=q at *
 obtain ⟨b,q⟩:=q
 dsimp only at *
 obtain ⟨k1,k2,k3,k4,k5,k6,k7,k8,k9⟩:=g3
 have ht' : q.1[i]? = some (fs' ++ [f'],st',w,false):=by rw [g1]; exact W5 (dt ht)
 split
 ·unfold qU
  dsimp only
  split
  ·refine base _ (ad (q.2.2.2.2.2.1+(eA c (bL q i)).2.1)) ?_ k1 k2 k3 k4
   show q.1.set i ((bL q i).1,(bL q i).2.1,_,(bL q i).2.2.2)=_
   rw [jN ht',g1,ae5]
  split
  ·dsimp only
   split
   ·exact base _ w g1 k1 k2 k3 k4
   ·exact base _ w g1 k1 k2 k3 k4
  split
  ·exact base _ w g1 k1 k2 k3 k4
  ·exact base _ w g1 k1 k2 k3 k4
 ·exact base _ w g1 k1 k2 k3 k4
theorem DV (hs:StOk c s) (hsm:cT s):StOk c (ko c s)∧cT (ko c s):=by
 have he : ∀ o,StOk c (iy c s 0 o)∧cT (iy c s 0 o):=by
  intro o
  unfold iy
  dsimp only
  split
  ·exact ⟨⟨hs.n,hs.th,⟨hs.fit.1,hs.fit.2,hs.fit.3,hs.fit.4⟩,hs.cap⟩,hsm⟩
  ·exact ⟨⟨hs.n,hs.th,⟨hs.fit.1,hs.fit.2,hs.fit.3,hs.fit.4⟩,hs.cap⟩,hsm⟩
 unfold ko
 split
 ·exact ⟨hs,hsm⟩
 split
 ·exact he 3
 split
 ·exact ⟨hs,hsm⟩
 split
 ·exact ⟨⟨hs.n,hs.th,⟨hs.fit.1,hs.fit.2,hs.fit.3,hs.fit.4⟩,hs.cap⟩,hsm⟩
 ·exact he 2
theorem acZ (hc:bj c) (l:List mq):StOk c (pU c l):=by
 obtain ⟨⟨fs,f,st,w,h1,h2⟩,hf,_⟩:=KD hc l
 refine ⟨by simp [pU],fun t ht=>?_,hf,fun j hj=>?_⟩
 ·have:t=(fs++[f],st,w,false):=by
   simp only [pU,Vt] at ht
   have h1' : some (_:Th)=some (fs++[f],st,w,false):=h1
   rw [ht]
   exact aez h1'
  rw [this]
  exact .inr ⟨rfl,fs,f,rfl,h2⟩
 ·show ((List.getD (List.replicate c.2.2.2.2.1.length []) j []).length:Int)≤_
  have h0:=(hc.2.1.2.2.2 j hj).1
  rw [show List.getD (List.replicate c.2.2.2.2.1.length ([]:List Int)) j []=[] by simp [WT,aer,hj]]
  exact h0
theorem aee (hs:eV c) (h:VE c 0):bj c:=by
 rcases h with ⟨_,h⟩ | ⟨_,_,h⟩ | ⟨_,_,_,h⟩ | ⟨h1,h2,h3,_⟩
 ·cases h
 ·cases h
 ·cases h
 ·exact ⟨h1,h2,h3,hs⟩
theorem RV (c:CC) (hs:eV c) (e:bI) (l:List mq) (hl:l.length≤1048576) : ∃ s f,pA c e l=some (s,f)∧lC c e l=some (s,f)∧cT s∧(f=0→bj c∧NG e∧s=Hk c e l∧StOk c s):=by
 obtain ⟨j,k,err,v1,v2,v3⟩:=Bs c hs
 have hsn:cT lS:=⟨by simp [lS],fun t ht=>by simp [lS] at ht,by simp [lS],by simp [lS],fun q hq=>by simp [lS] at hq,by simp [lS],by simp [lS]⟩
 unfold pA lC
 dsimp only
 rw [v1,v2]
 simp only [f7,ZJ]
 by_cases he:err=0
 rotate_left
 ·rw [nt he]
  exact ⟨lS,err,rfl,rfl,hsn,fun h=>absurd h he⟩
 subst he
 have hc:=aee hs v3
 obtain ⟨b,b1,b2,b3⟩:=JE e
 simp only [Yy,no,b1,b2,f7,ZJ]
 cases b
 ·exact ⟨lS,1,rfl,rfl,hsn,fun h=>(by cases h)⟩
 have hp:=b3.1 rfl
 simp only [WM,no]
 by_cases h64:(64:Int)<l.length
 ·rw [aw h64]
  exact ⟨lS,4,rfl,rfl,hsn,fun h=>(by cases h)⟩
 rw [aG h64]
 simp only [no]
 have hch:(c.2.2.2.2.1.length:Int)≤1048576:=by have:=hs.2.2.2.1; omega
 have hck:decide (0≤(c.2.2.2.2.1.length:Int)∧(c.2.2.2.2.1.length:Int) * 24≤281474976710656∧(c.2.2.2.2.1.length:Int)≤maxLen)=true:=aw ⟨by omega,by omega,by simp only [maxLen]; omega⟩
 have hn:=hc.2.1.1.1
 have hn2:=hc.2.1.1.2.1
 have hs1:=hs.1
 have ew:ad ((c.2.1.length:Int) - 1)=((c.2.1.length - 1:Nat):Int):=by rw [aZ (by omega) (by omega)]; omega
 have eb:ac c.2.1 ((c.2.1.length - 1:Nat):Int)=some (c.2.1.getD (c.2.1.length - 1) 0):=aB 0 (by omega)
 have el:ac c.2.2.1 ((c.2.1.length - 1:Nat):Int)=some (c.2.2.1.getD (c.2.1.length - 1) 0):=aB 0 (by omega)
 obtain ⟨_,_,_,_,q5,q6⟩:=hc.2.1.2.2.1 (c.2.1.length - 1) (by omega)
 have hlk:decide (0≤c.2.2.1.getD (c.2.1.length - 1) 0∧c.2.2.1.getD (c.2.1.length - 1) 0 * 8≤281474976710656∧c.2.2.1.getD (c.2.1.length - 1) 0≤maxLen)=true:=aw ⟨q5,by omega,by simp only [maxLen]; omega⟩
 obtain ⟨r1,r2,r3⟩:=KD hc l
 have so:=acZ hc l
 obtain ⟨st1,st2,st3⟩:=Iw hc e.1 so r1 r3
 obtain ⟨st4,st5⟩:=DV st1 st2
 have hlen:0<(cK c e.1 0 (pU c l)).1.1.length:=by rw [st3]; simp [pU]
 refine ⟨Hk c e l,0,?_,?_,st5,fun _=>⟨hc,hp,rfl,st4⟩⟩
 ·simp only [hck,af,f9]
  refine (Xw (fun o:Option aO=>o.bind _) (rj (xu c) (TJ hs))).trans ?_
  simp only [f7,ZJ]
  refine (Xw (fun o:Option pT=>o.bind _) (aiq c hs l hl e (xu c) [])).trans ?_
  simp only [f7,ZJ]
  refine (Xw (fun o:Option pT=>o.bind _) (aec c hs l hl e (nZ (xu c) (fV c l)) [])).trans ?_
  simp only [f7,ZJ]
  refine (Xw (fun o:Option pT=>o.bind _) (ahp c hs e (qw (nZ (xu c) (fV c l)) (fm c l)) [])).trans ?_
  simp only [f7,ZJ,fl,ew,eb,el,hlk,f9]
  refine (Xw (fun o:Option aR=>o.bind _) (Nq hc e [] r1 r2)).trans ?_
  simp only [f7,ZJ,HV hc st1 hlen]
  rfl
 ·refine (Xw (fun o:Option oL=>o.bind _) (agW c hs l hl e ([],[],[],[],[],0,64,(0,0,0),-1,-1,0,[]) [])).trans ?_
  simp only [f7,ZJ]
  refine (Xw (fun o:Option oL=>o.bind _) (adg c hs l hl e (nZ ([],[],[],[],[],0,64,(0,0,0),-1,-1,0,[]) (fV c l)) [])).trans ?_
  simp only [f7,ZJ,hck,af,f9]
  refine (Xw (fun o:Option oL=>o.bind _) (ahF c hs e (qw (nZ (xu c) (fV c l)) (fm c l)) [])).trans ?_
  simp only [f7,ZJ,gw,ew,eb,el,hlk,f9]
  refine (Xw (fun o:Option ay=>o.bind _) (N8 hc e [] (by simp) r1 r2 r3)).trans ?_
  simp only [f7,ZJ,HT hc st1 hlen]
  rfl
abbrev iT:Type:=List UInt8
abbrev Df:Type:=aX
theorem N6 {f:Int→Option (Int⊕(Unit⊕Int))} (xs:List α) (d:α) (p:α→Bool) (hn:xs.length≤1048576)
  (hstep : ∀ i,i<xs.length→f (i:Int)=some (bif p (xs.getD i d) then .inr (.inr (i:Int)) else .inl ((i:Int)+1))) (hend:f (xs.length:Int)=some (.inr (.inl ()))) :
  ((∀ j,j<xs.length→p (xs.getD j d)=false)∧Itr.it f 0=some (.inl ()))∨∃ i,i<xs.length∧(∀ j,j<i→p (xs.getD j d)=false)∧p (xs.getD i d)=true∧Itr.it f 0=some (.inr (i:Int)):=by
 rcases cE (f:=f) xs.length (by omega) (fun i=>p (xs.getD i d)=false) (fun i=>(i:Int))
  (fun i hi _=>by
   rw [hstep i hi]
   cases p (xs.getD i d)
   ·left; exact ⟨rfl,rfl⟩
   ·right; exact ⟨by simp,rfl⟩) (fun _=>hend) with ⟨h1,h2⟩ | ⟨i,h1,h2,h3,h4⟩
 ·exact .inl ⟨h1,h2⟩
 ·exact .inr ⟨i,h1,h2,by simpa using h3,h4⟩
theorem tF (l:List Df) (hl:l.length≤1048576) (nm:iT) :
  (bK l nm=some (-1)∧∀ j,j<l.length→(l.getD j ([],[])).1≠nm)∨∃ i:Nat,bK l nm=some (i:Int)∧i<l.length∧(l.getD i ([],[])).1=nm∧∀ j,j<i→(l.getD j ([],[])).1≠nm:=by
 unfold bK
 rcases N6 (f:=hU l nm) l ([],[]) (fun x=>x.1==nm) hl
  (fun i hi=>by
   unfold hU
   simp only [aw (show (i:Int)<(l.length:Int) by omega),f9,aB ([],[]) hi,f7,aW (n:=l.length) (by omega) hi]
   cases (l.getD i ([],[])).1==nm <;> rfl)
  (by unfold hU; rw [aG (by omega)]; rfl) with ⟨h1,h2⟩ | ⟨i,h1,h2,h3,h4⟩
 ·left
  rw [h2]
  exact ⟨rfl,fun j hj=>by have:=h1 j hj; simpa using this⟩
 ·right
  rw [h4]
  exact ⟨i,rfl,h1,by simpa using h3,fun j hj=>by have:=h2 j hj; simpa using this⟩
theorem rR (l:List iT) (hl:l.length≤1048576) (nm:iT) : ∃ r,bJ l nm=some r∧-1≤r∧r<l.length∧(r<0→nm∉l):=by
 unfold bJ
 rcases N6 (f:=gS l nm) l [] (fun x=>x==nm) hl
  (fun i hi=>by
   unfold gS
   simp only [aw (show (i:Int)<(l.length:Int) by omega),f9,aB [] hi,f7,aW (n:=l.length) (by omega) hi]
   cases l.getD i []==nm <;> rfl)
  (by unfold gS; rw [aG (by omega)]; rfl) with ⟨h1,h2⟩ | ⟨i,h1,h2,h3,h4⟩
 ·rw [h2]
  refine ⟨-1,rfl,by omega,by omega,fun _ hm=>?_⟩
  obtain ⟨j,hj,rfl⟩:=ZG.1 hm
  have:=h1 j hj
  simp [hj] at this
 ·rw [h4]
  exact ⟨i,rfl,by omega,by omega,fun h=>by omega⟩
theorem BS (l:List iT) (hl:l.length≤1048576) (w:iT) : ∃ b,eU l w=some b∧(b=true↔w∈l):=by
 unfold eU
 rcases cE (f:=jy l w) l.length (by omega) (fun i=>(l.getD i []==w)=false) (fun i=>true)
  (fun i hi _=>by
   unfold jy
   simp only [aw (show (i:Int)<(l.length:Int) by omega),f9,aB [] hi,f7,aW (n:=l.length) (by omega) hi]
   cases l.getD i []==w
   ·left; exact ⟨rfl,rfl⟩
   ·right; exact ⟨by simp,rfl⟩)
  (fun _=>by unfold jy; rw [aG (by omega)]; rfl) with ⟨h1,h2⟩ | ⟨i,h1,h2,h3,h4⟩
 ·rw [h2]
  refine ⟨false,rfl,fun h=>(by cases h),fun hm=>?_⟩
  obtain ⟨j,hj,rfl⟩:=ZG.1 hm
  have:=h1 j hj
  simp [hj] at this
 ·rw [h4]
  refine ⟨true,rfl,fun _=>?_,fun _=>rfl⟩
  have:l.getD i []=w:=by simpa using h3
  rw [← this]
  exact getD_mem' [] h1
where getD_mem' {α:Type} {xs:List α} {i:Nat} (d:α) (h:i<xs.length):xs.getD i d∈xs:=by simp [h]
theorem Nm {f:Int→Option (Int⊕Int)} (n:Nat) (hn:n≤1048576) (p:Nat→Bool)
  (hstep : ∀ i,i<n→f ((i+1:Nat):Int)=some (bif p i then .inl (i:Int) else .inr ((i+1:Nat):Int))) (h0:f 0=some (.inr 0)) : ∃ k:Nat,k≤n∧Itr.it f (n:Int)=some (k:Int):=by
 obtain ⟨r,h1,h2⟩:=fw (f:=f) (fun s=>s.toNat) (fun s=>∃ i:Nat,s=(i:Int)∧i≤n) (fun r=>∃ k:Nat,k≤n∧r=(k:Int))
  (fun s hs=>by
   obtain ⟨i,rfl,hi⟩:=hs
   cases i with
   | zero=>exact .inl ⟨0,h0,0,by omega,rfl⟩
   | succ i=>
    have:=hstep i (by omega)
    cases hp:p i
    ·rw [hp] at this
     exact .inl ⟨_,this,i+1,hi,rfl⟩
    ·rw [hp] at this
     exact .inr ⟨_,this,⟨i,rfl,by omega⟩,by simp⟩) (s:=(n:Int)) ⟨n,rfl,by omega⟩ (by simp; omega)
 obtain ⟨k,h3,rfl⟩:=h2
 exact ⟨k,h3,h1⟩
theorem UF (l:List iT) (hl:l.length<1048576) (w:iT) : ∃ r,kq l w=some r∧(∀ y,y∈r↔y∈l∨y=w)∧r.length≤l.length+1:=by
 unfold kq
 obtain ⟨b,hb,hb2⟩:=BS l (by omega) w
 rw [hb]
 cases b
 ·simp only [f7,ZJ,no]
  obtain ⟨k,hk,he⟩:=Nm (f:=iV l w) l.length (by omega) (fun i=>Op.bytesLess w (l.getD i []))
   (fun i hi=>by
    unfold iV
    have e:ad (((i+1:Nat):Int) - 1)=(i:Int):=by rw [aZ (by omega) (by omega)]; omega
    simp only [aw (show (0:Int)<((i+1:Nat):Int) by omega),f9,e,aB [] hi,f7]
    cases Op.bytesLess w (l.getD i []) <;> rfl)
   (by unfold iV; rfl)
  rw [he]
  simp only [f7,ZJ,af]
  have c1:decide (0≤(0:Int)∧(0:Int)≤(k:Int)∧(k:Int)≤l.length)=true:=aw ⟨by omega,by omega,by omega⟩
  have c2:decide (0≤(k:Int)∧(k:Int)≤(l.length:Int)∧(l.length:Int)≤l.length)=true:=aw ⟨by omega,by omega,by omega⟩
  have a1 : ∀ m n:Nat,m+n≤2097152→aJ m n 16=true:=fun m n h=>aY (by omega) (by omega)
  rw [c1,c2]
  simp only [f9,VY,XI,Int.toNat_zero,Yw]
  rw [a1 _ _ (by simp only [List.length_nil,V7]; omega),a1 _ _ (by simp only [Vp,V7]; omega),a1 _ _ (by simp only [Vs,Vp,V7,XZ]; omega)]
  refine ⟨_,rfl,fun y=>?_,by simp only [Vs,Vp,V7,XZ]; omega⟩
  rw [adT]
  constructor
  ·intro h
   rcases Wc.1 h with h | h
   ·rcases Wc.1 h with h | h
    ·exact .inl (afk h)
    ·exact .inr (by simpa using h)
   ·exact .inl (List.mem_of_mem_drop h)
  ·intro h
   rcases h with h | h
   ·rw [← acG k l] at h
    rcases Wc.1 h with h | h
    ·exact Wc.2 (.inl (Wc.2 (.inl h)))
    ·exact Wc.2 (.inr h)
   ·exact Wc.2 (.inl (Wc.2 (.inr (by simp [h]))))
 ·exact ⟨l,rfl,fun y=>⟨.inl,fun h=>h.elim id fun h=>h ▸ hb2.1 rfl⟩,by omega⟩
theorem N9 (l:List (iT×Int)) (hl:l.length<1048576) (w:iT×Int) : ∃ r,kD l w=some r∧r.length=l.length+1:=by
 unfold kD
 obtain ⟨k,hk,he⟩:=Nm (f:=iY l w) l.length (by omega) (fun i=>!(Op.bytesLess (l.getD i ([],0)).1 w.1||(l.getD i ([],0)).1==w.1))
  (fun i hi=>by
   unfold iY
   have e:ad (((i+1:Nat):Int) - 1)=(i:Int):=by rw [aZ (by omega) (by omega)]; omega
   simp only [aw (show (0:Int)<((i+1:Nat):Int) by omega),f9,e,aB ([],0) hi,f7]
   cases (Op.bytesLess (l.getD i ([],0)).1 w.1||(l.getD i ([],0)).1==w.1) <;> rfl)
  (by unfold iY; rfl)
 rw [he]
 simp only [f7,ZJ,af]
 have c1:decide (0≤(0:Int)∧(0:Int)≤(k:Int)∧(k:Int)≤l.length)=true:=aw ⟨by omega,by omega,by omega⟩
 have c2:decide (0≤(k:Int)∧(k:Int)≤(l.length:Int)∧(l.length:Int)≤l.length)=true:=aw ⟨by omega,by omega,by omega⟩
 have a1 : ∀ m n:Nat,m+n≤2097152→aJ m n 24=true:=fun m n h=>aY (by omega) (by omega)
 rw [c1,c2]
 simp only [f9,VY,XI,Int.toNat_zero,Yw]
 rw [a1 _ _ (by simp only [List.length_nil,V7]; omega),a1 _ _ (by simp only [Vp,V7]; omega),a1 _ _ (by simp only [Vs,Vp,V7,XZ]; omega)]
 exact ⟨_,rfl,by simp only [Vs,Vp,V7,XZ]; omega⟩
theorem D8 (n:aC) (hn:n.2.2.2.length≤1048576) : ∃ r,f6 n=some r∧r.length≤n.2.2.2.length:=by
 unfold f6
 obtain ⟨r,h1,h2⟩:=fw (f:=j9 n) (fun s=>n.2.2.2.length - s.2.toNat) (fun s=>∃ i:Nat,s.2=(i:Int)∧i≤n.2.2.2.length∧s.1.length≤i) (fun r=>r.length≤n.2.2.2.length)
  (fun s hs=>by
   obtain ⟨o,s2⟩:=s
   obtain ⟨i,hi1,hi,ho⟩:=hs
   dsimp only at hi1 ho
   subst hi1
   unfold j9
   rcases WG i n.2.2.2.length with hlt | hge
   ·right
    simp only [aw (show (i:Int)<(n.2.2.2.length:Int) by omega),f9,aB (Nd.mk 0 [] 0 []) hlt,f7,aW (n:=n.2.2.2.length) (by omega) hlt]
    cases hb:(n.2.2.2.getD i (Nd.mk 0 [] 0 [])).tup.1==7
    ·exact ⟨_,rfl,⟨i+1,rfl,by omega,by dsimp only; omega⟩,by dsimp only; omega⟩
    ·simp only [f9]
     rw [jv (aY (by simp only [Vp]; omega) (by omega))]
     exact ⟨_,rfl,⟨i+1,rfl,by omega,by simp only [Vs,Vp]; omega⟩,by dsimp only; omega⟩
   ·left
    simp only [aG (show ¬ (i:Int)<(n.2.2.2.length:Int) by omega),no]
    exact ⟨_,rfl,by omega⟩) (s:=([],0)) ⟨0,rfl,by omega,by simp⟩ (by show n.2.2.2.length - (0:Int).toNat<_; omega)
 rw [h1]
 exact ⟨r,rfl,h2⟩
abbrev Mk:Type:=aF
abbrev Tn:Type:=aC
def Gw (b:Nat) (m m' : Mk):Prop:=m'.1.2=m.1.2∧m.1.1.length≤m'.1.1.length∧m'.1.1.length≤m.1.1.length+b∧m'.2.1.length≤m.2.1.length+b
def oU (m:Mk) (b:Nat):Prop:=m.1.1.length+b≤1000000∧m.2.1.length+b≤1000000∧m.1.2.2.2.1.length≤1000000∧m.1.2.2.2.2.1.length≤1000000∧m.1.2.2.2.2.2.1.length≤1000000∧m.1.2.2.2.2.2.2.1.length≤1000000∧m.1.2.2.2.2.2.2.2.length≤1000000
theorem tm (m:Mk):Gw 0 m m:=⟨rfl,by omega,by omega,by omega⟩
theorem jK {a c:Nat} {m n o:Mk} (h:Gw a m n) (h' : Gw b n o) (hc:a+b=c):Gw c m o:=by
  obtain ⟨a1,a2,a3,a4⟩:=h
  obtain ⟨b1,b2,b3,b4⟩:=h'
  exact ⟨b1.trans a1,by omega,by omega,by omega⟩
theorem Fs {a:Nat} {m n:Mk} (h:Gw a m n) (hc:a≤b):Gw b m n:=⟨h.1,h.2.1,by have:=h.2.2.1; omega,by have:=h.2.2.2; omega⟩
theorem jC {a c:Nat} {m n:Mk} (h:oU m c) (g:Gw a m n) (hc:a+b≤c):oU n b:=by
  obtain ⟨h1,h2,h3⟩:=h
  obtain ⟨a1,a2,a3,a4⟩:=g
  refine ⟨by omega,by omega,?_⟩
  rw [a1]
  exact h3
theorem rt {c:Nat} {m:Mk} (h:oU m c) (hc:b≤c):oU m b:=jC h (tm m) (by omega)
theorem mo {m:Mk} (h:oU m 1) (a b c:Int) : ∃ m',aD m a b c=some m' ∧ Gw 1 m m' ∧ m'.1.1.length=m.1.1.length+1:=by
  unfold aD
  rw [jv (aY (by have:=h.1; simp only [Vp]; omega) (by omega))]
  exact ⟨_,rfl,⟨rfl,by simp,by simp,by simp⟩,by simp⟩
theorem rv {m:Mk} (h:oU m 1) (s:iT) : ∃ r m',cf m s=some (r,m')∧Gw 1 m m' := by
  unfold cf
  have h2:=h.2.1
  obtain ⟨r,hr,hr1,hr2,hr3⟩:=rR m.2.1 (by omega) s
  rw [hr]
  simp only [f7,ZJ]
  by_cases hz:r<0
  · rw [aw hz,f9,jv (aY (by simp only [Vp]; omega) (by omega))]
    simp only [f7,ZJ]
    obtain ⟨q,hq,_⟩:=rR (m.2.1++[s]) (by simp only [Vs,Vp]; omega) s
    rw [hq]
    exact ⟨_,_,rfl,⟨rfl,by simp,by simp,by simp⟩⟩
  · rw [aG hz,no]
    simp only [f7,ZJ]
    rw [hr]
    exact ⟨_,_,rfl,⟨rfl,by simp,by simp,by simp⟩⟩
theorem vd (l:List (iT×Int)) (h:l.length≤1000000):di l=some (l.map (·.1)):=qT l (by omega)
theorem vG {a:Nd} :ac (a::r) (0:Int)=some a:=rfl
theorem Yb {a b:Nd} :ac (a::b::r) (1:Int)=some b:=rfl
theorem ajO {a b c:Nd} :ac (a::b::c::r) (2:Int)=some c:=rfl
def oF:Nat→Tn→Option Nat
  | 0,_=>none
  | k+1,n=>
    if n.1=32 then some 1 else if n.1=33 then some 2 else if n.1=34 then some 1 else if n.1=35 then some 1 else if n.1=36 then some 1
    else if 26≤n.1∧n.1≤31 then (match n.2.2.2 with
      | a::b::_=>(oF k a.tup).bind fun x=>(oF k b.tup).bind fun y=>some (x+y+1)
      | _=>none)
    else none
theorem JM : ∀ (k:Nat) (m:Mk) (n:Tn) (b:Nat),oF k n=some b→oU m b→∃ m',cQ k m n=some m' ∧ Gw b m m' := by
  intro k
  induction k with
  | zero=>intro m n b h; cases h
  | succ k ih=>
    intro m n b h hr
    obtain ⟨kind,t,num,kids⟩:=n
    unfold oF at h
    dsimp only at h
    show ∃ m',ir (cQ k) m (kind,t,num,kids)=some m' ∧ Gw b m m'
    unfold ir
    dsimp only
    by_cases h32:kind=32
    · rw [if_pos h32] at h
      cases h
      obtain ⟨m',h1,h2,_⟩:=mo hr 0 num 0
      rw [bt h32,f9,h1]
      exact ⟨m',rfl,h2⟩
    rw [if_neg h32] at h
    rw [bf h32,no]
    by_cases h33:kind=33
    · rw [if_pos h33] at h
      cases h
      obtain ⟨r,m1,h1,h2⟩:=rv (rt hr (by omega)) t
      obtain ⟨m',h3,h4,_⟩:=mo (jC hr h2 (by omega)) 1 r 0
      rw [bt h33,f9,h1]
      simp only [f7,ZJ,h3]
      exact ⟨m',rfl,jK h2 h4 rfl⟩
    rw [if_neg h33] at h
    rw [bf h33,no]
    have hget : ∃ m',((di m.1.2.2.2.1).bind fun r5=>(bJ r5 t).bind fun r6=>(aD m 16 r6 0).bind fun r7=>some r7)=some m' ∧ (1≤b→Gw 1 m m'):=by
      rw [vd _ hr.2.2.1]
      simp only [f7,ZJ]
      obtain ⟨r,hr1,_⟩:=rR (m.1.2.2.2.1.map (·.1)) (by have:=hr.2.2.1; simp only [abn]; omega) t
      rw [hr1]
      simp only [f7,ZJ]
      by_cases hb:1≤b
      · obtain ⟨m',h3,h4,_⟩:=mo (rt hr hb) 16 r 0
        rw [h3]
        exact ⟨m',rfl,fun _=>h4⟩
      · unfold aD
        rw [jv (aY (by have:=hr.1; simp only [Vp]; omega) (by omega))]
        exact ⟨_,rfl,fun h=>absurd h hb⟩
    obtain ⟨mg,hg1,hg2⟩:=hget
    by_cases h34:kind=34
    · rw [if_pos h34] at h
      cases h
      rw [bt h34]
      simp only [f9,f7,ZJ,hg1]
      exact ⟨mg,rfl,hg2 (by omega)⟩
    rw [if_neg h34] at h
    rw [bf h34]
    simp only [no,f7,ZJ]
    by_cases h35:kind=35
    · rw [if_pos h35] at h
      cases h
      rw [bt h35]
      simp only [f9,hg1]
      exact ⟨mg,rfl,hg2 (by omega)⟩
    rw [if_neg h35] at h
    rw [bf h35]
    simp only [no]
    by_cases h36:kind=36
    · rw [if_pos h36] at h
      cases h
      obtain ⟨m',h1,h2,_⟩:=mo hr 3 0 0
      rw [bt h36,f9,h1]
      exact ⟨m',rfl,h2⟩
    rw [if_neg h36] at h
    rw [bf h36]
    simp only [no]
    by_cases hk:26≤kind∧kind≤31
    rotate_left
    · rw [if_neg hk] at h; cases h
    rw [if_pos hk] at h
    rcases kids with _ | ⟨x,_ | ⟨y,r⟩⟩
    · cases h
    · cases h
    dsimp only at h
    cases hx:oF k x.tup with
    | none=>rw [hx] at h; cases h
    | some bx=>
    cases hy:oF k y.tup with
    | none=>rw [hx,hy] at h; cases h
    | some bY=>
    rw [hx,hy] at h
    cases h
    obtain ⟨m1,h1,h2⟩:=ih m x.tup bx hx (rt hr (by omega))
    obtain ⟨m2,h3,h4⟩:=ih m1 y.tup bY hy (jC hr h2 (by omega))
    have g12:=jK h2 h4 rfl
    simp only [vG,Yb,f7,ZJ]
    rw [show cQ k m (x.tup.1,x.tup.2.1,x.tup.2.2.1,x.tup.2.2.2)=some m1 from h1]
    simp only [f7,ZJ]
    rw [show cQ k m1 (y.tup.1,y.tup.2.1,y.tup.2.2.1,y.tup.2.2.2)=some m2 from h3]
    simp only [f7,ZJ]
    have ei : ∃ v,ac ([7,8,9,4,5,6]:List Int) (ad (kind - 26))=some v:=by
      rw [aZ (by omega) (by omega)]
      exact ⟨_,aT 0 (by omega) (by show kind - 26<((6:Nat):Int); omega)⟩
    obtain ⟨v,hv⟩:=ei
    obtain ⟨m3,h5,h6,_⟩:=mo (jC hr g12 (by omega)) v 0 0
    simp only [hv,f7,ZJ,h5]
    exact ⟨m3,rfl,jK g12 h6 rfl⟩
def rq (f:Tn→Option Nat):List Nd→Option Nat
  | []=>some 0
  | x::r=>(f x.tup).bind fun a=>(rq f r).bind fun b=>some (a+b)
def tg (kb:Tn→Option Nat) (n:Tn):Option Nat:=
  if n.1=9 then (match n.2.2.2 with | a::_=>(oF 64 a.tup).bind fun x=>some (x+2) | _=>none)
  else if n.1=10 then (match n.2.2.2 with | _::a::_=>(oF 64 a.tup).bind fun x=>some (x+1) | _=>none)
  else if n.1=11∨n.1=12 then (match n.2.2.2 with
    | [a,b]=>(oF 64 a.tup).bind fun x=>(kb b.tup).bind fun y=>some (x+y+3)
    | [a,b,c]=>(oF 64 a.tup).bind fun x=>(kb b.tup).bind fun y=>(kb c.tup).bind fun z=>some (x+y+z+3)
    | _=>none)
  else if n.1=15∨n.1=22∨n.1=24 then (match n.2.2.2 with | a::_=>(oF 64 a.tup).bind fun x=>some (x+1) | _=>none)
  else if n.1=16∨n.1=23 then (match n.2.2.2 with | _::_=>some 2 | _=>none)
  else some 2
def zb:Nat→Tn→Option Nat
  | 0,_=>none
  | k+1,n=>rq (tg (zb k)) n.2.2.2
def rG:Nat→Tn→Option Nat
  | 0,_=>none
  | k+1,n=>(rq (rG k) n.2.2.2).bind fun x=>some (x+1)
def me (n:Int) (m:Mk):zN:=(n,m.1.1,m.1.2.1,m.1.2.2.1,m.1.2.2.2.1,m.1.2.2.2.2.1,m.1.2.2.2.2.2.1,m.1.2.2.2.2.2.2.1,m.1.2.2.2.2.2.2.2,m.2)
theorem Ni {f:zN→Option (zN⊕Mk)} (kids:List Nd) (hk:kids.length≤1048576) (cost:Tn→Option Nat) (step:Mk→Tn→Option Mk) (hs : ∀ m n b,cost n=some b→oU m b→∃ m',step m n=some m' ∧ Gw b m m')
    (hstep : ∀ (i:Nat) (m m' : Mk),i<kids.length→step m (kids.getD i (Nd.mk 0 [] 0 [])).tup=some m' → f (me (i:Int) m)=some (.inl (me ((i:Int)+1) m'))) (hend : ∀ m,f (me (kids.length:Int) m)=some (.inr m))
    {m:Mk}  (hb:rq cost kids=some b) (hr:oU m b) : ∃ m',Itr.it f (me 0 m)=some m' ∧ Gw b m m' := by
  obtain ⟨r,h1,h2⟩:=fw (f:=f) (fun s=>kids.length - s.1.toNat) (fun s=>∃ (i:Nat) (m1:Mk) (a rb:Nat),s=me (i:Int) m1∧i≤kids.length∧Gw a m m1∧rq cost (kids.drop i)=some rb∧a+rb=b) (fun r=>Gw b m r)
    (fun s hs' => by
      obtain ⟨i,m1,a,rb,rfl,hi,hg,hsum,hab⟩:=hs'
      rcases WG i kids.length with hlt | hge
      · right
        rw [aef hlt] at hsum
        unfold rq at hsum
        cases hc:cost kids[i].tup with
        | none=>rw [hc] at hsum; cases hsum
        | some x=>
        cases hd:rq cost (kids.drop (i+1)) with
        | none=>rw [hc,hd] at hsum; cases hsum
        | some y=>
        rw [hc,hd] at hsum
        cases hsum
        obtain ⟨m2,h3,h4⟩:=hs m1 _ x hc (jC hr hg (by omega))
        have he:=hstep i m1 m2 hlt (by rw [show kids.getD i (Nd.mk 0 [] 0 [])=kids[i] by simp [hlt]]; exact h3)
        exact ⟨_,he,⟨i+1,m2,a+x,y,rfl,by omega,jK hg h4 rfl,hd,by omega⟩,by show kids.length - ((i:Int)+1).toNat<kids.length - (i:Int).toNat; omega⟩
      · left
        have:i=kids.length:=by omega
        subst this
        refine ⟨m1,hend m1,?_⟩
        rw [adM] at hsum
        cases hsum
        exact Fs hg (by omega)) (s:=me 0 m) ⟨0,m,0,b,rfl,by omega,tm m,hb,by omega⟩ (by show kids.length - (0:Int).toNat<_; omega)
  exact ⟨r,h1,h2⟩
theorem At {f:Tn→Option Nat} (hf : ∀ n b,f n=some b→1≤b) : ∀ {l:List Nd} {b:Nat},rq f l=some b→l.length≤b
  | [],_,_=>by simp
  | x::r,b,h=>by
    unfold rq at h
    cases hc:f x.tup with
    | none=>rw [hc] at h; cases h
    | some a=>
    cases hd:rq f r with
    | none=>rw [hc,hd] at h; cases h
    | some y=>
    rw [hc,hd] at h
    cases h
    have h1:=hf _ _ hc
    have h2:=At hf hd
    simp only [Ws]
    omega
theorem Uq {n:Tn}  (h:rG k n=some b):1≤b:=by
  cases k with
  | zero=>cases h
  | succ k=>
    unfold rG at h
    cases hs:rq (rG k) n.2.2.2 with
    | none=>rw [hs] at h; cases h
    | some x=>rw [hs] at h; cases h; omega
theorem tk : ∀ (k:Nat) (m:Mk) (n:Tn) (b:Nat),rG k n=some b→oU m b→∃ m',cz k m n=some m' ∧ Gw b m m' := by
  intro k
  induction k with
  | zero=>intro m n b h; cases h
  | succ k ih=>
    intro m n b h hr
    unfold rG at h
    cases hs:rq (rG k) n.2.2.2 with
    | none=>rw [hs] at h; cases h
    | some x=>
    rw [hs] at h
    cases h
    have hlen:=At (fun n b h=>Uq h) hs
    have hr1:=hr.1
    show ∃ m',iP (cz k) m n=some m' ∧ Gw (x+1) m m'
    unfold iP
    have loop : ∀ m1:Mk,oU m1 x→∃ m',Itr.it (eY (cz k) n) (me 0 m1)=some m' ∧ Gw x m1 m' := fun m1 hm1=>
      Ni n.2.2.2 (by omega) (rG k) (cz k) ih
        (fun i m m' hi he=>by
          unfold eY
          simp only [me,show (i:Int)<(n.2.2.2.length:Int) by omega,YD,f9,aB (Nd.mk 0 [] 0 []) hi,f7]
          rw [show cz k _ _=some m' from he]
          simp only [f7,ZJ,aW (n:=n.2.2.2.length) (by omega) hi])
        (fun m=>by
          unfold eY
          simp only [me,adv,Yv,no]) hs hm1
    cases hk:(bif bif bif n.1==9 then true else n.1==33 then true else n.1==19 then true else n.1==20)
    · simp only [no,f7,ZJ]
      obtain ⟨m',h1,h2⟩:=loop m (rt hr (by omega))
      exact ⟨m',h1,Fs h2 (by omega)⟩
    · obtain ⟨r,m1,h1,h2⟩:=rv (rt hr (by omega)) n.2.1
      simp only [f9,h1,f7,ZJ]
      obtain ⟨m',h3,h4⟩:=loop m1 (jC hr h2 (by omega))
      exact ⟨m',h3,jK h2 h4 (by omega)⟩
theorem Ek {kb:Tn→Option Nat} {n:Tn} (h:tg kb n=some b):1≤b:=by
  obtain ⟨kind,t,num,kids⟩:=n
  unfold tg at h
  dsimp only at h
  repeat' split at h
  all_goals first
    | (cases h; done)
    | (cases h; omega)
    | (simp only [Yg,Va] at h
       obtain ⟨x,_,h⟩:=h
       first
         | omega
         | (obtain ⟨y,_,h⟩:=h
            first
              | omega
              | (obtain ⟨z,_,h⟩:=h; omega)))
theorem UY (self:Mk→Tn→Option Mk) (m:Mk) (n:Tn):dL self m n =
    (ac n.2.2.2 (0:Int)).bind fun _=>(ac n.2.2.2 (0:Int)).bind fun v2=>(ce m v2.tup).bind fun r3=>(aD r3 11 0 0).bind fun r4=>
    (ac n.2.2.2 (1:Int)).bind fun _=>(ac n.2.2.2 (1:Int)).bind fun v6=>(self r4 v6.tup).bind fun r7=>
    (bif n.1==(12:Int) then aD r7 10 (m.1.1.length:Int) 0 else some r7).bind fun m8=>
    bif decide ((n.2.2.2.length:Int)<(3:Int)) then
      (ac m8.1.1 (r3.1.1.length:Int)).bind fun _=>(ac m8.1.1 (r3.1.1.length:Int)).bind fun v11=>some ((m8.1.1.set (r3.1.1.length:Int).toNat (v11.1,((m8.1.1.length:Int),v11.2.2)),m8.1.2),m8.2)
    else
      (aD m8 10 0 0).bind fun r12=>(ac r12.1.1 (r3.1.1.length:Int)).bind fun _=>(ac r12.1.1 (r3.1.1.length:Int)).bind fun v14=>
      (ac n.2.2.2 (2:Int)).bind fun _=>(ac n.2.2.2 (2:Int)).bind fun v16=>
      (self ((r12.1.1.set (r3.1.1.length:Int).toNat (v14.1,((r12.1.1.length:Int),v14.2.2)),r12.1.2),r12.2) v16.tup).bind fun r17=>
      (ac r17.1.1 (m8.1.1.length:Int)).bind fun _=>(ac r17.1.1 (m8.1.1.length:Int)).bind fun v19=>some ((r17.1.1.set (m8.1.1.length:Int).toNat (v19.1,((r17.1.1.length:Int),v19.2.2)),r17.1.2),r17.2):=by
  unfold dL
  dsimp only [ZJ]
  congr 1; funext _; congr 1; funext v2
  show (ce m v2.tup).bind _=_
  congr 1; funext r3; congr 1; funext r4; congr 1; funext _; congr 1; funext v6
  show (self r4 v6.tup).bind _=_
  congr 1; funext r7
  cases n.1==(12:Int)
  · rfl
  · simp only [f9]
    cases aD r7 10 (m.1.1.length:Int) 0
    · rfl
    · rfl
section
variable {self:Mk→Tn→Option Mk} {kb:Tn→Option Nat} (hself : ∀ m n b,kb n=some b→oU m b→∃ m',self m n=some m' ∧ Gw b m m')
include hself
theorem UM {m:Mk} {n:Tn} (hk:n.1=11∨n.1=12) (h:tg kb n=some b) (hr:oU m b) : ∃ m',dL self m n=some m' ∧ Gw b m m' := by
  obtain ⟨kind,t,num,kids⟩:=n
  dsimp only at hk
  unfold tg at h
  dsimp only at h
  rw [if_neg (by omega),if_neg (by omega),if_pos hk] at h
  have main : ∀ (x y:Nd) (rest:List Nd) (bx bY bz:Nat),kids=x::y::rest→oF 64 x.tup=some bx→kb y.tup=some bY→bx+bY+bz+3≤b→(rest=[]∨∃ z,rest=[z]∧kb z.tup=some bz)→∃ m',dL self m (kind,t,num,kids)=some m' ∧ Gw b m m' := by
    intro x y rest bx bY bz hkids hx hy hsum hrest
    subst hkids
    rw [UY]
    simp only [vG,Yb,f7,ZJ]
    obtain ⟨m1,h1,g1⟩:=JM 64 m x.tup bx hx (rt hr (by omega))
    rw [show ce m x.tup=some m1 from h1]
    simp only [f7,ZJ]
    obtain ⟨m2,h2,g2,l2⟩:=mo (jC (b:=1) hr g1 (by omega)) 11 0 0
    rw [h2]
    simp only [f7,ZJ]
    have g12:=jK g1 g2 rfl
    obtain ⟨m3,h3,g3⟩:=hself m2 y.tup bY hy (jC hr g12 (by omega))
    rw [h3]
    simp only [f7,ZJ]
    have g13:=jK g12 g3 rfl
    have hs8 : ∃ m4,(bif kind==(12:Int) then aD m3 10 (m.1.1.length:Int) 0 else some m3)=some m4∧Gw 1 m3 m4:=by
      cases kind==(12:Int)
      · exact ⟨m3,rfl,Fs (tm m3) (by omega)⟩
      · obtain ⟨m4,h4,g4,_⟩:=mo (jC (b:=1) hr g13 (by omega)) 10 (m.1.1.length:Int) 0
        exact ⟨m4,h4,g4⟩
    obtain ⟨m4,h4,g4⟩:=hs8
    rw [h4]
    simp only [f7,ZJ]
    have g14:=jK g13 g4 rfl
    have hz:m1.1.1.length<m4.1.1.length:=by have:=g3.2.1; have:=g4.2.1; omega
    rcases hrest with rfl | ⟨z,rfl,hz2⟩
    · rw [show decide (((([x,y]:List Nd).length:Nat):Int)<3)=true from rfl]
      simp only [f9,aB (0,0,0) hz,f7,ZJ]
      exact ⟨_,rfl,⟨g14.1,by have:=g14.2.1; simpa using this,by have:=g14.2.2.1; simp only [XE]; omega,by have:=g14.2.2.2; dsimp only; omega⟩⟩
    · rw [show decide (((([x,y,z]:List Nd).length:Nat):Int)<3)=false from rfl]
      simp only [no]
      obtain ⟨m5,h5,g5,l5⟩:=mo (jC (b:=1) hr g14 (by omega)) 10 0 0
      rw [h5]
      have hz5:m1.1.1.length<m5.1.1.length:=by omega
      simp only [f7,ZJ,aB (0,0,0) hz5,ajO]
      have g15:=jK g14 g5 rfl
      generalize hq:((m5.1.1.set (m1.1.1.length:Int).toNat ((m5.1.1.getD m1.1.1.length (0,0,0)).1,((m5.1.1.length:Int),(m5.1.1.getD m1.1.1.length (0,0,0)).2.2)),m5.1.2),m5.2)=m6
      have hq1:m6.1.1.length=m5.1.1.length:=by rw [← hq]; simp
      have hq2:m6.1.2=m5.1.2:=by rw [← hq]
      have hq3:m6.2=m5.2:=by rw [← hq]
      have g16:Gw (bx+1+bY+1+1) m m6:=⟨by rw [hq2]; exact g15.1,by rw [hq1]; exact g15.2.1,by rw [hq1]; have:=g15.2.2.1; omega,by rw [hq3]; have:=g15.2.2.2; omega⟩
      obtain ⟨m7,h7,g7⟩:=hself m6 z.tup bz hz2 (jC hr g16 (by omega))
      rw [h7]
      have hz7:m4.1.1.length<m7.1.1.length:=by have:=g7.2.1; omega
      simp only [f7,ZJ,aB (0,0,0) hz7]
      have g17:=jK g16 g7 rfl
      exact ⟨_,rfl,⟨g17.1,by have:=g17.2.1; simpa using this,by have:=g17.2.2.1; simp only [XE]; omega,by have:=g17.2.2.2; dsimp only; omega⟩⟩
  rcases kids with _ | ⟨x,_ | ⟨y,_ | ⟨z,_ | ⟨u,r⟩⟩⟩⟩
  · cases h
  · cases h
  · dsimp only at h
    simp only [Yg,Va] at h
    obtain ⟨bx,hx,bY,hy,hb⟩:=h
    exact main x y [] bx bY 0 rfl hx hy (by omega) (.inl rfl)
  · dsimp only at h
    simp only [Yg,Va] at h
    obtain ⟨bx,hx,bY,hy,bz,hz,hb⟩:=h
    exact main x y [z] bx bY bz rfl hx hy (by omega) (.inr ⟨z,rfl,hz⟩)
  · cases h
theorem adh (m:Mk) (n:Tn) (b:Nat) (h:tg kb n=some b) (hr:oU m b) : ∃ m',cP self m n=some m' ∧ Gw b m m' := by
  by_cases hk:n.1=11∨n.1=12
  · obtain ⟨m',h1,h2⟩:=UM hself hk h hr
    refine ⟨m',?_,h2⟩
    unfold cP
    dsimp only
    rw [vd _ hr.2.2.2.1]
    rcases hk with hk | hk <;> rw [hk] <;> simp only [Int.reduceBEq,f9,no,f7,ZJ,h1]
  have hb:=Ek h
  obtain ⟨kind,t,num,kids⟩:=n
  dsimp only at hk
  unfold tg at h
  dsimp only at h
  unfold cP
  dsimp only
  rw [vd _ hr.2.2.2.1]
  simp only [f7,ZJ]
  have emit2 : ∀ (m1:Mk) (a:Nat) (x y z:Int),Gw a m m1→a+1≤b→∃ m',aD m1 x y z=some m' ∧ Gw b m m' := fun m1 a x y z g hab=>by
    obtain ⟨m',h3,h4,_⟩:=mo (jC (b:=1) hr g hab) x y z
    exact ⟨m',h3,Fs (jK g h4 rfl) hab⟩
  have val : ∀ (x:Nd) (bx:Nat),oF 64 x.tup=some bx→bx≤b→∃ m',ce m (x.tup.1,x.tup.2.1,x.tup.2.2.1,x.tup.2.2.2)=some m' ∧ Gw bx m m' := fun x bx hx hle=>JM 64 m x.tup bx hx (rt hr hle)
  have ix : ∀ l:List iT,l.length≤1000000→∃ r,bJ l t=some r:=fun l hl=>by
    obtain ⟨r,hr,_⟩:=rR l (by omega) t
    exact ⟨r,hr⟩
  by_cases h9:kind=9
  · rw [if_pos h9] at h
    rcases kids with _ | ⟨x,r⟩
    · cases h
    simp only [Yg,Va] at h
    obtain ⟨bx,hx,hb'⟩:=h
    obtain ⟨m1,h1,g1⟩:=val x bx hx (by omega)
    obtain ⟨q,m2,h2,g2⟩:=rv (jC (b:=1) hr g1 (by omega)) t
    obtain ⟨m3,h3,g3⟩:=emit2 m2 (bx+1) 2 q 0 (jK g1 g2 rfl) (by omega)
    rw [bt h9]
    simp only [f9,vG,f7,ZJ,h1,h2,h3]
    exact ⟨m3,rfl,g3⟩
  rw [if_neg h9] at h
  rw [bf h9,no]
  by_cases h10:kind=10
  · rw [if_pos h10] at h
    rcases kids with _ | ⟨p,_ | ⟨x,r⟩⟩
    · cases h
    · cases h
    simp only [Yg,Va] at h
    obtain ⟨bx,hx,hb'⟩:=h
    obtain ⟨m1,h1,g1⟩:=val x bx hx (by omega)
    have hrm:=jC (b:=1) hr g1 (by omega)
    obtain ⟨q,hq,_⟩:=rR (m1.1.2.2.2.1.map (·.1)) (by have:=hrm.2.2.1; simp only [abn]; omega) p.tup.2.1
    obtain ⟨m3,h3,g3⟩:=emit2 m1 bx 17 q 0 g1 (by omega)
    rw [bt h10]
    simp only [f9,vG,Yb,f7,ZJ,h1,vd _ hrm.2.2.1,hq,h3]
    exact ⟨m3,rfl,g3⟩
  rw [if_neg h10,if_neg hk] at h
  rw [bf h10,no,show (kind==11)=false by simp only [WW]; omega,show (kind==12)=false by simp only [WW]; omega]
  simp only [no,f7,ZJ]
  have simple : ∀ (l:List iT) (op:Int),l.length≤1000000→∃ m',((bJ l t).bind fun r=>(aD m op r 0).bind fun r' => some r')=some m' ∧ Gw b m m' := fun l op hl=>by
    obtain ⟨q,hq⟩:=ix l hl
    obtain ⟨m3,h3,g3⟩:=emit2 m 0 op q 0 (tm m) (by omega)
    rw [hq]
    simp only [f7,ZJ,h3]
    exact ⟨m3,rfl,g3⟩
  obtain ⟨r1,r2,r3,r4,r5,r6,r7⟩:=hr
  by_cases h13:kind=13
  · rw [bt h13,f9]
    exact simple _ 18 r7
  rw [bf h13,no]
  by_cases h14:kind=14
  · rw [bt h14,f9]
    exact simple _ 12 r7
  rw [bf h14,no]
  by_cases h15:kind=15
  · rw [if_pos (.inl h15)] at h
    rcases kids with _ | ⟨x,r⟩
    · cases h
    simp only [Yg,Va] at h
    obtain ⟨bx,hx,hb'⟩:=h
    obtain ⟨m1,h1,g1⟩:=val x bx hx (by omega)
    obtain ⟨q,hq⟩:=ix (m.1.2.2.2.2.1.map (·.1)) (by simpa using r4)
    obtain ⟨m3,h3,g3⟩:=emit2 m1 bx 19 q 0 g1 (by omega)
    rw [bt h15]
    simp only [f9,vG,f7,ZJ,h1,hq,h3]
    exact ⟨m3,rfl,g3⟩
  rw [bf h15,no]
  by_cases h16:kind=16
  · rw [if_neg (by omega),if_pos (.inl h16)] at h
    rcases kids with _ | ⟨x,r⟩
    · cases h
    cases h
    obtain ⟨q,hq⟩:=ix (m.1.2.2.2.2.1.map (·.1)) (by simpa using r4)
    obtain ⟨p,m2,h2,g2⟩:=rv (m:=m) ⟨by omega,by omega,r3,r4,r5,r6,r7⟩ x.tup.2.1
    obtain ⟨m3,h3,g3⟩:=emit2 m2 1 20 q p g2 (by omega)
    rw [bt h16]
    simp only [f9,vG,f7,ZJ,hq,h2,h3]
    exact ⟨m3,rfl,g3⟩
  rw [bf h16,no]
  by_cases h17:kind=17
  · rw [bt h17,f9]
    exact simple _ 21 r5
  rw [bf h17,no]
  by_cases h18:kind=18
  · rw [bt h18,f9]
    exact simple _ 22 r5
  rw [bf h18,no]
  have loc : ∀ (op:Int) (g:Int→Int×Int),2≤b→∃ m',((cf m t).bind fun r=>(aD r.2 op (g r.1).1 (g r.1).2).bind fun r' => some r')=some m' ∧ Gw b m m' := fun op g h2b=>by
    obtain ⟨p,m2,h2,g2⟩:=rv (m:=m) ⟨by omega,by omega,r3,r4,r5,r6,r7⟩ t
    obtain ⟨m3,h3,g3⟩:=emit2 m2 1 op (g p).1 (g p).2 g2 (by omega)
    rw [h2]
    simp only [f7,ZJ,h3]
    exact ⟨m3,rfl,g3⟩
  by_cases h19:kind=19
  · rw [if_neg (by omega),if_neg (by omega)] at h
    cases h
    rw [bt h19,f9]
    exact loc 23 (fun r=>(num,r)) (by omega)
  rw [bf h19,no]
  by_cases h20:kind=20
  · rw [if_neg (by omega),if_neg (by omega)] at h
    cases h
    rw [bt h20,f9]
    exact loc 24 (fun r=>(r,0)) (by omega)
  rw [bf h20,no]
  by_cases h21:kind=21
  · obtain ⟨m3,h3,g3⟩:=emit2 m 0 25 num 0 (tm m) (by omega)
    rw [bt h21,f9,h3]
    exact ⟨m3,rfl,g3⟩
  rw [bf h21,no]
  by_cases h22:kind=22
  · rw [if_pos (.inr (.inl h22))] at h
    rcases kids with _ | ⟨x,r⟩
    · cases h
    simp only [Yg,Va] at h
    obtain ⟨bx,hx,hb'⟩:=h
    obtain ⟨m1,h1,g1⟩:=val x bx hx (by omega)
    obtain ⟨q,hq⟩:=ix m1.1.2.2.2.2.2.2.1 (by rw [g1.1]; exact r6)
    obtain ⟨m3,h3,g3⟩:=emit2 m1 bx 26 q 0 g1 (by omega)
    rw [bt h22]
    simp only [f9,vG,f7,ZJ,h1,hq,h3]
    exact ⟨m3,rfl,g3⟩
  rw [bf h22,no]
  by_cases h23:kind=23
  · rw [if_neg (by omega),if_pos (.inr h23)] at h
    rcases kids with _ | ⟨x,r⟩
    · cases h
    cases h
    obtain ⟨q,hq⟩:=ix m.1.2.2.2.2.2.2.1 r6
    obtain ⟨p,m2,h2,g2⟩:=rv (m:=m) ⟨by omega,by omega,r3,r4,r5,r6,r7⟩ x.tup.2.1
    obtain ⟨m3,h3,g3⟩:=emit2 m2 1 27 q p g2 (by omega)
    rw [bt h23]
    simp only [f9,vG,f7,ZJ,hq,h2,h3]
    exact ⟨m3,rfl,g3⟩
  rw [bf h23,no]
  by_cases h24:kind=24
  · rw [if_pos (.inr (.inr h24))] at h
    rcases kids with _ | ⟨x,r⟩
    · cases h
    simp only [Yg,Va] at h
    obtain ⟨bx,hx,hb'⟩:=h
    obtain ⟨m1,h1,g1⟩:=val x bx hx (by omega)
    obtain ⟨m3,h3,g3⟩:=emit2 m1 bx 14 m1.2.2 (ad ((m1.1.2.1.length:Int) - 1)) g1 (by omega)
    rw [bt h24]
    simp only [f9,vG,f7,ZJ,h1,h3]
    exact ⟨_,rfl,g3⟩
  rw [bf h24,no]
  obtain ⟨m3,h3,g3⟩:=emit2 m 0 15 num 0 (tm m) (by omega)
  rw [h3]
  exact ⟨m3,rfl,g3⟩
end
theorem XN : ∀ (k:Nat) (m:Mk) (n:Tn) (b:Nat),zb k n=some b→oU m b→∃ m',cy k m n=some m' ∧ Gw b m m' := by
  intro k
  induction k with
  | zero=>intro m n b h; cases h
  | succ k ih=>
    intro m n b h hr
    have h' : rq (tg (zb k)) n.2.2.2=some b:=h
    have hlen:=At (fun n b h=>Ek h) h'
    have hr1:=hr.1
    show ∃ m',ip (cy k) m n=some m' ∧ Gw b m m'
    unfold ip
    exact Ni n.2.2.2 (by omega) (tg (zb k)) (cP (cy k)) (fun m n b h hr=>adh ih m n b h hr)
      (fun i m m' hi he=>by
        unfold ia
        simp only [me,show (i:Int)<(n.2.2.2.length:Int) by omega,YD,f9,aB (Nd.mk 0 [] 0 []) hi,f7]
        rw [show cP _ _ _=some m' from he]
        simp only [f7,ZJ,aW (n:=n.2.2.2.length) (by omega) hi])
      (fun m=>by
        unfold ia
        simp only [me,adv,Yv,no]) h' hr
structure GoodN (d:Df) (n:Tn) (u:List bg):Prop where
 parse:dI d.2=some (n,0,0)
 name:n.2.1=d.1
 kids:n.2.2.2.length≤64
 len:n.2.1.length≤64
 lens : ∀ k∈n.2.2.2,k.tup.2.1.length≤64
 found:fu n=some u
 uses:u.length≤64
 proc:n.1=5∨n.1=6→∃ k r bm bb,n.2.2.2=k::r∧rG 64 n=some bm∧zb 64 k.tup=some bb∧bm≤200∧bb≤200
def oI (d:Df):Prop:=∃ n u,GoodN d n u
def G6 (d:Df):Bool:=match dI d.2 with
 | some (n,a,e)=>a==0&&e==0&&n.2.1==d.1&&Nat.ble n.2.2.2.length 64&&Nat.ble n.2.1.length 64&&n.2.2.2.all (fun k=>Nat.ble k.tup.2.1.length 64) &&
  (match fu n with | some u=>Nat.ble u.length 64 | none=>false) &&
  (bif n.1==5||n.1==6 then (match n.2.2.2 with | k::_=>(match rG 64 n with | some b=>Nat.ble b 200 | none=>false)&&(match zb 64 k.tup with | some b=>Nat.ble b 200 | none=>false) | []=>false) else true)
 | none=>false
theorem Md {d:Df} (h:G6 d=true):oI d:=by
 unfold G6 at h
 split at h
 ·rename_i n a e hp
  simp only [Vf] at h
  obtain ⟨⟨⟨⟨⟨⟨⟨h1,h2⟩,h3⟩,h4⟩,h5⟩,h6⟩,h7⟩,h8⟩:=h
  split at h7
  ·rename_i u hu
   refine ⟨n,u,?_,by simpa using h3,Vg h4,Vg h5,fun k hk=>?_,hu,Vg h7,fun hk=>?_⟩
   ·rw [hp,show a=0 by simpa using h1,show e=0 by simpa using h2]
   ·exact Vg (Vx.1 h6 k hk)
   ·rw [show (n.1==5||n.1==6)=true by rcases hk with hk | hk <;> simp [hk]] at h8
    simp only [f9] at h8
    split at h8
    ·rename_i k r hkids
     simp only [Vf] at h8
     obtain ⟨g1,g2⟩:=h8
     split at g1
     ·rename_i bm hbm
      split at g2
      ·rename_i bb hbb
       exact ⟨k,r,bm,bb,hkids,hbm,hbb,Vg g1,Vg g2⟩
      ·cases g2
     ·cases g1
    ·cases h8
  ·cases h7
 ·cases h
theorem vT {R:Type} {f:Int→Option (Int⊕R)} (n:Nat) (hn:n≤1048576) (hstep : ∀ i:Nat,i<n→(∃ r,f (i:Int)=some (.inr r))∨f (i:Int)=some (.inl ((i:Int)+1))) (hend : ∃ r,f (n:Int)=some (.inr r)) : ∃ r,Itr.it f (0:Int)=some r:=by
 obtain ⟨r,h1,_⟩:=fw (f:=f) (fun s=>n - s.toNat) (fun s=>∃ i:Nat,s=(i:Int)∧i≤n) (fun _=>True)
  (fun s hs=>by
   obtain ⟨i,rfl,hi⟩:=hs
   rcases WG i n with hlt | hge
   ·rcases hstep i hlt with ⟨r,h⟩ | h
    ·exact .inl ⟨r,h,trivial⟩
    ·exact .inr ⟨_,h,⟨i+1,rfl,by omega⟩,by show n - ((i:Int)+1).toNat<n - (i:Int).toNat; omega⟩
   ·obtain ⟨r,h⟩:=hend
    rw [show i=n by omega]
    exact .inl ⟨r,h,trivial⟩) (s:=0) ⟨0,rfl,by omega⟩ (by show n - (0:Int).toNat<_; omega)
 exact ⟨r,h1⟩
section
variable (l:List Df) (hl:l.length≤24) (hg : ∀ d∈l,oI d)
include hl hg
theorem YT (h:i<l.length) : ∃ n u,GoodN (l.getD i ([],[])) n u:=hg _ (by simp [h])
theorem wV (h0:0<l.length) (nm:iT) : ∃ r d,bK l nm=some r∧d∈l∧ac l (if (0:Int) > r then 0 else r)=some d:=by
 rcases tF l (by omega) nm with ⟨h1,_⟩ | ⟨i,h1,h2,h3,_⟩
 ·exact ⟨-1,l.getD 0 ([],[]),h1,by simp [h0],by rw [if_pos (by omega)]; exact aB _ h0⟩
 ·exact ⟨i,l.getD i ([],[]),h1,by simp [h2],by rw [if_neg (by omega)]; exact aB _ h2⟩
theorem zj {d:Df} (h:d∈l) : ∃ n u,GoodN d n u∧eK d.2=some n:=by
 obtain ⟨n,u,h⟩:=hg d h
 refine ⟨n,u,h,?_⟩
 unfold eK
 rw [h.parse]
 rfl
theorem AB (hi:i<l.length) : ∃ e,gx l (i:Int)=some e∧(e=0→∀ j,j<i→(l.getD j ([],[])).1≠(l.getD i ([],[])).1):=by
 unfold gx
 obtain ⟨n,u,h⟩:=YT l hl hg hi
 simp only [aB ([],[]) hi,f7,h.parse,h.name,V9,WM,no]
 rw [show ((0:Int) != 0)=false from rfl]
 simp only [no]
 obtain ⟨fr,hf,hf2⟩:=D8 n (by have:=h.kids; omega)
 have hk:=h.kids
 obtain ⟨z,hz⟩:=vT (f:=fh fr) fr.length (by omega)
  (fun k hk' => by
   unfold fh
   obtain ⟨b,hb,_⟩:=BS (fr.take k) (by simp only [V7]; omega) (fr.getD k [])
   simp only [aw (show (k:Int)<(fr.length:Int) by omega),f9,aB [] hk',f7,af,aw (show 0≤(k:Int)∧(k:Int)≤(fr.length:Int) by omega),VY,hb,aW (n:=fr.length) (by omega) hk']
   cases b
   ·exact .inr rfl
   ·exact .inl ⟨_,rfl⟩)
  ⟨_,by unfold fh; rw [aG (by omega)]; rfl⟩
 have hend : ∃ e,((f6 n).bind fun r9=>(Itr.it (fh r9) 0).bind fun z15=>match z15 with | Sum.inl _=>some 0 | Sum.inr t16=>some t16)=some e:=by
  rw [hf]
  simp only [f7,ZJ,hz]
  rcases z with z | z <;> exact ⟨_,rfl⟩
 obtain ⟨e,he⟩:=hend
 rcases tF l (by omega) (l.getD i ([],[])).1 with ⟨h1,h2⟩ | ⟨k,h1,h2,h3,h4⟩
 ·exact absurd rfl (h2 i hi)
 ·rw [h1]
  simp only [f7,ZJ]
  by_cases hki:k<i
  ·rw [aw (by omega)]
   exact ⟨7,rfl,fun h=>(by cases h)⟩
  ·rw [aG (by omega)]
   simp only [no]
   exact ⟨e,he,fun _ j hj=>h4 j (by omega)⟩
theorem Uj (hi:i<l.length) : ∃ e,kP l (i:Int)=some e:=by
 unfold kP
 obtain ⟨n,u,h,ht⟩:=zj l hl hg (show l.getD i ([],[])∈l by simp [hi])
 simp only [aB ([],[]) hi,f7,ht,h.found]
 have hu:=h.uses
 have h0:0<l.length:=by omega
 obtain ⟨z1,hz1⟩:=vT (f:=gI l u) u.length (by omega)
  (fun k hk=>by
   unfold gI
   obtain ⟨r,d,h1,h2,h3⟩:=wV l hl hg h0 (u.getD k (0,0,[],[])).2.2.1
   simp only [aw (show (k:Int)<(u.length:Int) by omega),f9,aB (0,0,[],[]) hk,f7,h1,aW (n:=u.length) (by omega) hk]
   cases decide (r<0)
   ·exact .inr rfl
   ·exact .inl ⟨_,rfl⟩)
  ⟨_,by unfold gI; rw [aG (by omega)]; rfl⟩
 obtain ⟨z2,hz2⟩:=vT (f:=gB l u) u.length (by omega)
  (fun k hk=>by
   unfold gB
   obtain ⟨r,d,h1,h2,h3⟩:=wV l hl hg h0 (u.getD k (0,0,[],[])).2.2.1
   obtain ⟨n',u',_,ht'⟩:=zj l hl hg h2
   simp only [aw (show (k:Int)<(u.length:Int) by omega),f9,aB (0,0,[],[]) hk,f7,h1,h3,ht',aW (n:=u.length) (by omega) hk]
   cases n'.1 != (u.getD k (0,0,[],[])).2.1
   ·exact .inr rfl
   ·exact .inl ⟨_,rfl⟩)
  ⟨_,by unfold gB; rw [aG (by omega)]; rfl⟩
 obtain ⟨z3,hz3⟩:=vT (f:=gE l u) u.length (by omega)
  (fun k hk=>by
   unfold gE
   obtain ⟨r,d,h1,h2,h3⟩:=wV l hl hg h0 (u.getD k (0,0,[],[])).2.2.1
   obtain ⟨n',u',g',ht'⟩:=zj l hl hg h2
   obtain ⟨fr,hf,hf2⟩:=D8 n' (by have:=g'.kids; omega)
   obtain ⟨b,hb,_⟩:=BS fr (by have:=g'.kids; omega) (u.getD k (0,0,[],[])).2.2.2
   simp only [aw (show (k:Int)<(u.length:Int) by omega),f9,aB (0,0,[],[]) hk,f7,h1,h3,ht',aW (n:=u.length) (by omega) hk]
   cases (u.getD k (0,0,[],[])).2.1==1
   ·exact .inr rfl
   ·simp only [f9,hf,f7,ZJ,hb]
    cases b
    ·exact .inl ⟨_,rfl⟩
    ·exact .inr rfl)
  ⟨_,by unfold gE; rw [aG (by omega)]; rfl⟩
 rw [hz1]
 rcases z1 with z1 | z1
 ·simp only [f7,ZJ,hz2]
  rcases z2 with z2 | z2
  ·simp only [f7,ZJ,hz3]
   rcases z3 with z3 | z3 <;> exact ⟨_,rfl⟩
  ·exact ⟨_,rfl⟩
 ·exact ⟨_,rfl⟩
end
def yK (d:Df):List iT:=match dI d.2 with
 | some r=>(match fu r.1 with | some u=>u.map (·.2.2.1) | none=>[])
 | none=>[]
def yZ (l:List Df):List iT:=l.flatMap yK
def pS (W bk:List iT):Nat:=(W.filter fun w=>!decide (w∈bk)).length
theorem EH {d:Df} {n:Tn} {u:List bg} (h:GoodN d n u):yK d=u.map (·.2.2.1):=by
 unfold yK
 rw [h.parse]
 dsimp only
 rw [h.found]
theorem L5 {l:List Df} (hg : ∀ d∈l,oI d):(yZ l).length≤64 * l.length:=by
 induction l with
 | nil=>simp [yZ]
 | cons d r ih=>
  obtain ⟨n,u,h⟩:=hg d (by simp)
  have h1:=ih fun d hd=>hg d (by simp [hd])
  have h2:(yK d).length≤64:=by rw [EH h]; simpa using h.uses
  unfold yZ at h1 ⊢
  simp only [List.flatMap_cons,Vs,Ws]
  omega
theorem Tr {W:List iT} {p q:iT→Bool} (h : ∀ y,q y=true→p y=true):(W.filter q).length≤(W.filter p).length:=by
 induction W with
 | nil=>simp
 | cons y r ih=>
  cases hq:q y
  ·rw [adK (by simp [hq])]
   cases hp:p y
   ·rw [adK (by simp [hp])]; exact ih
   ·rw [ZV hp]; simp only [Ws]; omega
  ·rw [ZV hq,ZV (h y hq)]
   simp only [Ws]; omega
theorem T9 {W:List iT} {p q:iT→Bool} (h : ∀ y,q y=true→p y=true) {x:iT} (hx:x∈W) (hp:p x=true) (hq:q x=false):(W.filter q).length+1≤(W.filter p).length:=by
 induction W with
 | nil=>cases hx
 | cons y r ih=>
  rcases Wd.1 hx with rfl | hx
  ·rw [adK (by simp [hq]),ZV hp]
   have:=Tr (W:=r) h
   simp only [Ws]; omega
  ·have:=ih hx
   cases hq' : q y
   ·rw [adK (by simp [hq'])]
    cases hp' : p y
    ·rw [adK (by simp [hp'])]; exact this
    ·rw [ZV hp']; simp only [Ws]; omega
   ·rw [ZV hq',ZV (h y hq')]
    simp only [Ws]; omega
theorem adP {W bk r:List iT} {x:iT} (hx:x∈W) (ho:x∉bk) (hr : ∀ y,y∈r↔y∈bk∨y=x):pS W r+1≤pS W bk:=by
 refine T9 (fun y hy=>?_) hx (by simp [ho]) (by simp [hr])
 simp only [hr,not_or,X8,YH] at hy ⊢
 exact hy.1
def xC (W:List iT) (bk todo:List iT):Prop:=bk.length+pS W bk≤W.length∧todo.length+pS W bk≤W.length+1
theorem agZ {W:List iT} (hW:W.length≤2000) (calls:Bool) (u:List bg) (hu:u.length≤64) (hin : ∀ x∈u,x.2.2.1∈W) {bk todo:List iT} (h:xC W bk todo) : ∃ r,Itr.it (ey calls u) (bk,todo,0)=some r∧xC W r.1 r.2∧todo.length≤r.2.length:=by
 refine fw (f:=ey calls u) (fun s=>u.length - s.2.2.toNat) (fun s=>∃ i:Nat,s.2.2=(i:Int)∧i≤u.length∧xC W s.1 s.2.1∧todo.length≤s.2.1.length) (fun r=>xC W r.1 r.2∧todo.length≤r.2.length)
  (fun s hs=>by
   obtain ⟨o,t,s2⟩:=s
   obtain ⟨i,h1,hi,hr,htl⟩:=hs
   dsimp only at h1 hr htl
   subst h1
   unfold ey
   rcases WG i u.length with hlt | hge
   ·right
    have hx:=hin _ (show u.getD i (0,0,[],[])∈u by simp [hlt])
    have hp : ∃ r,li calls u (o,t,(i:Int))=some r∧xC W r.1 r.2∧t.length≤r.2.length:=by
     unfold li
     obtain ⟨ho1,ho2⟩:=hr
     obtain ⟨b,hb,hb2⟩:=BS o (by omega) (u.getD i (0,0,[],[])).2.2.1
     obtain ⟨r,hr1,hr2,hr3⟩:=UF o (by omega) (u.getD i (0,0,[],[])).2.2.1
     have add:b=false→xC W r (t++[(u.getD i (0,0,[],[])).2.2.1]):=by
      intro hbf
      have:=adP (W:=W) hx (fun hm=>by have:=hb2.2 hm; rw [hbf] at this; cases this) hr2
      exact ⟨by omega,by simp only [Vs,Vp]; omega⟩
     have eap:aJ t.length ([(u.getD i (0,0,[],[])).2.2.1]:List iT).length 16=true:=aY (by simp only [Vp]; omega) (by omega)
     cases calls
     ·simp only [Wn,WM,no,f9,f7,ZJ,aB (0,0,[],[]) hlt,hb]
      cases b
      ·simp only [Wn,f9,hr1,f7,ZJ,eap,af]
       exact ⟨_,rfl,add rfl,by simp⟩
      ·exact ⟨_,rfl,⟨ho1,ho2⟩,by simp⟩
     ·simp only [Wn,WM,no,f9,f7,ZJ,aB (0,0,[],[]) hlt]
      cases (u.getD i (0,0,[],[])).1==14
      ·exact ⟨_,rfl,⟨ho1,ho2⟩,by simp⟩
      ·simp only [f9,aB (0,0,[],[]) hlt,f7,hb]
       cases b
       ·simp only [Wn,f9,hr1,f7,ZJ,eap,af]
        exact ⟨_,rfl,add rfl,by simp⟩
       ·exact ⟨_,rfl,⟨ho1,ho2⟩,by simp⟩
    obtain ⟨r,hp1,hp2,hp3⟩:=hp
    simp only [aw (show (i:Int)<(u.length:Int) by omega),f9,hp1,f7,ZJ,aW (n:=u.length) (by omega) hlt]
    exact ⟨_,rfl,⟨i+1,rfl,by omega,hp2,by dsimp only; omega⟩,by dsimp only; omega⟩
   ·left
    simp only [aG (show ¬ (i:Int)<(u.length:Int) by omega),no]
    exact ⟨_,rfl,hr,htl⟩) ⟨0,rfl,by omega,h,by simp⟩ (by show u.length - (0:Int).toNat<_; omega)
theorem B7 (l:List Df) (hl:l.length≤24) (hg : ∀ d∈l,oI d) (nm:iT) (calls:Bool) : ∃ r,gW l nm calls=some r∧r.length≤1536:=by
 unfold gW
 have hW:=L5 hg
 generalize hWe:yZ l=W at hW
 have hin : ∀ d∈l,∀ x∈yK d,x∈W:=fun d hd x hx=>by rw [← hWe]; exact aju.2 ⟨d,hd,hx⟩
 obtain ⟨r,h1,h2⟩:=fw (f:=jM l calls) (fun s=>W.length+2 - s.2.2.toNat) (fun s=>∃ i:Nat,s.2.2=(i:Int)∧i≤s.2.1.length∧xC W s.1 s.2.1) (fun r=>r.length≤W.length)
  (fun s hs=>by
   obtain ⟨o,t,s2⟩:=s
   obtain ⟨i,h1,hi,hr⟩:=hs
   dsimp only at h1 hi hr
   subst h1
   have hr0:=hr
   obtain ⟨ho1,ho2⟩:=hr0
   unfold jM
   rcases WG i t.length with hlt | hge
   ·right
    have hp : ∃ r,((ac t (i:Int)).bind fun _=>(ac t (i:Int)).bind fun v5=>(bK l v5).bind fun r6=>bif decide (r6<(0:Int)) then some (o,t) else (ac l r6).bind fun _=>(ac l r6).bind fun v8=>(eK v8.2).bind fun r9=>(fu r9).bind fun r10=>Itr.it (ey calls r10) (o,t,0))=some r∧xC W r.1 r.2∧t.length≤r.2.length:=by
     simp only [aB [] hlt,f7]
     rcases tF l (by omega) (t.getD i []) with ⟨q1,_⟩ | ⟨j,q1,q2,q3,_⟩
     ·rw [q1]
      exact ⟨_,rfl,hr,by simp⟩
     ·obtain ⟨n,u,g,ht⟩:=zj l hl hg (show l.getD j ([],[])∈l by simp [q2])
      rw [q1]
      simp only [f7,ZJ,aG (show ¬ (j:Int)<0 by omega),no,aB ([],[]) q2,ht,g.found]
      obtain ⟨r,e1,e2,e4⟩:=agZ (by omega) calls u g.uses (fun x hx=>hin _ (show l.getD j ([],[])∈l by simp [q2]) _ (by rw [EH g]; exact VO.2 ⟨x,hx,rfl⟩)) hr
      exact ⟨r,e1,e2,e4⟩
    obtain ⟨r,hp1,hp2,hp3⟩:=hp
    have:=hp2.2
    refine ⟨(r.1,r.2,(i:Int)+1),?_,⟨i+1,rfl,by dsimp only; omega,hp2⟩,by dsimp only; omega⟩
    rw [aw (show (i:Int)<(t.length:Int) by omega),f9]
    refine (Xw (fun z:Option ST=>z.bind _) hp1).trans ?_
    simp only [f7,ZJ,aW (n:=t.length) (by omega) hlt]
   ·left
    simp only [aG (show ¬ (i:Int)<(t.length:Int) by omega),no]
    exact ⟨_,rfl,by omega⟩) (s:=([],[nm],0)) ⟨0,rfl,by simp,by
     have:pS W []≤W.length:=List.length_filter_le _ _
     exact ⟨by simpa using this,by simp only [Vp]; omega⟩⟩ (by dsimp only; omega)
 rw [h1]
 exact ⟨r,rfl,by omega⟩
end Go.Proofs.YtfhhiajfciblbaaGreatDoor
