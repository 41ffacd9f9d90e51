/- Laws for the row. No condition. -/
import Derived.Test.YtfhhiajfciblbaaGreatDoorLawM8
import Derived.KernelRfl
namespace Go.Proofs.YtfhhiajfciblbaaGreatDoor
open Go.Sm
set_option linter.unusedVariables false
set_option maxRecDepth 4000
variable {c:CC} {s:aF} {e:bu} {b k i:Nat} {acc:List ((Int×Int×Bool)×Bool)} {a:List bI} {α:Type} {r:List Nd}
def Si (c:CC) (t:Th):Prop:=(t.2.2.2=true∧t.1=[])∨(t.2.2.2=false∧∃ fs f,t.1=fs++[f]∧Run1 c fs f t.2.1)
structure StOk (c:CC) (s:aF):Prop where
 n:s.1.length≤1048576
 th : ∀ t∈s.1,Si c t
 fit:Fit1 c s
 cap : ∀ j,j<c.2.2.2.2.1.length→((s.2.2.1.getD j []).length:Int)≤(c.2.2.2.2.1.getD j ([],0)).2
def rk (n:Nat) (p:Nat→Bool):List Int:=((List.range n).filter p).map Int.ofNat
theorem V4 (n:Nat) (p:Nat→Bool):rk (n+1) p=if p n then rk n p++[(n:Int)] else rk n p:=by
 unfold rk
 rw [List.range_succ,List.filter_append,Zy]
 grind
theorem nI (n:Nat) (p:Nat→Bool):(rk n p).length≤n:=by
 unfold rk
 grind
theorem Cq {f:List Int×Int→Option ((List Int×Int)⊕List Int)} (n:Nat) (p:Nat→Bool) (hn:n≤1048576)
  (hstep : ∀ k,k<n→∀ bw:List Int,aK bw.length 1 8=true→f (bw,(k:Int))=some (.inl (if p k then bw++[(k:Int)] else bw,(k:Int)+1)))
  (hend : ∀ bw,f (bw,(n:Int))=some (.inr bw)):Itr.it f ([],(0:Int))=some (rk n p):=
 dc (f:=f) (fun y=>n - y.2.toNat) (fun _=>rk n p) (fun y=>∃ k:Nat,y=(rk k p,(k:Int))∧k≤n)
  (fun y hy=>by
   obtain ⟨k,rfl,hk⟩:=hy
   rcases XJ k n with hlt | hge
   ·right
    refine ⟨(rk (k+1) p,((k+1:Nat):Int)),?_,⟨k+1,rfl,by omega⟩,by grind,rfl⟩
    have:=nI k p
    rw [hstep k hlt _ (ba (by omega) (by omega)),V4]
    rfl
   grind) (s:=([],0)) ⟨0,rfl,by omega⟩ (by grind)
def kf (c:CC) (t:Th):bu:=if t.2.2.2=true then (29,0,0) else dM c t
def By (c:CC) (s:aF) (ch:Int) (k:Nat):Bool:=(kf c (be s k)).1==20&&(kf c (be s k)).2.1==ch
def ee (c:CC) (s:aF) (ch:Int):List Int:=rk s.1.length (By c s ch)
def vh (c:CC) (s:aF) (k:Nat):Bool:=
 let t:=be s k
 let x:=kf c t
 if t.2.2.2=true then false
 else if x.1=21 then decide (s.2.2.2.1.getD x.2.1.toNat 0<0)
 else if x.1=19 then (if (c.2.2.2.2.1.getD x.2.1.toNat ([],0)).2=0 then decide (0<(ee c s x.2.1).length) else decide (((s.2.2.1.getD x.2.1.toNat []).length:Int)<(c.2.2.2.2.1.getD x.2.1.toNat ([],0)).2))
 else if x.1=20 then decide (0<(s.2.2.1.getD x.2.1.toNat []).length)
 else if x.1=25 then decide (t.2.2.1≤s.2.2.2.2.2.1)
 else true
def dB (c:CC) (s:aF):List Int:=rk s.1.length (vh c s)
theorem fW (h:k<s.1.length):s.1[k]? = some (be s k):=by
 unfold be
 simp [h]
theorem j8 (hs:StOk c s)  (h:k<s.1.length):((be s k).2.2.2=true∧(be s k).1=[])∨((be s k).2.2.2=false∧∃ fs f st w,be s k=(fs++[f],st,w,false)∧Run1 c fs f st):=by
 rcases hs.th (be s k) (dv _ h) with h | ⟨h1,fs,f,h2,h3⟩
 ·exact .inl h
 grind
theorem Ho (hs:StOk c s)  (h:k<s.1.length) (z:List Int) :
  lX (c,e,s,acc) (z,(k:Int))=some (kf c (be s k)):=by
 unfold lX kf
 rcases j8 hs h with ⟨h1,h2⟩ | ⟨h1,fs,f,st,w,h2,h3⟩
 ·simp only [bG (fW h),f7,Zj,h1,f9,Xa]
 ·obtain ⟨k',pc,hA⟩:=gx (s:=s) (i:=k) (by rw [fW h,h2]) h3
  have hx:ac c.1 f.1=some (cz c f.1.toNat):=by rw [hA.pc1]; exact aB _ hA.pc2
  rw [h2] at h1 ⊢
  have ht:=hA.t
  simp only [bG ht,f7,Zj,no,nX fs f (by have:=h3.n; omega),hx,Ys,XB]
  rw [dM,dL]
theorem akG (hs:StOk c s)  (h:k<s.1.length) (z:Int) :
  sP (c,e,s,acc) (z,(k:Int))=some (kf c (be s k)):=Ho (e:=e) (acc:=acc) hs h []
theorem He (hs:StOk c s)  (h:k<s.1.length) :
  bW (c,e,s,a) (k:Int)=some (if (be s k).2.2.2=true then (28,0,0) else kf c (be s k)):=by
 rcases j8 hs h with ⟨h1,h2⟩ | ⟨h1,fs,f,st,w,h2,h3⟩
 ·unfold bW
  simp only [bG (fW h),f7,Zj,h1,h2,List.length_nil,Xa]
  rfl
 ·obtain ⟨k',pc,hA⟩:=gx (s:=s) (i:=k) (by rw [fW h,h2]) h3
  rw [Ww hA,h2]
  simp only [Ys,XB,kf]
  rw [dM,dL]
theorem Ml (hs:StOk c s) (ch:Int):dG (c,e,s,acc) ch=some (ee c s ch):=by
 unfold dG ee
 rw [Cq s.1.length (By c s ch) hs.n (fun k hk bw ho=>by
  unfold jB
  simp only [aq (show (k:Int)<(s.1.length:Int) by omega),f9,bG (fW hk),f7,Zj,Ho hs hk,aW (n:=s.1.length) (by have:=hs.n; omega) hk]
  unfold By
  generalize kf c (be s k)=x
  rw [show (bif x.1==(20:Int) then x.2.1==ch else false)=(x.1==20&&x.2.1==ch) by grind]
  cases hb:(x.1==20&&x.2.1==ch)
  ·rfl
  ·simp only [f9,Wr,ho,af,f7,Zj,Xa]) (fun bw=>by unfold jB; grind)]
 rfl
theorem IR (hs:StOk c s) (ch:Int):dP (c,e,s,a) ch=some (ee c s ch):=by
 unfold dP ee
 rw [Cq s.1.length (By c s ch) hs.n (fun k hk bw ho=>by
  unfold gH
  simp only [aq (show (k:Int)<(s.1.length:Int) by omega),f9,bG (fW hk),f7,Zj,He hs hk,aW (n:=s.1.length) (by have:=hs.n; omega) hk]
  unfold By
  cases he:(be s k).2.2.2
  ·simp only [Ys,XB,Xo,f9]
   generalize kf c (be s k)=x
   rw [show (bif x.1==(20:Int) then x.2.1==ch else false)=(x.1==20&&x.2.1==ch) by grind]
   cases hb:(x.1==20&&x.2.1==ch)
   ·rfl
   ·simp only [f9,Wr,ho,af,f7,Zj,Xa]
  ·simp only [XO,no,kf,he,Xa]
   rfl) (fun bw=>by unfold gH; grind)]
 rfl
theorem wG (hc:bc c)  (hs:StOk c s)  (h:k<s.1.length) (he:(be s k).2.2.2=false) : ∃ p,p<c.2.1.length∧yK c p (kf c (be s k))∧kf c (be s k)=dM c (be s k):=by
 rcases j8 hs h with ⟨h1,h2⟩ | ⟨h1,fs,f,st,w,h2,h3⟩
 ·grind
 ·obtain ⟨p,pc,hA⟩:=gx (s:=s) (i:=k) (by rw [fW h,h2]) h3
  have hF:=hc.2.2.1 p pc hA.pc2 hA.pr
  rw [hA.x] at hF
  rw [h2]
  refine ⟨p,hA.pr.1,?_,rfl⟩
  show yK c p (dM c (fs++[f],st,w,false))
  rw [dM,dL]
  exact hF.2.2
theorem oK (hc:bc c)    (hs:StOk c s):fh (c,e,s,acc)=some (dB c s):=by
 unfold fh dB
 rw [Cq s.1.length (vh c s) hs.n (fun k hk bw ho=>by
  unfold kz
  have et:=bG (fW hk)
  have hp:mE (kf c (be s k)) (c,e,s,acc) (bw,(k:Int)) (be s k)=some (vh c s k):=by
   unfold mE vh
   dsimp only
   cases he:(be s k).2.2.2
   rotate_left
   ·have hx:kf c (be s k)=(29,0,0):=by unfold kf; rw [if_pos he]
    grind
   obtain ⟨p,hpn,hO,-⟩:=wG hc hs hk he
   generalize kf c (be s k)=x at *
   obtain ⟨op,u,b⟩:=x
   obtain ⟨o1,o2,o3,o4,o5,o6,o7,o8,o9,o10,o11,o12⟩:=hO
   dsimp only at o1 o2 o3 o4 o5 o6 o7 o8 o9 o10 o11 o12 ⊢
   simp only [Ys,XB]
   by_cases h21:op=21
   ·subst h21
    obtain ⟨q1,q2⟩:=o8 (.inl rfl)
    have eo:ac s.2.2.2.1 u=some (s.2.2.2.1.getD u.toNat 0):=aT 0 q1 (by have:=hs.fit.own; omega)
    grind
   rw [bf h21,if_neg h21]
   by_cases h19:op=19
   ·subst h19
    obtain ⟨q1,q2⟩:=o7 (.inl rfl)
    have ec:ac c.2.2.2.2.1 u=some (c.2.2.2.2.1.getD u.toNat ([],0)):=aT _ q1 (by omega)
    have eq:ac s.2.2.1 u=some (s.2.2.1.getD u.toNat []):=aT _ q1 (by have:=hs.fit.qs; omega)
    simp only [Int.reduceBEq,f9,no,Xa,ec,eq,f7,Zj,Ml hs]
    by_cases hz:(c.2.2.2.2.1.getD u.toNat ([],0)).2=0
    ·rw [if_pos hz,show ((c.2.2.2.2.1.getD u.toNat ([],0)).2==0)=true by grind,aE (show ¬ ((s.2.2.1.getD u.toNat []).length:Int)<(c.2.2.2.2.1.getD u.toNat ([],0)).2 by omega)]
     simp_all
    grind
   rw [bf h19,if_neg h19]
   by_cases h20:op=20
   ·subst h20
    obtain ⟨q1,q2⟩:=o7 (.inr rfl)
    have eq:ac s.2.2.1 u=some (s.2.2.1.getD u.toNat []):=aT _ q1 (by have:=hs.fit.qs; omega)
    simp_all
   grind
  simp only [aq (show (k:Int)<(s.1.length:Int) by omega),f9,et,f7,Zj,Ho hs hk,hp,aW (n:=s.1.length) (by have:=hs.n; omega) hk]
  cases hb:vh c s k
  ·rfl
  ·simp only [f9,Wr,ho,af,f7,Zj,Xa]) (fun bw=>by unfold kz; grind)]
 rfl
theorem GB (hc:bc c)    (hs:StOk c s):eJ (c,e,s,a)=some (dB c s):=by
 unfold eJ dB
 rw [Cq s.1.length (vh c s) hs.n (fun k hk bw ho=>by
  unfold j5
  have et:=bG (fW hk)
  have hp:jo (c,e,s,a) (k:Int)=some (vh c s k):=by
   unfold jo vh
   dsimp only
   simp only [et,f7,Zj,He hs hk]
   cases he:(be s k).2.2.2
   rotate_left
   ·rfl
   obtain ⟨p,hpn,hO,-⟩:=wG hc hs hk he
   generalize kf c (be s k)=x at *
   obtain ⟨op,u,b⟩:=x
   obtain ⟨o1,o2,o3,o4,o5,o6,o7,o8,o9,o10,o11,o12⟩:=hO
   dsimp only at o1 o2 o3 o4 o5 o6 o7 o8 o9 o10 o11 o12 ⊢
   simp only [Ys,XB,no]
   by_cases h21:op=21
   ·subst h21
    obtain ⟨q1,q2⟩:=o8 (.inl rfl)
    have eo:ac s.2.2.2.1 u=some (s.2.2.2.1.getD u.toNat 0):=aT 0 q1 (by have:=hs.fit.own; omega)
    grind
   rw [bf h21,if_neg h21]
   by_cases h19:op=19
   ·subst h19
    obtain ⟨q1,q2⟩:=o7 (.inl rfl)
    have ec:ac c.2.2.2.2.1 u=some (c.2.2.2.2.1.getD u.toNat ([],0)):=aT _ q1 (by omega)
    have eq:ac s.2.2.1 u=some (s.2.2.1.getD u.toNat []):=aT _ q1 (by have:=hs.fit.qs; omega)
    simp only [Int.reduceBEq,f9,no,Xa,ec,eq,f7,Zj,IR hs]
    by_cases hz:(c.2.2.2.2.1.getD u.toNat ([],0)).2=0
    ·simp_all
    grind
   rw [bf h19,if_neg h19]
   by_cases h20:op=20
   ·subst h20
    obtain ⟨q1,q2⟩:=o7 (.inr rfl)
    have ec:ac c.2.2.2.2.1 u=some (c.2.2.2.2.1.getD u.toNat ([],0)):=aT _ q1 (by omega)
    have eq:ac s.2.2.1 u=some (s.2.2.1.getD u.toNat []):=aT _ q1 (by have:=hs.fit.qs; omega)
    have hcap:=hs.cap u.toNat (by omega)
    simp only [Int.reduceBEq,f9,no,Xa,ec,eq,f7,Zj]
    by_cases hz:(0:Int)<(c.2.2.2.2.1.getD u.toNat ([],0)).2
    ·simp_all
    grind
   grind
  simp only [aq (show (k:Int)<(s.1.length:Int) by omega),f9,f7,Zj,hp,aW (n:=s.1.length) (by have:=hs.n; omega) hk]
  cases hb:vh c s k
  ·rfl
  ·simp only [f9,Wr,ho,af,f7,Zj,Xa]) (fun bw=>by unfold j5; grind)]
 rfl
set_option linter.unusedSimpArgs false
def jn (c:CC) (s:aF):Nat→Int
 | 0=>-1
 | n+1=>if (kf c (be s n)).1=25∧(jn c s n<0∨(be s n).2.2.1<jn c s n) then (be s n).2.2.1 else jn c s n
def U6 (s:aF) (w:Int):aF:=(s.1,s.2.1,s.2.2.1,s.2.2.2.1,s.2.2.2.2.1,w,s.2.2.2.2.2.2)
def dz (c:CC) (s:aF):aF:=
 if 0≤bj s then s else if s.2.2.2.2.2.2.1=0 then fY c s 0 3 else if 0<(dB c s).length then s else if 0≤jn c s s.1.length then U6 s (jn c s s.1.length) else fY c s 0 2
theorem OA {f:Int×Int→Option ((Int×Int)⊕Int)} (c:CC) (s:aF) (hn:s.1.length≤1048576)
  (hstep : ∀ k,k<s.1.length→∀ w:Int,f (w,(k:Int))=some (.inl (if (kf c (be s k)).1=25∧(w<0∨(be s k).2.2.1<w) then (be s k).2.2.1 else w,(k:Int)+1)))
  (hend : ∀ w,f (w,(s.1.length:Int))=some (.inr w)):Itr.it f (-1,(0:Int))=some (jn c s s.1.length):=
 dc (f:=f) (fun y=>s.1.length - y.2.toNat) (fun _=>jn c s s.1.length) (fun y=>∃ k:Nat,y=(jn c s k,(k:Int))∧k≤s.1.length)
  (fun y hy=>by
   obtain ⟨k,rfl,hk⟩:=hy
   rcases XJ k s.1.length with hlt | hge
   ·right
    refine ⟨(jn c s (k+1),((k+1:Nat):Int)),?_,⟨k+1,rfl,by omega⟩,by grind,rfl⟩
    rw [hstep k hlt]
    rfl
   grind) (s:=(-1,0)) ⟨0,rfl,by omega⟩ (by grind)
theorem O2 (hc:bc c)    (hs:StOk c s)  (hi:i<s.1.length) (o:Int):bV (c,e,s,a) o (i:Int)=some (c,e,fY c s i o,a):=by
 rcases j8 hs hi with ⟨h1,h2⟩ | ⟨h1,fs,f,st,w,h2,h3⟩
 ·unfold bV fY
  dsimp only
  rw [if_neg (by rw [h1]; simp)]
  simp only [bG (fW hi),f7,Zj,h2,List.length_nil]
  rfl
 ·obtain ⟨k',pc,hA⟩:=gx (s:=s) (i:=i) (by rw [fW hi,h2]) h3
  exact Jn hc hA o
theorem Mf (hc:bc c)    (hs:StOk c s) (h1:0<s.1.length):f8 (c,e,s,a)=some (c,e,dz c s,a):=by
 unfold f8 dz
 dsimp only
 by_cases ho:0≤bj s
 ·rw [if_pos ho]
  have:(0:Int)≤s.2.2.2.2.2.2.2.2.2.1:=ho
  grind
 rw [if_neg ho]
 have : ¬ (0:Int)≤s.2.2.2.2.2.2.2.2.2.1:=ho
 simp only [this,Zw,no]
 by_cases hf:s.2.2.2.2.2.2.1=0
 ·rw [if_pos hf,bt hf]
  simp only [f9]
  rw [show bV (c,e,s,a) 3 0=_ from O2 hc hs h1 3]
  rfl
 rw [if_neg hf,bf hf]
 simp only [no,GB hc hs,f7,Zj]
 by_cases hl:0<(dB c s).length
 ·grind
 rw [if_neg hl,aE (by omega)]
 have hw:=OA (f:=fC (c,e,s,a)) c s hs.n (fun k hk w=>by
  unfold fC
  simp only [aq (show (k:Int)<(s.1.length:Int) by omega),f9,bG (fW hk),f7,Zj,He hs hk,aW (n:=s.1.length) (by have:=hs.n; omega) hk]
  cases he:(be s k).2.2.2
  ·grind
  ·have hx : ¬ ((kf c (be s k)).1=25∧(w<0∨(be s k).2.2.1<w)):=by unfold kf; grind
   grind) (fun w=>by unfold fC; grind)
 simp only [no,hw,f7,Zj]
 by_cases hz:0≤jn c s s.1.length
 ·rw [if_pos hz,aq hz]
  rfl
 ·rw [if_neg hz,aE hz]
  simp only [no]
  rw [show bV (c,e,s,a) 2 0=_ from O2 hc hs h1 2]
  rfl
theorem L2 (hc:bc c)    (hs:StOk c s) (h1:0<s.1.length):jA (c,e,s,acc)=some (c,e,dz c s,acc):=by
 unfold jA dz
 dsimp only
 by_cases ho:0≤bj s
 ·rw [if_pos ho]
  have:(0:Int)≤s.2.2.2.2.2.2.2.2.2.1:=ho
  grind
 rw [if_neg ho]
 have : ¬ (0:Int)≤s.2.2.2.2.2.2.2.2.2.1:=ho
 simp only [this,Zw,no]
 have et:=fW h1
 have e0:ac s.1 0=some (be s 0):=bG et
 by_cases hf:s.2.2.2.2.2.2.1=0
 ·rw [if_pos hf,bt hf]
  simp only [f9,e0,f7,Zj]
  rcases j8 hs h1 with ⟨g1,g2⟩ | ⟨g1,fs,f,st,w,g2,g3⟩
  ·rw [g1]
   unfold fY
   dsimp only
   rw [if_neg (by rw [g1]; simp)]
   rfl
  ·obtain ⟨k',pc,hA⟩:=gx (s:=s) (i:=0) (by rw [et,g2]) g3
   obtain ⟨q1,q2,q3,q4⟩:=wR hc hA
   rw [qu hc hA,g2]
   simp only [Xo,f9,nX fs f (by have:=g3.n; omega),f7,Zj,q1,q3,q4]
   rfl
 rw [if_neg hf,bf hf]
 simp only [no,oK hc hs,f7,Zj]
 by_cases hl:0<(dB c s).length
 ·grind
 rw [if_neg hl,aE (by omega)]
 have hw:=OA (f:=iI (c,e,s,acc)) c s hs.n (fun k hk w=>by
  unfold iI
  simp only [aq (show (k:Int)<(s.1.length:Int) by omega),f9,bG (fW hk),f7,Zj,akG hs hk,aW (n:=s.1.length) (by have:=hs.n; omega) hk]
  grind) (fun w=>by unfold iI; grind)
 simp only [no,hw,f7,Zj]
 by_cases hz:0≤jn c s s.1.length
 ·rw [if_pos hz,aE (by omega)]
  rfl
 ·rw [if_neg hz,aq (by omega)]
  simp only [f9,e0,f7,Zj]
  rcases j8 hs h1 with ⟨g1,g2⟩ | ⟨g1,fs,f,st,w,g2,g3⟩
  ·rw [g1]
   unfold fY
   dsimp only
   rw [if_neg (by rw [g1]; simp)]
   rfl
  ·obtain ⟨k',pc,hA⟩:=gx (s:=s) (i:=0) (by rw [et,g2]) g3
   obtain ⟨q1,q2,q3,q4⟩:=wR hc hA
   rw [qu hc hA,g2]
   simp only [Xo,f9,nX fs f (by have:=g3.n; omega),f7,Zj,q1,q3,q4]
   rfl
theorem pn {l:List Int} (h:l.length≤1048576):dt l=some l:=by
 unfold dt
 rw [jI (ba (by grind) (by omega))]
 rfl
theorem ajz (r:List Fr) (z:List Int×Int×Bool) (h1:r.length≤1048576) (h2 : ∀ f∈r,f.2.length≤1048576):Itr.it (lC r) ((),0,(r,0),z)=some ((r,(r.length:Int)),z):=
 dc (f:=lC r) (fun s=>r.length - s.2.1.toNat) (fun _=>((r,(r.length:Int)),z)) (fun s=>∃ i:Nat,s=((),(i:Int),(r,(i:Int)),z)∧i≤r.length)
  (fun s hs=>by
   obtain ⟨i,rfl,hi⟩:=hs
   unfold lC
   rcases XJ i r.length with hlt | hge
   ·right
    refine ⟨((),((i+1:Nat):Int),(r,((i+1:Nat):Int)),z),?_,⟨i+1,rfl,by omega⟩,by grind,rfl⟩
    have hf:=h2 _ (dv (0,[]) hlt)
    simp only [aq (show (i:Int)<(r.length:Int) by omega),f9,aB (0,[]) hlt,f7,pn hf,W9,af,aW (n:=r.length) (by omega) hlt,W4]
    rw [show ((r.getD i (0,[])).1,(r.getD i (0,[])).2)=r.getD i (0,[]) from rfl,gG (show r[i]? = some (r.getD i (0,[])) by simp [hlt])]
    rfl
   grind) (s:=((),0,(r,0),z)) ⟨0,rfl,by omega⟩ (by grind)
theorem ahA (r:List Th) (z:List Int×List (List Int)×List Int×List Int×Int×Int×Int×Int×Int×Int×Int×Int×List UInt8) (h1:r.length≤1048576) (h2 : ∀ t∈r,Jk t):Itr.it (lx r) ((),0,(r,0),z)=some ((r,(r.length:Int)),z):=
 dc (f:=lx r) (fun s=>r.length - s.2.1.toNat) (fun _=>((r,(r.length:Int)),z)) (fun s=>∃ i:Nat,s=((),(i:Int),(r,(i:Int)),z)∧i≤r.length)
  (fun s hs=>by
   obtain ⟨i,rfl,hi⟩:=hs
   unfold lx
   rcases XJ i r.length with hlt | hge
   ·right
    refine ⟨((),((i+1:Nat):Int),(r,((i+1:Nat):Int)),z),?_,⟨i+1,rfl,by omega⟩,by grind,rfl⟩
    obtain ⟨q1,q2,q3⟩:=h2 _ (dv ([],[],0,false) hlt)
    have ec:dp (r.getD i ([],[],0,false)).1=some (r.getD i ([],[],0,false)).1:=by
     unfold dp
     rw [jI (ba (by grind) (by omega))]
     rfl
    simp only [aq (show (i:Int)<(r.length:Int) by omega),f9,aB ([],[],0,false) hlt,f7,pn q2,ec,ajz _ _ q1 q3,W9,af,aW (n:=r.length) (by omega) hlt,W4,aq (aeq _)]
    rw [show ((r.getD i ([],[],0,false)).1,(r.getD i ([],[],0,false)).2.1,(r.getD i ([],[],0,false)).2.2)=r.getD i ([],[],0,false) from rfl,gG (show r[i]? = some (r.getD i ([],[],0,false)) by simp [hlt])]
    rfl
   grind) (s:=((),0,(r,0),z)) ⟨0,rfl,by omega⟩ (by grind)
theorem ag9 (r:List (List Int)) (a:List Th) (b:List Int) (z:List Int×List Int×Int×Int×Int×Int×Int×Int×Int×Int×List UInt8) (h1:r.length≤1048576) (h2 : ∀ q∈r,q.length≤1048576) :
  Itr.it (lA r) ((),0,a,b,(r,0),z)=some (a,b,(r,(r.length:Int)),z):=
 dc (f:=lA r) (fun s=>r.length - s.2.1.toNat) (fun _=>(a,b,(r,(r.length:Int)),z)) (fun s=>∃ i:Nat,s=((),(i:Int),a,b,(r,(i:Int)),z)∧i≤r.length)
  (fun s hs=>by
   obtain ⟨i,rfl,hi⟩:=hs
   unfold lA
   rcases XJ i r.length with hlt | hge
   ·right
    refine ⟨((),((i+1:Nat):Int),a,b,(r,((i+1:Nat):Int)),z),?_,⟨i+1,rfl,by omega⟩,by grind,rfl⟩
    have hf:=h2 _ (dv [] hlt)
    simp only [aq (show (i:Int)<(r.length:Int) by omega),f9,aB [] hlt,f7,pn hf,W9,af,aW (n:=r.length) (by omega) hlt,W4]
    simp_all
   grind) (s:=((),0,a,b,(r,0),z)) ⟨0,rfl,by omega⟩ (by grind)
theorem lm (s:aF) (hs:cU s):iO s=some s:=by
 obtain ⟨h1,h2,h3,h4,h5,h6,h7⟩:=hs
 unfold iO ep kw
 dsimp only
 rw [jI (ba (by grind) (by omega))]
 simp only [Yv,f7,Zj,ahA s.1 _ h1 h2,af,aq (aeq _),f9,pn h3,pn h6,pn h7]
 rw [show aK ([]:List (List Int)).length s.2.2.1.length 24=true from ba (by grind) (by omega)]
 simp only [f9,f7,Zj,ag9 s.2.2.1 _ _ _ h4 h5,aq (aeq _)]
set_option linter.unusedSectionVars false
abbrev lJ:Type:=List UInt8×Int
def Ag (l:List lJ) (nm:List UInt8):Option lJ:=l.find? fun x=>x.1==nm
def sp (l:List lJ) (nm:List UInt8) (n:Int):Int:=match Ag l nm with | some x=>x.2 | none=>n
theorem xF {α:Type} {p:α→Bool} (d:α) : ∀ {l:List α} {i:Nat},i<l.length→(∀ j,j<i→p (l.getD j d)=false)→p (l.getD i d)=true→l.find? p=some (l.getD i d)
 | [],_,h,_,_=>by simp at h
 | x::r,0,_,_,h=>by
  grind
 | x::r,i+1,h,h1,h2=>by
  have hx:p x=false:=h1 0 (by omega)
  have:=xF (p:=p) d (l:=r) (i:=i) (by simpa using h) (fun j hj=>h1 (j+1) (by omega)) h2
  grind
theorem E6 {p:α→Bool} (d:α) {l:List α} (h : ∀ j,j<l.length→p (l.getD j d)=false):l.find? p=none:=by
 rw [List.find?_eq_none]
 intro x hx
 obtain ⟨j,hj,rfl⟩:=aan.1 hx
 grind
theorem Nf (l:List lJ) (hl:l.length≤1048576) (nm:List UInt8) (n:Int):mj nm n l=some (sp l nm n):=by
 unfold mj fU sp Ag
 rcases cH (f:=de l nm) l.length (by omega) (fun i=>((l.getD i ([],0)).1==nm)=false) (fun i=>(i:Int))
  (fun i hi _=>by
   unfold de pF
   simp only [aq (show (i:Int)<(l.length:Int) by omega),f9,aB ([],0) hi,f7,aW (n:=l.length) (by omega) hi]
   grind)
  (fun _=>by unfold de; grind) with ⟨hP,he⟩ | ⟨i,hi,hj,hP,he⟩
 ·rw [he,E6 (([],0):lJ) hP]
  rfl
 ·rw [he,xF (([],0):lJ) hi hj (by simpa using hP)]
  simp only [f7,Zj,aq (show (0:Int)≤(i:Int) by omega),f9,aB ([],0) hi]
theorem Vg (l:List lJ) (hl:l.length≤1048576) (nm:List UInt8):kh l nm=some (match Ag l nm with | some x=>(x.2,true) | none=>(0,false)):=by
 unfold kh Ag
 rcases cH (f:=iW l nm) l.length (by omega) (fun i=>((l.getD i ([],0)).1==nm)=false) (fun i=>((l.getD i ([],0)).2,true))
  (fun i hi _=>by
   unfold iW
   simp only [aq (show (i:Int)<(l.length:Int) by omega),f9,aB ([],0) hi,f7,aW (n:=l.length) (by omega) hi]
   grind)
  (fun _=>by unfold iW; grind) with ⟨hP,he⟩ | ⟨i,hi,hj,hP,he⟩
 ·rw [he,E6 (([],0):lJ) hP]
  rfl
 ·rw [he,xF (([],0):lJ) hi hj (by simpa using hP)]
  rfl
def oJ (s:aF) (l:List Int):aF:=(s.1,l,s.2.2)
def qL (s:aF) (l:List Int):aF:=(s.1,s.2.1,s.2.2.1,s.2.2.2.1,l,s.2.2.2.2.2)
def tv (s:aF) (l:List Int):aF:=(s.1,s.2.1,s.2.2.1,l,s.2.2.2.2)
def gj (c:CC) (l:List lJ):List Int:=c.2.2.2.1.map fun v=>sp l v.1 v.2
def fO (c:CC) (l:List lJ):List Int:=c.2.2.2.2.2.2.1.map fun f=>sp l f 0
theorem pU {β:Type} {xs:List α} (g:α→β) (d:α) (h:i<xs.length):(xs.map g).take (i+1)=(xs.map g).take i++[g (xs.getD i d)]:=by
 rw [ahQ]
 simp [h]
section
variable (c:CC) (hs:eP c) (l:List lJ) (hl:l.length≤1048576)
include hs hl
theorem ajL (e:bu) (s:aF) (acc:List ((Int×Int×Bool)×Bool)):Itr.it (lF c l) (fl 0 (c,e,oJ s [],acc))=some (fl 0 (c,e,oJ s (gj c l),acc)).2:=by
 have hn:c.2.2.2.1.length≤1048576:=hs.2.2.1
 refine dc (f:=lF c l) (fun y=>c.2.2.2.1.length - y.1.toNat) (fun _=>(fl 0 (c,e,oJ s (gj c l),acc)).2) (fun y=>∃ i:Nat,y=fl (i:Int) (c,e,oJ s ((gj c l).take i),acc)∧i≤c.2.2.2.1.length)
  (fun y hy=>by
   obtain ⟨i,rfl,hi⟩:=hy
   unfold lF
   rcases XJ i c.2.2.2.1.length with hlt | hge
   ·right
    refine ⟨fl ((i+1:Nat):Int) (c,e,oJ s ((gj c l).take (i+1)),acc),?_,⟨i+1,rfl,by omega⟩,by show _ - ((i+1:Nat):Int).toNat<_ - (i:Int).toNat; omega,rfl⟩
    have e1 : ∀ v:Int,aK ((gj c l).take i).length ([v]:List Int).length 8=true:=fun v=>ba (by grind) (by omega)
    have hd:decide ((fl (i:Int) (c,e,oJ s ((gj c l).take i),acc)).1<(c.2.2.2.1.length:Int))=true:=aq (show (i:Int)<(c.2.2.2.1.length:Int) by omega)
    rw [show gj c l=c.2.2.2.1.map (fun v=>sp l v.1 v.2) from rfl] at e1 ⊢
    rw [pU _ (([],0):lJ) hlt]
    simp only [fl,oJ,show (i:Int)<(c.2.2.2.1.length:Int) by omega,ZU,f9,aB ([],0) hlt,f7,Nf l hl,af,e1,aW (n:=c.2.2.2.1.length) (by omega) hlt]
    rfl
   ·left
    have:i=c.2.2.2.1.length:=by omega
    subst this
    have ht:(gj c l).take c.2.2.2.1.length=gj c l:=Yr (by simp [gj])
    simp only [fl,ht,aer,Zw,no]) ⟨0,rfl,by omega⟩ (by grind)
theorem ajU (e:bu) (s:aF) (a:List bI):Itr.it (il c l) (gM 0 (c,e,oJ s [],a))=some (gM 0 (c,e,oJ s (gj c l),a)).2:=by
 have hn:c.2.2.2.1.length≤1048576:=hs.2.2.1
 refine dc (f:=il c l) (fun y=>c.2.2.2.1.length - y.1.toNat) (fun _=>(gM 0 (c,e,oJ s (gj c l),a)).2) (fun y=>∃ i:Nat,y=gM (i:Int) (c,e,oJ s ((gj c l).take i),a)∧i≤c.2.2.2.1.length)
  (fun y hy=>by
   obtain ⟨i,rfl,hi⟩:=hy
   unfold il
   rcases XJ i c.2.2.2.1.length with hlt | hge
   ·right
    refine ⟨gM ((i+1:Nat):Int) (c,e,oJ s ((gj c l).take (i+1)),a),?_,⟨i+1,rfl,by omega⟩,by show _ - ((i+1:Nat):Int).toNat<_ - (i:Int).toNat; omega,rfl⟩
    have e1 : ∀ v:Int,aK ((gj c l).take i).length ([v]:List Int).length 8=true:=fun v=>ba (by grind) (by omega)
    rw [show gj c l=c.2.2.2.1.map (fun v=>sp l v.1 v.2) from rfl] at e1 ⊢
    rw [pU _ (([],0):lJ) hlt]
    simp only [gM,oJ,show (i:Int)<(c.2.2.2.1.length:Int) by omega,ZU,f9,aB ([],0) hlt,f7,Vg l hl,af,e1,aW (n:=c.2.2.2.1.length) (by omega) hlt]
    unfold sp
    grind
   ·left
    have:i=c.2.2.2.1.length:=by omega
    subst this
    have ht:(gj c l).take c.2.2.2.1.length=gj c l:=Yr (by simp [gj])
    simp only [gM,ht,aer,Zw,no]) ⟨0,rfl,by omega⟩ (by grind)
theorem afe (e:bu) (s:aF) (acc:List ((Int×Int×Bool)×Bool)):Itr.it (lz c l) (fl 0 (c,e,qL s [],acc))=some (fl 0 (c,e,qL s (fO c l),acc)).2:=by
 have hn:c.2.2.2.2.2.2.1.length≤1048576:=hs.2.2.2.2.2.1
 refine dc (f:=lz c l) (fun y=>c.2.2.2.2.2.2.1.length - y.1.toNat) (fun _=>(fl 0 (c,e,qL s (fO c l),acc)).2) (fun y=>∃ i:Nat,y=fl (i:Int) (c,e,qL s ((fO c l).take i),acc)∧i≤c.2.2.2.2.2.2.1.length)
  (fun y hy=>by
   obtain ⟨i,rfl,hi⟩:=hy
   unfold lz
   rcases XJ i c.2.2.2.2.2.2.1.length with hlt | hge
   ·right
    refine ⟨fl ((i+1:Nat):Int) (c,e,qL s ((fO c l).take (i+1)),acc),?_,⟨i+1,rfl,by omega⟩,by show _ - ((i+1:Nat):Int).toNat<_ - (i:Int).toNat; omega,rfl⟩
    have e1 : ∀ v:Int,aK ((fO c l).take i).length ([v]:List Int).length 8=true:=fun v=>ba (by grind) (by omega)
    rw [show fO c l=c.2.2.2.2.2.2.1.map (fun f=>sp l f 0) from rfl] at e1 ⊢
    rw [pU _ ([]:List UInt8) hlt]
    simp only [fl,qL,show (i:Int)<(c.2.2.2.2.2.2.1.length:Int) by omega,ZU,f9,aB [] hlt,f7,Nf l hl,af,e1,aW (n:=c.2.2.2.2.2.2.1.length) (by omega) hlt]
    rfl
   ·left
    have:i=c.2.2.2.2.2.2.1.length:=by omega
    subst this
    have ht:(fO c l).take c.2.2.2.2.2.2.1.length=fO c l:=Yr (by simp [fO])
    simp only [fl,ht,aer,Zw,no]) ⟨0,rfl,by omega⟩ (by grind)
theorem agf (e:bu) (s:aF) (a:List bI):Itr.it (iD c l) (gM 0 (c,e,qL s [],a))=some (gM 0 (c,e,qL s (fO c l),a)).2:=by
 have hn:c.2.2.2.2.2.2.1.length≤1048576:=hs.2.2.2.2.2.1
 refine dc (f:=iD c l) (fun y=>c.2.2.2.2.2.2.1.length - y.1.toNat) (fun _=>(gM 0 (c,e,qL s (fO c l),a)).2) (fun y=>∃ i:Nat,y=gM (i:Int) (c,e,qL s ((fO c l).take i),a)∧i≤c.2.2.2.2.2.2.1.length)
  (fun y hy=>by
   obtain ⟨i,rfl,hi⟩:=hy
   unfold iD
   rcases XJ i c.2.2.2.2.2.2.1.length with hlt | hge
   ·right
    refine ⟨gM ((i+1:Nat):Int) (c,e,qL s ((fO c l).take (i+1)),a),?_,⟨i+1,rfl,by omega⟩,by show _ - ((i+1:Nat):Int).toNat<_ - (i:Int).toNat; omega,rfl⟩
    have e1 : ∀ v:Int,aK ((fO c l).take i).length ([v]:List Int).length 8=true:=fun v=>ba (by grind) (by omega)
    rw [show fO c l=c.2.2.2.2.2.2.1.map (fun f=>sp l f 0) from rfl] at e1 ⊢
    rw [pU _ ([]:List UInt8) hlt]
    simp only [gM,qL,show (i:Int)<(c.2.2.2.2.2.2.1.length:Int) by omega,ZU,f9,aB [] hlt,f7,Vg l hl,af,e1,aW (n:=c.2.2.2.2.2.2.1.length) (by omega) hlt]
    unfold sp
    grind
   ·left
    have:i=c.2.2.2.2.2.2.1.length:=by omega
    subst this
    have ht:(fO c l).take c.2.2.2.2.2.2.1.length=fO c l:=Yr (by simp [fO])
    simp only [gM,ht,aer,Zw,no]) ⟨0,rfl,by omega⟩ (by grind)
end
section
variable (c:CC) (hs:eP c)
include hs
theorem ahm (e:bu) (s:aF) (acc:List ((Int×Int×Bool)×Bool)):Itr.it (lB c) (fl 0 (c,e,tv s [],acc))=some (fl 0 (c,e,tv s (List.replicate c.2.2.2.2.2.1.length (-1)),acc)).2:=by
 have hn:c.2.2.2.2.2.1.length≤1048576:=hs.2.2.2.2.1
 refine dc (f:=lB c) (fun y=>c.2.2.2.2.2.1.length - y.1.toNat) (fun _=>(fl 0 (c,e,tv s (List.replicate c.2.2.2.2.2.1.length (-1)),acc)).2) (fun y=>∃ i:Nat,y=fl (i:Int) (c,e,tv s (List.replicate i (-1)),acc)∧i≤c.2.2.2.2.2.1.length)
  (fun y hy=>by
   obtain ⟨i,rfl,hi⟩:=hy
   unfold lB
   rcases XJ i c.2.2.2.2.2.1.length with hlt | hge
   ·right
    refine ⟨fl ((i+1:Nat):Int) (c,e,tv s (List.replicate (i+1) (-1)),acc),?_,⟨i+1,rfl,by omega⟩,by show _ - ((i+1:Nat):Int).toNat<_ - (i:Int).toNat; omega,rfl⟩
    have e1:aK (List.replicate i (-1:Int)).length ([-1]:List Int).length 8=true:=ba (by grind) (by omega)
    rw [afz]
    simp only [fl,tv,show (i:Int)<(c.2.2.2.2.2.1.length:Int) by omega,ZU,f9,af,e1,aW (n:=c.2.2.2.2.2.1.length) (by omega) hlt]
    rfl
   ·left
    have:i=c.2.2.2.2.2.1.length:=by omega
    subst this
    simp only [fl,aer,Zw,no]) ⟨0,rfl,by omega⟩ (by grind)
theorem aiI (e:bu) (s:aF) (a:List bI):Itr.it (ia c) (gM 0 (c,e,tv s [],a))=some (gM 0 (c,e,tv s (List.replicate c.2.2.2.2.2.1.length (-1)),a)).2:=by
 have hn:c.2.2.2.2.2.1.length≤1048576:=hs.2.2.2.2.1
 refine dc (f:=ia c) (fun y=>c.2.2.2.2.2.1.length - y.1.toNat) (fun _=>(gM 0 (c,e,tv s (List.replicate c.2.2.2.2.2.1.length (-1)),a)).2) (fun y=>∃ i:Nat,y=gM (i:Int) (c,e,tv s (List.replicate i (-1)),a)∧i≤c.2.2.2.2.2.1.length)
  (fun y hy=>by
   obtain ⟨i,rfl,hi⟩:=hy
   unfold ia
   rcases XJ i c.2.2.2.2.2.1.length with hlt | hge
   ·right
    refine ⟨gM ((i+1:Nat):Int) (c,e,tv s (List.replicate (i+1) (-1)),a),?_,⟨i+1,rfl,by omega⟩,by show _ - ((i+1:Nat):Int).toNat<_ - (i:Int).toNat; omega,rfl⟩
    have e1:aK (List.replicate i (-1:Int)).length ([-1]:List Int).length 8=true:=ba (by grind) (by omega)
    rw [afz]
    simp only [gM,tv,show (i:Int)<(c.2.2.2.2.2.1.length:Int) by omega,ZU,f9,af,e1,aW (n:=c.2.2.2.2.2.1.length) (by omega) hlt]
    rfl
   ·left
    have:i=c.2.2.2.2.2.1.length:=by omega
    subst this
    simp only [gM,aer,Zw,no]) ⟨0,rfl,by omega⟩ (by grind)
end
def ym (c:CC):aF:=([],[],List.replicate c.2.2.2.2.1.length [],[],[],0,64,(0,0,0),-1,-1,0,[])
def ib (c:CC) (l:List lJ):aF:=([([(c.2.1.getD (c.2.1.length - 1) 0,List.replicate (c.2.2.1.getD (c.2.1.length - 1) 0).toNat 0)],[],0,false)],gj c l,List.replicate c.2.2.2.2.1.length [],List.replicate c.2.2.2.2.2.1.length (-1),fO c l,0,64,(0,0,0),-1,-1,0,[])
def tp:aF:=([],[],[],[],[],0,0,(0,0,0),0,0,0,[])
def sA (c:CC) (e:bu) (l:List lJ):aF:=dz c (bE c e.1 0 (ib c l)).1
def px (e:bu):Prop:=0≤e.1∧e.1<4∧0≤e.2.1∧e.2.1≤8∧0≤e.2.2∧e.2.2≤8
theorem BA (e:bu) : ∃ b,mX e=some b∧i8 e=some b∧(b=true↔px e):=by
 refine ⟨decide (0≤e.1∧e.1<4∧0≤e.2.1∧e.2.1≤8∧0≤e.2.2∧e.2.2≤8),?_,?_,agV⟩
 ·unfold mX
  grind
 ·unfold i8
  grind
theorem VI (hs:eP c):cU (ym c):=by
 obtain ⟨s1,s2,s3,s4,s5,s6,s7⟩:=hs
 refine ⟨by simp [ym],fun t ht=>by simp [ym] at ht,by simp [ym],by simpa [ym] using s4,fun q hq=>?_,by simp [ym],by simp [ym]⟩
 rw [ajk hq]
 simp
theorem Ck (hc:bc c) (l:List lJ):pj c (ib c l) 0∧Fit1 c (ib c l)∧cU (ib c l):=by
 have hn:=hc.2.1.1.1
 obtain ⟨s1,s2,s3,s4,s5,s6,s7⟩:=hc.2.2.2
 have hfr:uJ c (c.2.1.getD (c.2.1.length - 1) 0,List.replicate (c.2.2.1.getD (c.2.1.length - 1) 0).toNat 0):=Ed hc (by omega)
 have hloc:=yB hc hfr
 refine ⟨⟨[],_,[],0,rfl,⟨by simp,by simp,fun g hg=>?_⟩⟩,⟨by simp [ib,gj],by simp [ib],by simp [ib],by simp [ib,fO]⟩,by simp [ib],fun t ht=>?_,by simpa [ib,gj] using s3,by simpa [ib] using s4,fun q hq=>?_,by simpa [ib] using s5,by simpa [ib,fO] using s6⟩
 ·grind
 ·simp only [ib,Wz] at ht
  rw [ht]
  refine ⟨by simp,by simp,fun g hg=>?_⟩
  grind
 ·rw [ajk hq]
  simp
theorem Lj (hc:bc c) (kind:Int)   (hs:StOk c s) (hr:pj c s i) (hsm:cU s):StOk c (bE c kind i s).1∧cU (bE c kind i s).1∧(bE c kind i s).1.1.length=s.1.length:=by
 obtain ⟨fs,f,st,w,ht,hr⟩:=hr
 obtain ⟨fs',f',st',g1,g2,g3,g4⟩:=vi hc kind 64 ht hr
 have base : ∀ (q:aF) (w' : Int),q.1=s.1.set i (fs' ++ [f'],st',w',false)→q.2.1=s.2.1→q.2.2.1=s.2.2.1→q.2.2.2.1=s.2.2.2.1→q.2.2.2.2.1=s.2.2.2.2.1→StOk c q∧cU q∧q.1.length=s.1.length:=by
  intro q w' h1 h2 h3 h4 h5
  refine ⟨⟨by rw [h1]; simpa using hs.n,fun t ht=>?_,⟨by rw [h2]; exact hs.fit.1,by rw [h3]; exact hs.fit.2,by rw [h4]; exact hs.fit.3,by rw [h5]; exact hs.fit.4⟩,fun j hj=>by rw [h3]; exact hs.cap j hj⟩,?_,by rw [h1]; simp⟩
  ·rw [h1] at ht
   rcases aao ht with ht | rfl
   ·exact hs.th t ht
   ·exact .inr ⟨rfl,fs',f',rfl,g2⟩
  ·obtain ⟨h1',h2',h3',h4',h5',h6',h7'⟩:=hsm
   unfold cU
   rw [h1,h2,h3,h4,h5]
   refine ⟨by grind,fun t ht=>?_,h3',h4',h5',h6',h7'⟩
   rcases aao ht with ht | rfl
   ·exact h2' t ht
   ·have:=g2.n
    have:=g2.m
    exact ⟨by grind,by grind,fun g hg=>by have:=yB hc (g2.fr g hg); omega⟩
 unfold bE
 generalize bX c kind i 64 s=q at *
 obtain ⟨b,q⟩:=q
 dsimp only at *
 obtain ⟨k1,k2,k3,k4,k5,k6,k7,k8,k9⟩:=g3
 have ht' : q.1[i]? = some (fs' ++ [f'],st',w,false):=by grind
 split
 ·unfold ln
  dsimp only
  split
  ·refine base _ (ad (q.2.2.2.2.2.1+(dM c (be q i)).2.1)) ?_ k1 k2 k3 k4
   show q.1.set i ((be q i).1,(be q i).2.1,_,(be q i).2.2.2)=_
   rw [d8 ht',g1,af7]
  split
  ·dsimp only
   split
   ·exact base _ w g1 k1 k2 k3 k4
   grind
  split
  ·grind
  grind
 grind
theorem FD (hs:StOk c s) (hsm:cU s):StOk c (dz c s)∧cU (dz c s):=by
 have he : ∀ o,StOk c (fY c s 0 o)∧cU (fY c s 0 o):=by
  intro o
  unfold fY
  dsimp only
  split
  ·exact ⟨⟨hs.n,hs.th,⟨hs.fit.1,hs.fit.2,hs.fit.3,hs.fit.4⟩,hs.cap⟩,hsm⟩
  ·exact ⟨⟨hs.n,hs.th,⟨hs.fit.1,hs.fit.2,hs.fit.3,hs.fit.4⟩,hs.cap⟩,hsm⟩
 unfold dz
 split
 ·grind
 split
 ·exact he 3
 split
 ·grind
 split
 ·exact ⟨⟨hs.n,hs.th,⟨hs.fit.1,hs.fit.2,hs.fit.3,hs.fit.4⟩,hs.cap⟩,hsm⟩
 ·exact he 2
theorem TJ (hc:bc c) (l:List lJ):StOk c (ib c l):=by
 obtain ⟨⟨fs,f,st,w,h1,h2⟩,hf,_⟩:=Ck hc l
 refine ⟨by simp [ib],fun t ht=>?_,hf,fun j hj=>?_⟩
 ·have:t=(fs++[f],st,w,false):=by
   simp only [ib,Wz] at ht
   have h1' : some (_:Th)=some (fs++[f],st,w,false):=h1
   grind
  rw [this]
  exact .inr ⟨rfl,fs,f,rfl,h2⟩
 ·show ((List.getD (List.replicate c.2.2.2.2.1.length []) j []).length:Int)≤_
  have h0:=(hc.2.1.2.2.2 j hj).1
  grind
theorem agO (hs:eP c) (h:VE c 0):bc c:=by
 rcases h with ⟨_,h⟩ | ⟨_,_,h⟩ | ⟨_,_,_,h⟩ | ⟨h1,h2,h3,_⟩
 ·cases h
 ·cases h
 ·cases h
 ·exact ⟨h1,h2,h3,hs⟩
theorem TE (c:CC) (hs:eP c) (e:bu) (l:List lJ) (hl:l.length≤1048576) : ∃ s f,pZ c e l=some (s,f)∧lW c e l=some (s,f)∧cU s∧(f=0→bc c∧px e∧s=sA c e l∧StOk c s)∧(f≠0→s=tp):=by
 obtain ⟨j,k,err,v1,v2,v3⟩:=tU c hs
 have hsn:cU tp:=⟨by simp [tp],fun t ht=>by simp [tp] at ht,by simp [tp],by simp [tp],fun q hq=>by simp [tp] at hq,by simp [tp],by simp [tp]⟩
 unfold pZ lW
 dsimp only
 rw [v1,v2]
 simp only [f7,Zj]
 by_cases he:err=0
 rotate_left
 ·rw [nt he]
  exact ⟨tp,err,rfl,rfl,hsn,fun h=>absurd h he,fun _=>rfl⟩
 subst he
 have hc:=agO hs v3
 obtain ⟨b,b1,b2,b3⟩:=BA e
 simp only [Zh,no,b1,b2,f7,Zj]
 cases b
 ·exact ⟨tp,1,rfl,rfl,hsn,fun h=>(by cases h),fun _=>rfl⟩
 have hp:=b3.1 rfl
 simp only [XO,no]
 by_cases h64:(64:Int)<l.length
 ·rw [aq h64]
  exact ⟨tp,4,rfl,rfl,hsn,fun h=>(by cases h),fun _=>rfl⟩
 rw [aE h64]
 simp only [no]
 have hch:(c.2.2.2.2.1.length:Int)≤1048576:=by have:=hs.2.2.2.1; omega
 have hck:decide (0≤(c.2.2.2.2.1.length:Int)∧(c.2.2.2.2.1.length:Int) * 24≤281474976710656∧(c.2.2.2.2.1.length:Int)≤maxLen)=true:=aq ⟨by omega,by omega,by simp only [maxLen]; omega⟩
 have hn:=hc.2.1.1.1
 have hn2:=hc.2.1.1.2.1
 have hs1:=hs.1
 have ew:ad ((c.2.1.length:Int) - 1)=((c.2.1.length - 1:Nat):Int):=by rw [aY (by omega) (by omega)]; omega
 have eb:ac c.2.1 ((c.2.1.length - 1:Nat):Int)=some (c.2.1.getD (c.2.1.length - 1) 0):=aB 0 (by omega)
 have el:ac c.2.2.1 ((c.2.1.length - 1:Nat):Int)=some (c.2.2.1.getD (c.2.1.length - 1) 0):=aB 0 (by omega)
 obtain ⟨_,_,_,_,q5,q6⟩:=hc.2.1.2.2.1 (c.2.1.length - 1) (by omega)
 have hlk:decide (0≤c.2.2.1.getD (c.2.1.length - 1) 0∧c.2.2.1.getD (c.2.1.length - 1) 0 * 8≤281474976710656∧c.2.2.1.getD (c.2.1.length - 1) 0≤maxLen)=true:=aq ⟨q5,by omega,by simp only [maxLen]; omega⟩
 obtain ⟨r1,r2,r3⟩:=Ck hc l
 have so:=TJ hc l
 obtain ⟨st1,st2,st3⟩:=Lj hc e.1 so r1 r3
 obtain ⟨st4,st5⟩:=FD st1 st2
 have hlen:0<(bE c e.1 0 (ib c l)).1.1.length:=by rw [st3]; simp [ib]
 refine ⟨sA c e l,0,?_,?_,st5,fun _=>⟨hc,hp,rfl,st4⟩,fun h=>absurd rfl h⟩
 ·simp only [hck,af,f9]
  refine (XZ (fun o:Option aF=>o.bind _) (lm (ym c) (VI hs))).trans ?_
  simp only [f7,Zj]
  refine (XZ (fun o:Option qF=>o.bind _) (ajL c hs l hl e (ym c) [])).trans ?_
  simp only [f7,Zj]
  refine (XZ (fun o:Option qF=>o.bind _) (afe c hs l hl e (oJ (ym c) (gj c l)) [])).trans ?_
  simp only [f7,Zj]
  refine (XZ (fun o:Option qF=>o.bind _) (ahm c hs e (qL (oJ (ym c) (gj c l)) (fO c l)) [])).trans ?_
  simp only [f7,Zj,fl,ew,eb,el,hlk,f9]
  refine (XZ (fun o:Option aQ=>o.bind _) (NN hc e [] r1 r2)).trans ?_
  simp only [f7,Zj,L2 hc st1 hlen]
  rfl
 ·refine (XZ (fun o:Option pC=>o.bind _) (ajU c hs l hl e ([],[],[],[],[],0,64,(0,0,0),-1,-1,0,[]) [])).trans ?_
  simp only [f7,Zj]
  refine (XZ (fun o:Option pC=>o.bind _) (agf c hs l hl e (oJ ([],[],[],[],[],0,64,(0,0,0),-1,-1,0,[]) (gj c l)) [])).trans ?_
  simp only [f7,Zj,hck,af,f9]
  refine (XZ (fun o:Option pC=>o.bind _) (aiI c hs e (qL (oJ (ym c) (gj c l)) (fO c l)) [])).trans ?_
  simp only [f7,Zj,gM,ew,eb,el,hlk,f9]
  refine (XZ (fun o:Option ay=>o.bind _) (OG hc e [] (by simp) r1 r2 r3)).trans ?_
  simp only [f7,Zj,Mf hc st1 hlen]
  rfl
abbrev ji:Type:=List UInt8
abbrev Df:Type:=aZ
theorem OR {f:Int→Option (Int⊕(Unit⊕Int))} (xs:List α) (d:α) (p:α→Bool) (hn:xs.length≤1048576)
  (hstep : ∀ i,i<xs.length→f (i:Int)=some (bif p (xs.getD i d) then .inr (.inr (i:Int)) else .inl ((i:Int)+1))) (hend:f (xs.length:Int)=some (.inr (.inl ()))) :
  ((∀ j,j<xs.length→p (xs.getD j d)=false)∧Itr.it f 0=some (.inl ()))∨∃ i,i<xs.length∧(∀ j,j<i→p (xs.getD j d)=false)∧p (xs.getD i d)=true∧Itr.it f 0=some (.inr (i:Int)):=by
 rcases cH (f:=f) xs.length (by omega) (fun i=>p (xs.getD i d)=false) (fun i=>(i:Int))
  (fun i hi _=>by
   grind) (fun _=>hend) with ⟨h1,h2⟩ | ⟨i,h1,h2,h3,h4⟩
 ·grind
 grind
theorem uu (l:List Df) (hl:l.length≤1048576) (nm:ji) :
  (bP l nm=some (-1)∧∀ j,j<l.length→(l.getD j ([],[])).1≠nm)∨∃ i:Nat,bP l nm=some (i:Int)∧i<l.length∧(l.getD i ([],[])).1=nm∧∀ j,j<i→(l.getD j ([],[])).1≠nm:=by
 unfold bP
 rcases OR (f:=ig l nm) l ([],[]) (fun x=>x.1==nm) hl
  (fun i hi=>by
   unfold ig
   simp only [aq (show (i:Int)<(l.length:Int) by omega),f9,aB ([],[]) hi,f7,aW (n:=l.length) (by omega) hi]
   grind)
  (by unfold ig; grind) with ⟨h1,h2⟩ | ⟨i,h1,h2,h3,h4⟩
 ·grind
 grind
theorem sI (l:List ji) (hl:l.length≤1048576) (nm:ji) : ∃ r,bO l nm=some r∧-1≤r∧r<l.length∧(r<0→nm∉l):=by
 unfold bO
 rcases OR (f:=iC l nm) l [] (fun x=>x==nm) hl
  (fun i hi=>by
   unfold iC
   simp only [aq (show (i:Int)<(l.length:Int) by omega),f9,aB [] hi,f7,aW (n:=l.length) (by omega) hi]
   grind)
  (by unfold iC; grind) with ⟨h1,h2⟩ | ⟨i,h1,h2,h3,h4⟩
 ·rw [h2]
  refine ⟨-1,rfl,by omega,by omega,fun _ hm=>?_⟩
  obtain ⟨j,hj,rfl⟩:=aan.1 hm
  grind
 ·rw [h4]
  exact ⟨i,rfl,by omega,by omega,fun h=>by omega⟩
theorem Cf (l:List ji) (hl:l.length≤1048576) (w:ji) : ∃ b,fp l w=some b∧(b=true↔w∈l):=by
 unfold fp
 rcases cH (f:=jN l w) l.length (by omega) (fun i=>(l.getD i []==w)=false) (fun i=>true)
  (fun i hi _=>by
   unfold jN
   simp only [aq (show (i:Int)<(l.length:Int) by omega),f9,aB [] hi,f7,aW (n:=l.length) (by omega) hi]
   grind)
  (fun _=>by unfold jN; grind) with ⟨h1,h2⟩ | ⟨i,h1,h2,h3,h4⟩
 ·rw [h2]
  refine ⟨false,rfl,fun h=>(by cases h),fun hm=>?_⟩
  obtain ⟨j,hj,rfl⟩:=aan.1 hm
  grind
 ·rw [h4]
  refine ⟨true,rfl,fun _=>?_,fun _=>rfl⟩
  grind
where getD_mem' {α:Type} {xs:List α} {i:Nat} (d:α) (h:i<xs.length):xs.getD i d∈xs:=by simp [h]
theorem Oj {f:Int→Option (Int⊕Int)} (n:Nat) (hn:n≤1048576) (p:Nat→Bool)
  (hstep : ∀ i,i<n→f ((i+1:Nat):Int)=some (bif p i then .inl (i:Int) else .inr ((i+1:Nat):Int))) (h0:f 0=some (.inr 0)) : ∃ k:Nat,k≤n∧Itr.it f (n:Int)=some (k:Int):=by
 obtain ⟨r,h1,h2⟩:=fw (f:=f) (fun s=>s.toNat) (fun s=>∃ i:Nat,s=(i:Int)∧i≤n) (fun r=>∃ k:Nat,k≤n∧r=(k:Int))
  (fun s hs=>by
   obtain ⟨i,rfl,hi⟩:=hs
   cases i with
   | zero=>grind
   | succ i=>
    have:=hstep i (by omega)
    cases hp:p i
    ·rw [hp] at this
     exact .inl ⟨_,this,i+1,hi,rfl⟩
    ·rw [hp] at this
     exact .inr ⟨_,this,⟨i,rfl,by omega⟩,by simp⟩) (s:=(n:Int)) ⟨n,rfl,by omega⟩ (by simp; omega)
 grind
theorem Ut (l:List ji) (hl:l.length<1048576) (w:ji) : ∃ r,la l w=some r∧(∀ y,y∈r↔y∈l∨y=w)∧r.length≤l.length+1:=by
 unfold la
 obtain ⟨b,hb,hb2⟩:=Cf l (by omega) w
 rw [hb]
 cases b
 ·simp only [f7,Zj,no]
  obtain ⟨k,hk,he⟩:=Oj (f:=jq l w) l.length (by omega) (fun i=>Op.bytesLess w (l.getD i []))
   (fun i hi=>by
    unfold jq
    have e:ad (((i+1:Nat):Int) - 1)=(i:Int):=by rw [aY (by omega) (by omega)]; omega
    simp only [aq (show (0:Int)<((i+1:Nat):Int) by omega),f9,e,aB [] hi,f7]
    grind)
   (by rfl)
  rw [he]
  simp only [f7,Zj,af]
  have c1:decide (0≤(0:Int)∧(0:Int)≤(k:Int)∧(k:Int)≤l.length)=true:=aq ⟨by omega,by omega,by omega⟩
  have c2:decide (0≤(k:Int)∧(k:Int)≤(l.length:Int)∧(l.length:Int)≤l.length)=true:=aq ⟨by omega,by omega,by omega⟩
  have a1 : ∀ m n:Nat,m+n≤2097152→aK m n 16=true:=fun m n h=>ba (by omega) (by omega)
  rw [c1,c2]
  simp only [f9,W4,Yv,Int.toNat_zero,Z3]
  rw [a1 _ _ (by grind),a1 _ _ (by grind),a1 _ _ (by grind)]
  refine ⟨_,rfl,fun y=>?_,by grind⟩
  rw [agd]
  constructor
  ·grind
  ·intro h
   rcases h with h | h
   ·rw [← abo k l] at h
    grind
   grind
 grind
theorem Of (l:List (ji×Int)) (hl:l.length<1048576) (w:ji×Int) : ∃ r,lb l w=some r∧r.length=l.length+1:=by
 unfold lb
 obtain ⟨k,hk,he⟩:=Oj (f:=jx l w) l.length (by omega) (fun i=>!(Op.bytesLess (l.getD i ([],0)).1 w.1||(l.getD i ([],0)).1==w.1))
  (fun i hi=>by
   unfold jx
   have e:ad (((i+1:Nat):Int) - 1)=(i:Int):=by rw [aY (by omega) (by omega)]; omega
   simp only [aq (show (0:Int)<((i+1:Nat):Int) by omega),f9,e,aB ([],0) hi,f7]
   grind)
  (by rfl)
 rw [he]
 simp only [f7,Zj,af]
 have c1:decide (0≤(0:Int)∧(0:Int)≤(k:Int)∧(k:Int)≤l.length)=true:=aq ⟨by omega,by omega,by omega⟩
 have c2:decide (0≤(k:Int)∧(k:Int)≤(l.length:Int)∧(l.length:Int)≤l.length)=true:=aq ⟨by omega,by omega,by omega⟩
 have a1 : ∀ m n:Nat,m+n≤2097152→aK m n 24=true:=fun m n h=>ba (by omega) (by omega)
 rw [c1,c2]
 simp only [f9,W4,Yv,Int.toNat_zero,Z3]
 rw [a1 _ _ (by grind),a1 _ _ (by grind),a1 _ _ (by grind)]
 grind
theorem Fb (n:aC) (hn:n.2.2.2.length≤1048576) : ∃ r,gr n=some r∧r.length≤n.2.2.2.length:=by
 unfold gr
 obtain ⟨r,h1,h2⟩:=fw (f:=kJ n) (fun s=>n.2.2.2.length - s.2.toNat) (fun s=>∃ i:Nat,s.2=(i:Int)∧i≤n.2.2.2.length∧s.1.length≤i) (fun r=>r.length≤n.2.2.2.length)
  (fun s hs=>by
   obtain ⟨o,s2⟩:=s
   obtain ⟨i,hi1,hi,ho⟩:=hs
   dsimp only at hi1 ho
   subst hi1
   unfold kJ
   rcases XJ i n.2.2.2.length with hlt | hge
   ·right
    simp only [aq (show (i:Int)<(n.2.2.2.length:Int) by omega),f9,aB (Nd.mk 0 [] 0 []) hlt,f7,aW (n:=n.2.2.2.length) (by omega) hlt]
    cases hb:(n.2.2.2.getD i (Nd.mk 0 [] 0 [])).tup.1==7
    ·exact ⟨_,rfl,⟨i+1,rfl,by omega,by grind⟩,by grind⟩
    ·simp only [f9]
     rw [jI (ba (by grind) (by omega))]
     exact ⟨_,rfl,⟨i+1,rfl,by omega,by grind⟩,by grind⟩
   grind) (s:=([],0)) ⟨0,rfl,by omega,by simp⟩ (by grind)
 grind
abbrev Mk:Type:=aH
abbrev Tn:Type:=aC
def Gw (b:Nat) (m m' : Mk):Prop:=m'.1.2=m.1.2∧m.1.1.length≤m'.1.1.length∧m'.1.1.length≤m.1.1.length+b∧m'.2.1.length≤m.2.1.length+b
def pE (m:Mk) (b:Nat):Prop:=m.1.1.length+b≤1000000∧m.2.1.length+b≤1000000∧m.1.2.2.2.1.length≤1000000∧m.1.2.2.2.2.1.length≤1000000∧m.1.2.2.2.2.2.1.length≤1000000∧m.1.2.2.2.2.2.2.1.length≤1000000∧m.1.2.2.2.2.2.2.2.length≤1000000
theorem ud (m:Mk):Gw 0 m m:=⟨rfl,by omega,by omega,by omega⟩
theorem j7 {a c:Nat} {m n o:Mk} (h:Gw a m n) (h' : Gw b n o) (hc:a+b=c):Gw c m o:=by
  obtain ⟨a1,a2,a3,a4⟩:=h
  obtain ⟨b1,b2,b3,b4⟩:=h'
  exact ⟨b1.trans a1,by omega,by omega,by omega⟩
theorem GZ {a:Nat} {m n:Mk} (h:Gw a m n) (hc:a≤b):Gw b m n:=⟨h.1,h.2.1,by have:=h.2.2.1; omega,by have:=h.2.2.2; omega⟩
theorem jK {a c:Nat} {m n:Mk} (h:pE m c) (g:Gw a m n) (hc:a+b≤c):pE n b:=by
  obtain ⟨h1,h2,h3⟩:=h
  obtain ⟨a1,a2,a3,a4⟩:=g
  refine ⟨by omega,by omega,?_⟩
  grind
theorem rZ {c:Nat} {m:Mk} (h:pE m c) (hc:b≤c):pE m b:=jK h (ud m) (by omega)
theorem mT {m:Mk} (h:pE m 1) (a b c:Int) : ∃ m',aD m a b c=some m' ∧ Gw 1 m m' ∧ m'.1.1.length=m.1.1.length+1:=by
  unfold aD
  rw [jI (ba (by have:=h.1; grind) (by omega))]
  exact ⟨_,rfl,⟨rfl,by simp,by simp,by simp⟩,by simp⟩
theorem rU {m:Mk} (h:pE m 1) (s:ji) : ∃ r m',cn m s=some (r,m')∧Gw 1 m m' := by
  unfold cn
  have h2:=h.2.1
  obtain ⟨r,hr,hr1,hr2,hr3⟩:=sI m.2.1 (by omega) s
  rw [hr]
  simp only [f7,Zj]
  by_cases hz:r<0
  · rw [aq hz,f9,jI (ba (by grind) (by omega))]
    simp only [f7,Zj]
    obtain ⟨q,hq,_⟩:=sI (m.2.1++[s]) (by grind) s
    rw [hq]
    exact ⟨_,_,rfl,⟨rfl,by simp,by simp,by simp⟩⟩
  · rw [aE hz,no]
    simp only [f7,Zj]
    rw [hr]
    exact ⟨_,_,rfl,⟨rfl,by simp,by simp,by simp⟩⟩
theorem vD (l:List (ji×Int)) (h:l.length≤1000000):dw l=some (l.map (·.1)):=rg l (by omega)
theorem vU {a:Nd} :ac (a::r) (0:Int)=some a:=rfl
theorem Yg {a b:Nd} :ac (a::b::r) (1:Int)=some b:=rfl
theorem alp {a b c:Nd} :ac (a::b::c::r) (2:Int)=some c:=rfl
def ph:Nat→Tn→Option Nat
  | 0,_=>none
  | k+1,n=>
    if n.1=32 then some 1 else if n.1=33 then some 2 else if n.1=34 then some 1 else if n.1=35 then some 1 else if n.1=36 then some 1
    else if 26≤n.1∧n.1≤31 then (match n.2.2.2 with
      | a::b::_=>(ph k a.tup).bind fun x=>(ph k b.tup).bind fun y=>some (x+y+1)
      | _=>none)
    else none
theorem Iq : ∀ (k:Nat) (m:Mk) (n:Tn) (b:Nat),ph k n=some b→pE m b→∃ m',cS k m n=some m' ∧ Gw b m m' := by
  intro k
  induction k with
  | zero=>intro m n b h; cases h
  | succ k ih=>
    intro m n b h hr
    obtain ⟨kind,t,num,kids⟩:=n
    unfold ph at h
    dsimp only at h
    show ∃ m',iR (cS k) m (kind,t,num,kids)=some m' ∧ Gw b m m'
    unfold iR
    dsimp only
    by_cases h32:kind=32
    · rw [if_pos h32] at h
      cases h
      obtain ⟨m',h1,h2,_⟩:=mT hr 0 num 0
      grind
    rw [if_neg h32] at h
    rw [bf h32,no]
    by_cases h33:kind=33
    · rw [if_pos h33] at h
      cases h
      obtain ⟨r,m1,h1,h2⟩:=rU (rZ hr (by omega)) t
      obtain ⟨m',h3,h4,_⟩:=mT (jK hr h2 (by omega)) 1 r 0
      rw [bt h33,f9,h1]
      simp only [f7,Zj,h3]
      exact ⟨m',rfl,j7 h2 h4 rfl⟩
    rw [if_neg h33] at h
    rw [bf h33,no]
    have hget : ∃ m',((dw m.1.2.2.2.1).bind fun r5=>(bO r5 t).bind fun r6=>(aD m 16 r6 0).bind fun r7=>some r7)=some m' ∧ (1≤b→Gw 1 m m'):=by
      rw [vD _ hr.2.2.1]
      simp only [f7,Zj]
      obtain ⟨r,hr1,_⟩:=sI (m.1.2.2.2.1.map (·.1)) (by have:=hr.2.2.1; grind) t
      rw [hr1]
      simp only [f7,Zj]
      by_cases hb:1≤b
      · obtain ⟨m',h3,h4,_⟩:=mT (rZ hr hb) 16 r 0
        grind
      · unfold aD
        rw [jI (ba (by have:=hr.1; grind) (by omega))]
        exact ⟨_,rfl,fun h=>absurd h hb⟩
    obtain ⟨mg,hg1,hg2⟩:=hget
    by_cases h34:kind=34
    · grind
    rw [if_neg h34] at h
    rw [bf h34]
    simp only [no,f7,Zj]
    by_cases h35:kind=35
    · grind
    rw [if_neg h35] at h
    rw [bf h35]
    simp only [no]
    by_cases h36:kind=36
    · rw [if_pos h36] at h
      cases h
      obtain ⟨m',h1,h2,_⟩:=mT hr 3 0 0
      grind
    rw [if_neg h36] at h
    rw [bf h36]
    simp only [no]
    by_cases hk:26≤kind∧kind≤31
    rotate_left
    · grind
    rw [if_pos hk] at h
    rcases kids with _ | ⟨x,_ | ⟨y,r⟩⟩
    · cases h
    · cases h
    dsimp only at h
    cases hx:ph k x.tup with
    | none=>grind
    | some bx=>
    cases hy:ph k y.tup with
    | none=>grind
    | some bY=>
    rw [hx,hy] at h
    cases h
    obtain ⟨m1,h1,h2⟩:=ih m x.tup bx hx (rZ hr (by omega))
    obtain ⟨m2,h3,h4⟩:=ih m1 y.tup bY hy (jK hr h2 (by omega))
    have g12:=j7 h2 h4 rfl
    simp only [vU,Yg,f7,Zj]
    rw [show cS k m (x.tup.1,x.tup.2.1,x.tup.2.2.1,x.tup.2.2.2)=some m1 from h1]
    simp only [f7,Zj]
    rw [show cS k m1 (y.tup.1,y.tup.2.1,y.tup.2.2.1,y.tup.2.2.2)=some m2 from h3]
    simp only [f7,Zj]
    have ei : ∃ v,ac ([7,8,9,4,5,6]:List Int) (ad (kind - 26))=some v:=by
      rw [aY (by omega) (by omega)]
      exact ⟨_,aT 0 (by omega) (by grind)⟩
    obtain ⟨v,hv⟩:=ei
    obtain ⟨m3,h5,h6,_⟩:=mT (jK hr g12 (by omega)) v 0 0
    simp only [hv,f7,Zj,h5]
    exact ⟨m3,rfl,j7 g12 h6 rfl⟩
def rR (f:Tn→Option Nat):List Nd→Option Nat
  | []=>some 0
  | x::r=>(f x.tup).bind fun a=>(rR f r).bind fun b=>some (a+b)
def tN (kb:Tn→Option Nat) (n:Tn):Option Nat:=
  if n.1=9 then (match n.2.2.2 with | a::_=>(ph 64 a.tup).bind fun x=>some (x+2) | _=>none)
  else if n.1=10 then (match n.2.2.2 with | _::a::_=>(ph 64 a.tup).bind fun x=>some (x+1) | _=>none)
  else if n.1=11∨n.1=12 then (match n.2.2.2 with
    | [a,b]=>(ph 64 a.tup).bind fun x=>(kb b.tup).bind fun y=>some (x+y+3)
    | [a,b,c]=>(ph 64 a.tup).bind fun x=>(kb b.tup).bind fun y=>(kb c.tup).bind fun z=>some (x+y+z+3)
    | _=>none)
  else if n.1=15∨n.1=22∨n.1=24 then (match n.2.2.2 with | a::_=>(ph 64 a.tup).bind fun x=>some (x+1) | _=>none)
  else if n.1=16∨n.1=23 then (match n.2.2.2 with | _::_=>some 2 | _=>none)
  else some 2
def Ai:Nat→Tn→Option Nat
  | 0,_=>none
  | k+1,n=>rR (tN (Ai k)) n.2.2.2
def sb:Nat→Tn→Option Nat
  | 0,_=>none
  | k+1,n=>(rR (sb k) n.2.2.2).bind fun x=>some (x+1)
def na (n:Int) (m:Mk):Av:=(n,m.1.1,m.1.2.1,m.1.2.2.1,m.1.2.2.2.1,m.1.2.2.2.2.1,m.1.2.2.2.2.2.1,m.1.2.2.2.2.2.2.1,m.1.2.2.2.2.2.2.2,m.2)
theorem Nt {f:Av→Option (Av⊕Mk)} (kids:List Nd) (hk:kids.length≤1048576) (cost:Tn→Option Nat) (step:Mk→Tn→Option Mk) (hs : ∀ m n b,cost n=some b→pE m b→∃ m',step m n=some m' ∧ Gw b m m')
    (hstep : ∀ (i:Nat) (m m' : Mk),i<kids.length→step m (kids.getD i (Nd.mk 0 [] 0 [])).tup=some m' → f (na (i:Int) m)=some (.inl (na ((i:Int)+1) m'))) (hend : ∀ m,f (na (kids.length:Int) m)=some (.inr m))
    {m:Mk}  (hb:rR cost kids=some b) (hr:pE m b) : ∃ m',Itr.it f (na 0 m)=some m' ∧ Gw b m m' := by
  obtain ⟨r,h1,h2⟩:=fw (f:=f) (fun s=>kids.length - s.1.toNat) (fun s=>∃ (i:Nat) (m1:Mk) (a rb:Nat),s=na (i:Int) m1∧i≤kids.length∧Gw a m m1∧rR cost (kids.drop i)=some rb∧a+rb=b) (fun r=>Gw b m r)
    (fun s hs' => by
      obtain ⟨i,m1,a,rb,rfl,hi,hg,hsum,hab⟩:=hs'
      rcases XJ i kids.length with hlt | hge
      · right
        rw [agp hlt] at hsum
        unfold rR at hsum
        cases hc:cost kids[i].tup with
        | none=>grind
        | some x=>
        cases hd:rR cost (kids.drop (i+1)) with
        | none=>grind
        | some y=>
        rw [hc,hd] at hsum
        cases hsum
        obtain ⟨m2,h3,h4⟩:=hs m1 _ x hc (jK hr hg (by omega))
        have he:=hstep i m1 m2 hlt (by grind)
        exact ⟨_,he,⟨i+1,m2,a+x,y,rfl,by omega,j7 hg h4 rfl,hd,by omega⟩,by show kids.length - ((i:Int)+1).toNat<kids.length - (i:Int).toNat; omega⟩
      · left
        have:i=kids.length:=by omega
        subst this
        refine ⟨m1,hend m1,?_⟩
        rw [aeQ] at hsum
        cases hsum
        grind) (s:=na 0 m) ⟨0,m,0,b,rfl,by omega,ud m,hb,by omega⟩ (by grind)
  grind
theorem B1 {f:Tn→Option Nat} (hf : ∀ n b,f n=some b→1≤b) : ∀ {l:List Nd} {b:Nat},rR f l=some b→l.length≤b
  | [],_,_=>by simp
  | x::r,b,h=>by
    unfold rR at h
    cases hc:f x.tup with
    | none=>grind
    | some a=>
    cases hd:rR f r with
    | none=>grind
    | some y=>
    rw [hc,hd] at h
    cases h
    have h1:=hf _ _ hc
    have h2:=B1 hf hd
    grind
theorem UE {n:Tn}  (h:sb k n=some b):1≤b:=by
  cases k with
  | zero=>cases h
  | succ k=>
    unfold sb at h
    cases hs:rR (sb k) n.2.2.2 with
    | none=>grind
    | some x=>grind
theorem ua : ∀ (k:Nat) (m:Mk) (n:Tn) (b:Nat),sb k n=some b→pE m b→∃ m',cE k m n=some m' ∧ Gw b m m' := by
  intro k
  induction k with
  | zero=>intro m n b h; cases h
  | succ k ih=>
    intro m n b h hr
    unfold sb at h
    cases hs:rR (sb k) n.2.2.2 with
    | none=>grind
    | some x=>
    rw [hs] at h
    cases h
    have hlen:=B1 (fun n b h=>UE h) hs
    have hr1:=hr.1
    show ∃ m',jh (cE k) m n=some m' ∧ Gw (x+1) m m'
    unfold jh
    have loop : ∀ m1:Mk,pE m1 x→∃ m',Itr.it (fE (cE k) n) (na 0 m1)=some m' ∧ Gw x m1 m' := fun m1 hm1=>
      Nt n.2.2.2 (by omega) (sb k) (cE k) ih
        (fun i m m' hi he=>by
          unfold fE
          simp only [na,show (i:Int)<(n.2.2.2.length:Int) by omega,ZU,f9,aB (Nd.mk 0 [] 0 []) hi,f7]
          rw [show cE k _ _=some m' from he]
          simp only [f7,Zj,aW (n:=n.2.2.2.length) (by omega) hi])
        (fun m=>by
          unfold fE
          simp only [na,aer,Zw,no]) hs hm1
    cases hk:(bif bif bif n.1==9 then true else n.1==33 then true else n.1==19 then true else n.1==20)
    · simp only [no,f7,Zj]
      obtain ⟨m',h1,h2⟩:=loop m (rZ hr (by omega))
      exact ⟨m',h1,GZ h2 (by omega)⟩
    · obtain ⟨r,m1,h1,h2⟩:=rU (rZ hr (by omega)) n.2.1
      simp only [f9,h1,f7,Zj]
      obtain ⟨m',h3,h4⟩:=loop m1 (jK hr h2 (by omega))
      exact ⟨m',h3,j7 h2 h4 (by omega)⟩
theorem E5 {kb:Tn→Option Nat} {n:Tn} (h:tN kb n=some b):1≤b:=by
  obtain ⟨kind,t,num,kids⟩:=n
  unfold tN at h
  dsimp only at h
  repeat' split at h
  all_goals first
    | (cases h; done)
    | (cases h; omega)
    | (simp only [Zb,Wn] at h
       grind)
theorem U7 (self:Mk→Tn→Option Mk) (m:Mk) (n:Tn):dZ self m n =
    (ac n.2.2.2 (0:Int)).bind fun _=>(ac n.2.2.2 (0:Int)).bind fun v2=>(cg m v2.tup).bind fun r3=>(aD r3 11 0 0).bind fun r4=>
    (ac n.2.2.2 (1:Int)).bind fun _=>(ac n.2.2.2 (1:Int)).bind fun v6=>(self r4 v6.tup).bind fun r7=>
    (bif n.1==(12:Int) then aD r7 10 (m.1.1.length:Int) 0 else some r7).bind fun m8=>
    bif decide ((n.2.2.2.length:Int)<(3:Int)) then
      (ac m8.1.1 (r3.1.1.length:Int)).bind fun _=>(ac m8.1.1 (r3.1.1.length:Int)).bind fun v11=>some ((m8.1.1.set (r3.1.1.length:Int).toNat (v11.1,((m8.1.1.length:Int),v11.2.2)),m8.1.2),m8.2)
    else
      (aD m8 10 0 0).bind fun r12=>(ac r12.1.1 (r3.1.1.length:Int)).bind fun _=>(ac r12.1.1 (r3.1.1.length:Int)).bind fun v14=>
      (ac n.2.2.2 (2:Int)).bind fun _=>(ac n.2.2.2 (2:Int)).bind fun v16=>
      (self ((r12.1.1.set (r3.1.1.length:Int).toNat (v14.1,((r12.1.1.length:Int),v14.2.2)),r12.1.2),r12.2) v16.tup).bind fun r17=>
      (ac r17.1.1 (m8.1.1.length:Int)).bind fun _=>(ac r17.1.1 (m8.1.1.length:Int)).bind fun v19=>some ((r17.1.1.set (m8.1.1.length:Int).toNat (v19.1,((r17.1.1.length:Int),v19.2.2)),r17.1.2),r17.2):=by
  unfold dZ
  dsimp only [Zj]
  congr 1; funext _; congr 1; funext v2
  show (cg m v2.tup).bind _=_
  congr 1; funext r3; congr 1; funext r4; congr 1; grind
section
variable {self:Mk→Tn→Option Mk} {kb:Tn→Option Nat} (hself : ∀ m n b,kb n=some b→pE m b→∃ m',self m n=some m' ∧ Gw b m m')
include hself
theorem Ux {m:Mk} {n:Tn} (hk:n.1=11∨n.1=12) (h:tN kb n=some b) (hr:pE m b) : ∃ m',dZ self m n=some m' ∧ Gw b m m' := by
  obtain ⟨kind,t,num,kids⟩:=n
  dsimp only at hk
  unfold tN at h
  dsimp only at h
  rw [if_neg (by omega),if_neg (by omega),if_pos hk] at h
  have main : ∀ (x y:Nd) (rest:List Nd) (bx bY bz:Nat),kids=x::y::rest→ph 64 x.tup=some bx→kb y.tup=some bY→bx+bY+bz+3≤b→(rest=[]∨∃ z,rest=[z]∧kb z.tup=some bz)→∃ m',dZ self m (kind,t,num,kids)=some m' ∧ Gw b m m' := by
    intro x y rest bx bY bz hkids hx hy hsum hrest
    subst hkids
    rw [U7]
    simp only [vU,Yg,f7,Zj]
    obtain ⟨m1,h1,g1⟩:=Iq 64 m x.tup bx hx (rZ hr (by omega))
    rw [show cg m x.tup=some m1 from h1]
    simp only [f7,Zj]
    obtain ⟨m2,h2,g2,l2⟩:=mT (jK (b:=1) hr g1 (by omega)) 11 0 0
    rw [h2]
    simp only [f7,Zj]
    have g12:=j7 g1 g2 rfl
    obtain ⟨m3,h3,g3⟩:=hself m2 y.tup bY hy (jK hr g12 (by omega))
    rw [h3]
    simp only [f7,Zj]
    have g13:=j7 g12 g3 rfl
    have hs8 : ∃ m4,(bif kind==(12:Int) then aD m3 10 (m.1.1.length:Int) 0 else some m3)=some m4∧Gw 1 m3 m4:=by
      cases kind==(12:Int)
      · exact ⟨m3,rfl,GZ (ud m3) (by omega)⟩
      · obtain ⟨m4,h4,g4,_⟩:=mT (jK (b:=1) hr g13 (by omega)) 10 (m.1.1.length:Int) 0
        grind
    obtain ⟨m4,h4,g4⟩:=hs8
    rw [h4]
    simp only [f7,Zj]
    have g14:=j7 g13 g4 rfl
    have hz:m1.1.1.length<m4.1.1.length:=by have:=g3.2.1; have:=g4.2.1; omega
    rcases hrest with rfl | ⟨z,rfl,hz2⟩
    · rw [show decide (((([x,y]:List Nd).length:Nat):Int)<3)=true from rfl]
      simp only [f9,aB (0,0,0) hz,f7,Zj]
      exact ⟨_,rfl,⟨g14.1,by have:=g14.2.1; grind,by have:=g14.2.2.1; grind,by have:=g14.2.2.2; grind⟩⟩
    · rw [show decide (((([x,y,z]:List Nd).length:Nat):Int)<3)=false from rfl]
      simp only [no]
      obtain ⟨m5,h5,g5,l5⟩:=mT (jK (b:=1) hr g14 (by omega)) 10 0 0
      rw [h5]
      have hz5:m1.1.1.length<m5.1.1.length:=by omega
      simp only [f7,Zj,aB (0,0,0) hz5,alp]
      have g15:=j7 g14 g5 rfl
      generalize hq:((m5.1.1.set (m1.1.1.length:Int).toNat ((m5.1.1.getD m1.1.1.length (0,0,0)).1,((m5.1.1.length:Int),(m5.1.1.getD m1.1.1.length (0,0,0)).2.2)),m5.1.2),m5.2)=m6
      have hq1:m6.1.1.length=m5.1.1.length:=by grind
      have hq2:m6.1.2=m5.1.2:=by rw [← hq]
      have hq3:m6.2=m5.2:=by rw [← hq]
      have g16:Gw (bx+1+bY+1+1) m m6:=⟨by rw [hq2]; exact g15.1,by rw [hq1]; exact g15.2.1,by rw [hq1]; have:=g15.2.2.1; omega,by rw [hq3]; have:=g15.2.2.2; omega⟩
      obtain ⟨m7,h7,g7⟩:=hself m6 z.tup bz hz2 (jK hr g16 (by omega))
      rw [h7]
      have hz7:m4.1.1.length<m7.1.1.length:=by have:=g7.2.1; omega
      simp only [f7,Zj,aB (0,0,0) hz7]
      have g17:=j7 g16 g7 rfl
      exact ⟨_,rfl,⟨g17.1,by have:=g17.2.1; grind,by have:=g17.2.2.1; grind,by have:=g17.2.2.2; grind⟩⟩
  rcases kids with _ | ⟨x,_ | ⟨y,_ | ⟨z,_ | ⟨u,r⟩⟩⟩⟩
  · cases h
  · cases h
  · dsimp only at h
    simp only [Zb,Wn] at h
    obtain ⟨bx,hx,bY,hy,hb⟩:=h
    exact main x y [] bx bY 0 rfl hx hy (by omega) (.inl rfl)
  · dsimp only at h
    simp only [Zb,Wn] at h
    obtain ⟨bx,hx,bY,hy,bz,hz,hb⟩:=h
    exact main x y [z] bx bY bz rfl hx hy (by omega) (.inr ⟨z,rfl,hz⟩)
  · cases h
theorem af3 (m:Mk) (n:Tn) (b:Nat) (h:tN kb n=some b) (hr:pE m b) : ∃ m',cQ self m n=some m' ∧ Gw b m m' := by
  by_cases hk:n.1=11∨n.1=12
  · obtain ⟨m',h1,h2⟩:=Ux hself hk h hr
    refine ⟨m',?_,h2⟩
    unfold cQ
    dsimp only
    rw [vD _ hr.2.2.2.1]
    grind
  have hb:=E5 h
  obtain ⟨kind,t,num,kids⟩:=n
  dsimp only at hk
  unfold tN at h
  dsimp only at h
  unfold cQ
  dsimp only
  rw [vD _ hr.2.2.2.1]
  simp only [f7,Zj]
  have emit2 : ∀ (m1:Mk) (a:Nat) (x y z:Int),Gw a m m1→a+1≤b→∃ m',aD m1 x y z=some m' ∧ Gw b m m' := fun m1 a x y z g hab=>by
    obtain ⟨m',h3,h4,_⟩:=mT (jK (b:=1) hr g hab) x y z
    exact ⟨m',h3,GZ (j7 g h4 rfl) hab⟩
  have val : ∀ (x:Nd) (bx:Nat),ph 64 x.tup=some bx→bx≤b→∃ m',cg m (x.tup.1,x.tup.2.1,x.tup.2.2.1,x.tup.2.2.2)=some m' ∧ Gw bx m m' := fun x bx hx hle=>Iq 64 m x.tup bx hx (rZ hr hle)
  have ix : ∀ l:List ji,l.length≤1000000→∃ r,bO l t=some r:=fun l hl=>by
    obtain ⟨r,hr,_⟩:=sI l (by omega) t
    grind
  by_cases h9:kind=9
  · rw [if_pos h9] at h
    rcases kids with _ | ⟨x,r⟩
    · cases h
    simp only [Zb,Wn] at h
    obtain ⟨bx,hx,hb'⟩:=h
    obtain ⟨m1,h1,g1⟩:=val x bx hx (by omega)
    obtain ⟨q,m2,h2,g2⟩:=rU (jK (b:=1) hr g1 (by omega)) t
    obtain ⟨m3,h3,g3⟩:=emit2 m2 (bx+1) 2 q 0 (j7 g1 g2 rfl) (by omega)
    rw [bt h9]
    simp only [f9,vU,f7,Zj,h1,h2,h3]
    grind
  rw [if_neg h9] at h
  rw [bf h9,no]
  by_cases h10:kind=10
  · rw [if_pos h10] at h
    rcases kids with _ | ⟨p,_ | ⟨x,r⟩⟩
    · cases h
    · cases h
    simp only [Zb,Wn] at h
    obtain ⟨bx,hx,hb'⟩:=h
    obtain ⟨m1,h1,g1⟩:=val x bx hx (by omega)
    have hrm:=jK (b:=1) hr g1 (by omega)
    obtain ⟨q,hq,_⟩:=sI (m1.1.2.2.2.1.map (·.1)) (by have:=hrm.2.2.1; grind) p.tup.2.1
    obtain ⟨m3,h3,g3⟩:=emit2 m1 bx 17 q 0 g1 (by omega)
    rw [bt h10]
    simp only [f9,vU,Yg,f7,Zj,h1,vD _ hrm.2.2.1,hq,h3]
    grind
  rw [if_neg h10,if_neg hk] at h
  rw [bf h10,no,show (kind==11)=false by grind,show (kind==12)=false by grind]
  simp only [no,f7,Zj]
  have simple : ∀ (l:List ji) (op:Int),l.length≤1000000→∃ m',((bO l t).bind fun r=>(aD m op r 0).bind fun r' => some r')=some m' ∧ Gw b m m' := fun l op hl=>by
    obtain ⟨q,hq⟩:=ix l hl
    obtain ⟨m3,h3,g3⟩:=emit2 m 0 op q 0 (ud m) (by omega)
    grind
  obtain ⟨r1,r2,r3,r4,r5,r6,r7⟩:=hr
  by_cases h13:kind=13
  · rw [bt h13,f9]
    exact simple _ 18 r7
  rw [bf h13,no]
  by_cases h14:kind=14
  · rw [bt h14,f9]
    exact simple _ 12 r7
  rw [bf h14,no]
  by_cases h15:kind=15
  · rw [if_pos (.inl h15)] at h
    rcases kids with _ | ⟨x,r⟩
    · cases h
    simp only [Zb,Wn] at h
    obtain ⟨bx,hx,hb'⟩:=h
    obtain ⟨m1,h1,g1⟩:=val x bx hx (by omega)
    obtain ⟨q,hq⟩:=ix (m.1.2.2.2.2.1.map (·.1)) (by simpa using r4)
    obtain ⟨m3,h3,g3⟩:=emit2 m1 bx 19 q 0 g1 (by omega)
    rw [bt h15]
    simp only [f9,vU,f7,Zj,h1,hq,h3]
    grind
  rw [bf h15,no]
  by_cases h16:kind=16
  · rw [if_neg (by omega),if_pos (.inl h16)] at h
    rcases kids with _ | ⟨x,r⟩
    · cases h
    cases h
    obtain ⟨q,hq⟩:=ix (m.1.2.2.2.2.1.map (·.1)) (by simpa using r4)
    obtain ⟨p,m2,h2,g2⟩:=rU (m:=m) ⟨by omega,by omega,r3,r4,r5,r6,r7⟩ x.tup.2.1
    obtain ⟨m3,h3,g3⟩:=emit2 m2 1 20 q p g2 (by omega)
    rw [bt h16]
    simp only [f9,vU,f7,Zj,hq,h2,h3]
    grind
  rw [bf h16,no]
  by_cases h17:kind=17
  · rw [bt h17,f9]
    exact simple _ 21 r5
  rw [bf h17,no]
  by_cases h18:kind=18
  · rw [bt h18,f9]
    exact simple _ 22 r5
  rw [bf h18,no]
  have loc : ∀ (op:Int) (g:Int→Int×Int),2≤b→∃ m',((cn m t).bind fun r=>(aD r.2 op (g r.1).1 (g r.1).2).bind fun r' => some r')=some m' ∧ Gw b m m' := fun op g h2b=>by
    obtain ⟨p,m2,h2,g2⟩:=rU (m:=m) ⟨by omega,by omega,r3,r4,r5,r6,r7⟩ t
    obtain ⟨m3,h3,g3⟩:=emit2 m2 1 op (g p).1 (g p).2 g2 (by omega)
    grind
  by_cases h19:kind=19
  · rw [if_neg (by omega),if_neg (by omega)] at h
    cases h
    rw [bt h19,f9]
    exact loc 23 (fun r=>(num,r)) (by omega)
  rw [bf h19,no]
  by_cases h20:kind=20
  · rw [if_neg (by omega),if_neg (by omega)] at h
    cases h
    rw [bt h20,f9]
    exact loc 24 (fun r=>(r,0)) (by omega)
  rw [bf h20,no]
  by_cases h21:kind=21
  · obtain ⟨m3,h3,g3⟩:=emit2 m 0 25 num 0 (ud m) (by omega)
    grind
  rw [bf h21,no]
  by_cases h22:kind=22
  · rw [if_pos (.inr (.inl h22))] at h
    rcases kids with _ | ⟨x,r⟩
    · cases h
    simp only [Zb,Wn] at h
    obtain ⟨bx,hx,hb'⟩:=h
    obtain ⟨m1,h1,g1⟩:=val x bx hx (by omega)
    obtain ⟨q,hq⟩:=ix m1.1.2.2.2.2.2.2.1 (by rw [g1.1]; exact r6)
    obtain ⟨m3,h3,g3⟩:=emit2 m1 bx 26 q 0 g1 (by omega)
    rw [bt h22]
    simp only [f9,vU,f7,Zj,h1,hq,h3]
    grind
  rw [bf h22,no]
  by_cases h23:kind=23
  · rw [if_neg (by omega),if_pos (.inr h23)] at h
    rcases kids with _ | ⟨x,r⟩
    · cases h
    cases h
    obtain ⟨q,hq⟩:=ix m.1.2.2.2.2.2.2.1 r6
    obtain ⟨p,m2,h2,g2⟩:=rU (m:=m) ⟨by omega,by omega,r3,r4,r5,r6,r7⟩ x.tup.2.1
    obtain ⟨m3,h3,g3⟩:=emit2 m2 1 27 q p g2 (by omega)
    rw [bt h23]
    simp only [f9,vU,f7,Zj,hq,h2,h3]
    grind
  rw [bf h23,no]
  by_cases h24:kind=24
  · rw [if_pos (.inr (.inr h24))] at h
    rcases kids with _ | ⟨x,r⟩
    · cases h
    simp only [Zb,Wn] at h
    obtain ⟨bx,hx,hb'⟩:=h
    obtain ⟨m1,h1,g1⟩:=val x bx hx (by omega)
    obtain ⟨m3,h3,g3⟩:=emit2 m1 bx 14 m1.2.2 (ad ((m1.1.2.1.length:Int) - 1)) g1 (by omega)
    rw [bt h24]
    simp only [f9,vU,f7,Zj,h1,h3]
    exact ⟨_,rfl,g3⟩
  rw [bf h24,no]
  obtain ⟨m3,h3,g3⟩:=emit2 m 0 15 num 0 (ud m) (by omega)
  grind
end
theorem XI : ∀ (k:Nat) (m:Mk) (n:Tn) (b:Nat),Ai k n=some b→pE m b→∃ m',cA k m n=some m' ∧ Gw b m m' := by
  intro k
  induction k with
  | zero=>intro m n b h; cases h
  | succ k ih=>
    intro m n b h hr
    have h' : rR (tN (Ai k)) n.2.2.2=some b:=h
    have hlen:=B1 (fun n b h=>E5 h) h'
    have hr1:=hr.1
    show ∃ m',iP (cA k) m n=some m' ∧ Gw b m m'
    unfold iP
    exact Nt n.2.2.2 (by omega) (tN (Ai k)) (cQ (cA k)) (fun m n b h hr=>af3 ih m n b h hr)
      (fun i m m' hi he=>by
        unfold ip
        simp only [na,show (i:Int)<(n.2.2.2.length:Int) by omega,ZU,f9,aB (Nd.mk 0 [] 0 []) hi,f7]
        rw [show cQ _ _ _=some m' from he]
        simp only [f7,Zj,aW (n:=n.2.2.2.length) (by omega) hi])
      (fun m=>by
        unfold ip
        simp only [na,aer,Zw,no]) h' hr
structure GoodN (d:Df) (n:Tn) (u:List bi):Prop where
 parse:dS d.2=some (n,0,0)
 name:n.2.1=d.1
 kids:n.2.2.2.length≤64
 len:n.2.1.length≤64
 lens : ∀ k∈n.2.2.2,k.tup.2.1.length≤64
 found:fR n=some u
 uses:u.length≤64
 proc:n.1=5∨n.1=6→∃ k r bm bb,n.2.2.2=k::r∧sb 64 n=some bm∧Ai 64 k.tup=some bb∧bm≤200∧bb≤200
def pv (d:Df):Prop:=∃ n u,GoodN d n u
def F5 (d:Df):Bool:=match dS d.2 with
 | some (n,a,e)=>a==0&&e==0&&n.2.1==d.1&&Nat.ble n.2.2.2.length 64&&Nat.ble n.2.1.length 64&&n.2.2.2.all (fun k=>Nat.ble k.tup.2.1.length 64) &&
  (match fR n with | some u=>Nat.ble u.length 64 | none=>false) &&
  (bif n.1==5||n.1==6 then (match n.2.2.2 with | k::_=>(match sb 64 n with | some b=>Nat.ble b 200 | none=>false)&&(match Ai 64 k.tup with | some b=>Nat.ble b 200 | none=>false) | []=>false) else true)
 | none=>false
theorem OS {d:Df} (h:F5 d=true):pv d:=by
 unfold F5 at h
 split at h
 ·rename_i n a e hp
  simp only [Wp] at h
  obtain ⟨⟨⟨⟨⟨⟨⟨h1,h2⟩,h3⟩,h4⟩,h5⟩,h6⟩,h7⟩,h8⟩:=h
  split at h7
  ·rename_i u hu
   refine ⟨n,u,?_,by simpa using h3,Wt h4,Wt h5,fun k hk=>?_,hu,Wt h7,fun hk=>?_⟩
   ·grind
   ·simp_all
   ·rw [show (n.1==5||n.1==6)=true by grind] at h8
    simp only [f9] at h8
    split at h8
    ·rename_i k r hkids
     simp only [Wp] at h8
     obtain ⟨g1,g2⟩:=h8
     split at g1
     ·rename_i bm hbm
      split at g2
      ·simp_all
      ·cases g2
     ·cases g1
    ·cases h8
  ·cases h7
 ·cases h
theorem wN {R:Type} {f:Int→Option (Int⊕R)} (n:Nat) (hn:n≤1048576) (hstep : ∀ i:Nat,i<n→(∃ r,f (i:Int)=some (.inr r))∨f (i:Int)=some (.inl ((i:Int)+1))) (hend : ∃ r,f (n:Int)=some (.inr r)) : ∃ r,Itr.it f (0:Int)=some r:=by
 obtain ⟨r,h1,_⟩:=fw (f:=f) (fun s=>n - s.toNat) (fun s=>∃ i:Nat,s=(i:Int)∧i≤n) (fun _=>True)
  (fun s hs=>by
   obtain ⟨i,rfl,hi⟩:=hs
   rcases XJ i n with hlt | hge
   ·rcases hstep i hlt with ⟨r,h⟩ | h
    ·grind
    ·exact .inr ⟨_,h,⟨i+1,rfl,by omega⟩,by grind⟩
   ·obtain ⟨r,h⟩:=hend
    grind) (s:=0) ⟨0,rfl,by omega⟩ (by grind)
 grind
section
variable (l:List Df) (hl:l.length≤24) (hg : ∀ d∈l,pv d)
include hl hg
theorem aaN (h:i<l.length) : ∃ n u,GoodN (l.getD i ([],[])) n u:=hg _ (by simp [h])
theorem xE (h0:0<l.length) (nm:ji) : ∃ r d,bP l nm=some r∧d∈l∧ac l (if (0:Int) > r then 0 else r)=some d:=by
 rcases uu l (by omega) nm with ⟨h1,_⟩ | ⟨i,h1,h2,h3,_⟩
 ·exact ⟨-1,l.getD 0 ([],[]),h1,by simp [h0],by rw [if_pos (by omega)]; exact aB _ h0⟩
 ·exact ⟨i,l.getD i ([],[]),h1,by simp [h2],by rw [if_neg (by omega)]; exact aB _ h2⟩
theorem zT {d:Df} (h:d∈l) : ∃ n u,GoodN d n u∧eZ d.2=some n:=by
 obtain ⟨n,u,h⟩:=hg d h
 refine ⟨n,u,h,?_⟩
 unfold eZ
 rw [h.parse]
 rfl
theorem BV (hi:i<l.length) : ∃ e,gR l (i:Int)=some e∧(e=0→∀ j,j<i→(l.getD j ([],[])).1≠(l.getD i ([],[])).1):=by
 unfold gR
 obtain ⟨n,u,h⟩:=aaN l hl hg hi
 simp only [aB ([],[]) hi,f7,h.parse,h.name,W9,XO,no]
 rw [show ((0:Int) != 0)=false from rfl]
 simp only [no]
 obtain ⟨fr,hf,hf2⟩:=Fb n (by have:=h.kids; omega)
 have hk:=h.kids
 obtain ⟨z,hz⟩:=wN (f:=fN fr) fr.length (by omega)
  (fun k hk' => by
   unfold fN
   obtain ⟨b,hb,_⟩:=Cf (fr.take k) (by grind) (fr.getD k [])
   simp only [aq (show (k:Int)<(fr.length:Int) by omega),f9,aB [] hk',f7,af,aq (show 0≤(k:Int)∧(k:Int)≤(fr.length:Int) by omega),W4,hb,aW (n:=fr.length) (by omega) hk']
   grind)
  ⟨_,by unfold fN; rw [aE (by omega)]; rfl⟩
 have hend : ∃ e,((gr n).bind fun r9=>(Itr.it (fN r9) 0).bind fun z15=>match z15 with | Sum.inl _=>some 0 | Sum.inr t16=>some t16)=some e:=by
  rw [hf]
  simp only [f7,Zj,hz]
  rcases z with z | z <;> exact ⟨_,rfl⟩
 obtain ⟨e,he⟩:=hend
 rcases uu l (by omega) (l.getD i ([],[])).1 with ⟨h1,h2⟩ | ⟨k,h1,h2,h3,h4⟩
 ·grind
 grind
theorem Vp (hi:i<l.length) : ∃ e,lE l (i:Int)=some e:=by
 unfold lE
 obtain ⟨n,u,h,ht⟩:=zT l hl hg (show l.getD i ([],[])∈l by simp [hi])
 simp only [aB ([],[]) hi,f7,ht,h.found]
 have hu:=h.uses
 have h0:0<l.length:=by omega
 obtain ⟨z1,hz1⟩:=wN (f:=hY l u) u.length (by omega)
  (fun k hk=>by
   unfold hY
   obtain ⟨r,d,h1,h2,h3⟩:=xE l hl hg h0 (u.getD k (0,0,[],[])).2.2.1
   simp only [aq (show (k:Int)<(u.length:Int) by omega),f9,aB (0,0,[],[]) hk,f7,h1,aW (n:=u.length) (by omega) hk]
   grind)
  ⟨_,by unfold hY; rw [aE (by omega)]; rfl⟩
 obtain ⟨z2,hz2⟩:=wN (f:=gZ l u) u.length (by omega)
  (fun k hk=>by
   unfold gZ
   obtain ⟨r,d,h1,h2,h3⟩:=xE l hl hg h0 (u.getD k (0,0,[],[])).2.2.1
   obtain ⟨n',u',_,ht'⟩:=zT l hl hg h2
   simp only [aq (show (k:Int)<(u.length:Int) by omega),f9,aB (0,0,[],[]) hk,f7,h1,h3,ht',aW (n:=u.length) (by omega) hk]
   grind)
  ⟨_,by unfold gZ; rw [aE (by omega)]; rfl⟩
 obtain ⟨z3,hz3⟩:=wN (f:=gY l u) u.length (by omega)
  (fun k hk=>by
   unfold gY
   obtain ⟨r,d,h1,h2,h3⟩:=xE l hl hg h0 (u.getD k (0,0,[],[])).2.2.1
   obtain ⟨n',u',g',ht'⟩:=zT l hl hg h2
   obtain ⟨fr,hf,hf2⟩:=Fb n' (by have:=g'.kids; omega)
   obtain ⟨b,hb,_⟩:=Cf fr (by have:=g'.kids; omega) (u.getD k (0,0,[],[])).2.2.2
   simp only [aq (show (k:Int)<(u.length:Int) by omega),f9,aB (0,0,[],[]) hk,f7,h1,h3,ht',aW (n:=u.length) (by omega) hk]
   grind)
  ⟨_,by unfold gY; rw [aE (by omega)]; rfl⟩
 rw [hz1]
 rcases z1 with z1 | z1
 ·simp only [f7,Zj,hz2]
  rcases z2 with z2 | z2
  ·simp only [f7,Zj,hz3]
   rcases z3 with z3 | z3 <;> exact ⟨_,rfl⟩
  grind
 simp_all
end
def zu (d:Df):List ji:=match dS d.2 with
 | some r=>(match fR r.1 with | some u=>u.map (·.2.2.1) | none=>[])
 | none=>[]
def Am (l:List Df):List ji:=l.flatMap zu
def qA (W bw:List ji):Nat:=(W.filter fun w=>!decide (w∈bw)).length
theorem FP {d:Df} {n:Tn} {u:List bi} (h:GoodN d n u):zu d=u.map (·.2.2.1):=by
 unfold zu
 rw [h.parse]
 dsimp only
 rw [h.found]
theorem M7 {l:List Df} (hg : ∀ d∈l,pv d):(Am l).length≤64 * l.length:=by
 induction l with
 | nil=>simp [Am]
 | cons d r ih=>
  obtain ⟨n,u,h⟩:=hg d (by simp)
  have h1:=ih fun d hd=>hg d (by simp [hd])
  have h2:(zu d).length≤64:=by rw [FP h]; simpa using h.uses
  unfold Am at h1 ⊢
  grind
theorem UL {W:List ji} {p q:ji→Bool} (h : ∀ y,q y=true→p y=true):(W.filter q).length≤(W.filter p).length:=by
 induction W with
 | nil=>simp
 | cons y r ih=>
  grind
theorem U4 {W:List ji} {p q:ji→Bool} (h : ∀ y,q y=true→p y=true) {x:ji} (hx:x∈W) (hp:p x=true) (hq:q x=false):(W.filter q).length+1≤(W.filter p).length:=by
 induction W with
 | nil=>cases hx
 | cons y r ih=>
  rcases Xb.1 hx with rfl | hx
  ·rw [aeG (by simp [hq]),aaS hp]
   have:=UL (W:=r) h
   grind
  grind
theorem agG {W bw r:List ji} {x:ji} (hx:x∈W) (ho:x∉bw) (hr : ∀ y,y∈r↔y∈bw∨y=x):qA W r+1≤qA W bw:=by
 refine U4 (fun y hy=>?_) hx (by simp [ho]) (by simp [hr])
 grind
def y8 (W:List ji) (bw todo:List ji):Prop:=bw.length+qA W bw≤W.length∧todo.length+qA W bw≤W.length+1
theorem aiq {W:List ji} (hW:W.length≤2000) (calls:Bool) (u:List bi) (hu:u.length≤64) (hin : ∀ x∈u,x.2.2.1∈W) {bw todo:List ji} (h:y8 W bw todo) : ∃ r,Itr.it (eO calls u) (bw,todo,0)=some r∧y8 W r.1 r.2∧todo.length≤r.2.length:=by
 refine fw (f:=eO calls u) (fun s=>u.length - s.2.2.toNat) (fun s=>∃ i:Nat,s.2.2=(i:Int)∧i≤u.length∧y8 W s.1 s.2.1∧todo.length≤s.2.1.length) (fun r=>y8 W r.1 r.2∧todo.length≤r.2.length)
  (fun s hs=>by
   obtain ⟨o,t,s2⟩:=s
   obtain ⟨i,h1,hi,hr,htl⟩:=hs
   dsimp only at h1 hr htl
   subst h1
   unfold eO
   rcases XJ i u.length with hlt | hge
   ·right
    have hx:=hin _ (show u.getD i (0,0,[],[])∈u by simp [hlt])
    have hp : ∃ r,lO calls u (o,t,(i:Int))=some r∧y8 W r.1 r.2∧t.length≤r.2.length:=by
     unfold lO
     obtain ⟨ho1,ho2⟩:=hr
     obtain ⟨b,hb,hb2⟩:=Cf o (by omega) (u.getD i (0,0,[],[])).2.2.1
     obtain ⟨r,hr1,hr2,hr3⟩:=Ut o (by omega) (u.getD i (0,0,[],[])).2.2.1
     have add:b=false→y8 W r (t++[(u.getD i (0,0,[],[])).2.2.1]):=by
      intro hbf
      have:=agG (W:=W) hx (fun hm=>by grind) hr2
      exact ⟨by omega,by grind⟩
     have eap:aK t.length ([(u.getD i (0,0,[],[])).2.2.1]:List ji).length 16=true:=ba (by grind) (by omega)
     cases calls
     ·simp only [Xo,XO,no,f9,f7,Zj,aB (0,0,[],[]) hlt,hb]
      cases b
      ·simp only [Xo,f9,hr1,f7,Zj,eap,af]
       grind
      ·exact ⟨_,rfl,⟨ho1,ho2⟩,by simp⟩
     ·simp only [Xo,XO,no,f9,f7,Zj,aB (0,0,[],[]) hlt]
      cases (u.getD i (0,0,[],[])).1==14
      ·exact ⟨_,rfl,⟨ho1,ho2⟩,by simp⟩
      ·simp only [f9,f7,Zj,hb]
       cases b
       ·simp only [Xo,f9,hr1,f7,Zj,eap,af]
        grind
       ·exact ⟨_,rfl,⟨ho1,ho2⟩,by simp⟩
    obtain ⟨r,hp1,hp2,hp3⟩:=hp
    simp only [aq (show (i:Int)<(u.length:Int) by omega),f9,hp1,f7,Zj,aW (n:=u.length) (by omega) hlt]
    exact ⟨_,rfl,⟨i+1,rfl,by omega,hp2,by grind⟩,by grind⟩
   ·left
    simp only [aE (show ¬ (i:Int)<(u.length:Int) by omega),no]
    grind) ⟨0,rfl,by omega,h,by simp⟩ (by grind)
theorem CM (l:List Df) (hl:l.length≤24) (hg : ∀ d∈l,pv d) (nm:ji) (calls:Bool) : ∃ r,io l nm calls=some r∧r.length≤1536:=by
 unfold io
 have hW:=M7 hg
 generalize hWe:Am l=W at hW
 have hin : ∀ d∈l,∀ x∈zu d,x∈W:=fun d hd x hx=>by rw [← hWe]; exact ai9.2 ⟨d,hd,hx⟩
 obtain ⟨r,h1,h2⟩:=fw (f:=j9 l calls) (fun s=>W.length+2 - s.2.2.toNat) (fun s=>∃ i:Nat,s.2.2=(i:Int)∧i≤s.2.1.length∧y8 W s.1 s.2.1) (fun r=>r.length≤W.length)
  (fun s hs=>by
   obtain ⟨o,t,s2⟩:=s
   obtain ⟨i,h1,hi,hr⟩:=hs
   dsimp only at h1 hi hr
   subst h1
   have hr0:=hr
   obtain ⟨ho1,ho2⟩:=hr0
   unfold j9
   rcases XJ i t.length with hlt | hge
   ·right
    have hp : ∃ r,((ac t (i:Int)).bind fun _=>(ac t (i:Int)).bind fun v5=>(bP l v5).bind fun r6=>bif decide (r6<(0:Int)) then some (o,t) else (ac l r6).bind fun _=>(ac l r6).bind fun v8=>(eZ v8.2).bind fun r9=>(fR r9).bind fun r10=>Itr.it (eO calls r10) (o,t,0))=some r∧y8 W r.1 r.2∧t.length≤r.2.length:=by
     simp only [aB [] hlt,f7]
     rcases uu l (by omega) (t.getD i []) with ⟨q1,_⟩ | ⟨j,q1,q2,q3,_⟩
     ·simp_all
     ·obtain ⟨n,u,g,ht⟩:=zT l hl hg (show l.getD j ([],[])∈l by simp [q2])
      rw [q1]
      simp only [f7,Zj,aE (show ¬ (j:Int)<0 by omega),no,aB ([],[]) q2,ht,g.found]
      obtain ⟨r,e1,e2,e4⟩:=aiq (by omega) calls u g.uses (fun x hx=>hin _ (show l.getD j ([],[])∈l by simp [q2]) _ (by rw [FP g]; grind)) hr
      grind
    obtain ⟨r,hp1,hp2,hp3⟩:=hp
    have:=hp2.2
    refine ⟨(r.1,r.2,(i:Int)+1),?_,⟨i+1,rfl,by grind,hp2⟩,by grind⟩
    rw [aq (show (i:Int)<(t.length:Int) by omega),f9]
    refine (XZ (fun z:Option Ue=>z.bind _) hp1).trans ?_
    simp only [f7,Zj,aW (n:=t.length) (by omega) hlt]
   grind) (s:=([],[nm],0)) ⟨0,rfl,by simp,by
     have:qA W []≤W.length:=List.length_filter_le _ _
     exact ⟨by grind,by grind⟩⟩ (by grind)
 grind
def GN (l:List Df):Prop:=∀ i j,i<l.length→j<i→(l.getD j ([],[])).1≠(l.getD i ([],[])).1
section
variable (l:List Df) (hl:l.length≤24) (hg : ∀ d∈l,pv d)
include hl hg
theorem ZQ : ∃ k e,mo l=some (k,e)∧(e=0→GN l):=by
 unfold mo
 rw [aE (by omega),no]
 rcases cH (f:=iH l) l.length (by omega) (fun i=>gR l (i:Int)=some 0) (fun i=>((i:Int),(gR l (i:Int)).getD 1))
  (fun i hi _=>by
   unfold iH
   obtain ⟨e,he,_⟩:=BV l hl hg hi
   simp only [aq (show (i:Int)<(l.length:Int) by omega),f9,he,f7,Zj,aW (n:=l.length) (by omega) hi,Wn,aet]
   grind)
  (fun _=>by unfold iH; grind) with ⟨hP,he⟩ | ⟨i,hi,_,hP,he⟩
 rotate_left
 ·rw [he]
  obtain ⟨e,he,_⟩:=BV l hl hg hi
  grind
 rw [he]
 have huniq:GN l:=by
  intro i j hi hj
  obtain ⟨e,he,h⟩:=BV l hl hg hi
  grind
 simp only [f7,Zj]
 obtain ⟨z2,hz2⟩:=wN (f:=iv l) l.length (by omega)
  (fun i hi=>by
   unfold iv
   obtain ⟨e,he⟩:=Vp l hl hg hi
   simp only [aq (show (i:Int)<(l.length:Int) by omega),f9,he,f7,Zj,aW (n:=l.length) (by omega) hi]
   grind)
  ⟨_,by unfold iv; rw [aE (by omega)]; rfl⟩
 obtain ⟨z3,hz3⟩:=wN (f:=ij l) l.length (by omega)
  (fun i hi=>by
   unfold ij
   obtain ⟨r,hr,hr2⟩:=CM l hl hg (l.getD i ([],[])).1 true
   obtain ⟨b,hb,_⟩:=Cf r (by omega) (l.getD i ([],[])).1
   simp only [aq (show (i:Int)<(l.length:Int) by omega),f9,aB ([],[]) hi,hr,hb,f7,aW (n:=l.length) (by omega) hi]
   grind)
  ⟨_,by unfold ij; rw [aE (by omega)]; rfl⟩
 rw [hz2]
 rcases z2 with z2 | z2
 ·simp only [f7,Zj,hz3]
  rcases z3 with z3 | z3
  ·grind
  grind
 grind
theorem WX (nm:ji) : ∃ s e,lV l nm=some (s,e)∧(e=0→GN l∧(∀ d∈s,d∈l)∧s.length≤1537∧∃ d∈s,d.1=nm):=by
 unfold lV
 obtain ⟨k,e,hc,hc2⟩:=ZQ l hl hg
 rw [hc]
 simp only [f7,Zj]
 by_cases he:e=0
 rotate_left
 ·rw [nt he]
  grind
 rw [nf he,no]
 rcases uu l (by omega) nm with ⟨q1,_⟩ | ⟨j,q1,q2,q3,_⟩
 ·rw [q1]
  exact ⟨[],6,rfl,fun h=>(by cases h)⟩
 rw [q1]
 simp only [f7,Zj,aE (show ¬ (j:Int)<0 by omega),no]
 obtain ⟨r,hr,hr2⟩:=CM l hl hg nm false
 obtain ⟨r4,p1,p2,p3⟩:=Ut r (by omega) nm
 rw [hr]
 simp only [f7,Zj,p1]
 have h0:0<l.length:=by omega
 obtain ⟨z,hz1,hz2⟩:=fw (f:=lq l r4) (fun s=>r4.length - s.2.toNat) (fun s=>∃ i:Nat,s.2=(i:Int)∧i≤r4.length∧s.1.length=i∧(∀ d∈s.1,d∈l)∧∀ k,k<i→r4.getD k []=nm→l.getD j ([],[])∈s.1) (fun s=>(∀ d∈s,d∈l)∧s.length≤r4.length∧l.getD j ([],[])∈s)
  (fun s hs=>by
   obtain ⟨o,s2⟩:=s
   obtain ⟨i,h1,hi,ho,hin,hk⟩:=hs
   dsimp only at h1 ho hin hk
   subst h1
   unfold lq
   rcases XJ i r4.length with hlt | hge
   ·right
    obtain ⟨ri,d,a1,a2,a3⟩:=xE l hl hg h0 (r4.getD i [])
    simp only [aq (show (i:Int)<(r4.length:Int) by omega),f9,aB [] hlt,f7,a1,a3,aW (n:=r4.length) (by omega) hlt]
    rw [jI (ba (by grind) (by omega))]
    refine ⟨_,rfl,⟨i+1,rfl,by omega,by simp [ho],fun d' hd' => ?_,fun k hk' hnm=>?_⟩,by grind⟩
    ·grind
    ·rcases XJ k i with hlt2 | hge2
     ·grind
     ·have:k=i:=by omega
      subst this
      rw [hnm,q1] at a1
      cases a1
      rw [if_neg (by omega),aB ([],[]) q2] at a3
      grind
   ·left
    have:i=r4.length:=by omega
    subst this
    simp only [aE (show ¬ (r4.length:Int)<(r4.length:Int) by omega),no]
    obtain ⟨k,hk1,hk2⟩:=aan.1 ((p2 nm).2 (.inr rfl))
    grind) (s:=([],0)) ⟨0,rfl,by omega,rfl,fun d hd=>(by cases hd),fun k hk=>absurd hk (by omega)⟩ (by grind)
 grind
theorem afL (hu:GN l) {d d' : Df} (h:d∈l) (h' : d' ∈ l) (hn:d.1=d'.1):d=d' := by
 obtain ⟨i,hi,rfl⟩:=aan.1 h
 obtain ⟨j,hj,rfl⟩:=aan.1 h'
 rcases ahb i j with hl | hl | hl
 ·have:=hu j i hj hl
  grind
 ·subst hl; rfl
 ·have:=hu i j hi hl
  grind
end
section
variable (s:List Df) (hl:s.length≤1537) (hg : ∀ d∈s,pv d)
include hl hg
theorem Uv (nm:ji) : ∃ c,lv s nm=some c∧c.1=[]∧c.2.1=[]∧c.2.2.1=[]∧c.2.2.2.1.length≤98368∧c.2.2.2.2.1.length≤1537∧c.2.2.2.2.2.1.length≤1537∧c.2.2.2.2.2.2.1.length≤1537∧c.2.2.2.2.2.2.2.length≤1538 ∧
  ∀ x∈c.2.2.2.2.2.2.2,x=nm∨∃ d∈s,d.1=x∧∃ n u,GoodN d n u∧n.1=5:=by
 unfold lv
 obtain ⟨c,h1,h2⟩:=fw (f:=kO s) (fun y=>s.length - y.1.toNat)
  (fun y=>∃ i:Nat,y.1=(i:Int)∧i≤s.length∧y.2.1=[]∧y.2.2.1=[]∧y.2.2.2.1=[]∧y.2.2.2.2.1.length≤64 * i∧y.2.2.2.2.2.1.length≤i∧y.2.2.2.2.2.2.1.length≤i∧y.2.2.2.2.2.2.2.1.length≤i∧y.2.2.2.2.2.2.2.2.length≤i∧∀ x∈y.2.2.2.2.2.2.2.2,∃ d∈s,d.1=x∧∃ n u,GoodN d n u∧n.1=5)
  (fun c=>c.1=[]∧c.2.1=[]∧c.2.2.1=[]∧c.2.2.2.1.length≤64 * s.length∧c.2.2.2.2.1.length≤s.length∧c.2.2.2.2.2.1.length≤s.length∧c.2.2.2.2.2.2.1.length≤s.length∧c.2.2.2.2.2.2.2.length≤s.length∧∀ x∈c.2.2.2.2.2.2.2,∃ d∈s,d.1=x∧∃ n u,GoodN d n u∧n.1=5)
  (fun y hy=>by
   obtain ⟨y0,c1,c2,c3,c4,c5,c6,c7,c8⟩:=y
   obtain ⟨i,h1,hi,e1,e2,e3,b4,b5,b6,b7,b8,hx⟩:=hy
   dsimp only at h1 e1 e2 e3 b4 b5 b6 b7 b8 hx
   subst h1 e1 e2 e3
   unfold kO
   rcases XJ i s.length with hlt | hge
   ·right
    have hmem:s.getD i ([],[])∈s:=by simp [hlt]
    obtain ⟨n,u,g⟩:=hg _ hmem
    have hk:=g.kids
    have hp : ∃ c:ax,mF s ((i:Int),[],[],[],c4,c5,c6,c7,c8)=some c∧c.1=[]∧c.2.1=[]∧c.2.2.1=[]∧c.2.2.2.1.length≤64 * (i+1)∧c.2.2.2.2.1.length≤i+1∧c.2.2.2.2.2.1.length≤i+1∧c.2.2.2.2.2.2.1.length≤i+1∧c.2.2.2.2.2.2.2.length≤i+1∧∀ x∈c.2.2.2.2.2.2.2,∃ d∈s,d.1=x∧∃ n u,GoodN d n u∧n.1=5:=by
     unfold mF
     simp only [aB ([],[]) hlt,f7,g.parse]
     by_cases h0:n.1=0
     ·obtain ⟨r,q1,q2⟩:=Of c4 (by omega) (n.2.1,n.2.2.1)
      rw [bt h0,f9,q1]
      exact ⟨_,rfl,rfl,rfl,rfl,by grind,by grind,by grind,by grind,by grind,hx⟩
     rw [bf h0,no]
     by_cases h1:n.1=1
     ·rw [bt h1,f9]
      obtain ⟨c,w1,w2⟩:=fw (f:=kr (n,0,0)) (fun y=>n.2.2.2.length - y.1.toNat)
       (fun y=>∃ (k:Nat) (v:List (ji×Int)),y=((k:Int),[],[],[],v,c5,c6,c7,c8)∧k≤n.2.2.2.length∧v.length=c4.length+k)
       (fun c=>∃ v:List (ji×Int),c=([],[],[],v,c5,c6,c7,c8)∧v.length=c4.length+n.2.2.2.length)
       (fun y hy=>by
        obtain ⟨k,v,rfl,hk1,hv⟩:=hy
        unfold kr
        rcases XJ k n.2.2.2.length with hlt2 | hge2
        ·right
         have hkl:=g.lens _ (show n.2.2.2.getD k (Nd.mk 0 [] 0 [])∈n.2.2.2 by simp [hlt2])
         have hnl:=g.len
         obtain ⟨r,q1,q2⟩:=Of v (by omega) ((n.2.1++mR)++(n.2.2.2.getD k (Nd.mk 0 [] 0 [])).tup.2.1,(n.2.2.2.getD k (Nd.mk 0 [] 0 [])).tup.2.2.1)
         have hS:mR.length=1:=rfl
         simp only [aq (show (k:Int)<(n.2.2.2.length:Int) by omega),f9,aB (Nd.mk 0 [] 0 []) hlt2,f7,af,aq (show n.2.1.length+mR.length≤9223372036854775807 by omega),aq (show (n.2.1++mR).length+(n.2.2.2.getD k (Nd.mk 0 [] 0 [])).tup.2.1.length≤9223372036854775807 by grind),q1,aW (n:=n.2.2.2.length) (by omega) hlt2]
         exact ⟨_,rfl,⟨k+1,r,rfl,by omega,by omega⟩,by grind⟩
        grind) (s:=(0,[],[],[],c4,c5,c6,c7,c8)) ⟨0,c4,rfl,by omega,by omega⟩ (by grind)
      grind
     rw [bf h1,no]
     by_cases h2:n.1=2
     ·rw [bt h2,f9,jI (ba (by grind) (by omega))]
      grind
     rw [bf h2,no]
     by_cases h3:n.1=3
     ·rw [bt h3,f9,jI (ba (by grind) (by omega))]
      grind
     rw [bf h3,no]
     by_cases h4:n.1=4
     ·rw [bt h4,f9,jI (ba (by grind) (by omega))]
      grind
     rw [bf h4,no]
     by_cases h5:n.1=5
     ·rw [bt h5,f9,jI (ba (by grind) (by omega))]
      refine ⟨_,rfl,rfl,rfl,rfl,by grind,by grind,by grind,by grind,by grind,fun x hxm=>?_⟩
      rcases Xd.1 hxm with hxm | hxm
      ·exact hx x hxm
      ·rw [Wz.1 hxm]
       exact ⟨_,hmem,g.name.symm,n,u,g,h5⟩
     rw [bf h5,no]
     grind
    obtain ⟨c,hp1,hp2,hp3,hp4,hp5,hp6,hp7,hp8,hp9,hp10⟩:=hp
    simp only [aq (show (i:Int)<(s.length:Int) by omega),f9,hp1,f7,Zj,aW (n:=s.length) (by omega) hlt]
    exact ⟨_,rfl,⟨i+1,rfl,by omega,hp2,hp3,hp4,hp5,hp6,hp7,hp8,hp9,hp10⟩,by grind⟩
   ·left
    simp only [aE (show ¬ (i:Int)<(s.length:Int) by omega),no]
    grind)
  (s:=(0,[],[],[],[],[],[],[],[])) ⟨0,rfl,by omega,rfl,rfl,rfl,by simp,by simp,by simp,by simp,by simp,fun x hx=>(by cases hx)⟩ (by grind)
 obtain ⟨p1,p2,p3,p4,p5,p6,p7,p8,p9⟩:=h2
 rw [h1]
 simp only [f7,Zj]
 rw [jI (ba (by grind) (by omega))]
 grind
end
def HQ (c:ax):Prop:=c.2.1.length≤100000∧c.2.2.1.length≤100000∧c.2.2.2.1.length≤100000∧c.2.2.2.2.1.length≤100000∧c.2.2.2.2.2.1.length≤100000∧c.2.2.2.2.2.2.1.length≤100000∧c.2.2.2.2.2.2.2.length≤100000
theorem Qb {c:ax} (h:HQ c):eP c:=by
 obtain ⟨h1,h2,h3,h4,h5,h6,h7⟩:=h
 exact ⟨by omega,by omega,by omega,by omega,by omega,by omega,by omega⟩
theorem za:HQ ([],[],[],[],[],[],[],[]):=⟨by simp,by simp,by simp,by simp,by simp,by simp,by simp⟩
theorem aeV {s:List Df} {d:Df} {n:Tn} {u:List bi} (hs:s.length≤1537) (g:GoodN d n u) (hk:n.1=5∨n.1=6) {m:Mk} {j:Nat} (hi:i<m.1.2.2.2.2.2.2.2.length) (hj:bP s (m.1.2.2.2.2.2.2.2.getD i [])=some (j:Int)) (hjl:j<s.length) (hd:s.getD j ([],[])=d)
  (h1:m.1.1.length≤401 * i) (h2:m.1.2.1.length≤i) (h3:m.1.2.2.1.length≤i) (h4:m.1.2.2.2.1.length≤98368) (h5:m.1.2.2.2.2.1.length≤1537) (h6:m.1.2.2.2.2.2.1.length≤1537) (h7:m.1.2.2.2.2.2.2.1.length≤1537) (h8:m.1.2.2.2.2.2.2.2.length≤1538) :
  ∃ m' : Mk,lL (na (i:Int) m) (s,0)=some (na 0 m').2∧m'.1.1.length≤401 * (i+1)∧m'.1.2.1.length≤i+1∧m'.1.2.2.1.length≤i+1∧m'.1.2.2.2=m.1.2.2.2:=by
 obtain ⟨k,r,bm,bb,e1,e2,e3,e4,e5⟩:=g.proc hk
 unfold lL
 simp only [na,aB [] hi,f7,hj,aB ([],[]) hjl,hd,g.parse]
 rw [jI (ba (by grind) (by omega))]
 obtain ⟨m1,a1,a2⟩:=ua 64 ((m.1.1,m.1.2.1++([(m.1.1.length:Int)]:List Int),m.1.2.2.1,m.1.2.2.2.1,m.1.2.2.2.2.1,m.1.2.2.2.2.2.1,m.1.2.2.2.2.2.2.1,m.1.2.2.2.2.2.2.2),([]:List ji),0) n bm e2
  ⟨by grind,by grind,by grind,by grind,by grind,by grind,by grind⟩
 rw [show lM _ _=some m1 from a1]
 obtain ⟨c1,c2,c3,c4⟩:=a2
 dsimp only [List.length_nil] at c1 c2 c3 c4
 obtain ⟨m2,d1,d2⟩:=XI 64 m1 k.tup bb e3 ⟨by omega,by omega,by grind,by grind,by grind,by grind,by grind⟩
 simp only [f7,Zj,e1,vU]
 rw [show kV m1 (k.tup.1,k.tup.2.1,k.tup.2.2.1,k.tup.2.2.2)=some m2 from d1]
 simp only [f7,Zj]
 obtain ⟨f1,f2,f3,f4⟩:=d2
 have g2:m2.1.2=(m.1.2.1++([(m.1.1.length:Int)]:List Int),m.1.2.2):=f1.trans c1
 have he : ∃ m3:Mk,(bif decide ((ad ((i:Int)+(1:Int)))<(m2.1.2.2.2.2.2.2.2.length:Int)) then (aD m2 13 0 0).bind fun r21=>some (na 0 r21).2 else (aD m2 28 0 0).bind fun r22=>some (na 0 r22).2)=some (na 0 m3).2∧Gw 1 m2 m3:=by
  have room:pE m2 1:=⟨by omega,by omega,by grind,by grind,by grind,by grind,by grind⟩
  cases decide ((ad ((i:Int)+(1:Int)))<(m2.1.2.2.2.2.2.2.2.length:Int))
  ·obtain ⟨m3,q1,q2,_⟩:=mT room 28 0 0
   grind
  ·obtain ⟨m3,q1,q2,_⟩:=mT room 13 0 0
   grind
 obtain ⟨m3,q1,q2⟩:=he
 obtain ⟨p1,p2,p3,p4⟩:=q2
 have g3:=p1.trans g2
 have l2:m3.1.2.1.length=m.1.2.1.length+1:=by rw [g3]; simp
 have l3:m3.1.2.2.1=m.1.2.2.1:=by rw [g3]
 have l4:m3.1.2.2.2=m.1.2.2.2:=by rw [g3]
 refine ⟨((m3.1.1,m3.1.2.1,m3.1.2.2.1++([(m3.2.1.length:Int)]:List Int),m3.1.2.2.2),m3.2),?_,by grind,by grind,by grind,l4⟩
 refine (XZ (fun z:Option yC=>z.bind _) q1).trans ?_
 simp only [f7,Zj,na]
 rw [jI (ba (by grind) (by omega))]
theorem PA (l:List Df) (hl:l.length≤24) (hg : ∀ d∈l,pv d) (nm:ji) : ∃ c e,iy l nm=some (c,e)∧HQ c∧c.1.length≤512:=by
 unfold iy
 obtain ⟨s,e,hs,hs2⟩:=WX l hl hg nm
 rw [hs]
 simp only [f7,Zj]
 by_cases he:e=0
 rotate_left
 ·rw [nt he]
  exact ⟨_,_,rfl,za,by simp⟩
 obtain ⟨hu,hsl,hsn,d0,hd0,hd0n⟩:=hs2 he
 subst he
 simp only [Zh,no]
 have hgs : ∀ d∈s,pv d:=fun d hd=>hg d (hsl d hd)
 have bg : ∀ d∈s,∃ j:Nat,bP s d.1=some (j:Int)∧j<s.length∧s.getD j ([],[])=d:=by
  intro d hd
  rcases uu s (by omega) d.1 with ⟨q1,q2⟩ | ⟨j,q1,q2,q3,_⟩
  ·obtain ⟨k,hk,rfl⟩:=aan.1 hd
   grind
  ·exact ⟨j,q1,q2,afL l hl hg hu (hsl _ (by simp [q2])) (hsl d hd) q3⟩
 obtain ⟨j0,i1,i2,i3⟩:=bg d0 hd0
 rw [hd0n] at i1
 obtain ⟨n0,u0,g0⟩:=hgs d0 hd0
 rw [i1]
 simp only [f7,Zj,aB ([],[]) i2,i3,g0.parse]
 by_cases h6:n0.1=6
 rotate_left
 ·rw [nt h6]
  exact ⟨_,_,rfl,za,by simp⟩
 rw [nf h6,no]
 obtain ⟨c,t1,t2,t3,t4,t5,t6,t7,t8,t9,t10⟩:=Uv s hsn hgs nm
 rw [t1]
 simp only [f7,Zj]
 obtain ⟨z,z1,z2⟩:=fw (f:=jZ (s,0)) (fun y=>c.2.2.2.2.2.2.2.length - y.1.toNat)
  (fun y=>∃ (i:Nat) (m:Mk),y=na (i:Int) m∧i≤c.2.2.2.2.2.2.2.length∧m.1.1.length≤401 * i∧m.1.2.1.length≤i∧m.1.2.2.1.length≤i∧m.1.2.2.2=c.2.2.2)
  (fun r=>∃ m:Mk,r=(na 0 m).2∧m.1.2.1.length≤1538∧m.1.2.2.1.length≤1538∧m.1.2.2.2=c.2.2.2)
  (fun y hy=>by
   obtain ⟨i,m,rfl,hi,b1,b2,b3,b4⟩:=hy
   have bn:m.1.2.2.2.2.2.2.2=c.2.2.2.2.2.2.2:=by rw [b4]
   unfold jZ
   rcases XJ i c.2.2.2.2.2.2.2.length with hlt | hge
   ·right
    have hx:=t10 (c.2.2.2.2.2.2.2.getD i []) (by simp [hlt])
    have hfind : ∃ (d:Df) (n:Tn) (u:List bi) (j:Nat),GoodN d n u∧(n.1=5∨n.1=6)∧bP s (c.2.2.2.2.2.2.2.getD i [])=some (j:Int)∧j<s.length∧s.getD j ([],[])=d:=by
     rcases hx with hx | ⟨d,hd,hdn,n,u,g,h5⟩
     ·grind
     ·obtain ⟨j,q1,q2,q3⟩:=bg d hd
      grind
    obtain ⟨d,n,u,j,g,hk,q1,q2,q3⟩:=hfind
    obtain ⟨m',v1,v2,v3,v4,v5⟩:=aeV hsn g hk (i:=i) (m:=m) (by grind) (by grind) q2 q3 b1 b2 b3 (by grind) (by grind) (by grind) (by grind) (by grind)
    refine ⟨na ((i+1:Nat):Int) m',?_,⟨i+1,m',rfl,by omega,v2,v3,v4,v5.trans b4⟩,by show _ - ((i+1:Nat):Int).toNat<_ - (i:Int).toNat; omega⟩
    rw [v1]
    simp only [na,bn,show (i:Int)<(c.2.2.2.2.2.2.2.length:Int) by omega,ZU,f9,f7,Zj,aW (n:=c.2.2.2.2.2.2.2.length) (by omega) hlt]
    rfl
   ·left
    have:i=c.2.2.2.2.2.2.2.length:=by omega
    subst this
    refine ⟨(na 0 m).2,?_,m,rfl,by omega,by omega,b4⟩
    simp only [na,bn,aer,Zw,no]) (s:=na 0 (c,[],0)) ⟨0,(c,[],0),rfl,by omega,by rw [t2]; simp,by rw [t3]; simp,by rw [t4]; simp,rfl⟩ (by grind)
 obtain ⟨m,rfl,b2,b3,b4⟩:=z2
 by_cases h512:(512:Int)<(m.1.1.length:Int)
 ·refine ⟨([],[],[],[],[],[],[],[]),4,(XZ (fun z:Option yC=>z.bind _) z1).trans ?_,za,by simp⟩
  simp only [f7,Zj,na,h512,ZU,f9]
 ·refine ⟨m.1,0,(XZ (fun z:Option yC=>z.bind _) z1).trans ?_,⟨by omega,by omega,by rw [b4]; omega,by rw [b4]; omega,by rw [b4]; omega,by rw [b4]; omega,by rw [b4]; omega⟩,by omega⟩
  simp only [f7,Zj,na,h512,Zw,no]
set_option maxRecDepth 100000
def gv (kind i v:Int):Bool:=match cv kind i v with
 | some p=>p.all F5&&Nat.ble p.length 6
 | none=>false
def kg (kind:Int) (n:Nat):Bool:=[0,1,2].all fun i=>(List.range n).all fun v=>gv kind i (v:Int)
theorem akM:kg 0 8=true:=by kernel_rfl
theorem akC:kg 1 8=true:=by kernel_rfl
theorem akk:kg 2 8=true:=by kernel_rfl
theorem aky:kg 3 8=true:=by kernel_rfl
theorem akr:kg 4 8=true:=by kernel_rfl
theorem akN:kg 5 8=true:=by kernel_rfl
theorem aks:kg 6 3=true:=by kernel_rfl
theorem aka:kg 7 3=true:=by kernel_rfl
theorem aj9:kg 8 2=true:=by kernel_rfl
theorem akq:kg 9 2=true:=by kernel_rfl
theorem aij:kg 10 3=true:=by kernel_rfl
theorem ajh:kg 11 3=true:=by kernel_rfl
theorem ahH:kg 12 3=true:=by kernel_rfl
theorem ajK:kg 13 18=true:=by kernel_rfl
theorem MR:F5 (pS,ly)=true:=by kernel_rfl
end Go.Proofs.YtfhhiajfciblbaaGreatDoor
