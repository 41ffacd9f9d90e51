/- Laws for the row. No condition. -/
import Derived.Test.YtfhhiajfciblbaaGreatDoorFn
namespace Go.Proofs.YtfhhiajfciblbaaGreatDoor
open Go.Sm
variable {i pc n j:Nat} {st b:List Int} {w a op:Int} {α R:Type} {c:ax} {acc:List ((Int×Int×Bool)×Bool)}
instance instItr:Itr:=itF
theorem EP {S R:Type} (f:S→Option (S⊕R)) (m:S→Nat) (F:S→R) (inv:S→Prop)
  (hstep : ∀ s,inv s→f s=some (.inr (F s))∨∃ s',f s=some (.inl s')∧inv s' ∧ m s' < m s∧F s' = F s) : ∀ (k:Nat) (s:S),inv s→m s<k→un f k s=some (F s)
 | 0,s,_,h=>by omega
 | k+1,s,hs,h=>by
  rcases hstep s hs with h1 | ⟨s',h1,h2,h3,h4⟩
  ·simp only [un,h1,f7,Zj]
  ·simp only [un,h1,f7,Zj]
   rw [EP f m F inv hstep k s' h2 (by omega),h4]
theorem dc {S:Type} {f:S→Option (S⊕R)} (m:S→Nat) (F:S→R) (inv:S→Prop)
  (hstep : ∀ s,inv s→f s=some (.inr (F s))∨∃ s',f s=some (.inl s')∧inv s' ∧ m s' < m s∧F s' = F s) {s:S} (hs:inv s) (hm:m s<9223372036854775808):Itr.it f s=some (F s):=
 EP f m F inv hstep Sj s hs hm
theorem aY {x:Int} (h1 : -9223372036854775808≤x) (h2:x≤9223372036854775807):ad x=x:=by
 rw [ad,IntKind.wrap_i64]; omega
theorem bG {xs:List α}  {x:α} (h:xs[i]? = some x):ac xs (i:Int)=some x:=by
 simp [ac,h]
theorem jI {b:Bool} {m:Option α} (h:b=true):af b m=m:=by subst h; rfl
theorem ba {m k b:Nat} (h:(m+k) * b≤140737488355328) (hb:1≤b):aK m k b=true:=by
 unfold aK
 rw [Z4]
 refine ⟨h,?_⟩
 have:m+k≤(m+k) * b:=ajl _ hb
 simp only [maxLen]
 omega
theorem cK {xs:List α}  {x:α} (h:xs[i]? = some x):i<xs.length:=(XW.1 h).1
theorem aq {p:Prop} [Decidable p] (h:p):decide p=true:=aeT h
theorem aE {p:Prop} [Decidable p] (h : ¬ p):decide p=false:=ajI h
theorem bt {b:Int} (h:a=b):(a==b)=true:=abd.2 h
theorem bf {b:Int} (h : ¬ a=b):(a==b)=false:=XT.2 h
theorem nt {b:Int} (h : ¬ a=b):(a != b)=true:=bne_iff_ne.2 h
theorem nf {b:Int} (h:a=b):(a != b)=false:=bne_eq_false_iff_eq.2 h
theorem fw {S:Type} {f:S→Option (S⊕R)} (m:S→Nat) (inv:S→Prop) (Q:R→Prop)
  (hstep : ∀ s,inv s→(∃ r,f s=some (.inr r)∧Q r)∨∃ s',f s=some (.inl s')∧inv s' ∧ m s' < m s) {s:S} (hs:inv s) (hm:m s<9223372036854775808) : ∃ r,Itr.it f s=some r∧Q r:=by
 have gen : ∀ (k:Nat) (s:S),inv s→m s<k→∃ r,un f k s=some r∧Q r:=by
  intro k
  induction k with
  | zero=>grind
  | succ k ih=>
   intro s hs h
   rcases hstep s hs with ⟨r,h1,h2⟩ | ⟨s',h1,h2,h3⟩
   ·exact ⟨r,by simp only [un,h1,f7,Zj],h2⟩
   ·obtain ⟨r,e1,e2⟩:=ih s' h2 (by omega)
    exact ⟨r,by simp only [un,h1,f7,Zj]; exact e1,e2⟩
 exact gen Sj s hs hm
set_option linter.unusedSimpArgs false
set_option linter.unusedVariables false
theorem aB {xs:List α}  (d:α) (h:i<xs.length):ac xs (i:Int)=some (xs.getD i d):=by
 simp [ac,h]
theorem aT {xs:List α} {k:Int} (d:α) (h0:0≤k) (h:k<xs.length):ac xs k=some (xs.getD k.toNat d):=by
 have h1:k.toNat<xs.length:=by omega
 simp [ac,h0,h1]
theorem aW (hn:n<9223372036854775808) (h:i<n):ad ((i:Int)+1)=(i:Int)+1:=aY (by omega) (by omega)
theorem Bo (hn:n<9223372036854775808) (h:i<n) (h0:0<i):ad ((i:Int) - 1)=((i - 1:Nat):Int):=by rw [aY (by omega) (by omega)]; omega
theorem FK {f:Int→Option (Int⊕(Unit⊕R))} (a n:Nat) (ha:a≤n) (hn:n<9223372036854775808) (P:Nat→Prop) (Z:Nat→R)
  (hstep : ∀ i:Nat,a≤i→i<n→(∀ j,a≤j→j<i→P j)→(P i∧f (i:Int)=some (.inl ((i:Int)+1)))∨(¬ P i∧f (i:Int)=some (.inr (.inr (Z i)))))
  (hend:(∀ j,a≤j→j<n→P j)→f (n:Int)=some (.inr (.inl ()))) :
  ((∀ j,a≤j→j<n→P j)∧Itr.it f (a:Int)=some (.inl ()))∨∃ i,a≤i∧i<n∧(∀ j,a≤j→j<i→P j)∧¬ P i∧Itr.it f (a:Int)=some (.inr (Z i)):=by
 obtain ⟨r,h1,h2⟩:=fw (f:=f) (fun s=>n - s.toNat) (fun s=>∃ i:Nat,s=(i:Int)∧a≤i∧i≤n∧∀ j,a≤j→j<i→P j)
  (fun r=>((∀ j,a≤j→j<n→P j)∧r = .inl ())∨∃ i,a≤i∧i<n∧(∀ j,a≤j→j<i→P j)∧¬ P i∧r = .inr (Z i))
  (fun s hs=>by
   obtain ⟨i,rfl,hia,hi,hP⟩:=hs
   rcases XJ i n with hlt | hge
   ·rcases hstep i hia hlt hP with ⟨hp,he⟩ | ⟨hp,he⟩
    ·refine .inr ⟨_,he,⟨i+1,by simp,by omega,by omega,fun j hj0 hj=>?_⟩,?_⟩
     ·grind
     grind
    ·exact .inl ⟨_,he, .inr ⟨i,hia,hlt,hP,hp,rfl⟩⟩
   ·have:i=n:=by omega
    simp_all) (s:=(a:Int)) ⟨a,rfl,by omega,ha,fun j hj0 hj=>by omega⟩ (by grind)
 grind
theorem cH {f:Int→Option (Int⊕(Unit⊕R))} (n:Nat) (hn:n<9223372036854775808) (P:Nat→Prop) (Z:Nat→R)
  (hstep : ∀ i:Nat,i<n→(∀ j,j<i→P j)→(P i∧f (i:Int)=some (.inl ((i:Int)+1)))∨(¬ P i∧f (i:Int)=some (.inr (.inr (Z i)))))
  (hend:(∀ j,j<n→P j)→f (n:Int)=some (.inr (.inl ()))) :
  ((∀ j,j<n→P j)∧Itr.it f (0:Int)=some (.inl ()))∨∃ i,i<n∧(∀ j,j<i→P j)∧¬ P i∧Itr.it f (0:Int)=some (.inr (Z i)):=by
 rcases FK (f:=f) 0 n (by omega) hn P Z (fun i _ hi hP=>hstep i hi fun j hj=>hP j (by omega) hj) (fun hP=>hend fun j hj=>hP j (by omega) hj) with ⟨h1,h2⟩ | ⟨i,_,h1,h2,h3,h4⟩
 ·grind
 grind
theorem eW {xs:List α}  (d:α) (h:i<xs.length):xs.take (i+1)=xs.take i++[xs.getD i d]:=by
 simp_all
theorem rg (l:List (List UInt8×Int)) (h:l.length≤1048576):dw l=some (l.map (·.1)):=by
 unfold dw
 have:=dc (f:=kX l) (fun s=>l.length - s.2.toNat) (fun _=>l.map (·.1)) (fun s=>∃ i:Nat,s=((l.take i).map (·.1),(i:Int))∧i≤l.length)
  (fun s hs=>by
   obtain ⟨i,rfl,hi⟩:=hs
   unfold kX
   rcases XJ i l.length with hlt | hge
   ·right
    refine ⟨((l.take (i+1)).map (·.1),((i+1:Nat):Int)),?_,⟨i+1,rfl,by omega⟩,?_,rfl⟩
    ·simp only [aq (show (i:Int)<(l.length:Int) by omega),f9,aB ([],0) hlt,f7]
     rw [jI (ba (by grind) (by omega)),aW (n:=l.length) (by omega) hlt,eW ([],0) hlt]
     simp
    grind
   grind) (s:=([],0)) ⟨0,rfl,by omega⟩ (by grind)
 rw [this]; rfl
theorem IL (l:List (List UInt8×Int)) (h:l.length≤1048576):tZ l=some (l.map (·.1)):=rg l h
def xg (l:List (List UInt8)):Prop:=∀ i,i<l.length→0<i→Op.bytesLess (l.getD (i - 1) []) (l.getD i [])=true
theorem mM (l:List (List UInt8)) (h:l.length≤1048576) : ∃ b,dN l=some b∧(b=true↔xg l):=by
 unfold dN
 rcases cH (f:=fD l) (l.length - 1) (by omega) (fun i=>Op.bytesLess (l.getD i []) (l.getD (i+1) [])=true) (fun _=>false)
  (fun i hi hP=>by
   have e:ad ((i:Int)+1)=((i+1:Nat):Int):=by rw [aW (n:=l.length) (by omega) (by omega)]; rfl
   unfold fD
   simp only [e,aq (show ((i+1:Nat):Int)<(l.length:Int) by omega),f9,aB [] (show i<l.length by omega),aB [] (show i+1<l.length by omega),f7]
   grind)
  (fun hP=>by
   unfold fD
   rcases l with _ | ⟨x,l⟩
   ·rfl
   ·rw [aY (by grind) (by grind),aE (by simp)]
    rfl) with ⟨hP,he⟩ | ⟨i,hi,_,hP,he⟩
 ·rw [he]
  refine ⟨true,rfl,⟨fun _ i hi h0=>?_,fun _=>rfl⟩⟩
  grind
 ·rw [he]
  refine ⟨false,rfl,⟨fun h=>(by cases h),fun h=>?_⟩⟩
  exact absurd (h (i+1) (by omega) (by omega)) (by simpa using hP)
theorem ahF (l:List (List UInt8)) (h:l.length≤1048576):(xg l∧Itr.it (iJ l) 0=some (.inl ()))∨(¬ xg l∧Itr.it (iJ l) 0=some (.inr (.inr (.inr false)))):=by
 rcases cH (f:=iJ l) l.length (by omega) (fun i=>0<i→Op.bytesLess (l.getD (i - 1) []) (l.getD i [])=true) (fun _=>.inr (.inr false))
  (fun i hi hP=>by
   unfold iJ
   rcases agU i with rfl | h0
   ·left
    refine ⟨fun h=>by omega,?_⟩
    simp only [aq (show ((0:Nat):Int)<(l.length:Int) by omega),aE (show ¬ (0:Int)<((0:Nat):Int) by omega),f9,no,f7,Zj]
    rfl
   ·have e:ad ((i:Int) - 1)=((i - 1:Nat):Int):=Bo (n:=l.length) (by omega) hi h0
    simp only [aq (show (i:Int)<(l.length:Int) by omega),aq (show (0:Int)<(i:Int) by omega),f9,e,aB [] hi,aB [] (show i - 1<l.length by omega),f7,aW (n:=l.length) (by omega) hi]
    grind)
  (fun hP=>by unfold iJ; grind) with ⟨hP,he⟩ | ⟨i,hi,_,hP,he⟩
 ·exact .inl ⟨fun i hi h0=>hP i hi h0,he⟩
 ·exact .inr ⟨fun h=>hP fun h0=>h i hi h0,he⟩
def ul (c:ax) (i:Nat):Prop:=
 (i=0→c.2.1.getD 0 0=0)∧(0<i→c.2.1.getD (i - 1) 0<c.2.1.getD i 0)∧0≤c.2.1.getD i 0∧c.2.1.getD i 0<c.1.length∧0≤c.2.2.1.getD i 0∧c.2.2.1.getD i 0≤512
def St (c:ax):Prop:=∀ i,i<c.2.2.2.2.1.length→0≤(c.2.2.2.2.1.getD i ([],0)).2∧(c.2.2.2.2.1.getD i ([],0)).2≤3
def Ky (c:ax):Prop:=1≤c.2.1.length∧c.2.2.1.length=c.2.1.length∧c.2.2.2.2.2.2.2.length=c.2.1.length
def Qr (c:ax):Prop:=xg (c.2.2.2.1.map (·.1))∧xg (c.2.2.2.2.1.map (·.1))∧xg c.2.2.2.2.2.1∧xg c.2.2.2.2.2.2.1
def lQ (c:ax):Prop:=Ky c∧Qr c∧(∀ i,i<c.2.1.length→ul c i)∧St c
def eP (c:ax):Prop:=c.2.1.length≤1048576∧c.2.2.1.length≤1048576∧c.2.2.2.1.length≤1048576∧c.2.2.2.2.1.length≤1048576∧c.2.2.2.2.2.1.length≤1048576∧c.2.2.2.2.2.2.1.length≤1048576∧c.2.2.2.2.2.2.2.length≤1048576
theorem W8 (c:ax) (hl:c.1.length≤512) (hs:eP c) (hp:Ky c) (i:Nat) (hi:i<c.2.1.length) (hP : ∀ j,j<i→ul c j) :
  (ul c i∧d6 c (i:Int)=some (.inl ((i:Int)+1)))∨(¬ ul c i∧d6 c (i:Int)=some (.inr (.inr false))):=by
 obtain ⟨p1,p2,p3⟩:=hp
 obtain ⟨s1,s2,s3⟩:=hs
 have hi2:i<c.2.2.1.length:=by omega
 unfold d6 pK
 generalize hb:c.2.1.getD i 0=b
 generalize hq:c.2.2.1.getD i 0=q
 have e1:=aB (0:Int) hi
 have e2:=aB (0:Int) hi2
 rw [hb] at e1
 rw [hq] at e2
 rcases agU i with rfl | h0
 ·have hB:ul c 0↔(b=0∧(0:Int)<c.1.length∧0≤q∧q≤512):=by
   unfold ul
   grind
  have e1' : ac c.2.1 0=some b:=e1
  have e2' : ac c.2.2.1 0=some q:=e2
  rw [hB]
  simp only [aq (show ((0:Nat):Int)<(c.2.1.length:Int) by omega),aE (show ¬ (0:Int)<((0:Nat):Int) by omega),f9,no,f7,Zj,e1,e2,show (((0:Nat):Int)==(0:Int))=true from rfl]
  by_cases h1:b<0
  ·right
   exact ⟨by omega,by simp [h1]⟩
  by_cases h2:0<b
  ·right
   exact ⟨by omega,by simp [h1,h2]⟩
  by_cases h3:(c.1.length:Int)≤b
  ·right
   exact ⟨by omega,by simp [h1,h2,h3]⟩
  by_cases h4:q<0
  ·right
   exact ⟨by omega,by simp [h1,h2,h3,h4]⟩
  by_cases h5:512<q
  ·right
   exact ⟨by omega,by simp [h1,h2,h3,h4,h5]⟩
  left
  refine ⟨by omega,?_⟩
  simp [h1,h2,h3,h4,h5]
  rfl
 ·have hpr:i - 1<c.2.1.length:=by omega
  have e3:=aB (0:Int) hpr
  generalize ha:c.2.1.getD (i - 1) 0=a
  rw [ha] at e3
  have hbp:=hP (i - 1) (by omega)
  unfold ul at hbp
  rw [ha] at hbp
  obtain ⟨_,_,ha0,ha1,_,_⟩:=hbp
  have hB:ul c i↔(a+1≤b∧b<c.1.length∧0≤q∧q≤512):=by
   unfold ul
   grind
  rw [hB]
  have ew:ad (a+1)=a+1:=aY (by omega) (by omega)
  simp only [aq (show (i:Int)<(c.2.1.length:Int) by omega),aq (show (0:Int)<(i:Int) by omega),f9,Bo (n:=c.2.1.length) (by omega) hi h0,e3,ew,f7,Zj,e1,e2,show ((i:Int)==(0:Int))=false by grind]
  by_cases h1:b<a+1
  ·right
   exact ⟨by omega,by simp [h1]⟩
  by_cases h3:(c.1.length:Int)≤b
  ·right
   exact ⟨by omega,by simp [h1,h3]⟩
  by_cases h4:q<0
  ·right
   exact ⟨by omega,by simp [h1,h3,h4]⟩
  by_cases h5:512<q
  ·right
   exact ⟨by omega,by simp [h1,h3,h4,h5]⟩
  left
  refine ⟨by omega,?_⟩
  simp [h1,h3,h4,h5]
  exact aW (n:=c.2.1.length) (by omega) hi
theorem aaM (c:ax) (hs:eP c):(St c∧Itr.it (dX c) 0=some (.inl ()))∨(¬ St c∧Itr.it (dX c) 0=some (.inr false)):=by
 have hn:c.2.2.2.2.1.length≤1048576:=hs.2.2.2.1
 rcases cH (f:=dX c) c.2.2.2.2.1.length (by omega) (fun i=>0≤(c.2.2.2.2.1.getD i ([],0)).2∧(c.2.2.2.2.1.getD i ([],0)).2≤3) (fun _=>false)
  (fun i hi _=>by
   unfold dX
   have e:=aB (([],0):List UInt8×Int) hi
   generalize c.2.2.2.2.1.getD i ([],0)=x at e ⊢
   simp only [aq (show (i:Int)<(c.2.2.2.2.1.length:Int) by omega),f9,e,f7,Zj,aW (n:=c.2.2.2.2.1.length) (by omega) hi]
   grind)
  (fun _=>by unfold dX; grind) with ⟨hP,he⟩ | ⟨i,hi,_,hP,he⟩
 ·exact .inl ⟨hP,he⟩
 ·exact .inr ⟨fun h=>hP (h i hi),he⟩
theorem FX (c:ax) (hl:c.1.length≤512) (hs:eP c) : ∃ b,lw c=some b∧(b=true↔lQ c):=by
 have hs0:=hs
 obtain ⟨s1,s2,s3,s4,s5,s6,s7⟩:=hs0
 unfold lw
 dsimp only
 by_cases hp:Ky c
 ·have p1 : ¬ ((c.2.1.length:Int)<1):=by have:=hp.1; omega
  have p2:(c.2.2.1.length:Int)=c.2.1.length:=by have:=hp.2.1; omega
  have p3:(c.2.2.2.2.2.2.2.length:Int)=c.2.1.length:=by have:=hp.2.2; omega
  obtain ⟨b1,g1,k1⟩:=mM (c.2.2.2.1.map (·.1)) (by simpa using s3)
  obtain ⟨b2,g2,k2⟩:=mM (c.2.2.2.2.1.map (·.1)) (by simpa using s4)
  obtain ⟨b3,g3,k3⟩:=mM c.2.2.2.2.2.1 s5
  obtain ⟨b4,g4,k4⟩:=mM c.2.2.2.2.2.2.1 s6
  have q2:((c.2.2.1.length:Int) != (c.2.1.length:Int))=false:=by simp [p2]
  have q3:((c.2.2.2.2.2.2.2.length:Int) != (c.2.1.length:Int))=false:=by simp [p3]
  simp only [aE p1,q2,q3,no,f9,Xo,rg _ s3,f7,Zj,g1]
  cases b1
  ·exact ⟨false,rfl,fun h=>(by cases h),fun h=>(by have:=k1.2 h.2.1.1; cases this)⟩
  simp only [XO,Xo,no,f9,rg _ s4,f7,Zj,g2]
  cases b2
  ·exact ⟨false,rfl,fun h=>(by cases h),fun h=>(by have:=k2.2 h.2.1.2.1; cases this)⟩
  simp only [XO,Xo,no,f9,f7,Zj,g3]
  cases b3
  ·exact ⟨false,rfl,fun h=>(by cases h),fun h=>(by have:=k3.2 h.2.1.2.2.1; cases this)⟩
  simp only [XO,Xo,no,f9,f7,Zj,g4]
  cases b4
  ·exact ⟨false,rfl,fun h=>(by cases h),fun h=>(by have:=k4.2 h.2.1.2.2.2; cases this)⟩
  simp only [XO,no]
  have hinc:Qr c:=⟨k1.1 rfl,k2.1 rfl,k3.1 rfl,k4.1 rfl⟩
  rcases cH (f:=d6 c) c.2.1.length (by omega) (ul c) (fun _=>false) (W8 c hl hs hp) (fun _=>by unfold d6; grind) with ⟨hP,he⟩ | ⟨i,hi,_,hP,he⟩
  ·rw [he]
   simp only [f7,Zj]
   rcases aaM c hs with ⟨hc,he⟩ | ⟨hc,he⟩
   ·rw [he]; exact ⟨true,rfl,fun _=>⟨hp,hinc,hP,hc⟩,fun _=>rfl⟩
   ·rw [he]; exact ⟨false,rfl,fun h=>(by cases h),fun h=>absurd h.2.2.2 hc⟩
  ·rw [he]; exact ⟨false,rfl,fun h=>(by cases h),fun h=>absurd (h.2.2.1 i hi) hP⟩
 ·refine ⟨false,?_,fun h=>(by cases h),fun h=>absurd h.1 hp⟩
  by_cases p1:(c.2.1.length:Int)<1
  ·grind
  rw [aE p1]
  by_cases p2:(c.2.2.1.length:Int)=c.2.1.length
  ·have p3 : ¬ ((c.2.2.2.2.2.2.2.length:Int)=c.2.1.length):=fun h=>hp ⟨by omega,by omega,by omega⟩
   grind
  grind
def IU (c:ax) (i:Nat):Prop:=(0<i→c.2.1.getD (i - 1) 0<c.2.1.getD i 0)∧0≤c.2.2.1.getD i 0∧c.2.2.1.getD i 0≤512
theorem aix (c:ax) (h0:c.2.1.getD 0 0=0) (hl:c.2.1.getD (c.2.1.length - 1) 0<c.1.length) (h : ∀ i,i<c.2.1.length→IU c i) : ∀ i,i<c.2.1.length→ul c i:=by
 have up : ∀ i,i<c.2.1.length→0≤c.2.1.getD i 0:=by
  intro i
  induction i with
  | zero=>intro _; omega
  | succ i ih=>intro hi; have:=ih (by omega); have:=(h (i+1) hi).1 (by omega); grind
 have dn : ∀ k i,i+k+1=c.2.1.length→c.2.1.getD i 0≤c.2.1.getD (c.2.1.length - 1) 0:=by
  intro k
  induction k with
  | zero=>grind
  | succ k ih=>intro i hi; have:=ih (i+1) (by omega); have:=(h (i+1) (by omega)).1 (by omega); grind
 intro i hi
 have:=dn (c.2.1.length - 1 - i) i (by omega)
 obtain ⟨h1,h2,h3⟩:=h i hi
 exact ⟨fun e=>h0,h1,up i hi,by omega,h2,h3⟩
theorem T9 (c:ax) (hs:eP c) (hp:Ky c) (i:Nat) (hi:i<c.2.1.length) :
  (IU c i∧iM c (i:Int)=some (.inl ((i:Int)+1)))∨(¬ IU c i∧iM c (i:Int)=some (.inr (.inr false))):=by
 obtain ⟨p1,p2,p3⟩:=hp
 obtain ⟨s1,s2,s3⟩:=hs
 have hi2:i<c.2.2.1.length:=by omega
 unfold iM IU
 have e1:=aB (0:Int) hi
 have e2:=aB (0:Int) hi2
 generalize c.2.1.getD i 0=b at e1 ⊢
 generalize c.2.2.1.getD i 0=q at e2 ⊢
 have ew:=aW (n:=c.2.1.length) (by omega) hi
 rcases agU i with rfl | h0
 ·grind
 ·have hpr:i - 1<c.2.1.length:=by omega
  have e3:=aB (0:Int) hpr
  generalize c.2.1.getD (i - 1) 0=a at e3 ⊢
  simp only [aq (show (i:Int)<(c.2.1.length:Int) by omega),aq (show (0:Int)<(i:Int) by omega),f9,Bo (n:=c.2.1.length) (by omega) hi h0,e3,f7,Zj,e1,e2,ew]
  grind
theorem Vm (c:ax) (hs:eP c) : ∃ b,dK c.2.2.2.2.1=some b∧((!b)=true↔St c):=by
 have hn:c.2.2.2.2.1.length≤1048576:=hs.2.2.2.1
 unfold dK gd
 rcases cH (f:=dr c.2.2.2.2.1) c.2.2.2.2.1.length (by omega) (fun i=>0≤(c.2.2.2.2.1.getD i ([],0)).2∧(c.2.2.2.2.1.getD i ([],0)).2≤3) (fun i=>(i:Int))
  (fun i hi _=>by
   unfold dr tq
   have e:=aB (([],0):List UInt8×Int) hi
   generalize c.2.2.2.2.1.getD i ([],0)=x at e ⊢
   simp only [aq (show (i:Int)<(c.2.2.2.2.1.length:Int) by omega),f9,e,f7,Zj,aW (n:=c.2.2.2.2.1.length) (by omega) hi]
   grind)
  (fun _=>by unfold dr; grind) with ⟨hP,he⟩ | ⟨i,hi,_,hP,he⟩
 ·rw [he]; exact ⟨false,rfl,fun _=>hP,fun _=>rfl⟩
 ·rw [he]
  refine ⟨true,?_,fun h=>(by cases h),fun h=>absurd (h i hi) hP⟩
  simp_all
theorem DT (c:ax) (hl:c.1.length≤512) (hs:eP c) : ∃ b,sn c=some b∧(b=true↔lQ c):=by
 have hs0:=hs
 obtain ⟨s1,s2,s3,s4,s5,s6,s7⟩:=hs0
 unfold sn
 dsimp only
 by_cases hp:Ky c
 ·have p1:((c.2.1.length:Int)==0)=false:=by have:=hp.1; grind
  have p2:(c.2.2.1.length:Int)=c.2.1.length:=by have:=hp.2.1; omega
  have p3:(c.2.2.2.2.2.2.2.length:Int)=c.2.1.length:=by have:=hp.2.2; omega
  have q2:((c.2.2.1.length:Int) != (c.2.1.length:Int))=false:=by simp [p2]
  have q3:((c.2.2.2.2.2.2.2.length:Int) != (c.2.1.length:Int))=false:=by simp [p3]
  have n1:0<c.2.1.length:=hp.1
  have e0:ac c.2.1 0=some (c.2.1.getD 0 0):=aB 0 n1
  have e1:ac c.2.1 (ad ((c.2.1.length:Int) - 1))=some (c.2.1.getD (c.2.1.length - 1) 0):=by
   rw [aY (by omega) (by omega),show (c.2.1.length:Int) - 1=((c.2.1.length - 1:Nat):Int) by omega]
   exact aB 0 (by omega)
  simp only [p1,q2,q3,no,f9,Xo,e0,f7,Zj]
  by_cases h0:c.2.1.getD 0 0=0
  rotate_left
  ·refine ⟨false,?_,fun h=>(by cases h),fun h=>absurd ((h.2.2.1 0 n1).1 rfl) h0⟩
   grind
  rw [nf h0]
  simp only [no,f9,Xo,e1,f7,Zj]
  by_cases h9:(c.1.length:Int)≤c.2.1.getD (c.2.1.length - 1) 0
  ·refine ⟨false,by grind,fun h=>(by cases h),fun h=>?_⟩
   have:=(h.2.2.1 (c.2.1.length - 1) (by omega)).2.2.2.1
   omega
  rw [aE h9]
  simp only [no,IL _ s3,IL _ s4,f7,Zj]
  generalize hL:[c.2.2.2.1.map (·.1),c.2.2.2.2.1.map (·.1),c.2.2.2.2.2.1,c.2.2.2.2.2.2.1]=L
  have hL4:L.length=4:=by grind
  have hall:(∀ i,i<4→xg (L.getD i []))↔Qr c:=by
   rw [← hL]
   constructor
   ·intro h; exact ⟨h 0 (by omega),h 1 (by omega),h 2 (by omega),h 3 (by omega)⟩
   ·rintro ⟨h1,h2,h3,h4⟩ i hi
    grind
  have hsm : ∀ i,i<4→(L.getD i []).length≤1048576:=by
   grind
  rcases cH (f:=mO c (c.2.2.2.1.map (·.1)) (c.2.2.2.2.1.map (·.1))) 4 (by omega) (fun i=>xg (L.getD i [])) (fun _=>false)
   (fun i hi _=>by
    unfold mO
    dsimp only
    rw [hL,hL4,aq (show (i:Int)<((4:Nat):Int) by omega)]
    simp only [f9,aB [] (show i<L.length by omega),f7]
    rcases ahF (L.getD i []) (hsm i hi) with ⟨h1,h2⟩ | ⟨h1,h2⟩
    ·left
     refine ⟨h1,?_⟩
     rw [h2]
     simp only [f7,Zj]
     rw [aW (n:=4) (by omega) hi]
    grind)
   (fun _=>by
    rfl) with ⟨hP,he⟩ | ⟨i,hi,_,hP,he⟩
  ·rw [he]
   simp only [f7,Zj]
   rcases cH (f:=iM c) c.2.1.length (by omega) (IU c) (fun _=>false) (fun i hi _=>T9 c hs hp i hi) (fun _=>by unfold iM; grind) with ⟨hB,he⟩ | ⟨i,hi,_,hB,he⟩
   ·rw [he]
    simp only [f7,Zj]
    obtain ⟨b,hb,hb2⟩:=Vm c hs
    rw [hb]
    exact ⟨!b,rfl,fun h=>⟨hp,hall.1 hP,aix c h0 (by omega) hB,hb2.1 h⟩,fun h=>hb2.2 h.2.2.2⟩
   ·rw [he]
    refine ⟨false,rfl,fun h=>(by cases h),fun h=>absurd ?_ hB⟩
    obtain ⟨_,g2,_,_,g5,g6⟩:=h.2.2.1 i hi
    exact ⟨g2,g5,g6⟩
  ·rw [he]
   refine ⟨false,rfl,fun h=>(by cases h),fun h=>absurd (hall.2 h.2.1 i hi) hP⟩
 ·refine ⟨false,?_,fun h=>(by cases h),fun h=>absurd h.1 hp⟩
  by_cases p1:(c.2.1.length:Int)=0
  ·grind
  rw [bf p1]
  by_cases p2:(c.2.2.1.length:Int)=c.2.1.length
  ·have p3 : ¬ ((c.2.2.2.2.2.2.2.length:Int)=c.2.1.length):=fun h=>hp ⟨by omega,by omega,by omega⟩
   grind
  grind
def ru (b:List Int):Prop:=1≤b.length∧b.length≤1048576∧b.getD 0 0=0∧∀ i,i<b.length→0<i→b.getD (i - 1) 0<b.getD i 0
def lk (b:List Int) (pc:Int) (k:Nat):Prop:=k<b.length∧b.getD k 0≤pc∧(k+1<b.length→pc<b.getD (k+1) 0)
theorem afp (h:ru b) : ∀ d i,i+d+1<b.length→b.getD i 0<b.getD (i+d+1) 0:=by
 intro d
 induction d with
 | zero=>intro i hi; have:=h.2.2.2 (i+1) (by omega) (by omega); grind
 | succ d ih=>
  intro i hi
  have h1:=ih i (by omega)
  have h2:=h.2.2.2 (i+d+1+1) (by omega) (by omega)
  grind
theorem vp (h:ru b)  (hij:i<j) (hj:j<b.length):b.getD i 0<b.getD j 0:=by
 have:=afp h (j - i - 1) i (by omega)
 grind
theorem py (h:ru b)  (hij:i≤j) (hj:j<b.length):b.getD i 0≤b.getD j 0:=by
 rcases afV hij with h1 | h1
 ·exact Int.le_of_lt (vp h h1 hj)
 grind
theorem xU (h:ru b)  (hi:i<b.length):0≤b.getD i 0:=by
 have:=py h (afB i) hi
 rw [h.2.2.1] at this
 exact this
theorem pq (h:lQ c) (hs:eP c):ru c.2.1:=⟨h.1.1,hs.1,(h.2.2.1 0 h.1.1).1 rfl,fun i hi h0=>(h.2.2.1 i hi).2.1 h0⟩
theorem MV (h:ru b) {pc:Int} {k:Nat} (h1:lk b pc j) (h2:lk b pc k):j=k:=by
 obtain ⟨a1,a2,a3⟩:=h1
 obtain ⟨b1,b2,b3⟩:=h2
 rcases ahb j k with hl | hl | hl
 ·have:=a3 (by omega)
  have:=py h (show j+1≤k by omega) b1
  omega
 ·exact hl
 ·have:=b3 (by omega)
  have:=py h (show k+1≤j by omega) a1
  omega
theorem Vq (h:ru b) {pc:Int} (hp:0≤pc) : ∃ k,lk b pc k:=by
 have gen : ∀ n,n<b.length→(∃ k,k≤n∧b.getD k 0≤pc∧(k+1≤n→pc<b.getD (k+1) 0)):=by
  intro n
  induction n with
  | zero=>intro _; exact ⟨0,by omega,by rw [h.2.2.1]; exact hp,by omega⟩
  | succ n ih=>
   grind
 obtain ⟨k,h1,h2,h3⟩:=gen (b.length - 1) (by have:=h.1; omega)
 have:=h.1
 exact ⟨k,by omega,h2,fun hk=>h3 (by omega)⟩
theorem JW {pc:Int} {k:Nat} (h:ru c.2.1) (hk:lk c.2.1 pc k):ge c pc=some (k:Int):=by
 obtain ⟨k1,k2,k3⟩:=hk
 unfold ge
 have hl:=h.2.1
 have:=dc (f:=lK c pc) (fun s=>k - s.toNat) (fun _=>(k:Int)) (fun s=>∃ j:Nat,s=(j:Int)∧j≤k)
  (fun s hs=>by
   obtain ⟨j,rfl,hj⟩:=hs
   unfold lK
   have e:ad ((j:Int)+1)=((j+1:Nat):Int):=by rw [aW (n:=c.2.1.length) (by omega) (by omega)]; rfl
   rw [e]
   by_cases hn:j+1<c.2.1.length
   ·simp only [aq (show ((j+1:Nat):Int)<(c.2.1.length:Int) by omega),f9,aB 0 hn,f7,Zj]
    rcases afV hj with hl2 | hl2
    ·right
     refine ⟨((j+1:Nat):Int),?_,⟨j+1,rfl,by omega⟩,by simp; omega,(by trivial)⟩
     rw [aq (agu (py h (show j+1≤k by omega) k1) k2)]
     rfl
    grind
   grind) (s:=0) ⟨0,rfl,by omega⟩ (by grind)
 rw [this]; rfl
theorem ahz {pc:Int} {k:Nat} (h:ru c.2.1) (hk:lk c.2.1 pc k):oA c pc=some (k:Int):=by
 obtain ⟨k1,k2,k3⟩:=hk
 unfold oA
 have hl:=h.2.1
 have:=dc (f:=mP c pc) (fun s=>c.2.1.length - s.2.toNat) (fun _=>(k:Int)) (fun s=>∃ j:Nat,s.2=(j:Int)∧j≤c.2.1.length∧s.1=if j≤k then (j:Int) - 1 else (k:Int))
  (fun s hs=>by
   obtain ⟨s1,s2⟩:=s
   obtain ⟨j,h1,hj,h2⟩:=hs
   dsimp only at h1 h2
   subst h1 h2
   unfold mP
   by_cases hn:j<c.2.1.length
   ·right
    simp only [aq (show (j:Int)<(c.2.1.length:Int) by omega),f9,aB 0 hn,f7,Zj,aW (n:=c.2.1.length) (by omega) hn]
    by_cases hjk:j≤k
    ·rw [aq (agu (py h hjk k1) k2)]
     refine ⟨_,rfl,⟨j+1,rfl,by omega,?_⟩,by grind,(by trivial)⟩
     grind
    ·rw [aE (by have:=k3 (by omega); have:=py h (show k+1≤j by omega) hn; omega)]
     refine ⟨_,rfl,⟨j+1,rfl,by omega,?_⟩,by grind,(by trivial)⟩
     grind
   grind) (s:=(-1,0)) ⟨0,rfl,by omega,by simp⟩ (by grind)
 rw [this]; rfl
theorem Xh (x y:Int):rh x y=some (decide (x<y)):=by
 unfold rh pT
 simp
theorem alj (h:n<4611686018427387904):nF .u64 (IntKind.u64.wrap (n:Int)) (1:Int)=((n / 2:Nat):Int):=by
 rw [IntKind.wrap_u64,show (n:Int) % 18446744073709551616=n by omega]
 show Int.fdiv (n:Int) (2 ^ (min (1:Int).toNat 64))=_
 grind
theorem Tt {pc:Int} {k:Nat} (h:ru b) (hk:lk b pc k) (hp:0≤pc):gf b pc=some (if b.getD k 0=pc then ((k:Int),true) else ((k:Int)+1,false)):=by
 obtain ⟨k1,k2,k3⟩:=hk
 have hl:=h.2.1
 unfold gf
 generalize hr:(if b.getD k 0=pc then k else k+1)=r
 have hrn:r≤b.length:=by grind
 have lo : ∀ j,j<r→b.getD j 0<pc:=by
  intro j hj
  rw [← hr] at hj
  split at hj
  ·have:=vp h hj k1; omega
  ·have:=py h (show j≤k by omega) k1; omega
 have hi : ∀ j,r≤j→j<b.length→pc≤b.getD j 0:=by
  intro j hj hjn
  rw [← hr] at hj
  split at hj
  ·have:=py h hj hjn; omega
  ·have:=k3 (by omega); have:=py h (show k+1≤j by omega) hjn; omega
 have:=dc (f:=gy b pc) (fun s=>s.2.toNat - s.1.toNat) (fun _=>(r:Int)) (fun s=>∃ x y:Nat,s=((x:Int),(y:Int))∧x≤r∧r≤y∧y≤b.length)
  (fun s hs=>by
   obtain ⟨x,y,rfl,hx,hy,hyn⟩:=hs
   unfold gy
   by_cases hxy:x<y
   ·right
    have e1:ad ((x:Int)+(y:Int))=((x+y:Nat):Int):=by rw [aY (by omega) (by omega)]; omega
    have e2:ad (((x+y) / 2:Nat):Int)=(((x+y) / 2:Nat):Int):=aY (by omega) (by omega)
    have e3:ad ((((x+y) / 2:Nat):Int)+1)=(((x+y) / 2+1:Nat):Int):=by rw [aY (by omega) (by omega)]; omega
    have hm:(x+y) / 2<b.length:=by omega
    simp only [aq (show (x:Int)<(y:Int) by omega),aq (show (0:Int)≤1 by omega),af,f9,e1,alj (show x+y<4611686018427387904 by omega),e2,e3,aB 0 hm,f7,Zj,Xh]
    by_cases hb:b.getD ((x+y) / 2) 0<pc
    ·rw [aq hb]
     refine ⟨_,rfl,⟨(x+y) / 2+1,y,rfl,?_,hy,hyn⟩,by grind,(by trivial)⟩
     grind
    ·rw [aE hb]
     refine ⟨_,rfl,⟨x,(x+y) / 2,rfl,hx,?_,by omega⟩,by grind,(by trivial)⟩
     grind
   grind) (s:=(0,(b.length:Int))) ⟨0,b.length,rfl,by omega,hrn,by omega⟩ (by grind)
 rw [this]
 simp only [f7,Zj]
 by_cases he:b.getD k 0=pc
 ·rw [if_pos he] at hr
  subst hr
  rw [if_pos he]
  simp only [aq (show (k:Int)<(b.length:Int) by omega),f9,aB 0 k1,f7,Zj,he,W9,XO,akX,agP,no]
 ·rw [if_neg he] at hr
  subst hr
  rw [if_neg he]
  by_cases hn:k+1<b.length
  ·have:pc<b.getD (k+1) 0:=k3 hn
   have hne:(b.getD (k+1) 0==pc)=false:=by grind
   simp only [aq (show ((k+1:Nat):Int)<(b.length:Int) by omega),f9,aB 0 hn,f7,Zj,hne,Xo,afx,nB,Zh,akX,no]
   rfl
  grind
theorem NS {pc:Int} {k:Nat} (h:ru c.2.1) (hk:lk c.2.1 pc k) (hp:0≤pc):eM c pc=some (k:Int):=by
 unfold eM
 have:=h.2.1
 have:=hk.1
 rw [Tt h hk hp]
 simp only [f7,Zj]
 split
 ·rfl
 ·simp only [Xo,f9,f7,Zj]
  rw [aY (by omega) (by omega)]
  grind
def uB (a lo hi:Int):Prop:=lo≤a∧a<hi
def wP (op:Int):Int:=(sV.getD op.toNat ([],0)).2
def cL (c:ax) (k:Nat):Int:=if k+1<c.2.1.length then c.2.1.getD (k+1) 0 else c.1.length
def yK (c:ax) (k:Nat) (x:Int×Int×Int):Prop:=
 (x.1=1∨x.1=2∨x.1=24→uB x.2.1 0 (c.2.2.1.getD k 0))∧(x.1=10∨x.1=11→uB x.2.1 (c.2.1.getD k 0) (cL c k))∧(x.1=12∨x.1=18→uB x.2.1 0 c.2.1.length) ∧
 (x.1=14→0≤x.2.1∧x.2.2=k)∧(x.1=15→uB x.2.1 1 100)∧(x.1=16∨x.1=17→uB x.2.1 0 c.2.2.2.1.length)∧(x.1=19∨x.1=20→uB x.2.1 0 c.2.2.2.2.1.length) ∧
 (x.1=21∨x.1=22→uB x.2.1 0 c.2.2.2.2.2.1.length)∧(x.1=23→uB x.2.1 2 7)∧(x.1=25→uB x.2.1 1 10)∧(x.1=26∨x.1=27→uB x.2.1 0 c.2.2.2.2.2.2.1.length) ∧
 (x.1=20∨x.1=23∨x.1=27→uB x.2.2 0 (c.2.2.1.getD k 0))
def Qw (c:ax) (k:Nat) (pc:Int) (x:Int×Int×Int):Prop:=
 (wP x.1<2→x.2.2=0)∧(wP x.1<1→x.2.1=0)∧(x.1=13→k+1≠c.2.1.length)∧(x.1=28→k+1=c.2.1.length)∧(pc+1=cL c k→x.1=13∨x.1=28)
def wg (c:ax) (k:Nat) (pc:Int) (x:Int×Int×Int):Prop:=(0≤x.1∧x.1<29)∧Qw c k pc x∧yK c k x
theorem Xy (h0:0≤op) (h1:op<29):op=0∨op=1∨op=2∨op=3∨op=4∨op=5∨op=6∨op=7∨op=8∨op=9∨op=10∨op=11∨op=12∨op=13∨op=14∨op=15∨op=16∨op=17∨op=18∨op=19∨op=20∨op=21∨op=22∨op=23∨op=24∨op=25∨op=26∨op=27∨op=28:=by omega
theorem l7 (p q:Prop) [Decidable p] [Decidable q]:(bif decide p then decide q else false)=decide (p∧q):=by
 grind
theorem oN (p q:Prop) [Decidable p] [Decidable q]:(bif decide p then true else decide q)=decide (p∨q):=by
 grind
theorem pW (a b:Int):(a==b)=decide (a=b):=by grind
theorem R6 (a b:Int):(a != b)=decide (a≠b):=by grind
theorem adb (p:Prop) [Decidable p]:(!decide p)=decide (¬ p):=by grind
theorem ae0 (c:ax) (k:Nat) (hn:c.2.2.2.2.2.2.2.length=c.2.1.length) (x:Int×Int×Int) (h0:0≤x.1) (h1:x.1<29) :
  ∃ r,yN x (c.2.2.1.getD k 0) ((k:Int),c.2.1.getD k 0,cL c k) c=some r ∧
   ((match r with | .inl s=>(s.1≤x.2.1∧x.2.1<s.2)∧(wP x.1<2∨(0≤x.2.2∧x.2.2<c.2.2.1.getD k 0)) | .inr b=>b=true)↔yK c k x):=by
 obtain ⟨op,a,b⟩:=x
 have hn' : (c.2.2.2.2.2.2.2.length:Int)=c.2.1.length:=by omega
 rcases Xy h0 h1 with h | h | h | h | h | h | h | h | h | h | h | h | h | h | h | h | h | h | h | h | h | h | h | h | h | h | h | h | h
 all_goals
  dsimp only at h
  subst h
  refine ⟨_,rfl,?_⟩
  simp [yK,uB,wP,sV,pW,hn']
theorem UT (c:ax) (hl:c.1.length≤512) (hs:eP c) (h:lQ c) (k:Nat) (hk:k<c.2.1.length) (pc:Nat) (hpc:pc<c.1.length) :
  ∃ b,vH c ((k:Int),c.2.1.getD k 0,cL c k) (pc:Int)=some b∧(b=true↔wg c k pc (c.1.getD pc (0,0,0))):=by
 unfold vH
 have e1:=aB ((0,0,0):Int×Int×Int) hpc
 generalize c.1.getD pc (0,0,0)=x at e1 ⊢
 simp only [e1,f7,Zj]
 by_cases hop:0≤x.1∧x.1<29
 rotate_left
 ·refine ⟨false,?_,fun h=>(by cases h),fun h=>absurd h.1 hop⟩
  grind
 rw [oN,aE (by omega),no,aq hop]
 have hb:=h.1.1
 have hs1:=hs.1
 obtain ⟨q,e2,hq⟩ : ∃ q,ac sV x.1=some q∧q.2=wP x.1:=⟨_,aT ([],0) hop.1 (by show x.1<((29:Nat):Int); omega),rfl⟩
 have e3:ac c.2.2.1 (k:Int)=some (c.2.2.1.getD k 0):=aB 0 (by have:=h.1.2.1; omega)
 have ew:ad ((c.2.1.length:Int) - 1)=(c.2.1.length:Int) - 1:=aY (by omega) (by omega)
 have ew2:ad ((pc:Int)+1)=(pc:Int)+1:=aY (by omega) (by omega)
 obtain ⟨r,hr,hr2⟩:=ae0 c k h.1.2.2 x hop.1 hop.2
 simp only [af,f9,e2,e3,f7,Zj,ew,ew2,hq,pW,R6,l7,oN,adb,hr]
 unfold wg Qw
 generalize wP x.1=o at *
 by_cases h1:(o<2→x.2.2=0)∧(o<1→x.2.1=0)∧(x.1=13→k+1≠c.2.1.length)∧(x.1=28→k+1=c.2.1.length)
 rotate_left
 ·rw [aq (by omega)]
  grind
 rw [aE (by omega),no]
 by_cases h2:(pc:Int)+1=cL c k→x.1=13∨x.1=28
 rotate_left
 ·simp_all
 rw [aE (by omega),no]
 have hall : ∀ {p:Prop},(p↔yK c k x)→(p↔(0≤x.1∧x.1<29)∧((o<2→x.2.2=0)∧(o<1→x.2.1=0)∧(x.1=13→k+1≠c.2.1.length)∧(x.1=28→k+1=c.2.1.length)∧((pc:Int)+1=cL c k→x.1=13∨x.1=28))∧yK c k x):=
  fun hp=>⟨fun h=>⟨hop,⟨h1.1,h1.2.1,h1.2.2.1,h1.2.2.2,h2⟩,hp.1 h⟩,fun h=>hp.2 h.2.2⟩
 rcases r with s | b
 ·grind
 grind
theorem Vh (a lo hi:Int):bL a lo hi=some (decide (lo≤a∧a≤hi)):=by
 unfold bL
 rw [l7]
theorem M0 (h0:0≤op) (h1:op<29):jS op=some (wP op):=by
 rcases Xy h0 h1 with h | h | h | h | h | h | h | h | h | h | h | h | h | h | h | h | h | h | h | h | h | h | h | h | h | h | h | h | h <;> subst h <;> rfl
theorem aj0 (p q:Bool):((bif p then some q else some false).bind fun r=>(some (Sum.inr (bif p then r else false)):Option (α⊕Bool)))=some (Sum.inr (p&&q)):=by grind
theorem ahU (c:ax) (k:Nat) (hs:eP c) (hL:lQ c) (hk:k<c.2.1.length) (x:Int×Int×Int) (h0:0≤x.1) (h1:x.1<29) (he:1≤cL c k) (he2:cL c k≤512) :
  ∃ r,nE x (c.2.2.1.getD k 0) c (k:Int) (cL c k)=some r∧((match r with | .inl _=>true | .inr b=>b)=true↔yK c k x):=by
 obtain ⟨op,a,b⟩:=x
 obtain ⟨s1,s2,s3,s4,s5,s6,s7⟩:=hs
 obtain ⟨_,_,_,_,l1,l2⟩:=hL.2.2.1 k hk
 have hn' : (c.2.2.2.2.2.2.2.length:Int)=c.2.1.length:=by have:=hL.1.2.2; omega
 have eb:ac c.2.1 (k:Int)=some (c.2.1.getD k 0):=aB 0 hk
 have w1:ad (c.2.2.1.getD k 0 - 1)=c.2.2.1.getD k 0 - 1:=aY (by omega) (by omega)
 have w2:ad (cL c k - 1)=cL c k - 1:=aY (by omega) (by omega)
 have w3:ad ((c.2.2.2.2.2.2.2.length:Int) - 1)=(c.2.2.2.2.2.2.2.length:Int) - 1:=aY (by omega) (by omega)
 have w4:ad ((c.2.2.2.1.length:Int) - 1)=(c.2.2.2.1.length:Int) - 1:=aY (by omega) (by omega)
 have w5:ad ((c.2.2.2.2.1.length:Int) - 1)=(c.2.2.2.2.1.length:Int) - 1:=aY (by omega) (by omega)
 have w6:ad ((c.2.2.2.2.2.1.length:Int) - 1)=(c.2.2.2.2.2.1.length:Int) - 1:=aY (by omega) (by omega)
 have w7:ad ((c.2.2.2.2.2.2.1.length:Int) - 1)=(c.2.2.2.2.2.2.1.length:Int) - 1:=aY (by omega) (by omega)
 have le (n m:Int):n≤m - 1↔n<m:=by omega
 have l99 (n:Int):n≤99↔n<100:=by omega
 have l9 (n:Int):n≤9↔n<10:=by omega
 have l6 (n:Int):n≤6↔n<7:=by omega
 unfold nE
 rcases Xy h0 h1 with h | h | h | h | h | h | h | h | h | h | h | h | h | h | h | h | h | h | h | h | h | h | h | h | h | h | h | h | h
 all_goals
  dsimp only at h
  subst h
  simp only [Int.reduceBEq,f9,no,f7,Zj,Vh,w1,w2,w3,w4,w5,w6,w7,eb,le,l99,l9,l6,aj0]
  refine ⟨_,rfl,?_⟩
  simp [yK,uB,pW,hn']
theorem XX (c:ax) (hl:c.1.length≤512) (hs:eP c) (h:lQ c) (k:Nat) (pc:Nat) (hk:lk c.2.1 (pc:Int) k) (hpc:pc<c.1.length) :
  ∃ b,mJ c (pc:Int)=some b∧(b=true↔wg c k pc (c.1.getD pc (0,0,0))):=by
 obtain ⟨hk1,hk2,hk3⟩:=hk
 have hB:=pq h hs
 have hs1:=hs.1
 unfold mJ
 have e1:=aB ((0,0,0):Int×Int×Int) hpc
 generalize c.1.getD pc (0,0,0)=x at e1 ⊢
 simp only [e1,f7,Zj]
 by_cases hop:0≤x.1∧x.1<29
 rotate_left
 ·refine ⟨false,?_,fun h=>(by cases h),fun h=>absurd h.1 hop⟩
  grind
 rw [oN,aE (by omega),no]
 have hb:=h.1.1
 have e3:ac c.2.2.1 (k:Int)=some (c.2.2.1.getD k 0):=aB 0 (by have:=h.1.2.1; omega)
 have ew:ad ((k:Int)+1)=(k:Int)+1:=aY (by omega) (by omega)
 have ew2:ad ((pc:Int)+1)=(pc:Int)+1:=aY (by omega) (by omega)
 have he:(bif decide ((k:Int)+1<(c.2.1.length:Int)) then (ac c.2.1 ((k:Int)+1)).bind fun _=>(ac c.2.1 ((k:Int)+1)).bind fun v8=>some v8 else some (c.1.length:Int))=some (cL c k):=by
  unfold cL
  by_cases h1:k+1<c.2.1.length
  ·rw [aq (by omega),if_pos h1,f9,show (k:Int)+1=((k+1:Nat):Int) from rfl,aB 0 h1]
   rfl
  grind
 have hend:1≤cL c k∧cL c k≤512:=by
  unfold cL
  split
  ·rename_i h1
   have h2:=vp hB (show 0<k+1 by omega) h1
   rw [hB.2.2.1] at h2
   have h3:=(h.2.2.1 (k+1) h1).2.2.2.1
   omega
  ·omega
 obtain ⟨r,hr,hr2⟩:=ahU c k hs h hk1 x hop.1 hop.2 hend.1 hend.2
 have ho:=M0 hop.1 hop.2
 simp only [ahz hB ⟨hk1,hk2,hk3⟩,f7,Zj,ew,ew2,he,ho]
 rw [show (bif !bif decide (wP x.1<2) then x.2.2 != 0 else false then some (wP x.1) else some 0)=some (bif !bif decide (wP x.1<2) then x.2.2 != 0 else false then wP x.1 else 0) by grind]
 simp only [f7,Zj]
 unfold wg Qw
 generalize wP x.1=o at *
 by_cases h0:o<2∧x.2.2≠0
 ·rw [aq h0.1,nt h0.2]
  grind
 rw [show (bif decide (o<2) then x.2.2 != 0 else false)=false by grind]
 simp only [f9,no,Xo,pW,R6,l7,oN,adb]
 by_cases h1:(o<2→x.2.2=0)∧(o<1→x.2.1=0)∧(x.1=13→k+1≠c.2.1.length)∧(x.1=28→k+1=c.2.1.length)∧((pc:Int)+1=cL c k→x.1=13∨x.1=28)
 rotate_left
 ·rw [aq (by omega)]
  grind
 rw [aE (by omega),no]
 simp only [e3,f7,Zj,hr]
 have hall : ∀ {p:Prop},(p↔yK c k x)→(p↔(0≤x.1∧x.1<29)∧((o<2→x.2.2=0)∧(o<1→x.2.1=0)∧(x.1=13→k+1≠c.2.1.length)∧(x.1=28→k+1=c.2.1.length)∧((pc:Int)+1=cL c k→x.1=13∨x.1=28))∧yK c k x):=
  fun hp=>⟨fun h=>⟨hop,h1,hp.1 h⟩,fun h=>hp.2 h.2.2⟩
 rcases r with s | b
 ·grind
 grind
def cz (c:ax) (pc:Nat):Int×Int×Int:=c.1.getD pc (0,0,0)
def Jm (c:ax):Prop:=∀ k pc:Nat,pc<c.1.length→lk c.2.1 (pc:Int) k→wg c k pc (cz c pc)
def VE (c:ax) (e:Int):Prop:=
 (512<c.1.length∧e=4)∨(c.1.length≤512∧¬ lQ c∧e=1)∨(c.1.length≤512∧lQ c∧¬ Jm c∧e=2)∨(c.1.length≤512∧lQ c∧Jm c∧e=0)
theorem afw {d e:Int} (h1:VE c d) (h2:VE c e):d=e:=by
 rcases h1 with ⟨a1,rfl⟩ | ⟨a1,a2,rfl⟩ | ⟨a1,a2,a3,rfl⟩ | ⟨a1,a2,a3,rfl⟩ <;> rcases h2 with ⟨b1,rfl⟩ | ⟨b1,b2,rfl⟩ | ⟨b1,b2,b3,rfl⟩ | ⟨b1,b2,b3,rfl⟩ <;> first | rfl | omega | contradiction
theorem Uz (c:ax) (hs:eP c) : ∃ k e,gQ c=some (k,e)∧VE c e:=by
 unfold gQ
 by_cases hl:c.1.length≤512
 rotate_left
 ·rw [aq (by omega)]
  exact ⟨0,4,rfl, .inl ⟨by omega,rfl⟩⟩
 rw [aE (by omega),no]
 obtain ⟨b,hb,hb2⟩:=FX c hl hs
 rw [hb]
 cases b
 ·exact ⟨0,1,rfl, .inr (.inl ⟨hl,fun h=>(by grind),rfl⟩)⟩
 have hL:=hb2.1 rfl
 have hB:=pq hL hs
 simp only [f7,Zj,XO,no]
 rcases cH (f:=iF c) c.1.length (by omega) (fun pc=>∀ k,lk c.2.1 (pc:Int) k→wg c k pc (cz c pc)) (fun i=>((i:Int),2))
  (fun i hi _=>by
   unfold iF
   obtain ⟨k,hk⟩:=Vq hB (show (0:Int)≤(i:Int) by omega)
   obtain ⟨b,hb,hb2⟩:=XX c hl hs hL k i hk hi
   rw [aq (show (i:Int)<(c.1.length:Int) by omega),f9,hb]
   simp only [f7,Zj]
   cases b
   ·right; exact ⟨fun h=>(by have:=hb2.2 (h k hk); cases this),rfl⟩
   ·left
    refine ⟨fun k' hk' => by rw [MV hB hk' hk]; exact hb2.1 rfl,?_⟩
    rw [aW (n:=c.1.length) (by omega) hi]
    rfl)
  (fun _=>by unfold iF; grind) with ⟨hP,he⟩ | ⟨i,hi,_,hP,he⟩
 ·rw [he]
  exact ⟨_,0,rfl, .inr (.inr (.inr ⟨hl,hL,fun k pc hpc hk=>hP pc hpc k hk,rfl⟩))⟩
 ·rw [he]
  exact ⟨_,2,rfl, .inr (.inr (.inl ⟨hl,hL,fun h=>hP fun k hk=>h k i hi hk,rfl⟩))⟩
theorem sD (hs:eP c) (h:lQ c) {k:Nat} (hk:k<c.2.1.length):c.2.1.getD k 0<cL c k∧cL c k≤c.1.length:=by
 unfold cL
 split
 ·rename_i h1
  have h2:=vp (pq h hs) (show k<k+1 by omega) h1
  have h3:=(h.2.2.1 (k+1) h1).2.2.2.1
  omega
 ·have h3:=(h.2.2.1 k hk).2.2.2.1
  omega
theorem pb (hs:eP c) (h:lQ c) {k:Nat} (hpc:pc<c.1.length):lk c.2.1 (pc:Int) k↔k<c.2.1.length∧c.2.1.getD k 0≤pc∧(pc:Int)<cL c k:=by
 unfold lk cL
 grind
theorem Za (c:ax) (hs:eP c):tX c=some ((List.range c.2.1.length).map fun k:Nat=>((k:Int),c.2.1.getD k 0,cL c k)):=by
 have hn:=hs.1
 unfold tX
 have:=dc (f:=qm c) (fun s=>c.2.1.length - s.2.toNat) (fun _=>(List.range c.2.1.length).map fun k:Nat=>((k:Int),c.2.1.getD k 0,cL c k))
  (fun s=>∃ i:Nat,s=((List.range i).map fun k:Nat=>((k:Int),c.2.1.getD k 0,cL c k),(i:Int))∧i≤c.2.1.length)
  (fun s hs=>by
   obtain ⟨i,rfl,hi⟩:=hs
   unfold qm
   rcases XJ i c.2.1.length with hlt | hge
   ·right
    refine ⟨((List.range (i+1)).map fun k:Nat=>((k:Int),c.2.1.getD k 0,cL c k),((i+1:Nat):Int)),?_,⟨i+1,rfl,by omega⟩,by grind,rfl⟩
    have ew:=aW (n:=c.2.1.length) (by omega) hlt
    have he:(bif decide ((i:Int)+1<(c.2.1.length:Int)) then (ac c.2.1 ((i:Int)+1)).bind fun _=>(ac c.2.1 ((i:Int)+1)).bind fun v8=>some v8 else some (c.1.length:Int))=some (cL c i):=by
     unfold cL
     by_cases h1:i+1<c.2.1.length
     ·rw [aq (by omega),if_pos h1,f9,show (i:Int)+1=((i+1:Nat):Int) from rfl,aB 0 h1]
      rfl
     grind
    simp only [aq (show (i:Int)<(c.2.1.length:Int) by omega),f9,aB 0 hlt,f7,Zj,ew,he]
    rw [jI (ba (by grind) (by omega)),List.range_succ]
    simp
   grind) (s:=([],0)) ⟨0,rfl,by omega⟩ (by grind)
 rw [this]; rfl
theorem RS (c:ax) (hs:eP c) : ∃ k e,pd c=some (k,e)∧VE c e:=by
 unfold pd
 have hn:=hs.1
 by_cases hl:c.1.length≤512
 rotate_left
 ·rw [aq (by omega)]
  exact ⟨0,4,rfl, .inl ⟨by omega,rfl⟩⟩
 rw [aE (by omega),no]
 obtain ⟨b,hb,hb2⟩:=DT c hl hs
 rw [hb]
 cases b
 ·exact ⟨0,1,rfl, .inr (.inl ⟨hl,fun h=>(by grind),rfl⟩)⟩
 have hL:=hb2.1 rfl
 have hB:=pq hL hs
 simp only [f7,Zj,XO,no,Za c hs]
 have inner : ∀ k,k<c.2.1.length→((∀ pc:Nat,c.2.1.getD k 0≤pc→(pc:Int)<cL c k→wg c k pc (cz c pc))∧Itr.it (gJ c ((k:Int),c.2.1.getD k 0,cL c k)) (c.2.1.getD k 0)=some (.inl ())) ∨
   ∃ pc:Nat,c.2.1.getD k 0≤pc∧(pc:Int)<cL c k∧¬ wg c k pc (cz c pc)∧Itr.it (gJ c ((k:Int),c.2.1.getD k 0,cL c k)) (c.2.1.getD k 0)=some (.inr (.inr (.inr ((pc:Int),2)))):=by
  intro k hk
  obtain ⟨a,ha⟩ : ∃ a:Nat,c.2.1.getD k 0=(a:Int):=⟨(c.2.1.getD k 0).toNat,by have:=xU hB hk; omega⟩
  obtain ⟨e,he⟩ : ∃ e:Nat,cL c k=(e:Int):=⟨(cL c k).toNat,by have:=xU hB hk; have:=sD hs hL hk; omega⟩
  have hle:=sD hs hL hk
  rw [ha,he] at hle ⊢
  rcases FK (f:=gJ c ((k:Int),(a:Int),(e:Int))) a e (by omega) (by omega) (fun pc=>wg c k pc (cz c pc)) (fun pc=>.inr (.inr ((pc:Int),2)))
   (fun i hai hi _=>by
    unfold gJ
    obtain ⟨b,hb,hb2⟩:=UT c hl hs hL k hk i (by omega)
    rw [ha,he] at hb
    rw [aq (show (i:Int)<(e:Int) by omega),f9,hb]
    simp only [f7,Zj]
    cases b
    ·right; exact ⟨fun h=>(by have:=hb2.2 h; cases this),rfl⟩
    ·left
     refine ⟨hb2.1 rfl,?_⟩
     rw [aW (n:=e) (by omega) hi]
     rfl)
   (fun _=>by unfold gJ; grind) with ⟨hP,he⟩ | ⟨i,h0,hi,_,hP,he⟩
  ·grind
  grind
 generalize hps:((List.range c.2.1.length).map fun k:Nat=>((k:Int),c.2.1.getD k 0,cL c k))=ps
 have hpl:ps.length=c.2.1.length:=by grind
 have hpg : ∀ k,k<c.2.1.length→ac ps (k:Int)=some ((k:Int),c.2.1.getD k 0,cL c k):=by
  intro k hk
  rw [← hps]
  apply bG
  simp [hk]
 rcases cH (f:=nR c ps) c.2.1.length (by omega) (fun k=>∀ pc:Nat,c.2.1.getD k 0≤pc→(pc:Int)<cL c k→wg c k pc (cz c pc))
  (fun k=>(((Itr.it (gJ c ((k:Int),c.2.1.getD k 0,cL c k)) (c.2.1.getD k 0)).bind fun z=>match z with | .inr (.inr (.inr x))=>some x.1 | _=>none).getD 0,2))
  (fun k hk _=>by
   unfold nR
   rw [aq (show (k:Int)<(ps.length:Int) by omega),f9,hpg k hk]
   simp only [f7,Zj]
   rcases inner k hk with ⟨h1,h2⟩ | ⟨pc,h1,h2,h3,h4⟩
   ·left
    refine ⟨h1,?_⟩
    rw [h2]
    simp only [f7,Zj]
    rw [aW (n:=c.2.1.length) (by omega) hk]
   grind)
  (fun _=>by unfold nR; grind) with ⟨hP,he⟩ | ⟨k,hk,_,hP,he⟩
 ·rw [he]
  refine ⟨_,0,rfl, .inr (.inr (.inr ⟨hl,hL,fun k pc hpc h=>?_,rfl⟩))⟩
  obtain ⟨h1,h2,h3⟩:=(pb hs hL hpc).1 h
  grind
 ·rw [he]
  refine ⟨_,2,rfl, .inr (.inr (.inl ⟨hl,hL,fun h=>hP fun pc h1 h2=>?_,rfl⟩))⟩
  have:=sD hs hL hk
  exact h k pc (by omega) ((pb hs hL (by omega)).2 ⟨hk,h1,h2⟩)
theorem tU (c:ax) (hs:eP c) : ∃ j k e,pd c=some (j,e)∧gQ c=some (k,e)∧VE c e:=by
 obtain ⟨j,e,h1,h2⟩:=RS c hs
 obtain ⟨k,e',h3,h4⟩:=Uz c hs
 rw [← afw h2 h4] at h3
 grind
abbrev CC:Type:=ax
abbrev aF:Type:=aU
abbrev Fr:Type:=Int×List Int
abbrev Th:Type:=aA
abbrev bu:Type:=Int×Int×Int
def bc (c:CC):Prop:=c.1.length≤512∧lQ c∧Jm c∧eP c
def uJ (c:CC) (f:Fr):Prop:=∃ k pc:Nat,f.1=(pc:Int)∧pc<c.1.length∧lk c.2.1 (pc:Int) k∧(f.2.length:Int)=c.2.2.1.getD k 0
def fl (n:Int) (r:aQ):vq:=(n,r.1.1,r.1.2.1,r.1.2.2.1,r.1.2.2.2.1,r.1.2.2.2.2.1,r.1.2.2.2.2.2.1,r.1.2.2.2.2.2.2.1,r.1.2.2.2.2.2.2.2,r.2.1.1,r.2.1.2.1,r.2.1.2.2,r.2.2.1.1,r.2.2.1.2.1,r.2.2.1.2.2.1,r.2.2.1.2.2.2.1,r.2.2.1.2.2.2.2.1,r.2.2.1.2.2.2.2.2.1,r.2.2.1.2.2.2.2.2.2.1,r.2.2.1.2.2.2.2.2.2.2.1.1,r.2.2.1.2.2.2.2.2.2.2.1.2.1,r.2.2.1.2.2.2.2.2.2.2.1.2.2,r.2.2.1.2.2.2.2.2.2.2.2.1,r.2.2.1.2.2.2.2.2.2.2.2.2.1,r.2.2.1.2.2.2.2.2.2.2.2.2.2.1,r.2.2.1.2.2.2.2.2.2.2.2.2.2.2,r.2.2.2)
def We (s:aF) (a:Int):aF:=(s.1,s.2.1,s.2.2.1,s.2.2.2.1,s.2.2.2.2.1,s.2.2.2.2.2.1,s.2.2.2.2.2.2.1,(s.2.2.2.2.2.2.2.1.1,ad (s.2.2.2.2.2.2.2.1.2.1+a),s.2.2.2.2.2.2.2.1.2.2),s.2.2.2.2.2.2.2.2)
def uO (s:aF) (o site:Int) (w:List UInt8):aF:=(s.1,s.2.1,s.2.2.1,s.2.2.2.1,s.2.2.2.2.1,s.2.2.2.2.2.1,s.2.2.2.2.2.2.1,s.2.2.2.2.2.2.2.1,s.2.2.2.2.2.2.2.2.1,o,site,w)
def bM (s:aF) (i:Nat) (t:Th):aF:=(s.1.set i t,s.2)
def AB (op a b:Int):Int:=if op=4 then ad (a+b) else if op=5 then ad (a - b) else if op=6 then ad (a * b) else if op=7 then (if a<b then 1 else 0) else if op=8 then (if a≤b then 1 else 0) else (if a=b then 1 else 0)
def gN (c:CC) (kind:Int) (s:aF) (i:Nat) (fs:List Fr) (f:Fr) (st:List Int) (w:Int) (x:bu):Option aF:=
 let pu (v:Int):Option aF:=if 16≤st.length then none else some (bM s i (fs++[(ad (f.1+1),f.2)],st++[v],w,false))
 let po (g:Int→aF):Option aF:=if st.length=0 then none else some (g (st.getD (st.length - 1) 0))
 let st1:=st.take (st.length - 1)
 if x.1=0 then pu x.2.1 else if x.1=1 then pu (f.2.getD x.2.1.toNat 0) else if x.1=3 then pu kind
 else if x.1=2 then po fun v=>bM s i (fs++[(ad (f.1+1),f.2.set x.2.1.toNat v)],st1,w,false)
 else if x.1=10 then some (bM s i (fs++[(x.2.1,f.2)],st,w,false))
 else if x.1=11 then po fun v=>bM s i (fs++[(if v=0 then x.2.1 else ad (f.1+1),f.2)],st1,w,false)
 else if x.1=12 then if 8≤fs.length+1 then none else some (bM s i (fs++[(ad (f.1+1),f.2)]++[(c.2.1.getD x.2.1.toNat 0,List.replicate (c.2.2.1.getD x.2.1.toNat 0).toNat 0)],st,w,false))
 else if x.1=13 then some (bM s i (fs,st,w,false))
 else if x.1=14 then po fun v=>let s' := bM s i (fs++[(ad (f.1+1),f.2)],st1,w,false); if v=0 then uO s' 1 x.2.1 (c.2.2.2.2.2.2.2.getD x.2.2.toNat []) else s'
 else if x.1=15 then some (We (bM s i (fs++[(ad (f.1+1),f.2)],st,w,false)) x.2.1)
 else if st.length<2 then none else some (bM s i (fs++[(ad (f.1+1),f.2)],st.take (st.length - 2)++[AB x.1 (st.getD (st.length - 2) 0) (st.getD (st.length - 1) 0)],w,false))
theorem nX (fs:List α) (f:α) (h:fs.length<9223372036854775807):ac (fs++[f]) (ad (((fs++[f]).length:Int) - 1))=some f:=by
 rw [aY (by grind) (by grind)]
 simp [ac]
theorem cY (fs:List α) (f g:α):(fs++[f]).set fs.length g=fs++[g]:=by simp
theorem E8 (fs:List α) (f:α):(fs++[f]).take fs.length=fs:=by simp
theorem gG {xs:List α}  {v:α} (h:xs[i]? = some v):xs.set i v=xs:=by
 apply aac
 grind
theorem ajq (h:op=4∨op=5∨op=6∨op=7∨op=8∨op=9) (a b:Int) : ∃ m v,oL=some m∧du (.sc (.int .i64)) (.sc .fnc) op m=some v∧Rr v a b=some (AB op a b):=by
 rcases h with rfl | rfl | rfl | rfl | rfl | rfl
 ·exact ⟨_,201,rfl,rfl,rfl⟩
 ·exact ⟨_,202,rfl,rfl,rfl⟩
 ·exact ⟨_,203,rfl,rfl,rfl⟩
 ·refine ⟨_,204,rfl,rfl,?_⟩
  show kB a b=_
  unfold kB gF AB
  grind
 ·refine ⟨_,205,rfl,rfl,?_⟩
  show kN a b=_
  unfold kN gF AB
  grind
 ·refine ⟨_,206,rfl,rfl,?_⟩
  show ku a b=_
  unfold ku gF AB
  grind
set_option maxRecDepth 4000
theorem Wy (h0:0≤op) (h1:op<16):op=0∨op=1∨op=2∨op=3∨op=10∨op=11∨op=12∨op=13∨op=14∨op=15∨(op=4∨op=5∨op=6∨op=7∨op=8∨op=9):=by omega
structure AtP (c:CC) (s:aF) (i:Nat) (fs:List Fr) (f:Fr) (st:List Int) (w:Int) (x:bu) (k pc:Nat):Prop where
 t:s.1[i]? = some (fs++[f],st,w,false)
 n:fs.length<8
 m:st.length≤16
 pc1:f.1=(pc:Int)
 pc2:pc<c.1.length
 pr:lk c.2.1 (pc:Int) k
 lo:(f.2.length:Int)=c.2.2.1.getD k 0
 x:cz c pc=x
theorem aie {c:CC} {e:bu} {s:aF} {n:Int}  {fs:List Fr} {f:Fr}   {x:bu} {k:Nat} (h:AtP c s i fs f st w x k pc) :
  l8 (fl n (c,e,s,acc)) (i:Int)=some x:=by
 unfold l8
 have hx:ac c.1 f.1=some x:=by rw [h.pc1,← h.x]; exact aB _ h.pc2
 simp only [fl,bG h.t,f7,Zj,no,nX fs f (by have:=h.n; omega),hx]
theorem akc {c:CC} (hc:bc c) {e:bu} {s:aF} {n:Int}  {fs:List Fr} {f:Fr}   {x:bu} {k:Nat} (h:AtP c s i fs f st w x k pc) (hop:x.1<16) :
  mq (fl n (c,e,s,acc)) (i:Int)=some (match gN c e.1 s i fs f st w x with | none=>(true,(fl n (c,e,s,acc)).2) | some s' => (false,(fl n (c,e,s',acc)).2)):=by
 have eat:=aie (e:=e) (acc:=acc) (n:=n) h
 obtain ⟨ht,hn,hm,hpc1,hpc2,hpr,hlo,hx⟩:=h
 have hF:=hc.2.2.1 k pc hpc2 hpr
 rw [hx] at hF
 obtain ⟨⟨h0,_⟩,_,hO⟩:=hF
 have et:=bG ht
 have efr : ∀ g:Fr,ac (fs++[g]) (fs.length:Int)=some g:=fun g=>by simp [ac]
 have esa:=gG ht
 have ela : ∀ g:Fr,((fs++[g]).length:Int)=(fs.length:Int)+1:=fun g=>by simp
 have ewl:ad ((fs.length:Int)+1 - 1)=(fs.length:Int):=by rw [aY (by omega) (by omega)]; omega
 obtain ⟨op,a,b⟩:=x
 unfold mq
 have ew1:ad ((st.length:Int) - 1)=(st.length:Int) - 1:=aY (by omega) (by omega)
 have ew2:ad ((st.length:Int) - 2)=(st.length:Int) - 2:=aY (by omega) (by omega)
 have eto1:((st.length:Int) - 1).toNat=st.length - 1:=by omega
 have eto2:((st.length:Int) - 2).toNat=st.length - 2:=by omega
 have po : ¬ st.length=0→ac st ((st.length:Int) - 1)=some (st.getD (st.length - 1) 0):=fun hv=>by rw [aT 0 (by omega) (by omega),eto1]
 have pu : ∀ v:Int,aK st.length ([v]:List Int).length 8=true:=fun v=>ba (by grind) (by omega)
 obtain ⟨o1,o2,o3,o4,o5,o6,o7,o8,o9,o10,o11,o12⟩:=hO
 obtain ⟨hl512,hLi,hAF,hSm⟩:=hc
 obtain ⟨l1,l2,l3,l4,l5,l6⟩:=hLi.2.2.1 k hpr.1
 dsimp only at hop h0 o1 o2 o3 o4 o5 o6 o7 o8 o9 o10 o11 o12
 simp only [eat,f7,Zj]
 rcases Wy h0 hop with h | h | h | h | h | h | h | h | h | h | h
 ·subst h
  simp only [fl,et,f7,Zj,W9,af,f9,ela,efr,ewl,gN,Int.reduceBEq,no,Xa,W4,cY,pu,esa]
  by_cases hv:16≤st.length
  ·grind
  ·rw [aE (show ¬ (16:Int)≤(st.length:Int) by omega),if_neg hv]
   rfl
 ·subst h
  have ei:ac f.2 a=some (f.2.getD a.toNat 0):=by
   obtain ⟨g1,g2⟩:=o1 (.inl rfl)
   exact aT 0 g1 (by omega)
  simp only [fl,et,ei,f7,Zj,W9,af,f9,ela,efr,ewl,gN,Int.reduceBEq,no,Xa,W4,cY,pu,esa,Int.reduceEq,XB]
  by_cases hv:16≤st.length
  ·grind
  ·rw [aE (show ¬ (16:Int)≤(st.length:Int) by omega),if_neg hv]
   rfl
 ·subst h
  have ei:ac f.2 a=some (f.2.getD a.toNat 0):=by
   obtain ⟨g1,g2⟩:=o1 (.inr (.inl rfl))
   exact aT 0 g1 (by omega)
  simp only [fl,et,ei,f7,Zj,W9,af,f9,ela,efr,ewl,gN,Int.reduceBEq,no,Xa,W4,cY,esa,Int.reduceEq,XB,ew1]
  by_cases hv:st.length=0
  ·grind
  ·rw [aE (show ¬ (st.length:Int) - 1<0 by omega),if_neg hv,aq (show 0≤(st.length:Int) - 1∧(st.length:Int) - 1≤st.length by omega)]
   simp only [no,f9,po hv,f7,Zj,eto1]
   rfl
 ·subst h
  simp only [fl,et,f7,Zj,W9,af,f9,ela,efr,ewl,gN,Int.reduceBEq,no,Xa,W4,cY,pu,esa,Int.reduceEq,XB]
  by_cases hv:16≤st.length
  ·grind
  ·rw [aE (show ¬ (16:Int)≤(st.length:Int) by omega),if_neg hv]
   rfl
 ·subst h
  obtain ⟨g1,g2⟩:=o2 (.inl rfl)
  have hw:ad (ad (a - 1)+1)=a:=by
   have he:cL c k≤512:=by have:=(sD hSm hLi hpr.1).2; omega
   rw [aY (x:=a - 1) (by omega) (by omega),aY (by omega) (by omega)]; omega
  simp only [fl,et,f7,Zj,W9,af,f9,ela,efr,ewl,gN,Int.reduceBEq,no,Xa,W4,cY,Int.reduceEq,XB,hw]
  rfl
 ·subst h
  obtain ⟨g1,g2⟩:=o2 (.inr rfl)
  have hw:ad (ad (a - 1)+1)=a:=by
   have he:cL c k≤512:=by have:=(sD hSm hLi hpr.1).2; omega
   rw [aY (x:=a - 1) (by omega) (by omega),aY (by omega) (by omega)]; omega
  simp only [fl,et,f7,Zj,W9,af,f9,ela,efr,ewl,gN,Int.reduceBEq,no,Xa,W4,cY,esa,Int.reduceEq,XB,ew1,hw]
  by_cases hv:st.length=0
  ·grind
  ·rw [aE (show ¬ (st.length:Int) - 1<0 by omega),if_neg hv,aq (show 0≤(st.length:Int) - 1∧(st.length:Int) - 1≤st.length by omega)]
   simp only [no,f9,po hv,f7,Zj,eto1]
   by_cases hz:st.getD (st.length - 1) 0=0
   ·rw [hz]; rfl
   ·rw [bf hz,if_neg hz]
    rfl
 ·subst h
  obtain ⟨g1,g2⟩:=o3 (.inl rfl)
  have ei:ac c.2.1 a=some (c.2.1.getD a.toNat 0):=aT 0 g1 g2
  have ej:ac c.2.2.1 a=some (c.2.2.1.getD a.toNat 0):=aT 0 g1 (by have:=hLi.1.2.1; omega)
  obtain ⟨_,_,_,_,q5,q6⟩:=hLi.2.2.1 a.toNat (by omega)
  simp only [fl,et,f7,Zj,W9,af,f9,ela,efr,ewl,gN,Int.reduceBEq,no,Xa,W4,cY,esa,Int.reduceEq,XB,ei,ej]
  by_cases hv:8≤fs.length+1
  ·grind
  ·rw [aE (show ¬ (8:Int)≤(fs.length:Int)+1 by omega),if_neg hv,aq (show 0≤c.2.2.1.getD a.toNat 0∧c.2.2.1.getD a.toNat 0 * 8≤281474976710656∧c.2.2.1.getD a.toNat 0≤maxLen by refine ⟨q5,by omega,?_⟩; simp only [maxLen]; omega),show aK (fs++[(ad (f.1+1),f.2)]).length ([(c.2.1.getD a.toNat 0,List.replicate (c.2.2.1.getD a.toNat 0).toNat 0)]:List Fr).length 32=true from ba (by grind) (by omega)]
   rfl
 ·subst h
  have et2:(fs++[f]).take fs.length=fs:=E8 fs f
  simp only [fl,et,f7,Zj,W9,af,f9,ela,efr,ewl,gN,Int.reduceBEq,no,Xa,W4,Int.reduceEq,XB,et2]
  rw [aq (show 0≤(fs.length:Int)∧(fs.length:Int)≤(fs.length:Int)+1 by omega)]
  rfl
 ·subst h
  obtain ⟨g1,g2⟩:=o4 rfl
  have ei:ac c.2.2.2.2.2.2.2 b=some (c.2.2.2.2.2.2.2.getD b.toNat []):=by
   rw [g2]
   exact aT [] (by omega) (by have:=hLi.1.2.2; have:=hpr.1; omega)
  simp only [fl,et,f7,Zj,W9,af,f9,ela,efr,ewl,gN,Int.reduceBEq,no,Xa,W4,cY,esa,Int.reduceEq,XB,ew1,ei]
  by_cases hv:st.length=0
  ·grind
  ·rw [aE (show ¬ (st.length:Int) - 1<0 by omega),if_neg hv,aq (show 0≤(st.length:Int) - 1∧(st.length:Int) - 1≤st.length by omega)]
   simp only [no,f9,po hv,f7,Zj,eto1]
   by_cases hz:st.getD (st.length - 1) 0=0
   ·rw [hz]; rfl
   ·rw [bf hz,if_neg hz]
    rfl
 ·subst h
  simp only [fl,et,f7,Zj,W9,af,f9,ela,efr,ewl,gN,Int.reduceBEq,no,Xa,W4,cY,Int.reduceEq,XB]
  rfl
 ·have hne : ∀ m:Int,(m<4∨9<m)→(op==m)=false∧¬ op=m:=fun m hm=>⟨by rw [XT]; omega,by omega⟩
  obtain ⟨m,v,hm1,hm2,hm3⟩:=ajq h (st.getD (st.length - 2) 0) (st.getD (st.length - 1) 0)
  simp only [fl,et,f7,Zj,W9,af,f9,ela,efr,ewl,gN,no,W4,cY,esa,XB,ew2,(hne 0 (by omega)).1,(hne 1 (by omega)).1,(hne 2 (by omega)).1,(hne 3 (by omega)).1,(hne 10 (by omega)).1,(hne 11 (by omega)).1,(hne 12 (by omega)).1,(hne 13 (by omega)).1,(hne 14 (by omega)).1,(hne 15 (by omega)).1,(hne 0 (by omega)).2,(hne 1 (by omega)).2,(hne 2 (by omega)).2,(hne 3 (by omega)).2,(hne 10 (by omega)).2,(hne 11 (by omega)).2,(hne 12 (by omega)).2,(hne 13 (by omega)).2,(hne 14 (by omega)).2,(hne 15 (by omega)).2]
  by_cases hv:st.length<2
  ·grind
  ·have e2:ac st ((st.length:Int) - 2)=some (st.getD (st.length - 2) 0):=by rw [aT 0 (by omega) (by omega),eto2]
   have e3:ad ((st.length:Int) - 2+1)=(st.length:Int) - 1:=by grind
   rw [aE (show ¬ (st.length:Int) - 2<0 by omega),if_neg hv,aq (show 0≤(st.length:Int) - 2∧(st.length:Int) - 2≤st.length by omega)]
   simp only [no,f9,hm1,hm2,hm3,e2,e3,po (by omega),f7,Zj,eto2]
   rw [show aK (st.take (st.length - 2)).length ([AB op (st.getD (st.length - 2) 0) (st.getD (st.length - 1) 0)]:List Int).length 8=true from ba (by grind) (by omega)]
   rfl
abbrev bI:Type:=Int×Int×Bool
theorem zV {s:aF} {t t' : Th} (h:s.1[i]? = some t):(bM s i t').1[i]? = some t' := by
 show (s.1.set i t')[i]? = some t'
 grind
theorem fH {s:aF} {t t' : Th}:bM (bM s i t) i t' = bM s i t' := by
 show ((s.1.set i t).set i t',s.2)=(s.1.set i t',s.2)
 simp_all
theorem ke {s:aF} {t:Th} (h:s.1[i]? = some t):decide ((0:Int)≤(i:Int)∧(i:Int)<(s.1.length:Int) - 0)=true:=by
 grind
theorem zt {c:CC} {e:bu} {s:aF} {a:List bI} {fr:List Fr}   {b:Bool} (h:s.1[i]? = some (fr,st,w,b)) (v:Int) :
  fB (c,e,s,a) (i:Int) v=some (if 16≤st.length then (false,(c,e,s,a)) else (true,(c,e,bM s i (fr,st++[v],w,b),a))):=by
 unfold fB
 simp only [bG h,f7,Zj,af,ke h,f9,ZX,W9]
 by_cases hv:16≤st.length
 ·grind
 ·rw [aE (show ¬ (16:Int)≤(st.length:Int) by omega),if_neg hv,show aK st.length ([v]:List Int).length 8=true from ba (by grind) (by omega)]
  rfl
theorem xr {c:CC} {e:bu} {s:aF} {a:List bI} {fr:List Fr}   {b:Bool} (h:s.1[i]? = some (fr,st,w,b)) (hm:st.length≤1048576) :
  cG (c,e,s,a) (i:Int)=some (if st.length=0 then (0,false,(c,e,s,a)) else (st.getD (st.length - 1) 0,true,(c,e,bM s i (fr,st.take (st.length - 1),w,b),a))):=by
 unfold cG
 have ew1:ad ((st.length:Int) - 1)=(st.length:Int) - 1:=aY (by omega) (by omega)
 have eto1:((st.length:Int) - 1).toNat=st.length - 1:=by omega
 simp only [bG h,f7,Zj,af,ke h,f9,ZX,W9,W4,gG h,ew1]
 by_cases hv:st.length=0
 ·grind
 ·rw [show ((st.length:Int)==0)=false by grind,if_neg hv,aT 0 (by omega) (by omega),aq (show 0≤(st.length:Int) - 1∧(st.length:Int) - 1≤st.length by omega),eto1]
  rfl
theorem lY {c:CC} {e:bu} {s:aF} {a:List bI} {fs:List Fr} {f:Fr}   {b:Bool} (h:s.1[i]? = some (fs++[f],st,w,b)) (hn:fs.length<1048576) :
  bH (c,e,s,a) (i:Int)=some (c,e,bM s i (fs++[(ad (f.1+1),f.2)],st,w,b),a):=by
 unfold bH
 have efr : ∀ g:Fr,ac (fs++[g]) (fs.length:Int)=some g:=fun g=>by simp [ac]
 have ela : ∀ g:Fr,((fs++[g]).length:Int)=(fs.length:Int)+1:=fun g=>by simp
 have ewl:ad ((fs.length:Int)+1 - 1)=(fs.length:Int):=by rw [aY (by omega) (by omega)]; omega
 simp only [bG h,f7,Zj,af,ke h,f9,ZX,W9,ela,ewl,efr,W4,cY]
 rfl
theorem U2 {c:CC} {e:bu} {s:aF} {a:List bI} {fs:List Fr} {f:Fr}   {b:Bool} (h:s.1[i]? = some (fs++[f],st,w,b)) (hn:fs.length<1048576) (v:Int) :
  gS (c,e,s,a) (i:Int) v=some (c,e,bM s i (fs++[(v,f.2)],st,w,b),a):=by
 unfold gS
 have efr : ∀ g:Fr,ac (fs++[g]) (fs.length:Int)=some g:=fun g=>by simp [ac]
 have ela : ∀ g:Fr,((fs++[g]).length:Int)=(fs.length:Int)+1:=fun g=>by simp
 have ewl:ad ((fs.length:Int)+1 - 1)=(fs.length:Int):=by rw [aY (by omega) (by omega)]; omega
 simp only [bG h,f7,Zj,af,ke h,f9,ZX,W9,ela,ewl,efr,W4,cY]
 rfl
theorem akH {c:CC} {e:bu} {s:aF} {a:List bI} {fr:List Fr}   {b:Bool} (h:s.1[i]? = some (fr,st,w,b)) (hm:st.length≤16)  (ho:op=4∨op=5∨op=6∨op=7∨op=8∨op=9) :
  kp (c,e,s,a) op (i:Int)=some (if st.length<2 then (false,(c,e,s,a)) else (true,(c,e,bM s i (fr,st.take (st.length - 2)++[AB op (st.getD (st.length - 2) 0) (st.getD (st.length - 1) 0)],w,b),a))):=by
 unfold kp
 simp only [bG h,f7,Zj]
 by_cases hv:st.length<2
 ·grind
 rw [aE (show ¬ (st.length:Int)<2 by omega),if_neg hv]
 have h1:(bM s i (fr,st.take (st.length - 1),w,b)).1[i]? = some (fr,st.take (st.length - 1),w,b):=zV h
 have e1:(st.take (st.length - 1)).length=st.length - 1:=by simp
 have e2:(st.take (st.length - 1)).getD (st.length - 1 - 1) 0=st.getD (st.length - 2) 0:=by
  grind
 have e3:(st.take (st.length - 1)).take (st.length - 1 - 1)=st.take (st.length - 2):=by
  grind
 have h2:(bM s i (fr,st.take (st.length - 2),w,b)).1[i]? = some (fr,st.take (st.length - 2),w,b):=zV h
 simp only [no,xr h (by omega),if_neg (show ¬ st.length=0 by omega),f7,Zj,xr h1 (by omega),e1,if_neg (show ¬ st.length - 1=0 by omega),fH,e2,e3]
 have hop : ∀ x y:Int,(bif op==(4:Int) then some (ad (x+y)) else bif op==(5:Int) then some (ad (x - y)) else bif op==(6:Int) then some (ad (x * y)) else bif op==(7:Int) then (eE (decide (x<y))).bind fun r6=>some r6 else bif op==(8:Int) then (eE (decide (x≤y))).bind fun r7=>some r7 else bif op==(9:Int) then (eE (x==y)).bind fun r8=>some r8 else some 0)=some (AB op x y):=by
  intro x y
  unfold eE AB
  grind
 simp only [hop,f7,Zj,zt h2,fH]
 grind
theorem aki {c:CC} (hc:bc c) {e:bu} {s:aF} {a:List bI} {fs:List Fr} {f:Fr}   {x:bu} {k:Nat} (h:AtP c s i fs f st w x k pc) (hop:x.1<16) :
  ga (c,e,s,a) x (i:Int)=some (match gN c e.1 s i fs f st w x with | none=>(false,(c,e,s,a)) | some s' => (true,(c,e,s',a))):=by
 obtain ⟨ht,hn,hm,hpc1,hpc2,hpr,hlo,hx⟩:=h
 have hF:=hc.2.2.1 k pc hpc2 hpr
 rw [hx] at hF
 obtain ⟨⟨h0,_⟩,_,hO⟩:=hF
 have et:=bG ht
 have efr : ∀ g:Fr,ac (fs++[g]) (fs.length:Int)=some g:=fun g=>by simp [ac]
 have ela : ∀ g:Fr,((fs++[g]).length:Int)=(fs.length:Int)+1:=fun g=>by simp
 have ewl:ad ((fs.length:Int)+1 - 1)=(fs.length:Int):=by rw [aY (by omega) (by omega)]; omega
 have pt : ∀ t',(bM s i t').1[i]? = some t' := fun t' => zV ht
 obtain ⟨op,u,b⟩:=x
 obtain ⟨o1,o2,o3,o4,o5,o6,o7,o8,o9,o10,o11,o12⟩:=hO
 obtain ⟨hl512,hLi,hAF,hSm⟩:=hc
 obtain ⟨l1,l2,l3,l4,l5,l6⟩:=hLi.2.2.1 k hpr.1
 dsimp only at hop h0 o1 o2 o3 o4 o5 o6 o7 o8 o9 o10 o11 o12
 unfold ga od
 rcases Wy h0 hop with h | h | h | h | h | h | h | h | h | h | h
 ·subst h
  simp only [Int.reduceBEq,f9,no,f7,Zj,zt ht,gN,Xa]
  by_cases hv:16≤st.length
  ·grind
  ·rw [if_neg hv,if_neg hv]
   simp only [XO,no,f7,Zj]
   rw [show bH _ _=_ from lY (e:=e) (a:=a) (pt (fs++[f],st++[u],w,false)) (by omega),fH]
   rfl
 ·subst h
  have ei:ac f.2 u=some (f.2.getD u.toNat 0):=by
   obtain ⟨g1,g2⟩:=o1 (.inl rfl)
   exact aT 0 g1 (by omega)
  simp only [Int.reduceBEq,f9,no,f7,Zj,et,ela,ewl,efr,ei,zt ht,gN,Xa,Int.reduceEq,XB]
  by_cases hv:16≤st.length
  ·grind
  ·rw [if_neg hv,if_neg hv]
   simp only [XO,no,f7,Zj]
   rw [show bH _ _=_ from lY (e:=e) (a:=a) (pt (fs++[f],st++[f.2.getD u.toNat 0],w,false)) (by omega),fH]
   rfl
 ·subst h
  have ei : ∀ v:Int,ac f.2 u=some (f.2.getD u.toNat 0):=by
   obtain ⟨g1,g2⟩:=o1 (.inr (.inl rfl))
   exact fun _=>aT 0 g1 (by omega)
  simp only [Int.reduceBEq,f9,no,f7,Zj,gN,Xa,Int.reduceEq,XB,xr ht (show st.length≤1048576 by omega)]
  by_cases hv:st.length=0
  ·grind
  ·rw [if_neg hv,if_neg hv]
   simp only [XO,no,f7,Zj,bG (pt _),ela,ewl,efr,ei 0,af,ke (pt _),f9,ZX,W9,aq (show 0≤(fs.length:Int)∧(fs.length:Int)<(fs.length:Int)+1 - 0 by omega),W4,cY]
   refine (XZ (fun o:Option ay=>o.bind fun r33=>some (true,r33)) (lY (c:=c) (e:=e) (a:=a) (s:=bM (bM s i (fs++[f],st.take (st.length - 1),w,false)) i (fs++[(f.1,f.2.set u.toNat (st.getD (st.length - 1) 0))],st.take (st.length - 1),w,false)) (zV (pt _)) (by omega))).trans ?_
   rw [fH,fH]
   rfl
 ·subst h
  simp only [Int.reduceBEq,f9,no,f7,Zj,zt ht,gN,Xa,Int.reduceEq,XB]
  by_cases hv:16≤st.length
  ·grind
  ·rw [if_neg hv,if_neg hv]
   simp only [XO,no,f7,Zj]
   rw [show bH _ _=_ from lY (e:=e) (a:=a) (pt (fs++[f],st++[e.1],w,false)) (by omega),fH]
   rfl
 ·subst h
  simp only [Int.reduceBEq,f9,no,f7,Zj,gN,Xa,Int.reduceEq,XB,U2 ht (show fs.length<1048576 by omega)]
 ·subst h
  simp only [Int.reduceBEq,f9,no,f7,Zj,gN,Xa,Int.reduceEq,XB,xr ht (show st.length≤1048576 by omega)]
  by_cases hv:st.length=0
  ·grind
  ·rw [if_neg hv,if_neg hv]
   simp only [XO,no]
   by_cases hz:st.getD (st.length - 1) 0=0
   ·rw [if_pos hz,bt hz]
    simp only [f9,U2 (pt _) (show fs.length<1048576 by omega),f7,Zj,fH]
   ·rw [if_neg hz,bf hz]
    simp only [no,f7,Zj]
    rw [show bH _ _=_ from lY (e:=e) (a:=a) (pt (fs++[f],st.take (st.length - 1),w,false)) (by omega),fH]
    rfl
 ·subst h
  obtain ⟨g1,g2⟩:=o3 (.inl rfl)
  have ei:ac c.2.1 u=some (c.2.1.getD u.toNat 0):=aT 0 g1 g2
  have ej:ac c.2.2.1 u=some (c.2.2.1.getD u.toNat 0):=aT 0 g1 (by have:=hLi.1.2.1; omega)
  obtain ⟨_,_,_,_,q5,q6⟩:=hLi.2.2.1 u.toNat (by omega)
  simp only [Int.reduceBEq,f9,no,f7,Zj,gN,Xa,Int.reduceEq,XB,et,ela]
  by_cases hv:8≤fs.length+1
  ·grind
  ·rw [aE (show ¬ (8:Int)≤(fs.length:Int)+1 by omega),if_neg hv]
   simp only [no,lY ht (show fs.length<1048576 by omega),f7,Zj,bG (pt _),af,ke (pt _),f9,ZX,W9,ei,ej,W4]
   rw [aq (show 0≤c.2.2.1.getD u.toNat 0∧c.2.2.1.getD u.toNat 0 * 8≤281474976710656∧c.2.2.1.getD u.toNat 0≤maxLen by refine ⟨q5,by omega,?_⟩; simp only [maxLen]; omega),show aK (fs++[(ad (f.1+1),f.2)]).length ([(c.2.1.getD u.toNat 0,List.replicate (c.2.2.1.getD u.toNat 0).toNat 0)]:List Fr).length 32=true from ba (by grind) (by omega)]
   simp only [f9,f7,Zj]
   rw [← fH (t:=(fs++[(ad (f.1+1),f.2)],st,w,false)) (t' := (fs++[(ad (f.1+1),f.2)]++[(c.2.1.getD u.toNat 0,List.replicate (c.2.2.1.getD u.toNat 0).toNat 0)],st,w,false))]
   rfl
 ·subst h
  have et2:(fs++[f]).take fs.length=fs:=E8 fs f
  simp only [Int.reduceBEq,f9,no,f7,Zj,gN,Xa,Int.reduceEq,XB,et,ela,ewl,af,ke ht,ZX,W9,W4,et2]
  rw [aq (show 0≤(fs.length:Int)∧(fs.length:Int)≤(fs.length:Int)+1 by omega)]
  rfl
 ·subst h
  obtain ⟨g1,g2⟩:=o4 rfl
  have ei:ac c.2.2.2.2.2.2.2 b=some (c.2.2.2.2.2.2.2.getD b.toNat []):=by
   rw [g2]
   exact aT [] (by omega) (by have:=hLi.1.2.2; have:=hpr.1; omega)
  simp only [Int.reduceBEq,f9,no,f7,Zj,gN,Xa,Int.reduceEq,XB,xr ht (show st.length≤1048576 by omega)]
  by_cases hv:st.length=0
  ·grind
  ·rw [if_neg hv,if_neg hv]
   simp only [XO,no]
   by_cases hz:st.getD (st.length - 1) 0=0
   ·rw [if_pos hz,bt hz]
    simp only [f9,ei,f7,Zj]
    refine (XZ (fun o:Option ay=>o.bind fun r33=>some (true,r33)) (lY (c:=c) (e:=e) (a:=a) (s:=uO (bM s i (fs++[f],st.take (st.length - 1),w,false)) 1 u (c.2.2.2.2.2.2.2.getD b.toNat [])) (pt _) (by omega))).trans ?_
    rw [show bM (uO (bM s i (fs++[f],st.take (st.length - 1),w,false)) 1 u (c.2.2.2.2.2.2.2.getD b.toNat [])) i (fs++[(ad (f.1+1),f.2)],st.take (st.length - 1),w,false)=uO (bM (bM s i (fs++[f],st.take (st.length - 1),w,false)) i (fs++[(ad (f.1+1),f.2)],st.take (st.length - 1),w,false)) 1 u (c.2.2.2.2.2.2.2.getD b.toNat []) from rfl,fH]
    rfl
   ·rw [if_neg hz,bf hz]
    simp only [no,f7,Zj]
    rw [show bH _ _=_ from lY (e:=e) (a:=a) (pt (fs++[f],st.take (st.length - 1),w,false)) (by omega),fH]
    rfl
 ·subst h
  simp only [Int.reduceBEq,f9,no,f7,Zj,gN,Xa,Int.reduceEq,XB]
  exact XZ (fun o:Option ay=>o.bind fun r33=>some (true,r33)) (lY (c:=c) (e:=e) (a:=a) (s:=We s u) ht (by omega))
 ·have hne : ∀ m:Int,(m<4∨9<m)→(op==m)=false∧¬ op=m:=fun m hm=>⟨by rw [XT]; omega,by omega⟩
  simp only [f7,Zj,gN,no,akH ht hm h,XB,(hne 0 (by omega)).1,(hne 1 (by omega)).1,(hne 2 (by omega)).1,(hne 3 (by omega)).1,(hne 10 (by omega)).1,(hne 11 (by omega)).1,(hne 12 (by omega)).1,(hne 13 (by omega)).1,(hne 14 (by omega)).1,(hne 15 (by omega)).1,(hne 0 (by omega)).2,(hne 1 (by omega)).2,(hne 2 (by omega)).2,(hne 3 (by omega)).2,(hne 10 (by omega)).2,(hne 11 (by omega)).2,(hne 12 (by omega)).2,(hne 13 (by omega)).2,(hne 14 (by omega)).2,(hne 15 (by omega)).2]
  by_cases hv:st.length<2
  ·grind
  ·rw [if_neg hv,if_neg hv]
   simp only [XO,no,f7,Zj]
   rw [show bH _ _=_ from lY (e:=e) (a:=a) (pt (fs++[f],st.take (st.length - 2)++[AB op (st.getD (st.length - 2) 0) (st.getD (st.length - 1) 0)],w,false)) (by omega),fH]
   rfl
structure Run1 (c:CC) (fs:List Fr) (f:Fr) (st:List Int):Prop where
 n:fs.length<8
 m:st.length≤16
 fr : ∀ g∈fs++[f],uJ c g
theorem gx {c:CC} {s:aF} {fs:List Fr} {f:Fr}   (ht:s.1[i]? = some (fs++[f],st,w,false)) (h:Run1 c fs f st) : ∃ k pc,AtP c s i fs f st w (cz c f.1.toNat) k pc:=by
 obtain ⟨k,pc,h1,h2,h3,h4⟩:=h.fr f (by simp)
 exact ⟨k,pc,ht,h.n,h.m,h1,h2,h3,h4,by rw [h1]; rfl⟩
theorem N3 {c:CC} (hc:bc c) {k:Nat} (hpc:pc<c.1.length) (hk:lk c.2.1 (pc:Int) k) (h13:(cz c pc).1≠13) (h28:(cz c pc).1≠28) {l:List Int} (hl:(l.length:Int)=c.2.2.1.getD k 0) :
  uJ c (ad ((pc:Int)+1),l):=by
 obtain ⟨hl512,hL,hA,hS⟩:=hc
 have hF:=hA k pc hpc hk
 have h1:=(pb hS hL hpc).1 hk
 have h2:=(sD hS hL h1.1).2
 have hlt:(pc:Int)+1<cL c k:=by
  have:=hF.2.1.2.2.2.2
  grind
 rw [aY (by omega) (by omega)]
 exact ⟨k,pc+1,by simp,by omega,(pb hS hL (by omega)).2 ⟨h1.1,by omega,by omega⟩,hl⟩
theorem aeu {c:CC} (hc:bc c) {k:Nat} (hk:k<c.2.1.length) (ha:uB a (c.2.1.getD k 0) (cL c k)) {l:List Int} (hl:(l.length:Int)=c.2.2.1.getD k 0):uJ c (a,l):=by
 obtain ⟨hl512,hL,hA,hS⟩:=hc
 have h2:=(sD hS hL hk).2
 have h3:=xU (pq hL hS) hk
 obtain ⟨g1,g2⟩:=ha
 refine ⟨k,a.toNat,by simp; omega,by omega,(pb hS hL (by omega)).2 ⟨hk,by omega,by omega⟩,hl⟩
theorem Ed {c:CC} (hc:bc c) {a:Nat} (ha:a<c.2.1.length):uJ c (c.2.1.getD a 0,List.replicate (c.2.2.1.getD a 0).toNat 0):=by
 obtain ⟨hl512,hL,hA,hS⟩:=hc
 have h2:=(sD hS hL ha)
 have h3:=xU (pq hL hS) ha
 obtain ⟨_,_,_,_,q5,q6⟩:=hL.2.2.1 a ha
 refine ⟨a,(c.2.1.getD a 0).toNat,(agh h3).symm,by omega,(pb hS hL (by omega)).2 ⟨ha,by omega,by omega⟩,?_⟩
 grind
def tf (s s' : aF):Prop:=
 s'.2.1=s.2.1∧s'.2.2.1=s.2.2.1∧s'.2.2.2.1=s.2.2.2.1∧s'.2.2.2.2.1=s.2.2.2.2.1∧s'.2.2.2.2.2.1=s.2.2.2.2.2.1∧s'.2.2.2.2.2.2.1=s.2.2.2.2.2.2.1∧s'.2.2.2.2.2.2.2.1.1=s.2.2.2.2.2.2.2.1.1∧s'.2.2.2.2.2.2.2.1.2.2=s.2.2.2.2.2.2.2.1.2.2∧s'.2.2.2.2.2.2.2.2.1=s.2.2.2.2.2.2.2.2.1
theorem mD {s:aF} {t:Th}:tf s (bM s i t):=⟨rfl,rfl,rfl,rfl,rfl,rfl,rfl,rfl,rfl⟩
theorem QJ {s t u:aF} (h:tf s t) (h' : tf t u):tf s u:=by
 obtain ⟨a1,a2,a3,a4,a5,a6,a7,a8,a9⟩:=h
 obtain ⟨b1,b2,b3,b4,b5,b6,b7,b8,b9⟩:=h'
 exact ⟨b1.trans a1,b2.trans a2,b3.trans a3,b4.trans a4,b5.trans a5,b6.trans a6,b7.trans a7,b8.trans a8,b9.trans a9⟩
theorem C7 {c:CC} (hc:bc c) {kind:Int} {s s' : aF} {fs:List Fr} {f:Fr}   {x:bu} {k:Nat} (h:AtP c s i fs f st w x k pc) (hr:Run1 c fs f st) (hop:x.1<16) (hb:x.1=13→fs≠[])
  (he:gN c kind s i fs f st w x=some s') : ∃ fs' f' st',s'.1=s.1.set i (fs' ++ [f'],st',w,false)∧Run1 c fs' f' st' ∧ tf s s' := by
 obtain ⟨ht,hn,hm,hpc1,hpc2,hpr,hlo,hx⟩:=h
 have hF:=hc.2.2.1 k pc hpc2 hpr
 rw [hx] at hF
 obtain ⟨⟨h0,_⟩,_,hO⟩:=hF
 have hfs : ∀ g∈fs,uJ c g:=fun g hg=>hr.fr g (by simp [hg])
 have nx:x.1≠13→∀ l:List Int,(l.length:Int)=c.2.2.1.getD k 0→∀ g∈fs++[(ad (f.1+1),l)],uJ c g:=by
  intro h13 l hl g hg
  rcases Xd.1 hg with hg | hg
  ·exact hfs g hg
  ·rw [Wz] at hg
   rw [hg,hpc1]
   exact N3 hc hpc2 hpr (by grind) (by rw [hx]; omega) hl
 have jm : ∀ a,uB a (c.2.1.getD k 0) (cL c k)→∀ g∈fs++[(a,f.2)],uJ c g:=by
  intro a ha g hg
  rcases Xd.1 hg with hg | hg
  ·exact hfs g hg
  ·rw [Wz] at hg
   rw [hg]
   exact aeu hc hpr.1 ha hlo
 obtain ⟨op,u,b⟩:=x
 obtain ⟨o1,o2,o3,o4,o5,o6,o7,o8,o9,o10,o11,o12⟩:=hO
 dsimp only at hop h0 hb nx o1 o2 o3 o4 o5 o6 o7 o8 o9 o10 o11 o12
 have pu : ∀ v:Int,op≠13→(if 16≤st.length then none else some (bM s i (fs++[(ad (f.1+1),f.2)],st++[v],w,false)))=some s' → ∃ fs' f' st',s'.1=s.1.set i (fs' ++ [f'],st',w,false)∧Run1 c fs' f' st' ∧ tf s s' := by
  intro v h13 hv
  by_cases h16:16≤st.length
  ·grind
  ·rw [if_neg h16] at hv
   cases hv
   exact ⟨fs,_,_,rfl,⟨hn,by simp; omega,nx h13 f.2 hlo⟩,mD⟩
 unfold gN at he
 rcases Wy h0 hop with h | h | h | h | h | h | h | h | h | h | h
 ·subst h
  grind
 ·subst h
  grind
 ·subst h
  simp only [Int.reduceEq,XB,Xa] at he
  by_cases hv:st.length=0
  ·grind
  rw [if_neg hv] at he
  cases he
  exact ⟨fs,_,_,rfl,⟨hn,by grind,nx (by omega) _ (by grind)⟩,mD⟩
 ·subst h
  grind
 ·subst h
  simp only [Int.reduceEq,XB,Xa] at he
  cases he
  exact ⟨fs,_,_,rfl,⟨hn,hm,jm _ (o2 (.inl rfl))⟩,mD⟩
 ·subst h
  simp only [Int.reduceEq,XB,Xa] at he
  by_cases hv:st.length=0
  ·grind
  rw [if_neg hv] at he
  cases he
  refine ⟨fs,_,_,rfl,⟨hn,by grind,?_⟩,mD⟩
  grind
 ·subst h
  simp only [Int.reduceEq,XB,Xa] at he
  by_cases hv:8≤fs.length+1
  ·grind
  rw [if_neg hv] at he
  cases he
  obtain ⟨g1,g2⟩:=o3 (.inl rfl)
  refine ⟨_,_,_,rfl,⟨by grind,hm,?_⟩,mD⟩
  intro g hg
  rcases Xd.1 hg with hg | hg
  ·grind
  ·rw [Wz] at hg
   rw [hg]
   exact Ed hc (by omega)
 ·subst h
  simp only [Int.reduceEq,XB,Xa] at he
  cases he
  rcases List.eq_nil_or_concat fs with h | ⟨fs',f',rfl⟩
  ·grind
  rw [List.concat_eq_append] at *
  exact ⟨fs',f',st,rfl,⟨by grind,hm,hfs⟩,mD⟩
 ·subst h
  simp only [Int.reduceEq,XB,Xa] at he
  by_cases hv:st.length=0
  ·grind
  rw [if_neg hv] at he
  cases he
  refine ⟨fs,(ad (f.1+1),f.2),st.take (st.length - 1),?_,⟨hn,by grind,nx (by omega) _ hlo⟩,?_⟩
  ·split <;> rfl
  ·split
   ·exact ⟨rfl,rfl,rfl,rfl,rfl,rfl,rfl,rfl,rfl⟩
   ·exact mD
 ·subst h
  simp only [Int.reduceEq,XB,Xa] at he
  cases he
  exact ⟨fs,_,_,rfl,⟨hn,hm,nx (by omega) _ hlo⟩,⟨rfl,rfl,rfl,rfl,rfl,rfl,rfl,rfl,rfl⟩⟩
 ·have hne : ∀ m:Int,(m<4∨9<m)→¬ op=m:=fun m hm=>by omega
  simp only [hne 0 (by omega),hne 1 (by omega),hne 2 (by omega),hne 3 (by omega),hne 10 (by omega),hne 11 (by omega),hne 12 (by omega),hne 13 (by omega),hne 14 (by omega),hne 15 (by omega),XB] at he
  by_cases hv:st.length<2
  ·grind
  rw [if_neg hv] at he
  cases he
  exact ⟨fs,_,_,rfl,⟨hn,by grind,nx (by omega) _ hlo⟩,mD⟩
def Jk (t:Th):Prop:=t.1.length≤1048576∧t.2.1.length≤1048576∧∀ f∈t.1,f.2.length≤1048576
def cU (s:aF):Prop:=s.1.length≤1048576∧(∀ t∈s.1,Jk t)∧s.2.1.length≤1048576∧s.2.2.1.length≤1048576∧(∀ q∈s.2.2.1,q.length≤1048576)∧s.2.2.2.1.length≤1048576∧s.2.2.2.2.1.length≤1048576
theorem dv {xs:List α}  (d:α) (h:i<xs.length):xs.getD i d∈xs:=by
 simp [h]
theorem akJ (t:Th) (h:Jk t):Itr.it (i4 t) (0,([]:List Fr),([]:List Int)++t.2.1,t.2.2)=some t:=by
 obtain ⟨h1,h2,h3⟩:=h
 exact dc (f:=i4 t) (fun s=>t.1.length - s.1.toNat) (fun _=>t) (fun s=>∃ i:Nat,s=((i:Int),t.1.take i,t.2.1,t.2.2)∧i≤t.1.length)
  (fun s hs=>by
   obtain ⟨i,rfl,hi⟩:=hs
   unfold i4
   rcases XJ i t.1.length with hlt | hge
   ·right
    refine ⟨(((i+1:Nat):Int),t.1.take (i+1),t.2.1,t.2.2),?_,⟨i+1,rfl,by omega⟩,by grind,rfl⟩
    have hf:=h3 _ (dv (0,[]) hlt)
    have e1:aK ([]:List Int).length (t.1.getD i (0,[])).2.length 8=true:=ba (by grind) (by omega)
    have e2:aK (t.1.take i).length ([((t.1.getD i (0,[])).1,([]:List Int)++(t.1.getD i (0,[])).2)]:List Fr).length 32=true:=ba (by grind) (by omega)
    simp only [aq (show (i:Int)<(t.1.length:Int) by omega),f9,aB (0,[]) hlt,f7,af,e1,e2,aW (n:=t.1.length) (by omega) hlt,eW (0,[]) hlt]
    rfl
   grind) (s:=(0,[],t.2.1,t.2.2)) ⟨0,rfl,by omega⟩ (by grind)
theorem akU (s:aF) (hs:cU s) (z:ko) (hz:z.1=[]):Itr.it (iT s) (0,z)=some (s.1,z.2):=by
 obtain ⟨h1,h2,h3⟩:=hs
 refine dc (f:=iT s) (fun y=>s.1.length - y.1.toNat) (fun _=>(s.1,z.2)) (fun y=>∃ i:Nat,y=((i:Int),s.1.take i,z.2)∧i≤s.1.length)
  (fun y hy=>by
   obtain ⟨i,rfl,hi⟩:=hy
   unfold iT
   rcases XJ i s.1.length with hlt | hge
   ·right
    refine ⟨(((i+1:Nat):Int),s.1.take (i+1),z.2),?_,⟨i+1,rfl,by omega⟩,by grind,rfl⟩
    have ht:=h2 _ (dv ([],[],0,false) hlt)
    have e1:aK ([]:List Int).length (s.1.getD i ([],[],0,false)).2.1.length 8=true:=ba (by simp only [List.length_nil]; have:=ht.2.1; omega) (by omega)
    have e2:aK (s.1.take i).length ([s.1.getD i ([],[],0,false)]:List Th).length 64=true:=ba (by grind) (by omega)
    simp only [aq (show (i:Int)<(s.1.length:Int) by omega),f9,aB ([],[],0,false) hlt,f7,af,e1,akJ _ ht,e2,aW (n:=s.1.length) (by omega) hlt,eW ([],[],0,false) hlt]
    rfl
   grind) ⟨0,?_,by omega⟩ (by grind)
 grind
theorem akO (s:aF) (hs:cU s) (z:ko) (hz:z.2.2.1=[]):Itr.it (iZ s) (0,z)=some (z.1,z.2.1,s.2.2.1,z.2.2.2):=by
 obtain ⟨_,_,_,h1,h2,_⟩:=hs
 refine dc (f:=iZ s) (fun y=>s.2.2.1.length - y.1.toNat) (fun _=>(z.1,z.2.1,s.2.2.1,z.2.2.2)) (fun y=>∃ i:Nat,y=((i:Int),z.1,z.2.1,s.2.2.1.take i,z.2.2.2)∧i≤s.2.2.1.length)
  (fun y hy=>by
   obtain ⟨i,rfl,hi⟩:=hy
   unfold iZ
   rcases XJ i s.2.2.1.length with hlt | hge
   ·right
    refine ⟨(((i+1:Nat):Int),z.1,z.2.1,s.2.2.1.take (i+1),z.2.2.2),?_,⟨i+1,rfl,by omega⟩,by grind,rfl⟩
    have ht:=h2 _ (dv [] hlt)
    have e1:aK ([]:List Int).length (s.2.2.1.getD i []).length 8=true:=ba (by grind) (by omega)
    have e2:aK (s.2.2.1.take i).length ([([]:List Int)++s.2.2.1.getD i []]:List (List Int)).length 24=true:=ba (by grind) (by omega)
    simp only [aq (show (i:Int)<(s.2.2.1.length:Int) by omega),f9,aB [] hlt,f7,af,e1,e2,aW (n:=s.2.2.1.length) (by omega) hlt,eW [] hlt]
    rfl
   grind) ⟨0,?_,by omega⟩ (by grind)
 grind
theorem Ak (s:aF) (hs:cU s):fe s=some s:=by
 unfold fe
 have h:=hs
 obtain ⟨h1,h2,h3,h4,h5,h6,h7⟩:=h
 have e1:aK ([]:List Int).length s.2.1.length 8=true:=ba (by grind) (by omega)
 have e2:aK ([]:List Int).length s.2.2.2.1.length 8=true:=ba (by grind) (by omega)
 have e3:aK ([]:List Int).length s.2.2.2.2.1.length 8=true:=ba (by grind) (by omega)
 dsimp only
 rw [akU s hs _ rfl]
 simp only [f7,Zj,af,e1,e2,e3,f9]
 rw [akO s hs _ rfl]
 rfl
def tz (t:Th):Fr:=t.1.getLastD (0,[])
def be (s:aF) (i:Nat):Th:=s.1.getD i ([],[],0,false)
def dM (c:CC) (t:Th):bu:=cz c (tz t).1.toNat
def bj (s:aF):Int:=s.2.2.2.2.2.2.2.2.2.1
def dE (x:bu) (n:Nat):Bool:=decide ((16≤x.1∧x.1<29)∨(x.1=13∧n=1))
def fY (c:CC) (s:aF) (i:Nat) (o:Int):aF:=
 let k:=((ge c (tz (be s i)).1).getD 0).toNat
 if (be s i).2.2.2=false then uO s o (ad ((tz (be s i)).1 - c.2.1.getD k 0)) (c.2.2.2.2.2.2.2.getD k []) else uO s o s.2.2.2.2.2.2.2.2.2.2.1 s.2.2.2.2.2.2.2.2.2.2.2
def bX (c:CC) (kind:Int) (i:Nat):Nat→aF→Bool×aF
 | m,s=>
  if 0≤bj s then (true,s) else if dE (dM c (be s i)) (be s i).1.length then (true,s) else match m with
   | 0=>(false,fY c s i 3)
   | m+1=>match gN c kind s i (be s i).1.dropLast (tz (be s i)) (be s i).2.1 (be s i).2.2.1 (dM c (be s i)) with
    | none=>(false,fY c s i 4)
    | some s' => bX c kind i m s'
def pj (c:CC) (s:aF) (i:Nat):Prop:=∃ fs f st w,s.1[i]? = some (fs++[f],st,w,false)∧Run1 c fs f st
theorem dL (fs:List Fr) (f:Fr) (r:List Int×Int×Bool):tz (fs++[f],r)=f:=by
 unfold tz
 simp
theorem d8 {s:aF} {t:Th} (h:s.1[i]? = some t):be s i=t:=by
 unfold be
 simp [h]
theorem Lx {c:CC} {e:bu} {s:aF} {n:Int}  {fs:List Fr} {f:Fr}   {x:bu} {k:Nat} (h:AtP c s i fs f st w x k pc) :
  mI (fl n (c,e,s,acc)) (i:Int)=some (dE x (fs.length+1)):=by
 unfold mI qY dE
 have eat:=aie (e:=e) (acc:=acc) (n:=n) h
 have et:=bG h.t
 simp only [eat,f7,Zj,l7]
 by_cases h1:16≤x.1∧x.1<29
 ·grind
 ·rw [aE h1]
  by_cases h2:x.1=13
  ·rw [bt h2]
   simp only [Xo,afx,f9,no,fl,et,f7,Zj]
   by_cases h3:fs.length+1=1
   ·simp_all
   ·rw [aE (by grind)]
    simp
    omega
  grind
theorem Mv (x:bu) (n:Nat) (hn:1≤n):go x (n:Int)=some (dE x n):=by
 unfold go nO dE
 simp only [l7,f7,Zj,pW]
 by_cases h1:16≤x.1∧x.1<29
 ·grind
 ·rw [aE h1]
  simp only [no]
  congr 1
  grind
theorem wR {c:CC} (hc:bc c) {s:aF} {fs:List Fr} {f:Fr}   {x:bu} {k:Nat} (h:AtP c s i fs f st w x k pc) :
  eM c f.1=some (k:Int)∧ge c f.1=some (k:Int)∧ac c.2.2.2.2.2.2.2 (k:Int)=some (c.2.2.2.2.2.2.2.getD k [])∧ac c.2.1 (k:Int)=some (c.2.1.getD k 0):=by
 have hB:=pq hc.2.1 hc.2.2.2
 have h3:=hc.2.1.1.2.2
 rw [h.pc1]
 exact ⟨NS hB h.pr (by omega),JW hB h.pr,aB [] (by have:=h.pr.1; omega),aB 0 h.pr.1⟩
theorem qu {c:CC} (hc:bc c) {s:aF} {fs:List Fr} {f:Fr}   {x:bu} {k:Nat} (h:AtP c s i fs f st w x k pc) (o:Int):fY c s i o=uO s o (ad (f.1 - c.2.1.getD k 0)) (c.2.2.2.2.2.2.2.getD k []):=by
 unfold fY
 simp only [d8 h.t,dL,(wR hc h).2.1,aet,W4,Xa]
theorem Jn {c:CC} (hc:bc c) {e:bu} {s:aF} {a:List bI} {fs:List Fr} {f:Fr}   {x:bu} {k:Nat} (h:AtP c s i fs f st w x k pc) (o:Int) :
  bV (c,e,s,a) o (i:Int)=some (c,e,fY c s i o,a):=by
 rw [qu hc h]
 unfold bV
 have efr : ∀ g:Fr,ac (fs++[g]) (fs.length:Int)=some g:=fun g=>by simp [ac]
 have ela : ∀ g:Fr,((fs++[g]).length:Int)=(fs.length:Int)+1:=fun g=>by simp
 have ewl:ad ((fs.length:Int)+1 - 1)=(fs.length:Int):=by have:=h.n; rw [aY (by omega) (by omega)]; omega
 obtain ⟨q1,q2,q3,q4⟩:=wR hc h
 simp only [bG h.t,f7,Zj,ela,ewl,efr,q2,q3,q4,aq (show (0:Int)<(fs.length:Int)+1 by omega),f9]
 rfl
theorem Ww {c:CC} {e:bu} {s:aF} {a:List bI} {fs:List Fr} {f:Fr}   {x:bu} {k:Nat} (h:AtP c s i fs f st w x k pc) :
  bW (c,e,s,a) (i:Int)=some x:=by
 unfold bW
 have hx:ac c.1 f.1=some x:=by rw [h.pc1,← h.x]; exact aB _ h.pc2
 have efr : ∀ g:Fr,ac (fs++[g]) (fs.length:Int)=some g:=fun g=>by simp [ac]
 have ela : ∀ g:Fr,((fs++[g]).length:Int)=(fs.length:Int)+1:=fun g=>by simp
 have ewl:ad ((fs.length:Int)+1 - 1)=(fs.length:Int):=by have:=h.n; rw [aY (by omega) (by omega)]; omega
 simp only [bG h.t,f7,Zj,ela,ewl,efr,hx,show ((fs.length:Int)+1==0)=false by grind,no]
theorem sW {c:CC} (hc:bc c) {s:aF} {fs:List Fr} {f:Fr}   {x:bu} {k:Nat} (h:AtP c s i fs f st w x k pc) (hs:dE x (fs.length+1)=false):x.1<16∧(x.1=13→fs≠[]):=by
 have hF:=hc.2.2.1 k pc h.pc2 h.pr
 rw [h.x] at hF
 have h0:=hF.1
 unfold dE at hs
 grind
theorem Fx {c:CC} (hc:bc c) {kind:Int} {s s' : aF} {fs:List Fr} {f:Fr}   {x:bu} {k:Nat} (h:AtP c s i fs f st w x k pc) (hr:Run1 c fs f st) (hs:dE x (fs.length+1)=false) (he:gN c kind s i fs f st w x=some s'):pj c s' i:=by
 obtain ⟨h1,h2⟩:=sW hc h hs
 obtain ⟨fs',f',st',g1,g2,g3⟩:=C7 hc h hr h1 h2 he
 exact ⟨fs',f',st',w,by rw [g1]; exact Yc (cK h.t),g2⟩
theorem qw (c:CC) (kind:Int) (m:Nat) {s:aF} {fs:List Fr} {f:Fr}   {x:bu} {k:Nat} (h:AtP c s i fs f st w x k pc) :
  bX c kind i m s=(if 0≤bj s then (true,s) else if dE x (fs.length+1) then (true,s) else match m with
   | 0=>(false,fY c s i 3)
   | m+1=>match gN c kind s i fs f st w x with
    | none=>(false,fY c s i 4)
    | some s' => bX c kind i m s'):=by
 have hx:dM c (fs++[f],st,w,false)=x:=by
  unfold dM
  rw [dL,h.pc1]
  exact h.x
 rw [bX.eq_def]
 simp only [d8 h.t,hx,dL,Wu,Wr,agc]
theorem aiH {c:CC} (hc:bc c) (e:bu) (acc:List ((Int×Int×Bool)×Bool)) {s0:aF} (hs:pj c s0 i) :
  Itr.it (hU (i:Int)) (fl 0 (c,e,s0,acc))=some (if (bX c e.1 i 64 s0).1 then .inl (fl 0 (c,e,(bX c e.1 i 64 s0).2,acc)).2 else .inr (c,e,(bX c e.1 i 64 s0).2,acc)):=by
 obtain ⟨r,h1,h2⟩:=fw (f:=hU (i:Int)) (fun y=>65 - y.1.toNat) (fun y=>∃ (n:Nat) (s:aF),y=fl (n:Int) (c,e,s,acc)∧n≤64∧pj c s i∧bX c e.1 i (64 - n) s=bX c e.1 i 64 s0)
  (fun r=>r=(if (bX c e.1 i 64 s0).1 then .inl (fl 0 (c,e,(bX c e.1 i 64 s0).2,acc)).2 else .inr (c,e,(bX c e.1 i 64 s0).2,acc)))
  (fun y hy=>by
   obtain ⟨n,s,rfl,hn,⟨fs,f,st,w,ht,hr⟩,hq⟩:=hy
   obtain ⟨k,pc,hA⟩:=gx ht hr
   obtain ⟨q1,q2,q3,q4⟩:=wR hc hA
   rw [← hq,qw c e.1 (64 - n) hA]
   have est:=Lx (e:=e) (acc:=acc) (n:=(n:Int)) hA
   have esi:=fun hop=>akc hc (e:=e) (acc:=acc) (n:=(n:Int)) hA hop
   have eov:=qu hc hA
   have efr : ∀ g:Fr,ac (fs++[g]) (fs.length:Int)=some g:=fun g=>by simp [ac]
   have ela : ∀ g:Fr,((fs++[g]).length:Int)=(fs.length:Int)+1:=fun g=>by simp
   have ewl:ad ((fs.length:Int)+1 - 1)=(fs.length:Int):=by have:=hA.n; rw [aY (by omega) (by omega)]; omega
   have et:=bG ht
   unfold hU
   by_cases ho:0≤bj s
   ·left
    rw [if_pos ho]
    refine ⟨_,?_,rfl⟩
    have : ¬ (s.2.2.2.2.2.2.2.2.2.1<(0:Int)):=by unfold bj at ho; omega
    simp only [fl,this,Zw,no,Xa]
   rw [if_neg ho]
   have hlt:s.2.2.2.2.2.2.2.2.2.1<(0:Int):=by unfold bj at ho; omega
   simp only [est,f7,Zj]
   by_cases hst:dE (cz c f.1.toNat) (fs.length+1)=true
   ·left
    rw [if_pos hst,hst]
    refine ⟨_,?_,rfl⟩
    simp only [fl,hlt,ZU,f9,Xa]
   have hst' : dE (cz c f.1.toNat) (fs.length+1)=false:=by grind
   rw [if_neg hst,hst']
   obtain ⟨hop,hb⟩:=sW hc hA hst'
   rcases afV hn with hn | hn
   rotate_left
   ·left
    subst hn
    refine ⟨_,?_,rfl⟩
    simp only [fl,hlt,ZU,f9,no,show (((64:Nat):Int)==64)=true from rfl,et,f7,Zj,Xo,ela,ewl,efr,ai7,eov]
    rw [show eM _ f.1=_ from q1]
    simp only [f7,Zj,q3,q4]
    rfl
   rw [esi hop]
   obtain ⟨m,hm⟩ : ∃ m,64 - n=m+1:=⟨63 - n,by omega⟩
   rw [hm]
   have h64:((n:Int)==64)=false:=by grind
   cases hsil:gN c e.1 s i fs f st w (cz c f.1.toNat) with
   | none=>
    left
    refine ⟨_,?_,rfl⟩
    simp only [fl,hlt,ZU,f9,no,h64,et,f7,Zj,Xo,ela,ewl,efr,eov]
    rw [show eM _ f.1=_ from q1]
    simp only [f7,Zj,q3,q4]
    rfl
   | some s' =>
    right
    refine ⟨fl ((n+1:Nat):Int) (c,e,s',acc),?_,⟨n+1,s',rfl,by omega,Fx hc hA hr hst' hsil,?_⟩,by show 65 - ((n+1:Nat):Int).toNat<65 - (n:Int).toNat; omega⟩
    ·simp only [fl,hlt,ZU,f9,no,h64,f7,Zj]
     rw [aW (n:=64) (by omega) hn]
     rfl
    ·rw [show 64 - (n+1)=m by omega]) (s:=fl 0 (c,e,s0,acc)) ⟨0,s0,rfl,by omega,hs,rfl⟩ (by grind)
 rw [h1,h2]
def xK (s:aF):aF:=(s.1,s.2.1,s.2.2.1,s.2.2.2.1,s.2.2.2.2.1,s.2.2.2.2.2.1,s.2.2.2.2.2.2.1,(s.2.2.2.2.2.2.2.1.1,s.2.2.2.2.2.2.2.1.2.1,ad (s.2.2.2.2.2.2.2.1.2.2+1)),s.2.2.2.2.2.2.2.2)
def ln (c:CC) (s:aF) (i:Nat):aF×List bI:=
 let t:=be s i
 let x:=dM c t
 if x.1=25 then (bM s i (t.1,t.2.1,ad (s.2.2.2.2.2.1+x.2.1),t.2.2.2),[(4,0,false)])
 else if x.1=21 then (if 0≤s.2.2.2.1.getD x.2.1.toNat 0 then xK s else s,[(2,x.2.1,false)])
 else if x.1=20 then (s,if (c.2.2.2.2.1.getD x.2.1.toNat ([],0)).2=0 then [(1,x.2.1,true)] else [])
 else (s,[])
def bE (c:CC) (kind:Int) (i:Nat) (s:aF):aF×List bI:=
 if (bX c kind i 64 s).1=true∧bj (bX c kind i 64 s).2<0 then ln c (bX c kind i 64 s).2 i else ((bX c kind i 64 s).2,[])
def cB (m:List ((Int×Int×Bool)×Bool)) (a:bI):List ((Int×Int×Bool)×Bool):=
 cR ae (.sc .bool) (a.1,a.2.1,false) (bif (du ae (.sc .bool) (a.1,a.2.1,false) m).getD false then true else a.2.2) m
structure Fit1 (c:CC) (s:aF):Prop where
 vars:s.2.1.length=c.2.2.2.1.length
 qs:s.2.2.1.length=c.2.2.2.2.1.length
 own:s.2.2.2.1.length=c.2.2.2.2.2.1.length
 files:s.2.2.2.2.1.length=c.2.2.2.2.2.2.1.length
theorem Iu {c:CC} {s s' : aF} (h:Fit1 c s) (k:tf s s'):Fit1 c s' := by
 obtain ⟨a1,a2,a3,a4,a5,a6,a7,a8,a9⟩:=k
 exact ⟨by rw [a1]; exact h.1,by rw [a2]; exact h.2,by rw [a3]; exact h.3,by rw [a4]; exact h.4⟩
theorem vk (s:aF):tf s s:=⟨rfl,rfl,rfl,rfl,rfl,rfl,rfl,rfl,rfl⟩
theorem Br (s:aF) (o k:Int) (w:List UInt8):tf s (uO s o k w):=⟨rfl,rfl,rfl,rfl,rfl,rfl,rfl,rfl,rfl⟩
theorem vi {c:CC} (hc:bc c) (kind:Int) : ∀ (m:Nat) {s:aF} {fs:List Fr} {f:Fr} {st:List Int} {w:Int},s.1[i]? = some (fs++[f],st,w,false)→Run1 c fs f st →
  ∃ fs' f' st',(bX c kind i m s).2.1=s.1.set i (fs' ++ [f'],st',w,false)∧Run1 c fs' f' st' ∧ tf s (bX c kind i m s).2∧(bj (bX c kind i m s).2<0→(bX c kind i m s).1=true∧dE (cz c f'.1.toNat) (fs'.length+1)=true):=by
 intro m
 induction m with
 | zero=>
  intro s fs f st w ht hr
  obtain ⟨k,pc,hA⟩:=gx ht hr
  rw [qw c kind 0 hA]
  by_cases h1:0≤bj s
  ·rw [if_pos h1]
   exact ⟨fs,f,st,(gG ht).symm,hr,vk s,fun h=>absurd h1 (by grind)⟩
  rw [if_neg h1]
  by_cases h2:dE (cz c f.1.toNat) (fs.length+1)=true
  ·rw [if_pos h2]
   exact ⟨fs,f,st,(gG ht).symm,hr,vk s,fun _=>⟨rfl,h2⟩⟩
  rw [if_neg h2]
  dsimp only
  rw [qu hc hA]
  exact ⟨fs,f,st,(gG ht).symm,hr,Br ..,fun h=>absurd h (by unfold bj uO; grind)⟩
 | succ m ih=>
  intro s fs f st w ht hr
  obtain ⟨k,pc,hA⟩:=gx ht hr
  rw [qw c kind (m+1) hA]
  by_cases h1:0≤bj s
  ·rw [if_pos h1]
   exact ⟨fs,f,st,(gG ht).symm,hr,vk s,fun h=>absurd h1 (by grind)⟩
  rw [if_neg h1]
  by_cases h2:dE (cz c f.1.toNat) (fs.length+1)=true
  ·rw [if_pos h2]
   exact ⟨fs,f,st,(gG ht).symm,hr,vk s,fun _=>⟨rfl,h2⟩⟩
  rw [if_neg h2]
  obtain ⟨hop,hb⟩:=sW hc hA (by simpa using h2)
  cases hsil:gN c kind s i fs f st w (cz c f.1.toNat) with
  | none=>
   dsimp only
   rw [qu hc hA]
   exact ⟨fs,f,st,(gG ht).symm,hr,Br ..,fun h=>absurd h (by unfold bj uO; grind)⟩
  | some s' =>
   dsimp only
   obtain ⟨fs1,f1,st1,g1,g2,g3⟩:=C7 hc hA hr hop hb hsil
   obtain ⟨fs2,f2,st2,j1,j2,j3,j4⟩:=ih (s:=s') (w:=w) (by grind) g2
   exact ⟨fs2,f2,st2,by rw [j1,g1,af7],j2,QJ g3 j3,j4⟩
theorem NN {c:CC} (hc:bc c) (e:bu) (acc:List ((Int×Int×Bool)×Bool)) {s:aF} (hs:pj c s i) (hf:Fit1 c s) :
  i7 (c,e,s,acc) (i:Int)=some (c,e,(bE c e.1 i s).1,(bE c e.1 i s).2.foldl cB acc):=by
 obtain ⟨fs,f,st,w,ht,hr⟩:=hs
 obtain ⟨fs',f',st',g1,g2,g3,g4⟩:=vi hc e.1 64 ht hr
 have hl:=aiH hc e acc ⟨fs,f,st,w,ht,hr⟩
 have hf' := Iu hf g3
 unfold i7 bE
 generalize bX c e.1 i 64 s=q at *
 obtain ⟨b,s'⟩:=q
 dsimp only at *
 have ht' : s'.1[i]? = some (fs' ++ [f'],st',w,false):=by grind
 simp only [bG ht,f7,Zj]
 refine (XZ (fun o:Option (qF⊕aQ)=>o.bind _) hl).trans ?_
 cases b
 ·rfl
 ·simp only [Xa,f7,Zj,ai6]
  by_cases ho:bj s' < 0
  rotate_left
  ·rw [if_neg ho]
   have:(0:Int)≤s'.2.2.2.2.2.2.2.2.2.1:=by unfold bj at ho; omega
   simp only [fl,this,ZU,f9]
   rfl
  rw [if_pos ho]
  have ho' : ¬ (0:Int)≤s'.2.2.2.2.2.2.2.2.2.1:=by unfold bj at ho; omega
  obtain ⟨k,pc,hA⟩:=gx ht' g2
  have hst:=(g4 ho).2
  have hx:dM c (be s' i)=cz c f'.1.toNat:=by rw [d8 ht']; unfold dM; rw [dL]
  have hF:=hc.2.2.1 k pc hA.pc2 hA.pr
  rw [hA.x] at hF
  have e2:oO (fl 0 (c,e,s',acc)).2 (i:Int)=some (cz c f'.1.toNat):=by
   unfold oO
   have hx:ac c.1 f'.1=some (cz c f'.1.toNat):=by rw [hA.pc1]; exact aB _ hA.pc2
   simp only [fl,bG ht',f7,Zj,no,nX fs' f' (by have:=g2.n; omega),hx]
  unfold ln
  dsimp only
  rw [hx]
  generalize cz c f'.1.toNat=x at *
  obtain ⟨op,u,b⟩:=x
  obtain ⟨_,_,o1,o2,o3,o4,o5,o6,o7,o8,o9,o10,o11,o12⟩:=hF
  dsimp only at o1 o2 o3 o4 o5 o6 o7 o8 o9 o10 o11 o12 hst
  simp only [e2,f7,Zj]
  simp only [fl,ho',Zw,no,bG ht',f7,Zj,d8 ht']
  by_cases h25:op=25
  ·subst h25
   rfl
  rw [bf h25,if_neg h25]
  by_cases h21:op=21
  ·subst h21
   obtain ⟨q1,q2⟩:=o8 (.inl rfl)
   have eo:ac s'.2.2.2.1 u=some (s'.2.2.2.1.getD u.toNat 0):=aT 0 q1 (by have:=hf'.own; omega)
   simp only [Int.reduceBEq,f9,no,Xa,eo,f7,Zj,agi,List.foldl_nil]
   by_cases hw:0≤s'.2.2.2.1.getD u.toNat 0
   ·rw [aq hw,if_pos hw]
    rfl
   ·rw [aE hw,if_neg hw]
    rfl
  rw [bf h21,if_neg h21]
  by_cases h20:op=20
  ·subst h20
   obtain ⟨q1,q2⟩:=o7 (.inr rfl)
   have eo:ac c.2.2.2.2.1 u=some (c.2.2.2.2.1.getD u.toNat ([],0)):=aT _ q1 (by omega)
   simp only [Int.reduceBEq,f9,no,Xa,eo,f7,Zj]
   by_cases hw:(c.2.2.2.2.1.getD u.toNat ([],0)).2=0
   ·rw [show ((c.2.2.2.2.1.getD u.toNat ([],0)).2==0)=true by grind,if_pos hw]
    rfl
   grind
  grind
def gM (n:Int) (r:ay):zr:=(n,r.1.1,r.1.2.1,r.1.2.2.1,r.1.2.2.2.1,r.1.2.2.2.2.1,r.1.2.2.2.2.2.1,r.1.2.2.2.2.2.2.1,r.1.2.2.2.2.2.2.2,r.2.1.1,r.2.1.2.1,r.2.1.2.2,r.2.2.1.1,r.2.2.1.2.1,r.2.2.1.2.2.1,r.2.2.1.2.2.2.1,r.2.2.1.2.2.2.2.1,r.2.2.1.2.2.2.2.2.1,r.2.2.1.2.2.2.2.2.2.1,r.2.2.1.2.2.2.2.2.2.2.1.1,r.2.2.1.2.2.2.2.2.2.2.1.2.1,r.2.2.1.2.2.2.2.2.2.2.1.2.2,r.2.2.1.2.2.2.2.2.2.2.2.1,r.2.2.1.2.2.2.2.2.2.2.2.2.1,r.2.2.1.2.2.2.2.2.2.2.2.2.2.1,r.2.2.1.2.2.2.2.2.2.2.2.2.2.2,r.2.2.2)
theorem ae5 {c:CC} (hc:bc c) {e:bu} {s:aF} {a:List bI} {fs:List Fr} {f:Fr}   {x:bu} {k:Nat} (h:AtP c s i fs f st w x k pc) (hf:Fit1 c s) (ha:a.length≤1048576) :
  gu (c,e,s,a) x (i:Int)=some (c,e,(ln c s i).1,a++(ln c s i).2):=by
 have hF:=hc.2.2.1 k pc h.pc2 h.pr
 rw [h.x] at hF
 have hx:dM c (be s i)=x:=by
  rw [d8 h.t]; unfold dM; rw [dL,h.pc1]; exact h.x
 unfold ln
 dsimp only
 rw [hx]
 obtain ⟨op,u,b⟩:=x
 obtain ⟨_,_,o1,o2,o3,o4,o5,o6,o7,o8,o9,o10,o11,o12⟩:=hF
 dsimp only at o1 o2 o3 o4 o5 o6 o7 o8 o9 o10 o11 o12
 have eap : ∀ v:bI,aK a.length ([v]:List bI).length 24=true:=fun v=>ba (by grind) (by omega)
 unfold gu
 dsimp only
 by_cases h25:op=25
 ·subst h25
  simp only [Int.reduceBEq,f9,no,Xa,bG h.t,f7,Zj,eap,af,d8 h.t,W4]
  rfl
 rw [bf h25,if_neg h25]
 by_cases h21:op=21
 ·subst h21
  obtain ⟨q1,q2⟩:=o8 (.inl rfl)
  have eo:ac s.2.2.2.1 u=some (s.2.2.2.1.getD u.toNat 0):=aT 0 q1 (by have:=hf.own; omega)
  have hp1:kq (c,e,s,a) (21,u,b)=some (gM 0 (c,e,(if 0≤s.2.2.2.1.getD u.toNat 0 then xK s else s),a)).2:=by
   unfold kq
   simp only [eo,f7,Zj]
   by_cases hw:0≤s.2.2.2.1.getD u.toNat 0
   ·rw [aq hw,if_pos hw]
    rfl
   ·rw [aE hw,if_neg hw]
    rfl
  simp only [Int.reduceBEq,f9,no,Xa,hp1,f7,Zj]
  generalize (if 0≤s.2.2.2.1.getD u.toNat 0 then xK s else s)=s2
  simp only [gM,eap,af,f9]
 rw [bf h21,if_neg h21]
 by_cases h20:op=20
 ·subst h20
  obtain ⟨q1,q2⟩:=o7 (.inr rfl)
  have eo:ac c.2.2.2.2.1 u=some (c.2.2.2.2.1.getD u.toNat ([],0)):=aT _ q1 (by omega)
  simp only [Int.reduceBEq,f9,no,Xa,eo,f7,Zj]
  by_cases hw:(c.2.2.2.2.1.getD u.toNat ([],0)).2=0
  ·rw [show ((c.2.2.2.2.1.getD u.toNat ([],0)).2==0)=true by grind,if_pos hw]
   simp only [f9,eap,af]
  grind
 grind
theorem VD (i:Int) (n:Int) (r:ay):iA i (gM n r) =
  bif decide (r.2.2.1.2.2.2.2.2.2.2.2.2.1<(0:Int)) then
   (bW r i).bind fun r2=>(ac r.2.2.1.1 i).bind fun _=>(ac r.2.2.1.1 i).bind fun v4=>(go r2 (v4.1.length:Int)).bind fun r5=>
   bif r5 then (gu r r2 i).bind fun r6=>some (Sum.inr r6)
   else bif n==(64:Int) then (bV r 3 i).bind fun r7=>some (Sum.inr r7)
   else (fe r.2.2.1).bind fun r8=>(ga r r2 i).bind fun r9=>
    bif !r9.1 then (bV (r9.2.1,r9.2.2.1,r8,r9.2.2.2.2) 4 i).bind fun r10=>some (Sum.inr r10)
    else some (Sum.inl (gM (ad (n+1)) r9.2))
  else some (Sum.inr r):=rfl
theorem yB {c:CC} (hc:bc c) {f:Fr} (h:uJ c f):f.2.length≤512:=by
 obtain ⟨k,pc,_,_,h3,h4⟩:=h
 obtain ⟨_,_,_,_,q5,q6⟩:=hc.2.1.2.2.1 k h3.1
 omega
theorem U0 {c:CC} (hc:bc c) {s s' : aF} (hs:cU s) {fs:List Fr} {f:Fr}   (h:s'.1=s.1.set i (fs++[f],st,w,false)) (hr:Run1 c fs f st) (k:tf s s'):cU s' := by
 obtain ⟨h1,h2,h3,h4,h5,h6,h7⟩:=hs
 obtain ⟨a1,a2,a3,a4,a5,a6,a7,a8,a9⟩:=k
 unfold cU
 rw [h,a1,a2,a3,a4]
 refine ⟨by simpa using h1,fun t ht=>?_,h3,h4,h5,h6,h7⟩
 rcases aao ht with ht | rfl
 ·exact h2 t ht
 ·have:=hr.n
  have:=hr.m
  exact ⟨by grind,by grind,fun g hg=>by have:=yB hc (hr.fr g hg); omega⟩
theorem OG {c:CC} (hc:bc c) (e:bu) (a:List bI) (ha:a.length≤1048576) {s0:aF} (hs:pj c s0 i) (hf:Fit1 c s0) (hsm:cU s0) :
  fT (c,e,s0,a) (i:Int)=some (c,e,(bE c e.1 i s0).1,a++(bE c e.1 i s0).2):=by
 obtain ⟨r,h1,h2⟩:=fw (f:=iA (i:Int)) (fun y=>65 - y.1.toNat) (fun y=>∃ (n:Nat) (s:aF),y=gM (n:Int) (c,e,s,a)∧n≤64∧pj c s i∧Fit1 c s∧cU s∧bX c e.1 i (64 - n) s=bX c e.1 i 64 s0)
  (fun r=>r=(c,e,(bE c e.1 i s0).1,a++(bE c e.1 i s0).2))
  (fun y hy=>by
   obtain ⟨n,s,rfl,hn,⟨fs,f,st,w,ht,hr⟩,hf,hsm,hq⟩:=hy
   obtain ⟨k,pc,hA⟩:=gx ht hr
   unfold bE
   rw [← hq,qw c e.1 (64 - n) hA]
   have eat:bW (c,e,s,a) (i:Int)=some (cz c f.1.toNat):=Ww hA
   have eov:=fun o=>Jn hc (e:=e) (a:=a) hA o
   have esi:=fun hop=>aki hc (e:=e) (a:=a) hA hop
   have est:=ae5 hc (e:=e) hA hf ha
   have esd:=Mv (cz c f.1.toNat) (fs.length+1) (by omega)
   have ela:((fs++[f]).length:Int)=((fs.length+1:Nat):Int):=by simp
   have et:=bG ht
   have ecp:=Ak s hsm
   rw [VD]
   by_cases ho:0≤bj s
   ·left
    rw [if_pos ho]
    refine ⟨_,?_,rfl⟩
    have : ¬ (s.2.2.2.2.2.2.2.2.2.1<(0:Int)):=by unfold bj at ho; omega
    grind
   rw [if_neg ho]
   have hlt:s.2.2.2.2.2.2.2.2.2.1<(0:Int):=by unfold bj at ho; omega
   simp only [hlt,ZU,f9,eat,et,f7,Zj,ela,esd]
   by_cases hst:dE (cz c f.1.toNat) (fs.length+1)=true
   ·left
    grind
   have hst' : dE (cz c f.1.toNat) (fs.length+1)=false:=by grind
   obtain ⟨hop,hb⟩:=sW hc hA hst'
   have hov : ∀ o:Int,0≤o→¬ bj (fY c s i o)<0:=by
    intro o h0
    rw [qu hc hA]
    unfold bj uO
    grind
   rw [hst']
   rcases afV hn with hn | hn
   rotate_left
   ·left
    simp_all
   obtain ⟨m,hm⟩ : ∃ m,64 - n=m+1:=⟨63 - n,by omega⟩
   rw [hm]
   have h64:((n:Int)==64)=false:=by grind
   simp only [no,Ys,XB,h64,ecp,f7,Zj,esi hop]
   cases hsil:gN c e.1 s i fs f st w (cz c f.1.toNat) with
   | none=>
    left
    grind
   | some s' =>
    right
    obtain ⟨fs1,f1,st1,g1,g2,g3⟩:=C7 hc hA hr hop hb hsil
    refine ⟨gM ((n+1:Nat):Int) (c,e,s',a),?_,⟨n+1,s',rfl,by omega,Fx hc hA hr hst' hsil,Iu hf g3,U0 hc hsm g1 g2 g3,?_⟩,by show 65 - ((n+1:Nat):Int).toNat<65 - (n:Int).toNat; omega⟩
    ·simp only [XO,no]
     rw [aW (n:=64) (by omega) hn]
     rfl
    ·rw [show 64 - (n+1)=m by omega]) (s:=gM 0 (c,e,s0,a)) ⟨0,s0,rfl,by omega,hs,hf,hsm,rfl⟩ (by grind)
 unfold fT
 dsimp only
 refine Eq.trans h1 ?_
 rw [h2]
end Go.Proofs.YtfhhiajfciblbaaGreatDoor
