/- Laws for the row. No condition. -/
import Derived.Test.YtfhhiajfciblbaaGreatDoorFn
namespace Go.Proofs.YtfhhiajfciblbaaGreatDoor
open Go.Sm
variable {i pc n j:Nat} {st b:List Int} {w a op:Int} {α R:Type} {c:ax} {acc:List ((Int×Int×Bool)×Bool)}
instance instItr:Itr:=itF
theorem ED {S R:Type} (f:S→Option (S⊕R)) (m:S→Nat) (F:S→R) (inv:S→Prop)
  (hstep : ∀ s,inv s→f s=some (.inr (F s))∨∃ s',f s=some (.inl s')∧inv s' ∧ m s' < m s∧F s' = F s) : ∀ (k:Nat) (s:S),inv s→m s<k→tD f k s=some (F s)
 | 0,s,_,h=>by omega
 | k+1,s,hs,h=>by
  rcases hstep s hs with h1 | ⟨s',h1,h2,h3,h4⟩
  ·simp only [tD,h1,f7,ZJ]
  ·simp only [tD,h1,f7,ZJ]
   rw [ED f m F inv hstep k s' h2 (by omega),h4]
theorem c9 {S:Type} {f:S→Option (S⊕R)} (m:S→Nat) (F:S→R) (inv:S→Prop)
  (hstep : ∀ s,inv s→f s=some (.inr (F s))∨∃ s',f s=some (.inl s')∧inv s' ∧ m s' < m s∧F s' = F s) {s:S} (hs:inv s) (hm:m s<9223372036854775808):Itr.it f s=some (F s):=
 ED f m F inv hstep Sv s hs hm
theorem aZ {x:Int} (h1 : -9223372036854775808≤x) (h2:x≤9223372036854775807):ad x=x:=by
 rw [ad,IntKind.wrap_i64]; omega
theorem bC {xs:List α}  {x:α} (h:xs[i]? = some x):ac xs (i:Int)=some x:=by
 simp [ac,h]
theorem jv {b:Bool} {m:Option α} (h:b=true):af b m=m:=by subst h; rfl
theorem aY {m k b:Nat} (h:(m+k) * b≤140737488355328) (hb:1≤b):aJ m k b=true:=by
 unfold aJ
 rw [YW]
 refine ⟨h,?_⟩
 have:m+k≤(m+k) * b:=ajw _ hb
 simp only [maxLen]
 omega
theorem dt {xs:List α}  {x:α} (h:xs[i]? = some x):i<xs.length:=(VN.1 h).1
theorem aw {p:Prop} [Decidable p] (h:p):decide p=true:=adU h
theorem aG {p:Prop} [Decidable p] (h : ¬ p):decide p=false:=ajy h
theorem bt {b:Int} (h:a=b):(a==b)=true:=aag.2 h
theorem bf {b:Int} (h : ¬ a=b):(a==b)=false:=WW.2 h
theorem nt {b:Int} (h : ¬ a=b):(a != b)=true:=bne_iff_ne.2 h
theorem nf {b:Int} (h:a=b):(a != b)=false:=bne_eq_false_iff_eq.2 h
theorem fw {S:Type} {f:S→Option (S⊕R)} (m:S→Nat) (inv:S→Prop) (Q:R→Prop)
  (hstep : ∀ s,inv s→(∃ r,f s=some (.inr r)∧Q r)∨∃ s',f s=some (.inl s')∧inv s' ∧ m s' < m s) {s:S} (hs:inv s) (hm:m s<9223372036854775808) : ∃ r,Itr.it f s=some r∧Q r:=by
 have gen : ∀ (k:Nat) (s:S),inv s→m s<k→∃ r,tD f k s=some r∧Q r:=by
  intro k
  induction k with
  | zero=>intro s _ h; omega
  | succ k ih=>
   intro s hs h
   rcases hstep s hs with ⟨r,h1,h2⟩ | ⟨s',h1,h2,h3⟩
   ·exact ⟨r,by simp only [tD,h1,f7,ZJ],h2⟩
   ·obtain ⟨r,e1,e2⟩:=ih s' h2 (by omega)
    exact ⟨r,by simp only [tD,h1,f7,ZJ]; exact e1,e2⟩
 exact gen Sv s hs hm
set_option linter.unusedSimpArgs false
set_option linter.unusedVariables false
theorem aB {xs:List α}  (d:α) (h:i<xs.length):ac xs (i:Int)=some (xs.getD i d):=by
 simp [ac,h]
theorem aT {xs:List α} {k:Int} (d:α) (h0:0≤k) (h:k<xs.length):ac xs k=some (xs.getD k.toNat d):=by
 have h1:k.toNat<xs.length:=by omega
 simp [ac,h0,h1]
theorem aW (hn:n<9223372036854775808) (h:i<n):ad ((i:Int)+1)=(i:Int)+1:=aZ (by omega) (by omega)
theorem AJ (hn:n<9223372036854775808) (h:i<n) (h0:0<i):ad ((i:Int) - 1)=((i - 1:Nat):Int):=by rw [aZ (by omega) (by omega)]; omega
theorem Ev {f:Int→Option (Int⊕(Unit⊕R))} (a n:Nat) (ha:a≤n) (hn:n<9223372036854775808) (P:Nat→Prop) (Z:Nat→R)
  (hstep : ∀ i:Nat,a≤i→i<n→(∀ j,a≤j→j<i→P j)→(P i∧f (i:Int)=some (.inl ((i:Int)+1)))∨(¬ P i∧f (i:Int)=some (.inr (.inr (Z i)))))
  (hend:(∀ j,a≤j→j<n→P j)→f (n:Int)=some (.inr (.inl ()))) :
  ((∀ j,a≤j→j<n→P j)∧Itr.it f (a:Int)=some (.inl ()))∨∃ i,a≤i∧i<n∧(∀ j,a≤j→j<i→P j)∧¬ P i∧Itr.it f (a:Int)=some (.inr (Z i)):=by
 obtain ⟨r,h1,h2⟩:=fw (f:=f) (fun s=>n - s.toNat) (fun s=>∃ i:Nat,s=(i:Int)∧a≤i∧i≤n∧∀ j,a≤j→j<i→P j)
  (fun r=>((∀ j,a≤j→j<n→P j)∧r = .inl ())∨∃ i,a≤i∧i<n∧(∀ j,a≤j→j<i→P j)∧¬ P i∧r = .inr (Z i))
  (fun s hs=>by
   obtain ⟨i,rfl,hia,hi,hP⟩:=hs
   rcases WG i n with hlt | hge
   ·rcases hstep i hia hlt hP with ⟨hp,he⟩ | ⟨hp,he⟩
    ·refine .inr ⟨_,he,⟨i+1,by simp,by omega,by omega,fun j hj0 hj=>?_⟩,?_⟩
     ·rcases WG j i with h | h
      ·exact hP j hj0 h
      ·rw [show j=i by omega]; exact hp
     ·show n - ((i:Int)+1).toNat<n - (i:Int).toNat
      omega
    ·exact .inl ⟨_,he, .inr ⟨i,hia,hlt,hP,hp,rfl⟩⟩
   ·have:i=n:=by omega
    subst this
    exact .inl ⟨_,hend hP, .inl ⟨hP,rfl⟩⟩) (s:=(a:Int)) ⟨a,rfl,by omega,ha,fun j hj0 hj=>by omega⟩ (by show n - (a:Int).toNat<_; omega)
 rcases h2 with ⟨h2,rfl⟩ | ⟨i,h0,h3,h4,h5,rfl⟩
 ·exact .inl ⟨h2,h1⟩
 ·exact .inr ⟨i,h0,h3,h4,h5,h1⟩
theorem cE {f:Int→Option (Int⊕(Unit⊕R))} (n:Nat) (hn:n<9223372036854775808) (P:Nat→Prop) (Z:Nat→R)
  (hstep : ∀ i:Nat,i<n→(∀ j,j<i→P j)→(P i∧f (i:Int)=some (.inl ((i:Int)+1)))∨(¬ P i∧f (i:Int)=some (.inr (.inr (Z i)))))
  (hend:(∀ j,j<n→P j)→f (n:Int)=some (.inr (.inl ()))) :
  ((∀ j,j<n→P j)∧Itr.it f (0:Int)=some (.inl ()))∨∃ i,i<n∧(∀ j,j<i→P j)∧¬ P i∧Itr.it f (0:Int)=some (.inr (Z i)):=by
 rcases Ev (f:=f) 0 n (by omega) hn P Z (fun i _ hi hP=>hstep i hi fun j hj=>hP j (by omega) hj) (fun hP=>hend fun j hj=>hP j (by omega) hj) with ⟨h1,h2⟩ | ⟨i,_,h1,h2,h3,h4⟩
 ·exact .inl ⟨fun j hj=>h1 j (by omega) hj,h2⟩
 ·exact .inr ⟨i,h1,fun j hj=>h2 j (by omega) hj,h3,h4⟩
theorem eF {xs:List α}  (d:α) (h:i<xs.length):xs.take (i+1)=xs.take i++[xs.getD i d]:=by
 rw [ahC]
 simp [h]
theorem qT (l:List (List UInt8×Int)) (h:l.length≤1048576):di l=some (l.map (·.1)):=by
 unfold di
 have:=c9 (f:=kr l) (fun s=>l.length - s.2.toNat) (fun _=>l.map (·.1)) (fun s=>∃ i:Nat,s=((l.take i).map (·.1),(i:Int))∧i≤l.length)
  (fun s hs=>by
   obtain ⟨i,rfl,hi⟩:=hs
   unfold kr
   rcases WG i l.length with hlt | hge
   ·right
    refine ⟨((l.take (i+1)).map (·.1),((i+1:Nat):Int)),?_,⟨i+1,rfl,by omega⟩,?_,rfl⟩
    ·simp only [aw (show (i:Int)<(l.length:Int) by omega),f9,aB ([],0) hlt,f7]
     rw [jv (aY (by simp only [abn,V7,Vp]; omega) (by omega)),aW (n:=l.length) (by omega) hlt,eF ([],0) hlt]
     simp
    ·show l.length - ((i+1:Nat):Int).toNat<l.length - (i:Int).toNat
     omega
   ·left
    have:i=l.length:=by omega
    subst this
    simp) (s:=([],0)) ⟨0,rfl,by omega⟩ (by show l.length - (0:Int).toNat<_; omega)
 rw [this]; rfl
theorem Ic (l:List (List UInt8×Int)) (h:l.length≤1048576):sQ l=some (l.map (·.1)):=qT l h
def wq (l:List (List UInt8)):Prop:=∀ i,i<l.length→0<i→Op.bytesLess (l.getD (i - 1) []) (l.getD i [])=true
theorem ma (l:List (List UInt8)) (h:l.length≤1048576) : ∃ b,dA l=some b∧(b=true↔wq l):=by
 unfold dA
 rcases cE (f:=eZ l) (l.length - 1) (by omega) (fun i=>Op.bytesLess (l.getD i []) (l.getD (i+1) [])=true) (fun _=>false)
  (fun i hi hP=>by
   have e:ad ((i:Int)+1)=((i+1:Nat):Int):=by rw [aW (n:=l.length) (by omega) (by omega)]; rfl
   unfold eZ
   simp only [e,aw (show ((i+1:Nat):Int)<(l.length:Int) by omega),f9,aB [] (show i<l.length by omega),aB [] (show i+1<l.length by omega),f7]
   cases hb:Op.bytesLess (l.getD i []) (l.getD (i+1) [])
   ·right; exact ⟨by simp,rfl⟩
   ·left; exact ⟨rfl,rfl⟩)
  (fun hP=>by
   unfold eZ
   rcases l with _ | ⟨x,l⟩
   ·rfl
   ·rw [aZ (by simp at h ⊢; omega) (by simp at h ⊢; omega),aG (by simp)]
    rfl) with ⟨hP,he⟩ | ⟨i,hi,_,hP,he⟩
 ·rw [he]
  refine ⟨true,rfl,⟨fun _ i hi h0=>?_,fun _=>rfl⟩⟩
  have:=hP (i - 1) (by omega)
  rwa [show i - 1+1=i by omega] at this
 ·rw [he]
  refine ⟨false,rfl,⟨fun h=>(by cases h),fun h=>?_⟩⟩
  exact absurd (h (i+1) (by omega) (by omega)) (by simpa using hP)
theorem ahW (l:List (List UInt8)) (h:l.length≤1048576):(wq l∧Itr.it (ij l) 0=some (.inl ()))∨(¬ wq l∧Itr.it (ij l) 0=some (.inr (.inr (.inr false)))):=by
 rcases cE (f:=ij l) l.length (by omega) (fun i=>0<i→Op.bytesLess (l.getD (i - 1) []) (l.getD i [])=true) (fun _=>.inr (.inr false))
  (fun i hi hP=>by
   unfold ij
   rcases afL i with rfl | h0
   ·left
    refine ⟨fun h=>by omega,?_⟩
    simp only [aw (show ((0:Nat):Int)<(l.length:Int) by omega),aG (show ¬ (0:Int)<((0:Nat):Int) by omega),f9,no,f7,ZJ]
    rfl
   ·have e:ad ((i:Int) - 1)=((i - 1:Nat):Int):=AJ (n:=l.length) (by omega) hi h0
    simp only [aw (show (i:Int)<(l.length:Int) by omega),aw (show (0:Int)<(i:Int) by omega),f9,e,aB [] hi,aB [] (show i - 1<l.length by omega),f7,aW (n:=l.length) (by omega) hi]
    cases hb:Op.bytesLess (l.getD (i - 1) []) (l.getD i [])
    ·right; exact ⟨fun h=>(by cases h h0),rfl⟩
    ·left; exact ⟨fun _=>rfl,rfl⟩)
  (fun hP=>by unfold ij; rw [aG (by omega)]; rfl) with ⟨hP,he⟩ | ⟨i,hi,_,hP,he⟩
 ·exact .inl ⟨fun i hi h0=>hP i hi h0,he⟩
 ·exact .inr ⟨fun h=>hP fun h0=>h i hi h0,he⟩
def tZ (c:ax) (i:Nat):Prop:=
 (i=0→c.2.1.getD 0 0=0)∧(0<i→c.2.1.getD (i - 1) 0<c.2.1.getD i 0)∧0≤c.2.1.getD i 0∧c.2.1.getD i 0<c.1.length∧0≤c.2.2.1.getD i 0∧c.2.2.1.getD i 0≤512
def P2 (c:ax):Prop:=∀ i,i<c.2.2.2.2.1.length→0≤(c.2.2.2.2.1.getD i ([],0)).2∧(c.2.2.2.2.1.getD i ([],0)).2≤3
def Il (c:ax):Prop:=1≤c.2.1.length∧c.2.2.1.length=c.2.1.length∧c.2.2.2.2.2.2.2.length=c.2.1.length
def RP (c:ax):Prop:=wq (c.2.2.2.1.map (·.1))∧wq (c.2.2.2.2.1.map (·.1))∧wq c.2.2.2.2.2.1∧wq c.2.2.2.2.2.2.1
def lq (c:ax):Prop:=Il c∧RP c∧(∀ i,i<c.2.1.length→tZ c i)∧P2 c
def eV (c:ax):Prop:=c.2.1.length≤1048576∧c.2.2.1.length≤1048576∧c.2.2.2.1.length≤1048576∧c.2.2.2.2.1.length≤1048576∧c.2.2.2.2.2.1.length≤1048576∧c.2.2.2.2.2.2.1.length≤1048576∧c.2.2.2.2.2.2.2.length≤1048576
theorem Xp (c:ax) (hl:c.1.length≤512) (hs:eV c) (hp:Il c) (i:Nat) (hi:i<c.2.1.length) (hP : ∀ j,j<i→tZ c j) :
  (tZ c i∧dM c (i:Int)=some (.inl ((i:Int)+1)))∨(¬ tZ c i∧dM c (i:Int)=some (.inr (.inr false))):=by
 obtain ⟨p1,p2,p3⟩:=hp
 obtain ⟨s1,s2,s3⟩:=hs
 have hi2:i<c.2.2.1.length:=by omega
 unfold dM oX
 generalize hb:c.2.1.getD i 0=b
 generalize hq:c.2.2.1.getD i 0=q
 have e1:=aB (0:Int) hi
 have e2:=aB (0:Int) hi2
 rw [hb] at e1
 rw [hq] at e2
 rcases afL i with rfl | h0
 ·have hB:tZ c 0↔(b=0∧(0:Int)<c.1.length∧0≤q∧q≤512):=by
   unfold tZ
   rw [hb,hq]
   constructor
   ·rintro ⟨h1,_,h3,h4,h5,h6⟩
    have:=h1 rfl
    exact ⟨this,by omega,h5,h6⟩
   ·rintro ⟨h1,h2,h3,h4⟩
    exact ⟨fun _=>h1,fun h=>absurd h (by omega),by omega,by omega,h3,h4⟩
  have e1' : ac c.2.1 0=some b:=e1
  have e2' : ac c.2.2.1 0=some q:=e2
  rw [hB]
  simp only [aw (show ((0:Nat):Int)<(c.2.1.length:Int) by omega),aG (show ¬ (0:Int)<((0:Nat):Int) by omega),f9,no,f7,ZJ,e1,e2,e1',e2',show (((0:Nat):Int)==(0:Int))=true from rfl]
  by_cases h1:b<0
  ·right
   exact ⟨by omega,by simp [h1,e1']⟩
  by_cases h2:0<b
  ·right
   exact ⟨by omega,by simp [h1,h2,e1']⟩
  by_cases h3:(c.1.length:Int)≤b
  ·right
   exact ⟨by omega,by simp [h1,h2,h3,e1']⟩
  by_cases h4:q<0
  ·right
   exact ⟨by omega,by simp [h1,h2,h3,h4,e1',e2']⟩
  by_cases h5:512<q
  ·right
   exact ⟨by omega,by simp [h1,h2,h3,h4,h5,e1',e2']⟩
  left
  refine ⟨by omega,?_⟩
  simp [h1,h2,h3,h4,h5,e1',e2']
  rfl
 ·have hpr:i - 1<c.2.1.length:=by omega
  have e3:=aB (0:Int) hpr
  generalize ha:c.2.1.getD (i - 1) 0=a
  rw [ha] at e3
  have hbp:=hP (i - 1) (by omega)
  unfold tZ at hbp
  rw [ha] at hbp
  obtain ⟨_,_,ha0,ha1,_,_⟩:=hbp
  have hB:tZ c i↔(a+1≤b∧b<c.1.length∧0≤q∧q≤512):=by
   unfold tZ
   rw [hb,hq,ha]
   constructor
   ·rintro ⟨_,h1,h3,h4,h5,h6⟩
    have:=h1 h0
    exact ⟨by omega,by omega,h5,h6⟩
   ·rintro ⟨h1,h2,h3,h4⟩
    exact ⟨fun h=>absurd h (by omega),fun _=>by omega,by omega,by omega,h3,h4⟩
  rw [hB]
  have ew:ad (a+1)=a+1:=aZ (by omega) (by omega)
  simp only [aw (show (i:Int)<(c.2.1.length:Int) by omega),aw (show (0:Int)<(i:Int) by omega),f9,AJ (n:=c.2.1.length) (by omega) hi h0,e3,ew,f7,ZJ,e1,e2,show ((i:Int)==(0:Int))=false by rw [WW]; omega]
  by_cases h1:b<a+1
  ·right
   exact ⟨by omega,by simp [h1]⟩
  by_cases h3:(c.1.length:Int)≤b
  ·right
   exact ⟨by omega,by simp [h1,h3,e1]⟩
  by_cases h4:q<0
  ·right
   exact ⟨by omega,by simp [h1,h3,h4,e1,e2]⟩
  by_cases h5:512<q
  ·right
   exact ⟨by omega,by simp [h1,h3,h4,h5,e1,e2]⟩
  left
  refine ⟨by omega,?_⟩
  simp [h1,h3,h4,h5,e1,e2]
  exact aW (n:=c.2.1.length) (by omega) hi
theorem V6 (c:ax) (hs:eV c):(P2 c∧Itr.it (dN c) 0=some (.inl ()))∨(¬ P2 c∧Itr.it (dN c) 0=some (.inr false)):=by
 have hn:c.2.2.2.2.1.length≤1048576:=hs.2.2.2.1
 rcases cE (f:=dN c) c.2.2.2.2.1.length (by omega) (fun i=>0≤(c.2.2.2.2.1.getD i ([],0)).2∧(c.2.2.2.2.1.getD i ([],0)).2≤3) (fun _=>false)
  (fun i hi _=>by
   unfold dN
   have e:=aB (([],0):List UInt8×Int) hi
   generalize c.2.2.2.2.1.getD i ([],0)=x at e ⊢
   simp only [aw (show (i:Int)<(c.2.2.2.2.1.length:Int) by omega),f9,e,f7,ZJ,aW (n:=c.2.2.2.2.1.length) (by omega) hi]
   by_cases h1:x.2<0
   ·right; exact ⟨by omega,by simp [h1]⟩
   by_cases h2:3<x.2
   ·right; exact ⟨by omega,by simp [h1,h2]⟩
   left; exact ⟨by omega,by simp [h1,h2]⟩)
  (fun _=>by unfold dN; dsimp only; rw [aG (by omega)]; rfl) with ⟨hP,he⟩ | ⟨i,hi,_,hP,he⟩
 ·exact .inl ⟨hP,he⟩
 ·exact .inr ⟨fun h=>hP (h i hi),he⟩
theorem EO (c:ax) (hl:c.1.length≤512) (hs:eV c) : ∃ b,kS c=some b∧(b=true↔lq c):=by
 have hs0:=hs
 obtain ⟨s1,s2,s3,s4,s5,s6,s7⟩:=hs0
 unfold kS
 dsimp only
 by_cases hp:Il c
 ·have p1 : ¬ ((c.2.1.length:Int)<1):=by have:=hp.1; omega
  have p2:(c.2.2.1.length:Int)=c.2.1.length:=by have:=hp.2.1; omega
  have p3:(c.2.2.2.2.2.2.2.length:Int)=c.2.1.length:=by have:=hp.2.2; omega
  obtain ⟨b1,g1,k1⟩:=ma (c.2.2.2.1.map (·.1)) (by simpa using s3)
  obtain ⟨b2,g2,k2⟩:=ma (c.2.2.2.2.1.map (·.1)) (by simpa using s4)
  obtain ⟨b3,g3,k3⟩:=ma c.2.2.2.2.2.1 s5
  obtain ⟨b4,g4,k4⟩:=ma c.2.2.2.2.2.2.1 s6
  have q2:((c.2.2.1.length:Int) != (c.2.1.length:Int))=false:=by simp [p2]
  have q3:((c.2.2.2.2.2.2.2.length:Int) != (c.2.1.length:Int))=false:=by simp [p3]
  simp only [aG p1,q2,q3,no,f9,Wn,qT _ s3,f7,ZJ,g1]
  cases b1
  ·exact ⟨false,rfl,fun h=>(by cases h),fun h=>(by have:=k1.2 h.2.1.1; cases this)⟩
  simp only [WM,Wn,no,f9,qT _ s4,f7,ZJ,g2]
  cases b2
  ·exact ⟨false,rfl,fun h=>(by cases h),fun h=>(by have:=k2.2 h.2.1.2.1; cases this)⟩
  simp only [WM,Wn,no,f9,f7,ZJ,g3]
  cases b3
  ·exact ⟨false,rfl,fun h=>(by cases h),fun h=>(by have:=k3.2 h.2.1.2.2.1; cases this)⟩
  simp only [WM,Wn,no,f9,f7,ZJ,g4]
  cases b4
  ·exact ⟨false,rfl,fun h=>(by cases h),fun h=>(by have:=k4.2 h.2.1.2.2.2; cases this)⟩
  simp only [WM,Wn,no,f9]
  have hinc:RP c:=⟨k1.1 rfl,k2.1 rfl,k3.1 rfl,k4.1 rfl⟩
  rcases cE (f:=dM c) c.2.1.length (by omega) (tZ c) (fun _=>false) (Xp c hl hs hp) (fun _=>by unfold dM; rw [aG (by omega)]; rfl) with ⟨hP,he⟩ | ⟨i,hi,_,hP,he⟩
  ·rw [he]
   simp only [f7,ZJ]
   rcases V6 c hs with ⟨hc,he⟩ | ⟨hc,he⟩
   ·rw [he]; exact ⟨true,rfl,fun _=>⟨hp,hinc,hP,hc⟩,fun _=>rfl⟩
   ·rw [he]; exact ⟨false,rfl,fun h=>(by cases h),fun h=>absurd h.2.2.2 hc⟩
  ·rw [he]; exact ⟨false,rfl,fun h=>(by cases h),fun h=>absurd (h.2.2.1 i hi) hP⟩
 ·refine ⟨false,?_,fun h=>(by cases h),fun h=>absurd h.1 hp⟩
  by_cases p1:(c.2.1.length:Int)<1
  ·rw [aw p1]
   rfl
  rw [aG p1]
  by_cases p2:(c.2.2.1.length:Int)=c.2.1.length
  ·have p3 : ¬ ((c.2.2.2.2.2.2.2.length:Int)=c.2.1.length):=fun h=>hp ⟨by omega,by omega,by omega⟩
   rw [nf p2,nt p3]
   rfl
  ·rw [nt p2]
   rfl
def Ik (c:ax) (i:Nat):Prop:=(0<i→c.2.1.getD (i - 1) 0<c.2.1.getD i 0)∧0≤c.2.2.1.getD i 0∧c.2.2.1.getD i 0≤512
theorem aid (c:ax) (h0:c.2.1.getD 0 0=0) (hl:c.2.1.getD (c.2.1.length - 1) 0<c.1.length) (h : ∀ i,i<c.2.1.length→Ik c i) : ∀ i,i<c.2.1.length→tZ c i:=by
 have up : ∀ i,i<c.2.1.length→0≤c.2.1.getD i 0:=by
  intro i
  induction i with
  | zero=>intro _; omega
  | succ i ih=>intro hi; have:=ih (by omega); have:=(h (i+1) hi).1 (by omega); rw [show i+1 - 1=i from rfl] at this; omega
 have dn : ∀ k i,i+k+1=c.2.1.length→c.2.1.getD i 0≤c.2.1.getD (c.2.1.length - 1) 0:=by
  intro k
  induction k with
  | zero=>intro i hi; rw [show c.2.1.length - 1=i by omega]; omega
  | succ k ih=>intro i hi; have:=ih (i+1) (by omega); have:=(h (i+1) (by omega)).1 (by omega); rw [show i+1 - 1=i from rfl] at this; omega
 intro i hi
 have:=dn (c.2.1.length - 1 - i) i (by omega)
 obtain ⟨h1,h2,h3⟩:=h i hi
 exact ⟨fun e=>h0,h1,up i hi,by omega,h2,h3⟩
theorem Uo (c:ax) (hs:eV c) (hp:Il c) (i:Nat) (hi:i<c.2.1.length) :
  (Ik c i∧il c (i:Int)=some (.inl ((i:Int)+1)))∨(¬ Ik c i∧il c (i:Int)=some (.inr (.inr false))):=by
 obtain ⟨p1,p2,p3⟩:=hp
 obtain ⟨s1,s2,s3⟩:=hs
 have hi2:i<c.2.2.1.length:=by omega
 unfold il Ik
 have e1:=aB (0:Int) hi
 have e2:=aB (0:Int) hi2
 generalize c.2.1.getD i 0=b at e1 ⊢
 generalize c.2.2.1.getD i 0=q at e2 ⊢
 have ew:=aW (n:=c.2.1.length) (by omega) hi
 rcases afL i with rfl | h0
 ·have e2' : ac c.2.2.1 0=some q:=e2
  simp only [aw (show ((0:Nat):Int)<(c.2.1.length:Int) by omega),aG (show ¬ (0:Int)<((0:Nat):Int) by omega),f9,no,f7,ZJ,Wn,e2,ew]
  by_cases h4:q<0
  ·right
   exact ⟨by omega,by simp [h4]⟩
  by_cases h5:512<q
  ·right
   exact ⟨by omega,by simp [h4,h5,e2']⟩
  left
  exact ⟨⟨fun h=>absurd h (by omega),by omega,by omega⟩,by simp [h4,h5,e2']⟩
 ·have hpr:i - 1<c.2.1.length:=by omega
  have e3:=aB (0:Int) hpr
  generalize c.2.1.getD (i - 1) 0=a at e3 ⊢
  simp only [aw (show (i:Int)<(c.2.1.length:Int) by omega),aw (show (0:Int)<(i:Int) by omega),f9,AJ (n:=c.2.1.length) (by omega) hi h0,e3,f7,ZJ,e1,e2,ew]
  by_cases h1:b≤a
  ·right
   exact ⟨fun h=>by have:=h.1 h0; omega,by simp [h1]⟩
  by_cases h4:q<0
  ·right
   exact ⟨by omega,by simp [h1,h4,e2]⟩
  by_cases h5:512<q
  ·right
   exact ⟨by omega,by simp [h1,h4,h5,e2]⟩
  left
  exact ⟨⟨fun _=>by omega,by omega,by omega⟩,by simp [h1,h4,h5,e2]⟩
theorem Us (c:ax) (hs:eV c) : ∃ b,dy c.2.2.2.2.1=some b∧((!b)=true↔P2 c):=by
 have hn:c.2.2.2.2.1.length≤1048576:=hs.2.2.2.1
 unfold dy fQ
 rcases cE (f:=df c.2.2.2.2.1) c.2.2.2.2.1.length (by omega) (fun i=>0≤(c.2.2.2.2.1.getD i ([],0)).2∧(c.2.2.2.2.1.getD i ([],0)).2≤3) (fun i=>(i:Int))
  (fun i hi _=>by
   unfold df sC
   have e:=aB (([],0):List UInt8×Int) hi
   generalize c.2.2.2.2.1.getD i ([],0)=x at e ⊢
   simp only [aw (show (i:Int)<(c.2.2.2.2.1.length:Int) by omega),f9,e,f7,ZJ,aW (n:=c.2.2.2.2.1.length) (by omega) hi]
   by_cases h1:x.2<0
   ·right; exact ⟨by omega,by simp [h1]⟩
   by_cases h2:3<x.2
   ·right; exact ⟨by omega,by simp [h1,h2]⟩
   left; exact ⟨by omega,by simp [h1,h2]⟩)
  (fun _=>by unfold df; rw [aG (by omega)]; rfl) with ⟨hP,he⟩ | ⟨i,hi,_,hP,he⟩
 ·rw [he]; exact ⟨false,rfl,fun _=>hP,fun _=>rfl⟩
 ·rw [he]
  refine ⟨true,?_,fun h=>(by cases h),fun h=>absurd (h i hi) hP⟩
  simp only [f7,ZJ]
  rw [aw (by omega)]
theorem CX (c:ax) (hl:c.1.length≤512) (hs:eV c) : ∃ b,rC c=some b∧(b=true↔lq c):=by
 have hs0:=hs
 obtain ⟨s1,s2,s3,s4,s5,s6,s7⟩:=hs0
 unfold rC
 dsimp only
 by_cases hp:Il c
 ·have p1:((c.2.1.length:Int)==0)=false:=by have:=hp.1; rw [WW]; omega
  have p2:(c.2.2.1.length:Int)=c.2.1.length:=by have:=hp.2.1; omega
  have p3:(c.2.2.2.2.2.2.2.length:Int)=c.2.1.length:=by have:=hp.2.2; omega
  have q2:((c.2.2.1.length:Int) != (c.2.1.length:Int))=false:=by simp [p2]
  have q3:((c.2.2.2.2.2.2.2.length:Int) != (c.2.1.length:Int))=false:=by simp [p3]
  have n1:0<c.2.1.length:=hp.1
  have e0:ac c.2.1 0=some (c.2.1.getD 0 0):=aB 0 n1
  have e1:ac c.2.1 (ad ((c.2.1.length:Int) - 1))=some (c.2.1.getD (c.2.1.length - 1) 0):=by
   rw [aZ (by omega) (by omega),show (c.2.1.length:Int) - 1=((c.2.1.length - 1:Nat):Int) by omega]
   exact aB 0 (by omega)
  simp only [p1,q2,q3,no,f9,Wn,e0,f7,ZJ]
  by_cases h0:c.2.1.getD 0 0=0
  rotate_left
  ·refine ⟨false,?_,fun h=>(by cases h),fun h=>absurd ((h.2.2.1 0 n1).1 rfl) h0⟩
   rw [nt h0]
   rfl
  rw [nf h0]
  simp only [no,f9,Wn,e1,f7,ZJ]
  by_cases h9:(c.1.length:Int)≤c.2.1.getD (c.2.1.length - 1) 0
  ·refine ⟨false,by rw [aw h9]; rfl,fun h=>(by cases h),fun h=>?_⟩
   have:=(h.2.2.1 (c.2.1.length - 1) (by omega)).2.2.2.1
   omega
  rw [aG h9]
  simp only [no,Ic _ s3,Ic _ s4,f7,ZJ]
  generalize hL:[c.2.2.2.1.map (·.1),c.2.2.2.2.1.map (·.1),c.2.2.2.2.2.1,c.2.2.2.2.2.2.1]=L
  have hL4:L.length=4:=by rw [← hL]; rfl
  have hall:(∀ i,i<4→wq (L.getD i []))↔RP c:=by
   rw [← hL]
   constructor
   ·intro h; exact ⟨h 0 (by omega),h 1 (by omega),h 2 (by omega),h 3 (by omega)⟩
   ·rintro ⟨h1,h2,h3,h4⟩ i hi
    rcases i with _ | _ | _ | _ | i
    ·exact h1
    ·exact h2
    ·exact h3
    ·exact h4
    ·omega
  have hsm : ∀ i,i<4→(L.getD i []).length≤1048576:=by
   rw [← hL]
   intro i hi
   rcases i with _ | _ | _ | _ | i
   ·simpa using s3
   ·simpa using s4
   ·exact s5
   ·exact s6
   ·omega
  rcases cE (f:=lZ c (c.2.2.2.1.map (·.1)) (c.2.2.2.2.1.map (·.1))) 4 (by omega) (fun i=>wq (L.getD i [])) (fun _=>false)
   (fun i hi _=>by
    unfold lZ
    dsimp only
    rw [hL,hL4,aw (show (i:Int)<((4:Nat):Int) by omega)]
    simp only [f9,aB [] (show i<L.length by omega),f7]
    rcases ahW (L.getD i []) (hsm i hi) with ⟨h1,h2⟩ | ⟨h1,h2⟩
    ·left
     refine ⟨h1,?_⟩
     rw [h2]
     simp only [f7,ZJ]
     rw [aW (n:=4) (by omega) hi]
    ·right
     refine ⟨h1,?_⟩
     rw [h2]
     rfl)
   (fun _=>by
    unfold lZ
    rfl) with ⟨hP,he⟩ | ⟨i,hi,_,hP,he⟩
  ·rw [he]
   simp only [f7,ZJ]
   rcases cE (f:=il c) c.2.1.length (by omega) (Ik c) (fun _=>false) (fun i hi _=>Uo c hs hp i hi) (fun _=>by unfold il; rw [aG (by omega)]; rfl) with ⟨hB,he⟩ | ⟨i,hi,_,hB,he⟩
   ·rw [he]
    simp only [f7,ZJ]
    obtain ⟨b,hb,hb2⟩:=Us c hs
    rw [hb]
    exact ⟨!b,rfl,fun h=>⟨hp,hall.1 hP,aid c h0 (by omega) hB,hb2.1 h⟩,fun h=>hb2.2 h.2.2.2⟩
   ·rw [he]
    refine ⟨false,rfl,fun h=>(by cases h),fun h=>absurd ?_ hB⟩
    obtain ⟨_,g2,_,_,g5,g6⟩:=h.2.2.1 i hi
    exact ⟨g2,g5,g6⟩
  ·rw [he]
   refine ⟨false,rfl,fun h=>(by cases h),fun h=>absurd (hall.2 h.2.1 i hi) hP⟩
 ·refine ⟨false,?_,fun h=>(by cases h),fun h=>absurd h.1 hp⟩
  by_cases p1:(c.2.1.length:Int)=0
  ·rw [bt p1]
   rfl
  rw [bf p1]
  by_cases p2:(c.2.2.1.length:Int)=c.2.1.length
  ·have p3 : ¬ ((c.2.2.2.2.2.2.2.length:Int)=c.2.1.length):=fun h=>hp ⟨by omega,by omega,by omega⟩
   rw [nf p2,nt p3]
   rfl
  ·rw [nt p2]
   rfl
def qX (b:List Int):Prop:=1≤b.length∧b.length≤1048576∧b.getD 0 0=0∧∀ i,i<b.length→0<i→b.getD (i - 1) 0<b.getD i 0
def ky (b:List Int) (pc:Int) (k:Nat):Prop:=k<b.length∧b.getD k 0≤pc∧(k+1<b.length→pc<b.getD (k+1) 0)
theorem aeP (h:qX b) : ∀ d i,i+d+1<b.length→b.getD i 0<b.getD (i+d+1) 0:=by
 intro d
 induction d with
 | zero=>intro i hi; have:=h.2.2.2 (i+1) (by omega) (by omega); rwa [show i+1 - 1=i from rfl] at this
 | succ d ih=>
  intro i hi
  have h1:=ih i (by omega)
  have h2:=h.2.2.2 (i+d+1+1) (by omega) (by omega)
  rw [show i+d+1+1 - 1=i+d+1 from rfl] at h2
  rw [show i+(d+1)+1=i+d+1+1 by omega]
  omega
theorem uL (h:qX b)  (hij:i<j) (hj:j<b.length):b.getD i 0<b.getD j 0:=by
 have:=aeP h (j - i - 1) i (by omega)
 rwa [show i+(j - i - 1)+1=j by omega] at this
theorem oK (h:qX b)  (hij:i≤j) (hj:j<b.length):b.getD i 0≤b.getD j 0:=by
 rcases aeB hij with h1 | h1
 ·exact Int.le_of_lt (uL h h1 hj)
 ·rw [h1]; exact ad0 _
theorem wH (h:qX b)  (hi:i<b.length):0≤b.getD i 0:=by
 have:=oK h (adq i) hi
 rw [h.2.2.1] at this
 exact this
theorem oC (h:lq c) (hs:eV c):qX c.2.1:=⟨h.1.1,hs.1,(h.2.2.1 0 h.1.1).1 rfl,fun i hi h0=>(h.2.2.1 i hi).2.1 h0⟩
theorem L4 (h:qX b) {pc:Int} {k:Nat} (h1:ky b pc j) (h2:ky b pc k):j=k:=by
 obtain ⟨a1,a2,a3⟩:=h1
 obtain ⟨b1,b2,b3⟩:=h2
 rcases ahm j k with hl | hl | hl
 ·have:=a3 (by omega)
  have:=oK h (show j+1≤k by omega) b1
  omega
 ·exact hl
 ·have:=b3 (by omega)
  have:=oK h (show k+1≤j by omega) a1
  omega
theorem Ut (h:qX b) {pc:Int} (hp:0≤pc) : ∃ k,ky b pc k:=by
 have gen : ∀ n,n<b.length→(∃ k,k≤n∧b.getD k 0≤pc∧(k+1≤n→pc<b.getD (k+1) 0)):=by
  intro n
  induction n with
  | zero=>intro _; exact ⟨0,by omega,by rw [h.2.2.1]; exact hp,by omega⟩
  | succ n ih=>
   intro hn
   obtain ⟨k,h1,h2,h3⟩:=ih (by omega)
   rcases aeB h1 with hk | hk
   ·exact ⟨k,by omega,h2,fun _=>h3 (by omega)⟩
   ·by_cases hb:b.getD (n+1) 0≤pc
    ·exact ⟨n+1,by omega,hb,by omega⟩
    ·exact ⟨k,by omega,h2,fun _=>by rw [hk]; omega⟩
 obtain ⟨k,h1,h2,h3⟩:=gen (b.length - 1) (by have:=h.1; omega)
 have:=h.1
 exact ⟨k,by omega,h2,fun hk=>h3 (by omega)⟩
theorem Ii {pc:Int} {k:Nat} (h:qX c.2.1) (hk:ky c.2.1 pc k):fT c pc=some (k:Int):=by
 obtain ⟨k1,k2,k3⟩:=hk
 unfold fT
 have hl:=h.2.1
 have:=c9 (f:=lg c pc) (fun s=>k - s.toNat) (fun _=>(k:Int)) (fun s=>∃ j:Nat,s=(j:Int)∧j≤k)
  (fun s hs=>by
   obtain ⟨j,rfl,hj⟩:=hs
   unfold lg
   have e:ad ((j:Int)+1)=((j+1:Nat):Int):=by rw [aW (n:=c.2.1.length) (by omega) (by omega)]; rfl
   rw [e]
   by_cases hn:j+1<c.2.1.length
   ·simp only [aw (show ((j+1:Nat):Int)<(c.2.1.length:Int) by omega),f9,aB 0 hn,f7,ZJ]
    rcases aeB hj with hl2 | hl2
    ·right
     refine ⟨((j+1:Nat):Int),?_,⟨j+1,rfl,by omega⟩,by simp; omega,(by trivial)⟩
     rw [aw (Int.le_trans (oK h (show j+1≤k by omega) k1) k2)]
     rfl
    ·left
     rw [aG (by have:=k3 (by omega); rw [hl2]; omega),hl2]
     rfl
   ·left
    simp only [aG (show ¬ ((j+1:Nat):Int)<(c.2.1.length:Int) by omega),no,f7,ZJ]
    rw [show j=k by omega]) (s:=0) ⟨0,rfl,by omega⟩ (by show k - (0:Int).toNat<_; omega)
 rw [this]; rfl
theorem agM {pc:Int} {k:Nat} (h:qX c.2.1) (hk:ky c.2.1 pc k):nN c pc=some (k:Int):=by
 obtain ⟨k1,k2,k3⟩:=hk
 unfold nN
 have hl:=h.2.1
 have:=c9 (f:=mA c pc) (fun s=>c.2.1.length - s.2.toNat) (fun _=>(k:Int)) (fun s=>∃ j:Nat,s.2=(j:Int)∧j≤c.2.1.length∧s.1=if j≤k then (j:Int) - 1 else (k:Int))
  (fun s hs=>by
   obtain ⟨s1,s2⟩:=s
   obtain ⟨j,h1,hj,h2⟩:=hs
   dsimp only at h1 h2
   subst h1 h2
   unfold mA
   by_cases hn:j<c.2.1.length
   ·right
    simp only [aw (show (j:Int)<(c.2.1.length:Int) by omega),f9,aB 0 hn,f7,ZJ,aW (n:=c.2.1.length) (by omega) hn]
    by_cases hjk:j≤k
    ·rw [aw (Int.le_trans (oK h hjk k1) k2)]
     refine ⟨_,rfl,⟨j+1,rfl,by omega,?_⟩,by dsimp only; omega,(by trivial)⟩
     dsimp only
     split <;> omega
    ·rw [aG (by have:=k3 (by omega); have:=oK h (show k+1≤j by omega) hn; omega)]
     refine ⟨_,rfl,⟨j+1,rfl,by omega,?_⟩,by dsimp only; omega,(by trivial)⟩
     rw [if_neg hjk,if_neg (by omega)]
   ·left
    simp only [aG (show ¬ (j:Int)<(c.2.1.length:Int) by omega),no]
    rw [if_neg (by omega)]) (s:=(-1,0)) ⟨0,rfl,by omega,by simp⟩ (by show c.2.1.length - (0:Int).toNat<_; omega)
 rw [this]; rfl
theorem WP (x y:Int):qB x y=some (decide (x<y)):=by
 unfold qB pv
 simp
theorem ajN (h:n<4611686018427387904):mV .u64 (IntKind.u64.wrap (n:Int)) (1:Int)=((n / 2:Nat):Int):=by
 rw [IntKind.wrap_u64,show (n:Int) % 18446744073709551616=n by omega]
 show Int.fdiv (n:Int) (2 ^ (min (1:Int).toNat 64))=_
 rw [show (2:Int) ^ (min (1:Int).toNat 64)=2 from rfl,Int.fdiv_eq_ediv_of_nonneg _ (by omega)]
 omega
theorem Q3 {pc:Int} {k:Nat} (h:qX b) (hk:ky b pc k) (hp:0≤pc):fY b pc=some (if b.getD k 0=pc then ((k:Int),true) else ((k:Int)+1,false)):=by
 obtain ⟨k1,k2,k3⟩:=hk
 have hl:=h.2.1
 unfold fY
 generalize hr:(if b.getD k 0=pc then k else k+1)=r
 have hrn:r≤b.length:=by rw [← hr]; split <;> omega
 have lo : ∀ j,j<r→b.getD j 0<pc:=by
  intro j hj
  rw [← hr] at hj
  split at hj
  ·have:=uL h hj k1; omega
  ·have:=oK h (show j≤k by omega) k1; omega
 have hi : ∀ j,r≤j→j<b.length→pc≤b.getD j 0:=by
  intro j hj hjn
  rw [← hr] at hj
  split at hj
  ·have:=oK h hj hjn; omega
  ·have:=k3 (by omega); have:=oK h (show k+1≤j by omega) hjn; omega
 have:=c9 (f:=gc b pc) (fun s=>s.2.toNat - s.1.toNat) (fun _=>(r:Int)) (fun s=>∃ x y:Nat,s=((x:Int),(y:Int))∧x≤r∧r≤y∧y≤b.length)
  (fun s hs=>by
   obtain ⟨x,y,rfl,hx,hy,hyn⟩:=hs
   unfold gc
   by_cases hxy:x<y
   ·right
    have e1:ad ((x:Int)+(y:Int))=((x+y:Nat):Int):=by rw [aZ (by omega) (by omega)]; omega
    have e2:ad (((x+y) / 2:Nat):Int)=(((x+y) / 2:Nat):Int):=aZ (by omega) (by omega)
    have e3:ad ((((x+y) / 2:Nat):Int)+1)=(((x+y) / 2+1:Nat):Int):=by rw [aZ (by omega) (by omega)]; omega
    have hm:(x+y) / 2<b.length:=by omega
    simp only [aw (show (x:Int)<(y:Int) by omega),aw (show (0:Int)≤1 by omega),af,f9,e1,ajN (show x+y<4611686018427387904 by omega),e2,e3,aB 0 hm,f7,ZJ,WP]
    by_cases hb:b.getD ((x+y) / 2) 0<pc
    ·rw [aw hb]
     refine ⟨_,rfl,⟨(x+y) / 2+1,y,rfl,?_,hy,hyn⟩,by dsimp only; omega,(by trivial)⟩
     rcases WG ((x+y) / 2) r with h1 | h1
     ·omega
     ·have:=hi _ h1 hm; omega
    ·rw [aG hb]
     refine ⟨_,rfl,⟨x,(x+y) / 2,rfl,hx,?_,by omega⟩,by dsimp only; omega,(by trivial)⟩
     rcases WG ((x+y) / 2) r with h1 | h1
     ·exact absurd (lo _ h1) hb
     ·exact h1
   ·left
    simp only [aG (show ¬ (x:Int)<(y:Int) by omega),no]
    rw [show x=r by omega]) (s:=(0,(b.length:Int))) ⟨0,b.length,rfl,by omega,hrn,by omega⟩ (by dsimp only; omega)
 rw [this]
 simp only [f7,ZJ]
 by_cases he:b.getD k 0=pc
 ·rw [if_pos he] at hr
  subst hr
  rw [if_pos he]
  simp only [aw (show (k:Int)<(b.length:Int) by omega),f9,aB 0 k1,f7,ZJ,he,V9,WM,ajC,afE,no]
 ·rw [if_neg he] at hr
  subst hr
  rw [if_neg he]
  by_cases hn:k+1<b.length
  ·have:pc<b.getD (k+1) 0:=k3 hn
   have hne:(b.getD (k+1) 0==pc)=false:=by rw [WW]; omega
   simp only [aw (show ((k+1:Nat):Int)<(b.length:Int) by omega),f9,aB 0 hn,f7,ZJ,hne,Wn,aeu,mK,Yy,ajC,no,XV]
   rfl
  ·simp only [aG (show ¬ ((k+1:Nat):Int)<(b.length:Int) by omega),no,f7,ZJ,afE]
   rfl
theorem ME {pc:Int} {k:Nat} (h:qX c.2.1) (hk:ky c.2.1 pc k) (hp:0≤pc):eB c pc=some (k:Int):=by
 unfold eB
 have:=h.2.1
 have:=hk.1
 rw [Q3 h hk hp]
 simp only [f7,ZJ]
 split
 ·rfl
 ·simp only [Wn,f9,f7,ZJ]
  rw [aZ (by omega) (by omega)]
  congr 1
  omega
def tP (a lo hi:Int):Prop:=lo≤a∧a<hi
def vU (op:Int):Int:=(sj.getD op.toNat ([],0)).2
def cI (c:ax) (k:Nat):Int:=if k+1<c.2.1.length then c.2.1.getD (k+1) 0 else c.1.length
def yj (c:ax) (k:Nat) (x:Int×Int×Int):Prop:=
 (x.1=1∨x.1=2∨x.1=24→tP x.2.1 0 (c.2.2.1.getD k 0))∧(x.1=10∨x.1=11→tP x.2.1 (c.2.1.getD k 0) (cI c k))∧(x.1=12∨x.1=18→tP x.2.1 0 c.2.1.length) ∧
 (x.1=14→0≤x.2.1∧x.2.2=k)∧(x.1=15→tP x.2.1 1 100)∧(x.1=16∨x.1=17→tP x.2.1 0 c.2.2.2.1.length)∧(x.1=19∨x.1=20→tP x.2.1 0 c.2.2.2.2.1.length) ∧
 (x.1=21∨x.1=22→tP x.2.1 0 c.2.2.2.2.2.1.length)∧(x.1=23→tP x.2.1 2 7)∧(x.1=25→tP x.2.1 1 10)∧(x.1=26∨x.1=27→tP x.2.1 0 c.2.2.2.2.2.2.1.length) ∧
 (x.1=20∨x.1=23∨x.1=27→tP x.2.2 0 (c.2.2.1.getD k 0))
def Ri (c:ax) (k:Nat) (pc:Int) (x:Int×Int×Int):Prop:=
 (vU x.1<2→x.2.2=0)∧(vU x.1<1→x.2.1=0)∧(x.1=13→k+1≠c.2.1.length)∧(x.1=28→k+1=c.2.1.length)∧(pc+1=cI c k→x.1=13∨x.1=28)
def vC (c:ax) (k:Nat) (pc:Int) (x:Int×Int×Int):Prop:=(0≤x.1∧x.1<29)∧Ri c k pc x∧yj c k x
theorem Xf (h0:0≤op) (h1:op<29):op=0∨op=1∨op=2∨op=3∨op=4∨op=5∨op=6∨op=7∨op=8∨op=9∨op=10∨op=11∨op=12∨op=13∨op=14∨op=15∨op=16∨op=17∨op=18∨op=19∨op=20∨op=21∨op=22∨op=23∨op=24∨op=25∨op=26∨op=27∨op=28:=by omega
theorem kT (p q:Prop) [Decidable p] [Decidable q]:(bif decide p then decide q else false)=decide (p∧q):=by
 by_cases p <;> by_cases q <;> simp [*]
theorem mU (p q:Prop) [Decidable p] [Decidable q]:(bif decide p then true else decide q)=decide (p∨q):=by
 by_cases p <;> by_cases q <;> simp [*]
theorem pm (a b:Int):(a==b)=decide (a=b):=by by_cases h:a=b <;> simp [h]
theorem Py (a b:Int):(a != b)=decide (a≠b):=by by_cases h:a=b <;> simp [h]
theorem acy (p:Prop) [Decidable p]:(!decide p)=decide (¬ p):=by by_cases p <;> simp [*]
theorem aeq (c:ax) (k:Nat) (hn:c.2.2.2.2.2.2.2.length=c.2.1.length) (x:Int×Int×Int) (h0:0≤x.1) (h1:x.1<29) :
  ∃ r,yF x (c.2.2.1.getD k 0) ((k:Int),c.2.1.getD k 0,cI c k) c=some r ∧
   ((match r with | .inl s=>(s.1≤x.2.1∧x.2.1<s.2)∧(vU x.1<2∨(0≤x.2.2∧x.2.2<c.2.2.1.getD k 0)) | .inr b=>b=true)↔yj c k x):=by
 obtain ⟨op,a,b⟩:=x
 have hn' : (c.2.2.2.2.2.2.2.length:Int)=c.2.1.length:=by omega
 rcases Xf h0 h1 with h | h | h | h | h | h | h | h | h | h | h | h | h | h | h | h | h | h | h | h | h | h | h | h | h | h | h | h | h
 all_goals
  dsimp only at h
  subst h
  refine ⟨_,rfl,?_⟩
  simp [yj,tP,vU,sj,kT,pm,hn']
theorem Ue (c:ax) (hl:c.1.length≤512) (hs:eV c) (h:lq c) (k:Nat) (hk:k<c.2.1.length) (pc:Nat) (hpc:pc<c.1.length) :
  ∃ b,vc c ((k:Int),c.2.1.getD k 0,cI c k) (pc:Int)=some b∧(b=true↔vC c k pc (c.1.getD pc (0,0,0))):=by
 unfold vc
 have e1:=aB ((0,0,0):Int×Int×Int) hpc
 generalize c.1.getD pc (0,0,0)=x at e1 ⊢
 simp only [e1,f7,ZJ]
 by_cases hop:0≤x.1∧x.1<29
 rotate_left
 ·refine ⟨false,?_,fun h=>(by cases h),fun h=>absurd h.1 hop⟩
  rw [mU,aw (by omega)]
  rfl
 rw [mU,aG (by omega),no,aw hop]
 have hb:=h.1.1
 have hs1:=hs.1
 obtain ⟨q,e2,hq⟩ : ∃ q,ac sj x.1=some q∧q.2=vU x.1:=⟨_,aT ([],0) hop.1 (by show x.1<((29:Nat):Int); omega),rfl⟩
 have e3:ac c.2.2.1 (k:Int)=some (c.2.2.1.getD k 0):=aB 0 (by have:=h.1.2.1; omega)
 have ew:ad ((c.2.1.length:Int) - 1)=(c.2.1.length:Int) - 1:=aZ (by omega) (by omega)
 have ew2:ad ((pc:Int)+1)=(pc:Int)+1:=aZ (by omega) (by omega)
 obtain ⟨r,hr,hr2⟩:=aeq c k h.1.2.2 x hop.1 hop.2
 simp only [af,f9,e2,e3,f7,ZJ,ew,ew2,hq,pm,Py,kT,mU,acy,hr]
 unfold vC Ri
 generalize vU x.1=o at *
 by_cases h1:(o<2→x.2.2=0)∧(o<1→x.2.1=0)∧(x.1=13→k+1≠c.2.1.length)∧(x.1=28→k+1=c.2.1.length)
 rotate_left
 ·rw [aw (by omega)]
  exact ⟨false,rfl,fun h=>(by cases h),fun h=>absurd ⟨h.2.1.1,h.2.1.2.1,h.2.1.2.2.1,h.2.1.2.2.2.1⟩ h1⟩
 rw [aG (by omega),no]
 by_cases h2:(pc:Int)+1=cI c k→x.1=13∨x.1=28
 rotate_left
 ·rw [aw (by omega)]
  exact ⟨false,rfl,fun h=>(by cases h),fun h=>absurd h.2.1.2.2.2.2 h2⟩
 rw [aG (by omega),no]
 have hall : ∀ {p:Prop},(p↔yj c k x)→(p↔(0≤x.1∧x.1<29)∧((o<2→x.2.2=0)∧(o<1→x.2.1=0)∧(x.1=13→k+1≠c.2.1.length)∧(x.1=28→k+1=c.2.1.length)∧((pc:Int)+1=cI c k→x.1=13∨x.1=28))∧yj c k x):=
  fun hp=>⟨fun h=>⟨hop,⟨h1.1,h1.2.1,h1.2.2.1,h1.2.2.2,h2⟩,hp.1 h⟩,fun h=>hp.2 h.2.2⟩
 rcases r with s | b
 ·refine ⟨_,rfl,hall ?_⟩
  rw [← hr2]
  by_cases g1:s.1≤x.2.1 <;> by_cases g2:x.2.1<s.2 <;> by_cases g3:o<2 <;> by_cases g4:0≤x.2.2 <;> by_cases g5:x.2.2<c.2.2.1.getD k 0 <;> simp [g1,g2,g3,g4,g5]
 ·exact ⟨b,rfl,hall hr2⟩
theorem Uf (a lo hi:Int):bG a lo hi=some (decide (lo≤a∧a≤hi)):=by
 unfold bG
 rw [kT]
theorem LK (h0:0≤op) (h1:op<29):jk op=some (vU op):=by
 rcases Xf h0 h1 with h | h | h | h | h | h | h | h | h | h | h | h | h | h | h | h | h | h | h | h | h | h | h | h | h | h | h | h | h <;> subst h <;> rfl
theorem agl (p q:Bool):((bif p then some q else some false).bind fun r=>(some (Sum.inr (bif p then r else false)):Option (α⊕Bool)))=some (Sum.inr (p&&q)):=by cases p <;> rfl
theorem aiy (c:ax) (k:Nat) (hs:eV c) (hL:lq c) (hk:k<c.2.1.length) (x:Int×Int×Int) (h0:0≤x.1) (h1:x.1<29) (he:1≤cI c k) (he2:cI c k≤512) :
  ∃ r,m9 x (c.2.2.1.getD k 0) c (k:Int) (cI c k)=some r∧((match r with | .inl _=>true | .inr b=>b)=true↔yj c k x):=by
 obtain ⟨op,a,b⟩:=x
 obtain ⟨s1,s2,s3,s4,s5,s6,s7⟩:=hs
 obtain ⟨_,_,_,_,l1,l2⟩:=hL.2.2.1 k hk
 have hn' : (c.2.2.2.2.2.2.2.length:Int)=c.2.1.length:=by have:=hL.1.2.2; omega
 have eb:ac c.2.1 (k:Int)=some (c.2.1.getD k 0):=aB 0 hk
 have w1:ad (c.2.2.1.getD k 0 - 1)=c.2.2.1.getD k 0 - 1:=aZ (by omega) (by omega)
 have w2:ad (cI c k - 1)=cI c k - 1:=aZ (by omega) (by omega)
 have w3:ad ((c.2.2.2.2.2.2.2.length:Int) - 1)=(c.2.2.2.2.2.2.2.length:Int) - 1:=aZ (by omega) (by omega)
 have w4:ad ((c.2.2.2.1.length:Int) - 1)=(c.2.2.2.1.length:Int) - 1:=aZ (by omega) (by omega)
 have w5:ad ((c.2.2.2.2.1.length:Int) - 1)=(c.2.2.2.2.1.length:Int) - 1:=aZ (by omega) (by omega)
 have w6:ad ((c.2.2.2.2.2.1.length:Int) - 1)=(c.2.2.2.2.2.1.length:Int) - 1:=aZ (by omega) (by omega)
 have w7:ad ((c.2.2.2.2.2.2.1.length:Int) - 1)=(c.2.2.2.2.2.2.1.length:Int) - 1:=aZ (by omega) (by omega)
 have le (n m:Int):n≤m - 1↔n<m:=by omega
 have l99 (n:Int):n≤99↔n<100:=by omega
 have l9 (n:Int):n≤9↔n<10:=by omega
 have l6 (n:Int):n≤6↔n<7:=by omega
 unfold m9
 rcases Xf h0 h1 with h | h | h | h | h | h | h | h | h | h | h | h | h | h | h | h | h | h | h | h | h | h | h | h | h | h | h | h | h
 all_goals
  dsimp only at h
  subst h
  simp only [Int.reduceBEq,f9,no,f7,ZJ,Uf,w1,w2,w3,w4,w5,w6,w7,eb,le,l99,l9,l6,agl]
  refine ⟨_,rfl,?_⟩
  simp [yj,tP,kT,pm,hn']
theorem V4 (c:ax) (hl:c.1.length≤512) (hs:eV c) (h:lq c) (k:Nat) (pc:Nat) (hk:ky c.2.1 (pc:Int) k) (hpc:pc<c.1.length) :
  ∃ b,l8 c (pc:Int)=some b∧(b=true↔vC c k pc (c.1.getD pc (0,0,0))):=by
 obtain ⟨hk1,hk2,hk3⟩:=hk
 have hB:=oC h hs
 have hs1:=hs.1
 unfold l8
 have e1:=aB ((0,0,0):Int×Int×Int) hpc
 generalize c.1.getD pc (0,0,0)=x at e1 ⊢
 simp only [e1,f7,ZJ]
 by_cases hop:0≤x.1∧x.1<29
 rotate_left
 ·refine ⟨false,?_,fun h=>(by cases h),fun h=>absurd h.1 hop⟩
  rw [mU,aw (by omega)]
  rfl
 rw [mU,aG (by omega),no]
 have hb:=h.1.1
 have e3:ac c.2.2.1 (k:Int)=some (c.2.2.1.getD k 0):=aB 0 (by have:=h.1.2.1; omega)
 have ew:ad ((k:Int)+1)=(k:Int)+1:=aZ (by omega) (by omega)
 have ew2:ad ((pc:Int)+1)=(pc:Int)+1:=aZ (by omega) (by omega)
 have he:(bif decide ((k:Int)+1<(c.2.1.length:Int)) then (ac c.2.1 ((k:Int)+1)).bind fun _=>(ac c.2.1 ((k:Int)+1)).bind fun v8=>some v8 else some (c.1.length:Int))=some (cI c k):=by
  unfold cI
  by_cases h1:k+1<c.2.1.length
  ·rw [aw (by omega),if_pos h1,f9,show (k:Int)+1=((k+1:Nat):Int) from rfl,aB 0 h1]
   rfl
  ·rw [aG (by omega),if_neg h1,no]
 have hend:1≤cI c k∧cI c k≤512:=by
  unfold cI
  split
  ·rename_i h1
   have h2:=uL hB (show 0<k+1 by omega) h1
   rw [hB.2.2.1] at h2
   have h3:=(h.2.2.1 (k+1) h1).2.2.2.1
   omega
  ·omega
 obtain ⟨r,hr,hr2⟩:=aiy c k hs h hk1 x hop.1 hop.2 hend.1 hend.2
 have ho:=LK hop.1 hop.2
 simp only [agM hB ⟨hk1,hk2,hk3⟩,f7,ZJ,ew,ew2,he,ho,hr]
 rw [show (bif !bif decide (vU x.1<2) then x.2.2 != 0 else false then some (vU x.1) else some 0)=some (bif !bif decide (vU x.1<2) then x.2.2 != 0 else false then vU x.1 else 0) by cases (!bif decide (vU x.1<2) then x.2.2 != 0 else false) <;> rfl]
 simp only [f7,ZJ]
 unfold vC Ri
 generalize vU x.1=o at *
 by_cases h0:o<2∧x.2.2≠0
 ·rw [aw h0.1,nt h0.2]
  exact ⟨false,rfl,fun h=>(by cases h),fun h=>absurd (h.2.1.1 h0.1) h0.2⟩
 rw [show (bif decide (o<2) then x.2.2 != 0 else false)=false by rw [Py,kT,aG h0]]
 simp only [f9,no,Wn,pm,Py,kT,mU,acy]
 by_cases h1:(o<2→x.2.2=0)∧(o<1→x.2.1=0)∧(x.1=13→k+1≠c.2.1.length)∧(x.1=28→k+1=c.2.1.length)∧((pc:Int)+1=cI c k→x.1=13∨x.1=28)
 rotate_left
 ·rw [aw (by omega)]
  exact ⟨false,rfl,fun h=>(by cases h),fun h=>absurd h.2.1 h1⟩
 rw [aG (by omega),no]
 simp only [e3,f7,ZJ,hr]
 have hall : ∀ {p:Prop},(p↔yj c k x)→(p↔(0≤x.1∧x.1<29)∧((o<2→x.2.2=0)∧(o<1→x.2.1=0)∧(x.1=13→k+1≠c.2.1.length)∧(x.1=28→k+1=c.2.1.length)∧((pc:Int)+1=cI c k→x.1=13∨x.1=28))∧yj c k x):=
  fun hp=>⟨fun h=>⟨hop,h1,hp.1 h⟩,fun h=>hp.2 h.2.2⟩
 rcases r with s | b
 ·exact ⟨true,rfl,hall hr2⟩
 ·exact ⟨b,rfl,hall hr2⟩
def cH (c:ax) (pc:Nat):Int×Int×Int:=c.1.getD pc (0,0,0)
def JT (c:ax):Prop:=∀ k pc:Nat,pc<c.1.length→ky c.2.1 (pc:Int) k→vC c k pc (cH c pc)
def VE (c:ax) (e:Int):Prop:=
 (512<c.1.length∧e=4)∨(c.1.length≤512∧¬ lq c∧e=1)∨(c.1.length≤512∧lq c∧¬ JT c∧e=2)∨(c.1.length≤512∧lq c∧JT c∧e=0)
theorem adZ {d e:Int} (h1:VE c d) (h2:VE c e):d=e:=by
 rcases h1 with ⟨a1,rfl⟩ | ⟨a1,a2,rfl⟩ | ⟨a1,a2,a3,rfl⟩ | ⟨a1,a2,a3,rfl⟩ <;> rcases h2 with ⟨b1,rfl⟩ | ⟨b1,b2,rfl⟩ | ⟨b1,b2,b3,rfl⟩ | ⟨b1,b2,b3,rfl⟩ <;> first | rfl | omega | contradiction
theorem UZ (c:ax) (hs:eV c) : ∃ k e,gv c=some (k,e)∧VE c e:=by
 unfold gv
 by_cases hl:c.1.length≤512
 rotate_left
 ·rw [aw (by omega)]
  exact ⟨0,4,rfl, .inl ⟨by omega,rfl⟩⟩
 rw [aG (by omega),no]
 obtain ⟨b,hb,hb2⟩:=EO c hl hs
 rw [hb]
 cases b
 ·exact ⟨0,1,rfl, .inr (.inl ⟨hl,fun h=>(by have:=hb2.2 h; cases this),rfl⟩)⟩
 have hL:=hb2.1 rfl
 have hB:=oC hL hs
 simp only [f7,ZJ,WM,no]
 rcases cE (f:=gV c) c.1.length (by omega) (fun pc=>∀ k,ky c.2.1 (pc:Int) k→vC c k pc (cH c pc)) (fun i=>((i:Int),2))
  (fun i hi _=>by
   unfold gV
   obtain ⟨k,hk⟩:=Ut hB (show (0:Int)≤(i:Int) by omega)
   obtain ⟨b,hb,hb2⟩:=V4 c hl hs hL k i hk hi
   rw [aw (show (i:Int)<(c.1.length:Int) by omega),f9,hb]
   simp only [f7,ZJ]
   cases b
   ·right; exact ⟨fun h=>(by have:=hb2.2 (h k hk); cases this),rfl⟩
   ·left
    refine ⟨fun k' hk' => by rw [L4 hB hk' hk]; exact hb2.1 rfl,?_⟩
    rw [aW (n:=c.1.length) (by omega) hi]
    rfl)
  (fun _=>by unfold gV; rw [aG (by omega)]; rfl) with ⟨hP,he⟩ | ⟨i,hi,_,hP,he⟩
 ·rw [he]
  exact ⟨_,0,rfl, .inr (.inr (.inr ⟨hl,hL,fun k pc hpc hk=>hP pc hpc k hk,rfl⟩))⟩
 ·rw [he]
  exact ⟨_,2,rfl, .inr (.inr (.inl ⟨hl,hL,fun h=>hP fun k hk=>h k i hi hk,rfl⟩))⟩
theorem rS (hs:eV c) (h:lq c) {k:Nat} (hk:k<c.2.1.length):c.2.1.getD k 0<cI c k∧cI c k≤c.1.length:=by
 unfold cI
 split
 ·rename_i h1
  have h2:=uL (oC h hs) (show k<k+1 by omega) h1
  have h3:=(h.2.2.1 (k+1) h1).2.2.2.1
  omega
 ·have h3:=(h.2.2.1 k hk).2.2.2.1
  omega
theorem oB (hs:eV c) (h:lq c) {k:Nat} (hpc:pc<c.1.length):ky c.2.1 (pc:Int) k↔k<c.2.1.length∧c.2.1.getD k 0≤pc∧(pc:Int)<cI c k:=by
 unfold ky cI
 constructor
 ·rintro ⟨h1,h2,h3⟩
  refine ⟨h1,h2,?_⟩
  split
  ·exact h3 (by assumption)
  ·omega
 ·rintro ⟨h1,h2,h3⟩
  refine ⟨h1,h2,fun h4=>?_⟩
  rwa [if_pos h4] at h3
theorem VD (c:ax) (hs:eV c):ti c=some ((List.range c.2.1.length).map fun k:Nat=>((k:Int),c.2.1.getD k 0,cI c k)):=by
 have hn:=hs.1
 unfold ti
 have:=c9 (f:=pF c) (fun s=>c.2.1.length - s.2.toNat) (fun _=>(List.range c.2.1.length).map fun k:Nat=>((k:Int),c.2.1.getD k 0,cI c k))
  (fun s=>∃ i:Nat,s=((List.range i).map fun k:Nat=>((k:Int),c.2.1.getD k 0,cI c k),(i:Int))∧i≤c.2.1.length)
  (fun s hs=>by
   obtain ⟨i,rfl,hi⟩:=hs
   unfold pF
   rcases WG i c.2.1.length with hlt | hge
   ·right
    refine ⟨((List.range (i+1)).map fun k:Nat=>((k:Int),c.2.1.getD k 0,cI c k),((i+1:Nat):Int)),?_,⟨i+1,rfl,by omega⟩,by dsimp only; omega,rfl⟩
    have ew:=aW (n:=c.2.1.length) (by omega) hlt
    have he:(bif decide ((i:Int)+1<(c.2.1.length:Int)) then (ac c.2.1 ((i:Int)+1)).bind fun _=>(ac c.2.1 ((i:Int)+1)).bind fun v8=>some v8 else some (c.1.length:Int))=some (cI c i):=by
     unfold cI
     by_cases h1:i+1<c.2.1.length
     ·rw [aw (by omega),if_pos h1,f9,show (i:Int)+1=((i+1:Nat):Int) from rfl,aB 0 h1]
      rfl
     ·rw [aG (by omega),if_neg h1,no]
    simp only [aw (show (i:Int)<(c.2.1.length:Int) by omega),f9,aB 0 hlt,f7,ZJ,ew,he]
    rw [jv (aY (by simp only [abn,ae6,Vp]; omega) (by omega)),List.range_succ]
    simp
   ·left
    have:i=c.2.1.length:=by omega
    subst this
    simp) (s:=([],0)) ⟨0,rfl,by omega⟩ (by show c.2.1.length - (0:Int).toNat<_; omega)
 rw [this]; rfl
theorem RU (c:ax) (hs:eV c) : ∃ k e,oz c=some (k,e)∧VE c e:=by
 unfold oz
 have hn:=hs.1
 by_cases hl:c.1.length≤512
 rotate_left
 ·rw [aw (by omega)]
  exact ⟨0,4,rfl, .inl ⟨by omega,rfl⟩⟩
 rw [aG (by omega),no]
 obtain ⟨b,hb,hb2⟩:=CX c hl hs
 rw [hb]
 cases b
 ·exact ⟨0,1,rfl, .inr (.inl ⟨hl,fun h=>(by have:=hb2.2 h; cases this),rfl⟩)⟩
 have hL:=hb2.1 rfl
 have hB:=oC hL hs
 simp only [f7,ZJ,WM,no,VD c hs]
 have inner : ∀ k,k<c.2.1.length→((∀ pc:Nat,c.2.1.getD k 0≤pc→(pc:Int)<cI c k→vC c k pc (cH c pc))∧Itr.it (go c ((k:Int),c.2.1.getD k 0,cI c k)) (c.2.1.getD k 0)=some (.inl ())) ∨
   ∃ pc:Nat,c.2.1.getD k 0≤pc∧(pc:Int)<cI c k∧¬ vC c k pc (cH c pc)∧Itr.it (go c ((k:Int),c.2.1.getD k 0,cI c k)) (c.2.1.getD k 0)=some (.inr (.inr (.inr ((pc:Int),2)))):=by
  intro k hk
  obtain ⟨a,ha⟩ : ∃ a:Nat,c.2.1.getD k 0=(a:Int):=⟨(c.2.1.getD k 0).toNat,by have:=wH hB hk; omega⟩
  obtain ⟨e,he⟩ : ∃ e:Nat,cI c k=(e:Int):=⟨(cI c k).toNat,by have:=wH hB hk; have:=rS hs hL hk; omega⟩
  have hle:=rS hs hL hk
  rw [ha,he] at hle ⊢
  rcases Ev (f:=go c ((k:Int),(a:Int),(e:Int))) a e (by omega) (by omega) (fun pc=>vC c k pc (cH c pc)) (fun pc=>.inr (.inr ((pc:Int),2)))
   (fun i hai hi _=>by
    unfold go
    obtain ⟨b,hb,hb2⟩:=Ue c hl hs hL k hk i (by omega)
    rw [ha,he] at hb
    rw [aw (show (i:Int)<(e:Int) by omega),f9,hb]
    simp only [f7,ZJ]
    cases b
    ·right; exact ⟨fun h=>(by have:=hb2.2 h; cases this),rfl⟩
    ·left
     refine ⟨hb2.1 rfl,?_⟩
     rw [aW (n:=e) (by omega) hi]
     rfl)
   (fun _=>by unfold go; rw [aG (show ¬ (e:Int)<(e:Int) by omega)]; rfl) with ⟨hP,he⟩ | ⟨i,h0,hi,_,hP,he⟩
  ·exact .inl ⟨fun pc h1 h2=>hP pc (by omega) (by omega),he⟩
  ·exact .inr ⟨i,by omega,by omega,hP,he⟩
 generalize hps:((List.range c.2.1.length).map fun k:Nat=>((k:Int),c.2.1.getD k 0,cI c k))=ps
 have hpl:ps.length=c.2.1.length:=by rw [← hps]; simp
 have hpg : ∀ k,k<c.2.1.length→ac ps (k:Int)=some ((k:Int),c.2.1.getD k 0,cI c k):=by
  intro k hk
  rw [← hps]
  apply bC
  simp [hk]
 rcases cE (f:=ng c ps) c.2.1.length (by omega) (fun k=>∀ pc:Nat,c.2.1.getD k 0≤pc→(pc:Int)<cI c k→vC c k pc (cH c pc))
  (fun k=>(((Itr.it (go c ((k:Int),c.2.1.getD k 0,cI c k)) (c.2.1.getD k 0)).bind fun z=>match z with | .inr (.inr (.inr x))=>some x.1 | _=>none).getD 0,2))
  (fun k hk _=>by
   unfold ng
   rw [aw (show (k:Int)<(ps.length:Int) by omega),f9,hpg k hk]
   simp only [f7,ZJ]
   rcases inner k hk with ⟨h1,h2⟩ | ⟨pc,h1,h2,h3,h4⟩
   ·left
    refine ⟨h1,?_⟩
    rw [h2]
    simp only [f7,ZJ]
    rw [aW (n:=c.2.1.length) (by omega) hk]
   ·right
    refine ⟨fun h=>h3 (h pc h1 h2),?_⟩
    rw [h4]
    rfl)
  (fun _=>by unfold ng; rw [aG (by omega)]; rfl) with ⟨hP,he⟩ | ⟨k,hk,_,hP,he⟩
 ·rw [he]
  refine ⟨_,0,rfl, .inr (.inr (.inr ⟨hl,hL,fun k pc hpc h=>?_,rfl⟩))⟩
  obtain ⟨h1,h2,h3⟩:=(oB hs hL hpc).1 h
  exact hP k h1 pc h2 h3
 ·rw [he]
  refine ⟨_,2,rfl, .inr (.inr (.inl ⟨hl,hL,fun h=>hP fun pc h1 h2=>?_,rfl⟩))⟩
  have:=rS hs hL hk
  exact h k pc (by omega) ((oB hs hL (by omega)).2 ⟨hk,h1,h2⟩)
theorem Bs (c:ax) (hs:eV c) : ∃ j k e,oz c=some (j,e)∧gv c=some (k,e)∧VE c e:=by
 obtain ⟨j,e,h1,h2⟩:=RU c hs
 obtain ⟨k,e',h3,h4⟩:=UZ c hs
 rw [← adZ h2 h4] at h3
 exact ⟨j,k,e,h1,h3,h2⟩
abbrev CC:Type:=ax
abbrev aO:Type:=aU
abbrev Fr:Type:=Int×List Int
abbrev Th:Type:=az
abbrev bI:Type:=Int×Int×Int
def bj (c:CC):Prop:=c.1.length≤512∧lq c∧JT c∧eV c
def tH (c:CC) (f:Fr):Prop:=∃ k pc:Nat,f.1=(pc:Int)∧pc<c.1.length∧ky c.2.1 (pc:Int) k∧(f.2.length:Int)=c.2.2.1.getD k 0
def fl (n:Int) (r:aR):uH:=(n,r.1.1,r.1.2.1,r.1.2.2.1,r.1.2.2.2.1,r.1.2.2.2.2.1,r.1.2.2.2.2.2.1,r.1.2.2.2.2.2.2.1,r.1.2.2.2.2.2.2.2,r.2.1.1,r.2.1.2.1,r.2.1.2.2,r.2.2.1.1,r.2.2.1.2.1,r.2.2.1.2.2.1,r.2.2.1.2.2.2.1,r.2.2.1.2.2.2.2.1,r.2.2.1.2.2.2.2.2.1,r.2.2.1.2.2.2.2.2.2.1,r.2.2.1.2.2.2.2.2.2.2.1.1,r.2.2.1.2.2.2.2.2.2.2.1.2.1,r.2.2.1.2.2.2.2.2.2.2.1.2.2,r.2.2.1.2.2.2.2.2.2.2.2.1,r.2.2.1.2.2.2.2.2.2.2.2.2.1,r.2.2.1.2.2.2.2.2.2.2.2.2.2.1,r.2.2.1.2.2.2.2.2.2.2.2.2.2.2,r.2.2.2)
def S6 (s:aO) (a:Int):aO:=(s.1,s.2.1,s.2.2.1,s.2.2.2.1,s.2.2.2.2.1,s.2.2.2.2.2.1,s.2.2.2.2.2.2.1,(s.2.2.2.2.2.2.2.1.1,ad (s.2.2.2.2.2.2.2.1.2.1+a),s.2.2.2.2.2.2.2.1.2.2),s.2.2.2.2.2.2.2.2)
def tM (s:aO) (o site:Int) (w:List UInt8):aO:=(s.1,s.2.1,s.2.2.1,s.2.2.2.1,s.2.2.2.2.1,s.2.2.2.2.2.1,s.2.2.2.2.2.2.1,s.2.2.2.2.2.2.2.1,s.2.2.2.2.2.2.2.2.1,o,site,w)
def bV (s:aO) (i:Nat) (t:Th):aO:=(s.1.set i t,s.2)
def zD (op a b:Int):Int:=if op=4 then ad (a+b) else if op=5 then ad (a - b) else if op=6 then ad (a * b) else if op=7 then (if a<b then 1 else 0) else if op=8 then (if a≤b then 1 else 0) else (if a=b then 1 else 0)
def jA (c:CC) (kind:Int) (s:aO) (i:Nat) (fs:List Fr) (f:Fr) (st:List Int) (w:Int) (x:bI):Option aO:=
 let pu (v:Int):Option aO:=if 16≤st.length then none else some (bV s i (fs++[(ad (f.1+1),f.2)],st++[v],w,false))
 let po (g:Int→aO):Option aO:=if st.length=0 then none else some (g (st.getD (st.length - 1) 0))
 let st1:=st.take (st.length - 1)
 if x.1=0 then pu x.2.1 else if x.1=1 then pu (f.2.getD x.2.1.toNat 0) else if x.1=3 then pu kind
 else if x.1=2 then po fun v=>bV s i (fs++[(ad (f.1+1),f.2.set x.2.1.toNat v)],st1,w,false)
 else if x.1=10 then some (bV s i (fs++[(x.2.1,f.2)],st,w,false))
 else if x.1=11 then po fun v=>bV s i (fs++[(if v=0 then x.2.1 else ad (f.1+1),f.2)],st1,w,false)
 else if x.1=12 then if 8≤fs.length+1 then none else some (bV s i (fs++[(ad (f.1+1),f.2)]++[(c.2.1.getD x.2.1.toNat 0,List.replicate (c.2.2.1.getD x.2.1.toNat 0).toNat 0)],st,w,false))
 else if x.1=13 then some (bV s i (fs,st,w,false))
 else if x.1=14 then po fun v=>let s' := bV s i (fs++[(ad (f.1+1),f.2)],st1,w,false); if v=0 then tM s' 1 x.2.1 (c.2.2.2.2.2.2.2.getD x.2.2.toNat []) else s'
 else if x.1=15 then some (S6 (bV s i (fs++[(ad (f.1+1),f.2)],st,w,false)) x.2.1)
 else if st.length<2 then none else some (bV s i (fs++[(ad (f.1+1),f.2)],st.take (st.length - 2)++[zD x.1 (st.getD (st.length - 2) 0) (st.getD (st.length - 1) 0)],w,false))
theorem mP (fs:List α) (f:α) (h:fs.length<9223372036854775807):ac (fs++[f]) (ad (((fs++[f]).length:Int) - 1))=some f:=by
 rw [aZ (by simp only [Vs,Vp]; omega) (by simp only [Vs,Vp]; omega)]
 simp [ac]
theorem cN (fs:List α) (f g:α):(fs++[f]).set fs.length g=fs++[g]:=by simp
theorem Ew (fs:List α) (f:α):(fs++[f]).take fs.length=fs:=by simp
theorem gn {xs:List α}  {v:α} (h:xs[i]? = some v):xs.set i v=xs:=by
 apply Zl
 intro j
 by_cases hj:i=j
 ·subst hj; rw [W5 (dt h)]; exact h.symm
 ·rw [Yr hj]
theorem ah1 (h:op=4∨op=5∨op=6∨op=7∨op=8∨op=9) (a b:Int) : ∃ m v,ot=some m∧dh (.sc (.int .i64)) (.sc .fnc) op m=some v∧O2 v a b=some (zD op a b):=by
 rcases h with rfl | rfl | rfl | rfl | rfl | rfl
 ·exact ⟨_,201,rfl,rfl,rfl⟩
 ·exact ⟨_,202,rfl,rfl,rfl⟩
 ·exact ⟨_,203,rfl,rfl,rfl⟩
 ·refine ⟨_,204,rfl,rfl,?_⟩
  show j6 a b=_
  unfold j6 gk zD
  by_cases h:a<b <;> simp [h]
 ·refine ⟨_,205,rfl,rfl,?_⟩
  show jX a b=_
  unfold jX gk zD
  by_cases h:a≤b <;> simp [h]
 ·refine ⟨_,206,rfl,rfl,?_⟩
  show jY a b=_
  unfold jY gk zD
  by_cases h:a=b
  ·simp [h]
  ·rw [bf h]
   simp [h]
set_option maxRecDepth 4000
theorem WO (h0:0≤op) (h1:op<16):op=0∨op=1∨op=2∨op=3∨op=10∨op=11∨op=12∨op=13∨op=14∨op=15∨(op=4∨op=5∨op=6∨op=7∨op=8∨op=9):=by omega
structure AtP (c:CC) (s:aO) (i:Nat) (fs:List Fr) (f:Fr) (st:List Int) (w:Int) (x:bI) (k pc:Nat):Prop where
 t:s.1[i]? = some (fs++[f],st,w,false)
 n:fs.length<8
 m:st.length≤16
 pc1:f.1=(pc:Int)
 pc2:pc<c.1.length
 pr:ky c.2.1 (pc:Int) k
 lo:(f.2.length:Int)=c.2.2.1.getD k 0
 x:cH c pc=x
theorem aij {c:CC} {e:bI} {s:aO} {n:Int}  {fs:List Fr} {f:Fr}   {x:bI} {k:Nat} (h:AtP c s i fs f st w x k pc) :
  lH (fl n (c,e,s,acc)) (i:Int)=some x:=by
 unfold lH
 have hx:ac c.1 f.1=some x:=by rw [h.pc1,← h.x]; exact aB _ h.pc2
 simp only [fl,bC h.t,f7,ZJ,no,mP fs f (by have:=h.n; omega),hx]
theorem ajc {c:CC} (hc:bj c) {e:bI} {s:aO} {n:Int}  {fs:List Fr} {f:Fr}   {x:bI} {k:Nat} (h:AtP c s i fs f st w x k pc) (hop:x.1<16) :
  lV (fl n (c,e,s,acc)) (i:Int)=some (match jA c e.1 s i fs f st w x with | none=>(true,(fl n (c,e,s,acc)).2) | some s' => (false,(fl n (c,e,s',acc)).2)):=by
 have eat:=aij (e:=e) (acc:=acc) (n:=n) h
 obtain ⟨ht,hn,hm,hpc1,hpc2,hpr,hlo,hx⟩:=h
 have hF:=hc.2.2.1 k pc hpc2 hpr
 rw [hx] at hF
 obtain ⟨⟨h0,_⟩,_,hO⟩:=hF
 have et:=bC ht
 have efr : ∀ g:Fr,ac (fs++[g]) (fs.length:Int)=some g:=fun g=>by simp [ac]
 have esa:=gn ht
 have ela : ∀ g:Fr,((fs++[g]).length:Int)=(fs.length:Int)+1:=fun g=>by simp
 have ewl:ad ((fs.length:Int)+1 - 1)=(fs.length:Int):=by rw [aZ (by omega) (by omega)]; omega
 obtain ⟨op,a,b⟩:=x
 unfold lV
 have ew1:ad ((st.length:Int) - 1)=(st.length:Int) - 1:=aZ (by omega) (by omega)
 have ew2:ad ((st.length:Int) - 2)=(st.length:Int) - 2:=aZ (by omega) (by omega)
 have eto1:((st.length:Int) - 1).toNat=st.length - 1:=by omega
 have eto2:((st.length:Int) - 2).toNat=st.length - 2:=by omega
 have po : ¬ st.length=0→ac st ((st.length:Int) - 1)=some (st.getD (st.length - 1) 0):=fun hv=>by rw [aT 0 (by omega) (by omega),eto1]
 have pu : ∀ v:Int,aJ st.length ([v]:List Int).length 8=true:=fun v=>aY (by simp only [Vp]; omega) (by omega)
 obtain ⟨o1,o2,o3,o4,o5,o6,o7,o8,o9,o10,o11,o12⟩:=hO
 obtain ⟨hl512,hLi,hAF,hSm⟩:=hc
 obtain ⟨l1,l2,l3,l4,l5,l6⟩:=hLi.2.2.1 k hpr.1
 dsimp only at hop h0 o1 o2 o3 o4 o5 o6 o7 o8 o9 o10 o11 o12
 simp only [eat,f7,ZJ]
 rcases WO h0 hop with h | h | h | h | h | h | h | h | h | h | h
 ·subst h
  simp only [fl,et,f7,ZJ,V9,af,f9,ela,efr,ewl,jA,Int.reduceBEq,no,We,VY,cN,pu,esa]
  by_cases hv:16≤st.length
  ·rw [aw (show (16:Int)≤(st.length:Int) by omega),if_pos hv]
   rfl
  ·rw [aG (show ¬ (16:Int)≤(st.length:Int) by omega),if_neg hv]
   rfl
 ·subst h
  have ei:ac f.2 a=some (f.2.getD a.toNat 0):=by
   obtain ⟨g1,g2⟩:=o1 (.inl rfl)
   exact aT 0 g1 (by omega)
  simp only [fl,et,ei,f7,ZJ,V9,af,f9,ela,efr,ewl,jA,Int.reduceBEq,no,We,VY,cN,pu,esa,Int.reduceEq,WE]
  by_cases hv:16≤st.length
  ·rw [aw (show (16:Int)≤(st.length:Int) by omega),if_pos hv]
   rfl
  ·rw [aG (show ¬ (16:Int)≤(st.length:Int) by omega),if_neg hv]
   rfl
 ·subst h
  have ei:ac f.2 a=some (f.2.getD a.toNat 0):=by
   obtain ⟨g1,g2⟩:=o1 (.inr (.inl rfl))
   exact aT 0 g1 (by omega)
  simp only [fl,et,ei,f7,ZJ,V9,af,f9,ela,efr,ewl,jA,Int.reduceBEq,no,We,VY,cN,pu,esa,Int.reduceEq,WE,ew1]
  by_cases hv:st.length=0
  ·rw [aw (show (st.length:Int) - 1<0 by omega),if_pos hv]
   rfl
  ·rw [aG (show ¬ (st.length:Int) - 1<0 by omega),if_neg hv,aw (show 0≤(st.length:Int) - 1∧(st.length:Int) - 1≤st.length by omega)]
   simp only [no,f9,po hv,f7,ZJ,eto1]
   rfl
 ·subst h
  simp only [fl,et,f7,ZJ,V9,af,f9,ela,efr,ewl,jA,Int.reduceBEq,no,We,VY,cN,pu,esa,Int.reduceEq,WE]
  by_cases hv:16≤st.length
  ·rw [aw (show (16:Int)≤(st.length:Int) by omega),if_pos hv]
   rfl
  ·rw [aG (show ¬ (16:Int)≤(st.length:Int) by omega),if_neg hv]
   rfl
 ·subst h
  obtain ⟨g1,g2⟩:=o2 (.inl rfl)
  have hw:ad (ad (a - 1)+1)=a:=by
   have he:cI c k≤512:=by have:=(rS hSm hLi hpr.1).2; omega
   rw [aZ (x:=a - 1) (by omega) (by omega),aZ (by omega) (by omega)]; omega
  simp only [fl,et,f7,ZJ,V9,af,f9,ela,efr,ewl,jA,Int.reduceBEq,no,We,VY,cN,pu,esa,Int.reduceEq,WE,hw]
  rfl
 ·subst h
  obtain ⟨g1,g2⟩:=o2 (.inr rfl)
  have hw:ad (ad (a - 1)+1)=a:=by
   have he:cI c k≤512:=by have:=(rS hSm hLi hpr.1).2; omega
   rw [aZ (x:=a - 1) (by omega) (by omega),aZ (by omega) (by omega)]; omega
  simp only [fl,et,f7,ZJ,V9,af,f9,ela,efr,ewl,jA,Int.reduceBEq,no,We,VY,cN,pu,esa,Int.reduceEq,WE,ew1,hw]
  by_cases hv:st.length=0
  ·rw [aw (show (st.length:Int) - 1<0 by omega),if_pos hv]
   rfl
  ·rw [aG (show ¬ (st.length:Int) - 1<0 by omega),if_neg hv,aw (show 0≤(st.length:Int) - 1∧(st.length:Int) - 1≤st.length by omega)]
   simp only [no,f9,po hv,f7,ZJ,eto1]
   by_cases hz:st.getD (st.length - 1) 0=0
   ·rw [hz]; rfl
   ·rw [bf hz,if_neg hz]
    rfl
 ·subst h
  obtain ⟨g1,g2⟩:=o3 (.inl rfl)
  have ei:ac c.2.1 a=some (c.2.1.getD a.toNat 0):=aT 0 g1 g2
  have ej:ac c.2.2.1 a=some (c.2.2.1.getD a.toNat 0):=aT 0 g1 (by have:=hLi.1.2.1; omega)
  obtain ⟨_,_,_,_,q5,q6⟩:=hLi.2.2.1 a.toNat (by omega)
  simp only [fl,et,f7,ZJ,V9,af,f9,ela,efr,ewl,jA,Int.reduceBEq,no,We,VY,cN,pu,esa,Int.reduceEq,WE,ei,ej]
  by_cases hv:8≤fs.length+1
  ·rw [aw (show (8:Int)≤(fs.length:Int)+1 by omega),if_pos hv]
   rfl
  ·rw [aG (show ¬ (8:Int)≤(fs.length:Int)+1 by omega),if_neg hv,aw (show 0≤c.2.2.1.getD a.toNat 0∧c.2.2.1.getD a.toNat 0 * 8≤281474976710656∧c.2.2.1.getD a.toNat 0≤maxLen by refine ⟨q5,by omega,?_⟩; simp only [maxLen]; omega),show aJ (fs++[(ad (f.1+1),f.2)]).length ([(c.2.1.getD a.toNat 0,List.replicate (c.2.2.1.getD a.toNat 0).toNat 0)]:List Fr).length 32=true from aY (by simp only [Vs,Vp]; omega) (by omega)]
   rfl
 ·subst h
  have et2:(fs++[f]).take fs.length=fs:=Ew fs f
  simp only [fl,et,f7,ZJ,V9,af,f9,ela,efr,ewl,jA,Int.reduceBEq,no,We,VY,cN,pu,esa,Int.reduceEq,WE,et2]
  rw [aw (show 0≤(fs.length:Int)∧(fs.length:Int)≤(fs.length:Int)+1 by omega)]
  rfl
 ·subst h
  obtain ⟨g1,g2⟩:=o4 rfl
  have ei:ac c.2.2.2.2.2.2.2 b=some (c.2.2.2.2.2.2.2.getD b.toNat []):=by
   rw [g2]
   exact aT [] (by omega) (by have:=hLi.1.2.2; have:=hpr.1; omega)
  simp only [fl,et,f7,ZJ,V9,af,f9,ela,efr,ewl,jA,Int.reduceBEq,no,We,VY,cN,pu,esa,Int.reduceEq,WE,ew1,ei]
  by_cases hv:st.length=0
  ·rw [aw (show (st.length:Int) - 1<0 by omega),if_pos hv]
   rfl
  ·rw [aG (show ¬ (st.length:Int) - 1<0 by omega),if_neg hv,aw (show 0≤(st.length:Int) - 1∧(st.length:Int) - 1≤st.length by omega)]
   simp only [no,f9,po hv,f7,ZJ,eto1]
   by_cases hz:st.getD (st.length - 1) 0=0
   ·rw [hz]; rfl
   ·rw [bf hz,if_neg hz]
    rfl
 ·subst h
  simp only [fl,et,f7,ZJ,V9,af,f9,ela,efr,ewl,jA,Int.reduceBEq,no,We,VY,cN,pu,esa,Int.reduceEq,WE]
  rfl
 ·have hne : ∀ m:Int,(m<4∨9<m)→(op==m)=false∧¬ op=m:=fun m hm=>⟨by rw [WW]; omega,by omega⟩
  obtain ⟨m,v,hm1,hm2,hm3⟩:=ah1 h (st.getD (st.length - 2) 0) (st.getD (st.length - 1) 0)
  simp only [fl,et,f7,ZJ,V9,af,f9,ela,efr,ewl,jA,no,We,VY,cN,esa,WE,ew2,(hne 0 (by omega)).1,(hne 1 (by omega)).1,(hne 2 (by omega)).1,(hne 3 (by omega)).1,(hne 10 (by omega)).1,(hne 11 (by omega)).1,(hne 12 (by omega)).1,(hne 13 (by omega)).1,(hne 14 (by omega)).1,(hne 15 (by omega)).1,(hne 0 (by omega)).2,(hne 1 (by omega)).2,(hne 2 (by omega)).2,(hne 3 (by omega)).2,(hne 10 (by omega)).2,(hne 11 (by omega)).2,(hne 12 (by omega)).2,(hne 13 (by omega)).2,(hne 14 (by omega)).2,(hne 15 (by omega)).2]
  by_cases hv:st.length<2
  ·rw [aw (show (st.length:Int) - 2<0 by omega),if_pos hv]
   rfl
  ·have e2:ac st ((st.length:Int) - 2)=some (st.getD (st.length - 2) 0):=by rw [aT 0 (by omega) (by omega),eto2]
   have e3:ad ((st.length:Int) - 2+1)=(st.length:Int) - 1:=by rw [aZ (by omega) (by omega)]; omega
   rw [aG (show ¬ (st.length:Int) - 2<0 by omega),if_neg hv,aw (show 0≤(st.length:Int) - 2∧(st.length:Int) - 2≤st.length by omega)]
   simp only [no,f9,hm1,hm2,hm3,e2,e3,po (by omega),f7,ZJ,eto2]
   rw [show aJ (st.take (st.length - 2)).length ([zD op (st.getD (st.length - 2) 0) (st.getD (st.length - 1) 0)]:List Int).length 8=true from aY (by simp only [V7,Vp]; omega) (by omega)]
   rfl
abbrev bR:Type:=Int×Int×Bool
theorem zq {s:aO} {t t' : Th} (h:s.1[i]? = some t):(bV s i t').1[i]? = some t' := by
 show (s.1.set i t')[i]? = some t'
 exact W5 (dt h)
theorem fB {s:aO} {t t' : Th}:bV (bV s i t) i t' = bV s i t' := by
 show ((s.1.set i t).set i t',s.2)=(s.1.set i t',s.2)
 rw [ae5]
theorem jE {s:aO} {t:Th} (h:s.1[i]? = some t):decide ((0:Int)≤(i:Int)∧(i:Int)<(s.1.length:Int) - 0)=true:=by
 have:=dt h
 rw [aw (by omega)]
theorem xZ {c:CC} {e:bI} {s:aO} {a:List bR} {fr:List Fr}   {b:Bool} (h:s.1[i]? = some (fr,st,w,b)) (v:Int) :
  eX (c,e,s,a) (i:Int) v=some (if 16≤st.length then (false,(c,e,s,a)) else (true,(c,e,bV s i (fr,st++[v],w,b),a))):=by
 unfold eX
 simp only [bC h,f7,ZJ,af,jE h,f9,YS,V9]
 by_cases hv:16≤st.length
 ·rw [aw (show (16:Int)≤(st.length:Int) by omega),if_pos hv]
  rfl
 ·rw [aG (show ¬ (16:Int)≤(st.length:Int) by omega),if_neg hv,show aJ st.length ([v]:List Int).length 8=true from aY (by simp only [Vp]; omega) (by omega)]
  rfl
theorem wu {c:CC} {e:bI} {s:aO} {a:List bR} {fr:List Fr}   {b:Bool} (h:s.1[i]? = some (fr,st,w,b)) (hm:st.length≤1048576) :
  cC (c,e,s,a) (i:Int)=some (if st.length=0 then (0,false,(c,e,s,a)) else (st.getD (st.length - 1) 0,true,(c,e,bV s i (fr,st.take (st.length - 1),w,b),a))):=by
 unfold cC
 have ew1:ad ((st.length:Int) - 1)=(st.length:Int) - 1:=aZ (by omega) (by omega)
 have eto1:((st.length:Int) - 1).toNat=st.length - 1:=by omega
 simp only [bC h,f7,ZJ,af,jE h,f9,YS,V9,VY,gn h,ew1]
 by_cases hv:st.length=0
 ·rw [show ((st.length:Int)==0)=true by simp only [aag]; omega,if_pos hv]
  rfl
 ·rw [show ((st.length:Int)==0)=false by simp only [WW]; omega,if_neg hv,aT 0 (by omega) (by omega),aw (show 0≤(st.length:Int) - 1∧(st.length:Int) - 1≤st.length by omega),eto1]
  rfl
theorem lz {c:CC} {e:bI} {s:aO} {a:List bR} {fs:List Fr} {f:Fr}   {b:Bool} (h:s.1[i]? = some (fs++[f],st,w,b)) (hn:fs.length<1048576) :
  bB (c,e,s,a) (i:Int)=some (c,e,bV s i (fs++[(ad (f.1+1),f.2)],st,w,b),a):=by
 unfold bB
 have efr : ∀ g:Fr,ac (fs++[g]) (fs.length:Int)=some g:=fun g=>by simp [ac]
 have ela : ∀ g:Fr,((fs++[g]).length:Int)=(fs.length:Int)+1:=fun g=>by simp
 have ewl:ad ((fs.length:Int)+1 - 1)=(fs.length:Int):=by rw [aZ (by omega) (by omega)]; omega
 simp only [bC h,f7,ZJ,af,jE h,f9,YS,V9,ela,ewl,efr,VY,cN]
 rfl
theorem TP {c:CC} {e:bI} {s:aO} {a:List bR} {fs:List Fr} {f:Fr}   {b:Bool} (h:s.1[i]? = some (fs++[f],st,w,b)) (hn:fs.length<1048576) (v:Int) :
  gu (c,e,s,a) (i:Int) v=some (c,e,bV s i (fs++[(v,f.2)],st,w,b),a):=by
 unfold gu
 have efr : ∀ g:Fr,ac (fs++[g]) (fs.length:Int)=some g:=fun g=>by simp [ac]
 have ela : ∀ g:Fr,((fs++[g]).length:Int)=(fs.length:Int)+1:=fun g=>by simp
 have ewl:ad ((fs.length:Int)+1 - 1)=(fs.length:Int):=by rw [aZ (by omega) (by omega)]; omega
 simp only [bC h,f7,ZJ,af,jE h,f9,YS,V9,ela,ewl,efr,VY,cN]
 rfl
theorem ajf {c:CC} {e:bI} {s:aO} {a:List bR} {fr:List Fr}   {b:Bool} (h:s.1[i]? = some (fr,st,w,b)) (hm:st.length≤16)  (ho:op=4∨op=5∨op=6∨op=7∨op=8∨op=9) :
  jZ (c,e,s,a) op (i:Int)=some (if st.length<2 then (false,(c,e,s,a)) else (true,(c,e,bV s i (fr,st.take (st.length - 2)++[zD op (st.getD (st.length - 2) 0) (st.getD (st.length - 1) 0)],w,b),a))):=by
 unfold jZ
 simp only [bC h,f7,ZJ]
 by_cases hv:st.length<2
 ·rw [aw (show (st.length:Int)<2 by omega),if_pos hv]
  rfl
 rw [aG (show ¬ (st.length:Int)<2 by omega),if_neg hv]
 have h1:(bV s i (fr,st.take (st.length - 1),w,b)).1[i]? = some (fr,st.take (st.length - 1),w,b):=zq h
 have e1:(st.take (st.length - 1)).length=st.length - 1:=by simp
 have e2:(st.take (st.length - 1)).getD (st.length - 1 - 1) 0=st.getD (st.length - 2) 0:=by
  simp only [WT]
  rw [List.getElem?_take_of_lt (by omega)]
  rfl
 have e3:(st.take (st.length - 1)).take (st.length - 1 - 1)=st.take (st.length - 2):=by
  rw [aaY,show min (st.length - 1 - 1) (st.length - 1)=st.length - 2 by omega]
 have h2:(bV s i (fr,st.take (st.length - 2),w,b)).1[i]? = some (fr,st.take (st.length - 2),w,b):=zq h
 simp only [no,wu h (by omega),if_neg (show ¬ st.length=0 by omega),f7,ZJ,wu h1 (by omega),e1,if_neg (show ¬ st.length - 1=0 by omega),fB,e2,e3]
 have hop : ∀ x y:Int,(bif op==(4:Int) then some (ad (x+y)) else bif op==(5:Int) then some (ad (x - y)) else bif op==(6:Int) then some (ad (x * y)) else bif op==(7:Int) then (d8 (decide (x<y))).bind fun r6=>some r6 else bif op==(8:Int) then (d8 (decide (x≤y))).bind fun r7=>some r7 else bif op==(9:Int) then (d8 (x==y)).bind fun r8=>some r8 else some 0)=some (zD op x y):=by
  intro x y
  unfold d8 zD
  rcases ho with rfl | rfl | rfl | rfl | rfl | rfl
  ·rfl
  ·rfl
  ·rfl
  ·by_cases h:x<y <;> simp [h]
  ·by_cases h:x≤y <;> simp [h]
  ·by_cases h:x=y
   ·simp [h]
   ·rw [bf h]
    simp [h]
 simp only [hop,f7,ZJ,xZ h2,fB]
 rw [if_neg (by simp only [V7]; omega)]
theorem aji {c:CC} (hc:bj c) {e:bI} {s:aO} {a:List bR} {fs:List Fr} {f:Fr}   {x:bI} {k:Nat} (h:AtP c s i fs f st w x k pc) (hop:x.1<16) :
  fP (c,e,s,a) x (i:Int)=some (match jA c e.1 s i fs f st w x with | none=>(false,(c,e,s,a)) | some s' => (true,(c,e,s',a))):=by
 obtain ⟨ht,hn,hm,hpc1,hpc2,hpr,hlo,hx⟩:=h
 have hF:=hc.2.2.1 k pc hpc2 hpr
 rw [hx] at hF
 obtain ⟨⟨h0,_⟩,_,hO⟩:=hF
 have et:=bC ht
 have efr : ∀ g:Fr,ac (fs++[g]) (fs.length:Int)=some g:=fun g=>by simp [ac]
 have ela : ∀ g:Fr,((fs++[g]).length:Int)=(fs.length:Int)+1:=fun g=>by simp
 have ewl:ad ((fs.length:Int)+1 - 1)=(fs.length:Int):=by rw [aZ (by omega) (by omega)]; omega
 have pt : ∀ t',(bV s i t').1[i]? = some t' := fun t' => zq ht
 obtain ⟨op,u,b⟩:=x
 obtain ⟨o1,o2,o3,o4,o5,o6,o7,o8,o9,o10,o11,o12⟩:=hO
 obtain ⟨hl512,hLi,hAF,hSm⟩:=hc
 obtain ⟨l1,l2,l3,l4,l5,l6⟩:=hLi.2.2.1 k hpr.1
 dsimp only at hop h0 o1 o2 o3 o4 o5 o6 o7 o8 o9 o10 o11 o12
 unfold fP nv
 rcases WO h0 hop with h | h | h | h | h | h | h | h | h | h | h
 ·subst h
  simp only [Int.reduceBEq,f9,no,f7,ZJ,xZ ht,jA,We]
  by_cases hv:16≤st.length
  ·rw [if_pos hv,if_pos hv]
   rfl
  ·rw [if_neg hv,if_neg hv]
   simp only [WM,no,f7,ZJ]
   rw [show bB _ _=_ from lz (e:=e) (a:=a) (pt (fs++[f],st++[u],w,false)) (by omega),fB]
   rfl
 ·subst h
  have ei:ac f.2 u=some (f.2.getD u.toNat 0):=by
   obtain ⟨g1,g2⟩:=o1 (.inl rfl)
   exact aT 0 g1 (by omega)
  simp only [Int.reduceBEq,f9,no,f7,ZJ,et,ela,ewl,efr,ei,xZ ht,jA,We,Int.reduceEq,WE]
  by_cases hv:16≤st.length
  ·rw [if_pos hv,if_pos hv]
   rfl
  ·rw [if_neg hv,if_neg hv]
   simp only [WM,no,f7,ZJ]
   rw [show bB _ _=_ from lz (e:=e) (a:=a) (pt (fs++[f],st++[f.2.getD u.toNat 0],w,false)) (by omega),fB]
   rfl
 ·subst h
  have ei : ∀ v:Int,ac f.2 u=some (f.2.getD u.toNat 0):=by
   obtain ⟨g1,g2⟩:=o1 (.inr (.inl rfl))
   exact fun _=>aT 0 g1 (by omega)
  simp only [Int.reduceBEq,f9,no,f7,ZJ,jA,We,Int.reduceEq,WE,wu ht (show st.length≤1048576 by omega)]
  by_cases hv:st.length=0
  ·rw [if_pos hv,if_pos hv]
   rfl
  ·rw [if_neg hv,if_neg hv]
   simp only [WM,no,f7,ZJ,bC (pt _),ela,ewl,efr,ei 0,af,jE (pt _),f9,YS,V9,aw (show 0≤(fs.length:Int)∧(fs.length:Int)<(fs.length:Int)+1 - 0 by omega),VY,cN]
   refine (Xw (fun o:Option ay=>o.bind fun r33=>some (true,r33)) (lz (c:=c) (e:=e) (a:=a) (s:=bV (bV s i (fs++[f],st.take (st.length - 1),w,false)) i (fs++[(f.1,f.2.set u.toNat (st.getD (st.length - 1) 0))],st.take (st.length - 1),w,false)) (zq (pt _)) (by omega))).trans ?_
   rw [fB,fB]
   rfl
 ·subst h
  simp only [Int.reduceBEq,f9,no,f7,ZJ,xZ ht,jA,We,Int.reduceEq,WE]
  by_cases hv:16≤st.length
  ·rw [if_pos hv,if_pos hv]
   rfl
  ·rw [if_neg hv,if_neg hv]
   simp only [WM,no,f7,ZJ]
   rw [show bB _ _=_ from lz (e:=e) (a:=a) (pt (fs++[f],st++[e.1],w,false)) (by omega),fB]
   rfl
 ·subst h
  simp only [Int.reduceBEq,f9,no,f7,ZJ,jA,We,Int.reduceEq,WE,TP ht (show fs.length<1048576 by omega)]
 ·subst h
  simp only [Int.reduceBEq,f9,no,f7,ZJ,jA,We,Int.reduceEq,WE,wu ht (show st.length≤1048576 by omega)]
  by_cases hv:st.length=0
  ·rw [if_pos hv,if_pos hv]
   rfl
  ·rw [if_neg hv,if_neg hv]
   simp only [WM,no]
   by_cases hz:st.getD (st.length - 1) 0=0
   ·rw [if_pos hz,bt hz]
    simp only [f9,TP (pt _) (show fs.length<1048576 by omega),f7,ZJ,fB]
   ·rw [if_neg hz,bf hz]
    simp only [no,f7,ZJ]
    rw [show bB _ _=_ from lz (e:=e) (a:=a) (pt (fs++[f],st.take (st.length - 1),w,false)) (by omega),fB]
    rfl
 ·subst h
  obtain ⟨g1,g2⟩:=o3 (.inl rfl)
  have ei:ac c.2.1 u=some (c.2.1.getD u.toNat 0):=aT 0 g1 g2
  have ej:ac c.2.2.1 u=some (c.2.2.1.getD u.toNat 0):=aT 0 g1 (by have:=hLi.1.2.1; omega)
  obtain ⟨_,_,_,_,q5,q6⟩:=hLi.2.2.1 u.toNat (by omega)
  simp only [Int.reduceBEq,f9,no,f7,ZJ,jA,We,Int.reduceEq,WE,et,ela]
  by_cases hv:8≤fs.length+1
  ·rw [aw (show (8:Int)≤(fs.length:Int)+1 by omega),if_pos hv]
   rfl
  ·rw [aG (show ¬ (8:Int)≤(fs.length:Int)+1 by omega),if_neg hv]
   simp only [no,lz ht (show fs.length<1048576 by omega),f7,ZJ,bC (pt _),af,jE (pt _),f9,YS,V9,ei,ej,VY]
   rw [aw (show 0≤c.2.2.1.getD u.toNat 0∧c.2.2.1.getD u.toNat 0 * 8≤281474976710656∧c.2.2.1.getD u.toNat 0≤maxLen by refine ⟨q5,by omega,?_⟩; simp only [maxLen]; omega),show aJ (fs++[(ad (f.1+1),f.2)]).length ([(c.2.1.getD u.toNat 0,List.replicate (c.2.2.1.getD u.toNat 0).toNat 0)]:List Fr).length 32=true from aY (by simp only [Vs,Vp]; omega) (by omega)]
   simp only [f9,f7,ZJ]
   rw [← fB (t:=(fs++[(ad (f.1+1),f.2)],st,w,false)) (t' := (fs++[(ad (f.1+1),f.2)]++[(c.2.1.getD u.toNat 0,List.replicate (c.2.2.1.getD u.toNat 0).toNat 0)],st,w,false))]
   rfl
 ·subst h
  have et2:(fs++[f]).take fs.length=fs:=Ew fs f
  simp only [Int.reduceBEq,f9,no,f7,ZJ,jA,We,Int.reduceEq,WE,et,ela,ewl,af,jE ht,YS,V9,VY,et2]
  rw [aw (show 0≤(fs.length:Int)∧(fs.length:Int)≤(fs.length:Int)+1 by omega)]
  rfl
 ·subst h
  obtain ⟨g1,g2⟩:=o4 rfl
  have ei:ac c.2.2.2.2.2.2.2 b=some (c.2.2.2.2.2.2.2.getD b.toNat []):=by
   rw [g2]
   exact aT [] (by omega) (by have:=hLi.1.2.2; have:=hpr.1; omega)
  simp only [Int.reduceBEq,f9,no,f7,ZJ,jA,We,Int.reduceEq,WE,wu ht (show st.length≤1048576 by omega)]
  by_cases hv:st.length=0
  ·rw [if_pos hv,if_pos hv]
   rfl
  ·rw [if_neg hv,if_neg hv]
   simp only [WM,no]
   by_cases hz:st.getD (st.length - 1) 0=0
   ·rw [if_pos hz,bt hz]
    simp only [f9,ei,f7,ZJ]
    refine (Xw (fun o:Option ay=>o.bind fun r33=>some (true,r33)) (lz (c:=c) (e:=e) (a:=a) (s:=tM (bV s i (fs++[f],st.take (st.length - 1),w,false)) 1 u (c.2.2.2.2.2.2.2.getD b.toNat [])) (pt _) (by omega))).trans ?_
    rw [show bV (tM (bV s i (fs++[f],st.take (st.length - 1),w,false)) 1 u (c.2.2.2.2.2.2.2.getD b.toNat [])) i (fs++[(ad (f.1+1),f.2)],st.take (st.length - 1),w,false)=tM (bV (bV s i (fs++[f],st.take (st.length - 1),w,false)) i (fs++[(ad (f.1+1),f.2)],st.take (st.length - 1),w,false)) 1 u (c.2.2.2.2.2.2.2.getD b.toNat []) from rfl,fB]
    rfl
   ·rw [if_neg hz,bf hz]
    simp only [no,f7,ZJ]
    rw [show bB _ _=_ from lz (e:=e) (a:=a) (pt (fs++[f],st.take (st.length - 1),w,false)) (by omega),fB]
    rfl
 ·subst h
  simp only [Int.reduceBEq,f9,no,f7,ZJ,jA,We,Int.reduceEq,WE]
  exact Xw (fun o:Option ay=>o.bind fun r33=>some (true,r33)) (lz (c:=c) (e:=e) (a:=a) (s:=S6 s u) ht (by omega))
 ·have hne : ∀ m:Int,(m<4∨9<m)→(op==m)=false∧¬ op=m:=fun m hm=>⟨by rw [WW]; omega,by omega⟩
  simp only [f7,ZJ,jA,no,ajf ht hm h,WE,(hne 0 (by omega)).1,(hne 1 (by omega)).1,(hne 2 (by omega)).1,(hne 3 (by omega)).1,(hne 10 (by omega)).1,(hne 11 (by omega)).1,(hne 12 (by omega)).1,(hne 13 (by omega)).1,(hne 14 (by omega)).1,(hne 15 (by omega)).1,(hne 0 (by omega)).2,(hne 1 (by omega)).2,(hne 2 (by omega)).2,(hne 3 (by omega)).2,(hne 10 (by omega)).2,(hne 11 (by omega)).2,(hne 12 (by omega)).2,(hne 13 (by omega)).2,(hne 14 (by omega)).2,(hne 15 (by omega)).2]
  by_cases hv:st.length<2
  ·rw [if_pos hv,if_pos hv]
   rfl
  ·rw [if_neg hv,if_neg hv]
   simp only [WM,no,f7,ZJ]
   rw [show bB _ _=_ from lz (e:=e) (a:=a) (pt (fs++[f],st.take (st.length - 2)++[zD op (st.getD (st.length - 2) 0) (st.getD (st.length - 1) 0)],w,false)) (by omega),fB]
   rfl
structure Run1 (c:CC) (fs:List Fr) (f:Fr) (st:List Int):Prop where
 n:fs.length<8
 m:st.length≤16
 fr : ∀ g∈fs++[f],tH c g
theorem iK {c:CC} {s:aO} {fs:List Fr} {f:Fr}   (ht:s.1[i]? = some (fs++[f],st,w,false)) (h:Run1 c fs f st) : ∃ k pc,AtP c s i fs f st w (cH c f.1.toNat) k pc:=by
 obtain ⟨k,pc,h1,h2,h3,h4⟩:=h.fr f (by simp)
 exact ⟨k,pc,ht,h.n,h.m,h1,h2,h3,h4,by rw [h1]; rfl⟩
theorem MR {c:CC} (hc:bj c) {k:Nat} (hpc:pc<c.1.length) (hk:ky c.2.1 (pc:Int) k) (h13:(cH c pc).1≠13) (h28:(cH c pc).1≠28) {l:List Int} (hl:(l.length:Int)=c.2.2.1.getD k 0) :
  tH c (ad ((pc:Int)+1),l):=by
 obtain ⟨hl512,hL,hA,hS⟩:=hc
 have hF:=hA k pc hpc hk
 have h1:=(oB hS hL hpc).1 hk
 have h2:=(rS hS hL h1.1).2
 have hlt:(pc:Int)+1<cI c k:=by
  have:=hF.2.1.2.2.2.2
  by_cases he:(pc:Int)+1=cI c k
  ·rcases this he with h | h <;> contradiction
  ·omega
 rw [aZ (by omega) (by omega)]
 exact ⟨k,pc+1,by simp,by omega,(oB hS hL (by omega)).2 ⟨h1.1,by omega,by omega⟩,hl⟩
theorem aeH {c:CC} (hc:bj c) {k:Nat} (hk:k<c.2.1.length) (ha:tP a (c.2.1.getD k 0) (cI c k)) {l:List Int} (hl:(l.length:Int)=c.2.2.1.getD k 0):tH c (a,l):=by
 obtain ⟨hl512,hL,hA,hS⟩:=hc
 have h2:=(rS hS hL hk).2
 have h3:=wH (oC hL hS) hk
 obtain ⟨g1,g2⟩:=ha
 refine ⟨k,a.toNat,by simp; omega,by omega,(oB hS hL (by omega)).2 ⟨hk,by omega,by omega⟩,hl⟩
theorem CQ {c:CC} (hc:bj c) {a:Nat} (ha:a<c.2.1.length):tH c (c.2.1.getD a 0,List.replicate (c.2.2.1.getD a 0).toNat 0):=by
 obtain ⟨hl512,hL,hA,hS⟩:=hc
 have h2:=(rS hS hL ha)
 have h3:=wH (oC hL hS) ha
 obtain ⟨_,_,_,_,q5,q6⟩:=hL.2.2.1 a ha
 refine ⟨a,(c.2.1.getD a 0).toNat,(Int.toNat_of_nonneg h3).symm,by omega,(oB hS hL (by omega)).2 ⟨ha,by omega,by omega⟩,?_⟩
 simp only [Zi]
 omega
def ui (s s' : aO):Prop:=
 s'.2.1=s.2.1∧s'.2.2.1=s.2.2.1∧s'.2.2.2.1=s.2.2.2.1∧s'.2.2.2.2.1=s.2.2.2.2.1∧s'.2.2.2.2.2.1=s.2.2.2.2.2.1∧s'.2.2.2.2.2.2.1=s.2.2.2.2.2.2.1∧s'.2.2.2.2.2.2.2.1.1=s.2.2.2.2.2.2.2.1.1∧s'.2.2.2.2.2.2.2.1.2.2=s.2.2.2.2.2.2.2.1.2.2∧s'.2.2.2.2.2.2.2.2.1=s.2.2.2.2.2.2.2.2.1
theorem ol {s:aO} {t:Th}:ui s (bV s i t):=⟨rfl,rfl,rfl,rfl,rfl,rfl,rfl,rfl,rfl⟩
theorem PY {s t u:aO} (h:ui s t) (h' : ui t u):ui s u:=by
 obtain ⟨a1,a2,a3,a4,a5,a6,a7,a8,a9⟩:=h
 obtain ⟨b1,b2,b3,b4,b5,b6,b7,b8,b9⟩:=h'
 exact ⟨b1.trans a1,b2.trans a2,b3.trans a3,b4.trans a4,b5.trans a5,b6.trans a6,b7.trans a7,b8.trans a8,b9.trans a9⟩
theorem HM {c:CC} (hc:bj c) {kind:Int} {s s' : aO} {fs:List Fr} {f:Fr}   {x:bI} {k:Nat} (h:AtP c s i fs f st w x k pc) (hr:Run1 c fs f st) (hop:x.1<16) (hb:x.1=13→fs≠[])
  (he:jA c kind s i fs f st w x=some s') : ∃ fs' f' st',s'.1=s.1.set i (fs' ++ [f'],st',w,false)∧Run1 c fs' f' st' ∧ ui s s' := by
 obtain ⟨ht,hn,hm,hpc1,hpc2,hpr,hlo,hx⟩:=h
 have hF:=hc.2.2.1 k pc hpc2 hpr
 rw [hx] at hF
 obtain ⟨⟨h0,_⟩,_,hO⟩:=hF
 have hfs : ∀ g∈fs,tH c g:=fun g hg=>hr.fr g (by simp [hg])
 have nx:x.1≠13→∀ l:List Int,(l.length:Int)=c.2.2.1.getD k 0→∀ g∈fs++[(ad (f.1+1),l)],tH c g:=by
  intro h13 l hl g hg
  rcases Wc.1 hg with hg | hg
  ·exact hfs g hg
  ·rw [Vt] at hg
   rw [hg,hpc1]
   exact MR hc hpc2 hpr (by rw [hx]; exact h13) (by rw [hx]; omega) hl
 have jm : ∀ a,tP a (c.2.1.getD k 0) (cI c k)→∀ g∈fs++[(a,f.2)],tH c g:=by
  intro a ha g hg
  rcases Wc.1 hg with hg | hg
  ·exact hfs g hg
  ·rw [Vt] at hg
   rw [hg]
   exact aeH hc hpr.1 ha hlo
 obtain ⟨op,u,b⟩:=x
 obtain ⟨o1,o2,o3,o4,o5,o6,o7,o8,o9,o10,o11,o12⟩:=hO
 dsimp only at hop h0 hb nx o1 o2 o3 o4 o5 o6 o7 o8 o9 o10 o11 o12
 have pu : ∀ v:Int,op≠13→(if 16≤st.length then none else some (bV s i (fs++[(ad (f.1+1),f.2)],st++[v],w,false)))=some s' → ∃ fs' f' st',s'.1=s.1.set i (fs' ++ [f'],st',w,false)∧Run1 c fs' f' st' ∧ ui s s' := by
  intro v h13 hv
  by_cases h16:16≤st.length
  ·rw [if_pos h16] at hv; cases hv
  ·rw [if_neg h16] at hv
   cases hv
   exact ⟨fs,_,_,rfl,⟨hn,by simp; omega,nx h13 f.2 hlo⟩,ol⟩
 unfold jA at he
 rcases WO h0 hop with h | h | h | h | h | h | h | h | h | h | h
 ·subst h
  exact pu _ (by omega) he
 ·subst h
  exact pu _ (by omega) he
 ·subst h
  simp only [Int.reduceEq,WE,We] at he
  by_cases hv:st.length=0
  ·rw [if_pos hv] at he; cases he
  rw [if_neg hv] at he
  cases he
  exact ⟨fs,_,_,rfl,⟨hn,by simp only [V7]; omega,nx (by omega) _ (by simpa using hlo)⟩,ol⟩
 ·subst h
  exact pu _ (by omega) he
 ·subst h
  simp only [Int.reduceEq,WE,We] at he
  cases he
  exact ⟨fs,_,_,rfl,⟨hn,hm,jm _ (o2 (.inl rfl))⟩,ol⟩
 ·subst h
  simp only [Int.reduceEq,WE,We] at he
  by_cases hv:st.length=0
  ·rw [if_pos hv] at he; cases he
  rw [if_neg hv] at he
  cases he
  refine ⟨fs,_,_,rfl,⟨hn,by simp only [V7]; omega,?_⟩,ol⟩
  split
  ·exact jm _ (o2 (.inr rfl))
  ·exact nx (by omega) _ hlo
 ·subst h
  simp only [Int.reduceEq,WE,We] at he
  by_cases hv:8≤fs.length+1
  ·rw [if_pos hv] at he; cases he
  rw [if_neg hv] at he
  cases he
  obtain ⟨g1,g2⟩:=o3 (.inl rfl)
  refine ⟨_,_,_,rfl,⟨by simp only [Vs,Vp]; omega,hm,?_⟩,ol⟩
  intro g hg
  rcases Wc.1 hg with hg | hg
  ·exact nx (by omega) _ hlo g hg
  ·rw [Vt] at hg
   rw [hg]
   exact CQ hc (by omega)
 ·subst h
  simp only [Int.reduceEq,WE,We] at he
  cases he
  rcases List.eq_nil_or_concat fs with h | ⟨fs',f',rfl⟩
  ·exact absurd h (hb rfl)
  rw [List.concat_eq_append] at *
  exact ⟨fs',f',st,rfl,⟨by simp only [Vs,Vp] at hn; omega,hm,hfs⟩,ol⟩
 ·subst h
  simp only [Int.reduceEq,WE,We] at he
  by_cases hv:st.length=0
  ·rw [if_pos hv] at he; cases he
  rw [if_neg hv] at he
  cases he
  refine ⟨fs,(ad (f.1+1),f.2),st.take (st.length - 1),?_,⟨hn,by simp only [V7]; omega,nx (by omega) _ hlo⟩,?_⟩
  ·split <;> rfl
  ·split
   ·exact ⟨rfl,rfl,rfl,rfl,rfl,rfl,rfl,rfl,rfl⟩
   ·exact ol
 ·subst h
  simp only [Int.reduceEq,WE,We] at he
  cases he
  exact ⟨fs,_,_,rfl,⟨hn,hm,nx (by omega) _ hlo⟩,⟨rfl,rfl,rfl,rfl,rfl,rfl,rfl,rfl,rfl⟩⟩
 ·have hne : ∀ m:Int,(m<4∨9<m)→¬ op=m:=fun m hm=>by omega
  simp only [hne 0 (by omega),hne 1 (by omega),hne 2 (by omega),hne 3 (by omega),hne 10 (by omega),hne 11 (by omega),hne 12 (by omega),hne 13 (by omega),hne 14 (by omega),hne 15 (by omega),WE] at he
  by_cases hv:st.length<2
  ·rw [if_pos hv] at he; cases he
  rw [if_neg hv] at he
  cases he
  exact ⟨fs,_,_,rfl,⟨hn,by simp only [Vs,V7,Vp]; omega,nx (by omega) _ hlo⟩,ol⟩
def Bw (t:Th):Prop:=t.1.length≤1048576∧t.2.1.length≤1048576∧∀ f∈t.1,f.2.length≤1048576
def cT (s:aO):Prop:=s.1.length≤1048576∧(∀ t∈s.1,Bw t)∧s.2.1.length≤1048576∧s.2.2.1.length≤1048576∧(∀ q∈s.2.2.1,q.length≤1048576)∧s.2.2.2.1.length≤1048576∧s.2.2.2.2.1.length≤1048576
theorem de {xs:List α}  (d:α) (h:i<xs.length):xs.getD i d∈xs:=by
 simp [h]
theorem aiV (t:Th) (h:Bw t):Itr.it (iz t) (0,([]:List Fr),([]:List Int)++t.2.1,t.2.2)=some t:=by
 obtain ⟨h1,h2,h3⟩:=h
 exact c9 (f:=iz t) (fun s=>t.1.length - s.1.toNat) (fun _=>t) (fun s=>∃ i:Nat,s=((i:Int),t.1.take i,t.2.1,t.2.2)∧i≤t.1.length)
  (fun s hs=>by
   obtain ⟨i,rfl,hi⟩:=hs
   unfold iz
   rcases WG i t.1.length with hlt | hge
   ·right
    refine ⟨(((i+1:Nat):Int),t.1.take (i+1),t.2.1,t.2.2),?_,⟨i+1,rfl,by omega⟩,by dsimp only; omega,rfl⟩
    have hf:=h3 _ (de (0,[]) hlt)
    have e1:aJ ([]:List Int).length (t.1.getD i (0,[])).2.length 8=true:=aY (by simp only [List.length_nil]; omega) (by omega)
    have e2:aJ (t.1.take i).length ([((t.1.getD i (0,[])).1,([]:List Int)++(t.1.getD i (0,[])).2)]:List Fr).length 32=true:=aY (by simp only [V7,Vp]; omega) (by omega)
    simp only [aw (show (i:Int)<(t.1.length:Int) by omega),f9,aB (0,[]) hlt,f7,af,e1,e2,aW (n:=t.1.length) (by omega) hlt,eF (0,[]) hlt]
    rfl
   ·left
    have:i=t.1.length:=by omega
    subst this
    simp) (s:=(0,[],t.2.1,t.2.2)) ⟨0,rfl,by omega⟩ (by show t.1.length - (0:Int).toNat<_; omega)
theorem ajl (s:aO) (hs:cT s) (z:ld) (hz:z.1=[]):Itr.it (iC s) (0,z)=some (s.1,z.2):=by
 obtain ⟨h1,h2,h3⟩:=hs
 refine c9 (f:=iC s) (fun y=>s.1.length - y.1.toNat) (fun _=>(s.1,z.2)) (fun y=>∃ i:Nat,y=((i:Int),s.1.take i,z.2)∧i≤s.1.length)
  (fun y hy=>by
   obtain ⟨i,rfl,hi⟩:=hy
   unfold iC
   rcases WG i s.1.length with hlt | hge
   ·right
    refine ⟨(((i+1:Nat):Int),s.1.take (i+1),z.2),?_,⟨i+1,rfl,by omega⟩,by dsimp only; omega,rfl⟩
    have ht:=h2 _ (de ([],[],0,false) hlt)
    have e1:aJ ([]:List Int).length (s.1.getD i ([],[],0,false)).2.1.length 8=true:=aY (by simp only [List.length_nil]; have:=ht.2.1; omega) (by omega)
    have e2:aJ (s.1.take i).length ([s.1.getD i ([],[],0,false)]:List Th).length 64=true:=aY (by simp only [V7,Vp]; omega) (by omega)
    simp only [aw (show (i:Int)<(s.1.length:Int) by omega),f9,aB ([],[],0,false) hlt,f7,af,e1,aiV _ ht,e2,aW (n:=s.1.length) (by omega) hlt,eF ([],[],0,false) hlt]
    rfl
   ·left
    have:i=s.1.length:=by omega
    subst this
    simp) ⟨0,?_,by omega⟩ (by show s.1.length - (0:Int).toNat<_; omega)
 obtain ⟨z1,z2⟩:=z
 dsimp only at hz
 subst hz
 rfl
theorem ai6 (s:aO) (hs:cT s) (z:ld) (hz:z.2.2.1=[]):Itr.it (iv s) (0,z)=some (z.1,z.2.1,s.2.2.1,z.2.2.2):=by
 obtain ⟨_,_,_,h1,h2,_⟩:=hs
 refine c9 (f:=iv s) (fun y=>s.2.2.1.length - y.1.toNat) (fun _=>(z.1,z.2.1,s.2.2.1,z.2.2.2)) (fun y=>∃ i:Nat,y=((i:Int),z.1,z.2.1,s.2.2.1.take i,z.2.2.2)∧i≤s.2.2.1.length)
  (fun y hy=>by
   obtain ⟨i,rfl,hi⟩:=hy
   unfold iv
   rcases WG i s.2.2.1.length with hlt | hge
   ·right
    refine ⟨(((i+1:Nat):Int),z.1,z.2.1,s.2.2.1.take (i+1),z.2.2.2),?_,⟨i+1,rfl,by omega⟩,by dsimp only; omega,rfl⟩
    have ht:=h2 _ (de [] hlt)
    have e1:aJ ([]:List Int).length (s.2.2.1.getD i []).length 8=true:=aY (by simp only [List.length_nil]; omega) (by omega)
    have e2:aJ (s.2.2.1.take i).length ([([]:List Int)++s.2.2.1.getD i []]:List (List Int)).length 24=true:=aY (by simp only [V7,Vp]; omega) (by omega)
    simp only [aw (show (i:Int)<(s.2.2.1.length:Int) by omega),f9,aB [] hlt,f7,af,e1,e2,aW (n:=s.2.2.1.length) (by omega) hlt,eF [] hlt]
    rfl
   ·left
    have:i=s.2.2.1.length:=by omega
    subst this
    simp) ⟨0,?_,by omega⟩ (by show s.2.2.1.length - (0:Int).toNat<_; omega)
 obtain ⟨z1,z2,z3,z4⟩:=z
 dsimp only at hz
 subst hz
 rfl
theorem wg (s:aO) (hs:cT s):eM s=some s:=by
 unfold eM
 have h:=hs
 obtain ⟨h1,h2,h3,h4,h5,h6,h7⟩:=h
 have e1:aJ ([]:List Int).length s.2.1.length 8=true:=aY (by simp only [List.length_nil]; omega) (by omega)
 have e2:aJ ([]:List Int).length s.2.2.2.1.length 8=true:=aY (by simp only [List.length_nil]; omega) (by omega)
 have e3:aJ ([]:List Int).length s.2.2.2.2.1.length 8=true:=aY (by simp only [List.length_nil]; omega) (by omega)
 dsimp only
 rw [ajl s hs _ rfl]
 simp only [f7,ZJ,af,e1,e2,e3,f9]
 rw [ai6 s hs _ rfl]
 rfl
def tC (t:Th):Fr:=t.1.getLastD (0,[])
def bL (s:aO) (i:Nat):Th:=s.1.getD i ([],[],0,false)
def eA (c:CC) (t:Th):bI:=cH c (tC t).1.toNat
def cD (s:aO):Int:=s.2.2.2.2.2.2.2.2.2.1
def dB (x:bI) (n:Nat):Bool:=decide ((16≤x.1∧x.1<29)∨(x.1=13∧n=1))
def iy (c:CC) (s:aO) (i:Nat) (o:Int):aO:=
 let k:=((fT c (tC (bL s i)).1).getD 0).toNat
 if (bL s i).2.2.2=false then tM s o (ad ((tC (bL s i)).1 - c.2.1.getD k 0)) (c.2.2.2.2.2.2.2.getD k []) else tM s o s.2.2.2.2.2.2.2.2.2.2.1 s.2.2.2.2.2.2.2.2.2.2.2
def dH (c:CC) (kind:Int) (i:Nat):Nat→aO→Bool×aO
 | m,s=>
  if 0≤cD s then (true,s) else if dB (eA c (bL s i)) (bL s i).1.length then (true,s) else match m with
   | 0=>(false,iy c s i 3)
   | m+1=>match jA c kind s i (bL s i).1.dropLast (tC (bL s i)) (bL s i).2.1 (bL s i).2.2.1 (eA c (bL s i)) with
    | none=>(false,iy c s i 4)
    | some s' => dH c kind i m s'
def pw (c:CC) (s:aO) (i:Nat):Prop:=∃ fs f st w,s.1[i]? = some (fs++[f],st,w,false)∧Run1 c fs f st
theorem ef (fs:List Fr) (f:Fr) (r:List Int×Int×Bool):tC (fs++[f],r)=f:=by
 unfold tC
 simp
theorem jN {s:aO} {t:Th} (h:s.1[i]? = some t):bL s i=t:=by
 unfold bL
 simp [h]
theorem JS {c:CC} {e:bI} {s:aO} {n:Int}  {fs:List Fr} {f:Fr}   {x:bI} {k:Nat} (h:AtP c s i fs f st w x k pc) :
  lN (fl n (c,e,s,acc)) (i:Int)=some (dB x (fs.length+1)):=by
 unfold lN qQ dB
 have eat:=aij (e:=e) (acc:=acc) (n:=n) h
 have et:=bC h.t
 simp only [eat,f7,ZJ,kT]
 by_cases h1:16≤x.1∧x.1<29
 ·rw [aw h1,aw (.inl h1)]
  rfl
 ·rw [aG h1]
  by_cases h2:x.1=13
  ·rw [bt h2]
   simp only [Wn,aeu,f9,no,fl,et,f7,ZJ]
   by_cases h3:fs.length+1=1
   ·rw [aw (.inr ⟨h2,h3⟩)]
    simp [h3]
   ·rw [aG (by intro h; rcases h with h | h; exact h1 h; exact h3 h.2)]
    simp
    omega
  ·rw [bf h2,aG (by intro h; rcases h with h | h; exact h1 h; exact h2 h.1)]
   rfl
theorem Kg (x:bI) (n:Nat) (hn:1≤n):f0 x (n:Int)=some (dB x n):=by
 unfold f0 mD dB
 simp only [kT,f7,ZJ,pm]
 by_cases h1:16≤x.1∧x.1<29
 ·rw [aw h1,aw (show (16≤x.1∧x.1<29)∨(x.1=13∧n=1) from .inl h1)]
  rfl
 ·rw [aG h1]
  simp only [no]
  congr 1
  rw [aat]
  omega
theorem vS {c:CC} (hc:bj c) {s:aO} {fs:List Fr} {f:Fr}   {x:bI} {k:Nat} (h:AtP c s i fs f st w x k pc) :
  eB c f.1=some (k:Int)∧fT c f.1=some (k:Int)∧ac c.2.2.2.2.2.2.2 (k:Int)=some (c.2.2.2.2.2.2.2.getD k [])∧ac c.2.1 (k:Int)=some (c.2.1.getD k 0):=by
 have hB:=oC hc.2.1 hc.2.2.2
 have h3:=hc.2.1.1.2.2
 rw [h.pc1]
 exact ⟨ME hB h.pr (by omega),Ii hB h.pr,aB [] (by have:=h.pr.1; omega),aB 0 h.pr.1⟩
theorem qe {c:CC} (hc:bj c) {s:aO} {fs:List Fr} {f:Fr}   {x:bI} {k:Nat} (h:AtP c s i fs f st w x k pc) (o:Int):iy c s i o=tM s o (ad (f.1 - c.2.1.getD k 0)) (c.2.2.2.2.2.2.2.getD k []):=by
 unfold iy
 simp only [jN h.t,ef,(vS hc h).2.1,adN,VY,We]
theorem Jo {c:CC} (hc:bj c) {e:bI} {s:aO} {a:List bR} {fs:List Fr} {f:Fr}   {x:bI} {k:Nat} (h:AtP c s i fs f st w x k pc) (o:Int) :
  bS (c,e,s,a) o (i:Int)=some (c,e,iy c s i o,a):=by
 rw [qe hc h]
 unfold bS
 have efr : ∀ g:Fr,ac (fs++[g]) (fs.length:Int)=some g:=fun g=>by simp [ac]
 have ela : ∀ g:Fr,((fs++[g]).length:Int)=(fs.length:Int)+1:=fun g=>by simp
 have ewl:ad ((fs.length:Int)+1 - 1)=(fs.length:Int):=by have:=h.n; rw [aZ (by omega) (by omega)]; omega
 obtain ⟨q1,q2,q3,q4⟩:=vS hc h
 simp only [bC h.t,f7,ZJ,ela,ewl,efr,q2,q3,q4,aw (show (0:Int)<(fs.length:Int)+1 by omega),f9]
 rfl
theorem VV {c:CC} {e:bI} {s:aO} {a:List bR} {fs:List Fr} {f:Fr}   {x:bI} {k:Nat} (h:AtP c s i fs f st w x k pc) :
  bU (c,e,s,a) (i:Int)=some x:=by
 unfold bU
 have hx:ac c.1 f.1=some x:=by rw [h.pc1,← h.x]; exact aB _ h.pc2
 have efr : ∀ g:Fr,ac (fs++[g]) (fs.length:Int)=some g:=fun g=>by simp [ac]
 have ela : ∀ g:Fr,((fs++[g]).length:Int)=(fs.length:Int)+1:=fun g=>by simp
 have ewl:ad ((fs.length:Int)+1 - 1)=(fs.length:Int):=by have:=h.n; rw [aZ (by omega) (by omega)]; omega
 simp only [bC h.t,f7,ZJ,ela,ewl,efr,hx,show ((fs.length:Int)+1==0)=false by simp only [WW]; omega,no]
theorem uX {c:CC} (hc:bj c) {s:aO} {fs:List Fr} {f:Fr}   {x:bI} {k:Nat} (h:AtP c s i fs f st w x k pc) (hs:dB x (fs.length+1)=false):x.1<16∧(x.1=13→fs≠[]):=by
 have hF:=hc.2.2.1 k pc h.pc2 h.pr
 rw [h.x] at hF
 have h0:=hF.1
 unfold dB at hs
 rw [YH] at hs
 refine ⟨by omega,fun h13 hf=>hs (.inr ⟨h13,by rw [hf]; rfl⟩)⟩
theorem Eo {c:CC} (hc:bj c) {kind:Int} {s s' : aO} {fs:List Fr} {f:Fr}   {x:bI} {k:Nat} (h:AtP c s i fs f st w x k pc) (hr:Run1 c fs f st) (hs:dB x (fs.length+1)=false) (he:jA c kind s i fs f st w x=some s'):pw c s' i:=by
 obtain ⟨h1,h2⟩:=uX hc h hs
 obtain ⟨fs',f',st',g1,g2,g3⟩:=HM hc h hr h1 h2 he
 exact ⟨fs',f',st',w,by rw [g1]; exact W5 (dt h.t),g2⟩
theorem vb (c:CC) (kind:Int) (m:Nat) {s:aO} {fs:List Fr} {f:Fr}   {x:bI} {k:Nat} (h:AtP c s i fs f st w x k pc) :
  dH c kind i m s=(if 0≤cD s then (true,s) else if dB x (fs.length+1) then (true,s) else match m with
   | 0=>(false,iy c s i 3)
   | m+1=>match jA c kind s i fs f st w x with
    | none=>(false,iy c s i 4)
    | some s' => dH c kind i m s'):=by
 have hx:eA c (fs++[f],st,w,false)=x:=by
  unfold eA
  rw [ef,h.pc1]
  exact h.x
 rw [dH.eq_def]
 simp only [jN h.t,hx,ef,Vs,Vp,aeW]
theorem agi {c:CC} (hc:bj c) (e:bI) (acc:List ((Int×Int×Bool)×Bool)) {s0:aO} (hs:pw c s0 i) :
  Itr.it (gG (i:Int)) (fl 0 (c,e,s0,acc))=some (if (dH c e.1 i 64 s0).1 then .inl (fl 0 (c,e,(dH c e.1 i 64 s0).2,acc)).2 else .inr (c,e,(dH c e.1 i 64 s0).2,acc)):=by
 obtain ⟨r,h1,h2⟩:=fw (f:=gG (i:Int)) (fun y=>65 - y.1.toNat) (fun y=>∃ (n:Nat) (s:aO),y=fl (n:Int) (c,e,s,acc)∧n≤64∧pw c s i∧dH c e.1 i (64 - n) s=dH c e.1 i 64 s0)
  (fun r=>r=(if (dH c e.1 i 64 s0).1 then .inl (fl 0 (c,e,(dH c e.1 i 64 s0).2,acc)).2 else .inr (c,e,(dH c e.1 i 64 s0).2,acc)))
  (fun y hy=>by
   obtain ⟨n,s,rfl,hn,⟨fs,f,st,w,ht,hr⟩,hq⟩:=hy
   obtain ⟨k,pc,hA⟩:=iK ht hr
   obtain ⟨q1,q2,q3,q4⟩:=vS hc hA
   rw [← hq,vb c e.1 (64 - n) hA]
   have est:=JS (e:=e) (acc:=acc) (n:=(n:Int)) hA
   have esi:=fun hop=>ajc hc (e:=e) (acc:=acc) (n:=(n:Int)) hA hop
   have eov:=qe hc hA
   have efr : ∀ g:Fr,ac (fs++[g]) (fs.length:Int)=some g:=fun g=>by simp [ac]
   have ela : ∀ g:Fr,((fs++[g]).length:Int)=(fs.length:Int)+1:=fun g=>by simp
   have ewl:ad ((fs.length:Int)+1 - 1)=(fs.length:Int):=by have:=hA.n; rw [aZ (by omega) (by omega)]; omega
   have et:=bC ht
   unfold gG
   by_cases ho:0≤cD s
   ·left
    rw [if_pos ho]
    refine ⟨_,?_,rfl⟩
    have : ¬ (s.2.2.2.2.2.2.2.2.2.1<(0:Int)):=by unfold cD at ho; omega
    simp only [fl,this,Yv,no,We]
   rw [if_neg ho]
   have hlt:s.2.2.2.2.2.2.2.2.2.1<(0:Int):=by unfold cD at ho; omega
   simp only [est,f7,ZJ]
   by_cases hst:dB (cH c f.1.toNat) (fs.length+1)=true
   ·left
    rw [if_pos hst,hst]
    refine ⟨_,?_,rfl⟩
    simp only [fl,hlt,YD,f9,We]
   have hst' : dB (cH c f.1.toNat) (fs.length+1)=false:=by simpa using hst
   rw [if_neg hst,hst']
   obtain ⟨hop,hb⟩:=uX hc hA hst'
   rcases aeB hn with hn | hn
   rotate_left
   ·left
    subst hn
    refine ⟨_,?_,rfl⟩
    simp only [fl,hlt,YD,f9,no,show (((64:Nat):Int)==64)=true from rfl,et,f7,ZJ,Wn,ela,ewl,efr,q3,q4,ad2,eov]
    rw [show eB _ f.1=_ from q1]
    simp only [f7,ZJ,q3,q4]
    rfl
   rw [esi hop]
   obtain ⟨m,hm⟩ : ∃ m,64 - n=m+1:=⟨63 - n,by omega⟩
   rw [hm]
   have h64:((n:Int)==64)=false:=by simp only [WW]; omega
   cases hsil:jA c e.1 s i fs f st w (cH c f.1.toNat) with
   | none=>
    left
    refine ⟨_,?_,rfl⟩
    simp only [fl,hlt,YD,f9,no,h64,et,f7,ZJ,Wn,ela,ewl,efr,q3,q4,eov]
    rw [show eB _ f.1=_ from q1]
    simp only [f7,ZJ,q3,q4]
    rfl
   | some s' =>
    right
    refine ⟨fl ((n+1:Nat):Int) (c,e,s',acc),?_,⟨n+1,s',rfl,by omega,Eo hc hA hr hst' hsil,?_⟩,by show 65 - ((n+1:Nat):Int).toNat<65 - (n:Int).toNat; omega⟩
    ·simp only [fl,hlt,YD,f9,no,h64,f7,ZJ]
     rw [aW (n:=64) (by omega) hn]
     rfl
    ·rw [show 64 - (n+1)=m by omega]) (s:=fl 0 (c,e,s0,acc)) ⟨0,s0,rfl,by omega,hs,rfl⟩ (by show 65 - (0:Int).toNat<_; omega)
 rw [h1,h2]
def P6 (s:aO):aO:=(s.1,s.2.1,s.2.2.1,s.2.2.2.1,s.2.2.2.2.1,s.2.2.2.2.2.1,s.2.2.2.2.2.2.1,(s.2.2.2.2.2.2.2.1.1,s.2.2.2.2.2.2.2.1.2.1,ad (s.2.2.2.2.2.2.2.1.2.2+1)),s.2.2.2.2.2.2.2.2)
def qU (c:CC) (s:aO) (i:Nat):aO×List bR:=
 let t:=bL s i
 let x:=eA c t
 if x.1=25 then (bV s i (t.1,t.2.1,ad (s.2.2.2.2.2.1+x.2.1),t.2.2.2),[(4,0,false)])
 else if x.1=21 then (if 0≤s.2.2.2.1.getD x.2.1.toNat 0 then P6 s else s,[(2,x.2.1,false)])
 else if x.1=20 then (s,if (c.2.2.2.2.1.getD x.2.1.toNat ([],0)).2=0 then [(1,x.2.1,true)] else [])
 else (s,[])
def cK (c:CC) (kind:Int) (i:Nat) (s:aO):aO×List bR:=
 if (dH c kind i 64 s).1=true∧cD (dH c kind i 64 s).2<0 then qU c (dH c kind i 64 s).2 i else ((dH c kind i 64 s).2,[])
def cv (m:List ((Int×Int×Bool)×Bool)) (a:bR):List ((Int×Int×Bool)×Bool):=
 cO ae (.sc .bool) (a.1,a.2.1,false) (bif (dh ae (.sc .bool) (a.1,a.2.1,false) m).getD false then true else a.2.2) m
structure Fit1 (c:CC) (s:aO):Prop where
 vars:s.2.1.length=c.2.2.2.1.length
 qs:s.2.2.1.length=c.2.2.2.2.1.length
 own:s.2.2.2.1.length=c.2.2.2.2.2.1.length
 files:s.2.2.2.2.1.length=c.2.2.2.2.2.2.1.length
theorem Lq {c:CC} {s s' : aO} (h:Fit1 c s) (k:ui s s'):Fit1 c s' := by
 obtain ⟨a1,a2,a3,a4,a5,a6,a7,a8,a9⟩:=k
 exact ⟨by rw [a1]; exact h.1,by rw [a2]; exact h.2,by rw [a3]; exact h.3,by rw [a4]; exact h.4⟩
theorem uP (s:aO):ui s s:=⟨rfl,rfl,rfl,rfl,rfl,rfl,rfl,rfl,rfl⟩
theorem Lo (s:aO) (o k:Int) (w:List UInt8):ui s (tM s o k w):=⟨rfl,rfl,rfl,rfl,rfl,rfl,rfl,rfl,rfl⟩
theorem ya {c:CC} (hc:bj c) (kind:Int) : ∀ (m:Nat) {s:aO} {fs:List Fr} {f:Fr} {st:List Int} {w:Int},s.1[i]? = some (fs++[f],st,w,false)→Run1 c fs f st →
  ∃ fs' f' st',(dH c kind i m s).2.1=s.1.set i (fs' ++ [f'],st',w,false)∧Run1 c fs' f' st' ∧ ui s (dH c kind i m s).2∧(cD (dH c kind i m s).2<0→(dH c kind i m s).1=true∧dB (cH c f'.1.toNat) (fs'.length+1)=true):=by
 intro m
 induction m with
 | zero=>
  intro s fs f st w ht hr
  obtain ⟨k,pc,hA⟩:=iK ht hr
  rw [vb c kind 0 hA]
  by_cases h1:0≤cD s
  ·rw [if_pos h1]
   exact ⟨fs,f,st,(gn ht).symm,hr,uP s,fun h=>absurd h1 (by dsimp only at h; omega)⟩
  rw [if_neg h1]
  by_cases h2:dB (cH c f.1.toNat) (fs.length+1)=true
  ·rw [if_pos h2]
   exact ⟨fs,f,st,(gn ht).symm,hr,uP s,fun _=>⟨rfl,h2⟩⟩
  rw [if_neg h2]
  dsimp only
  rw [qe hc hA]
  exact ⟨fs,f,st,(gn ht).symm,hr,Lo ..,fun h=>absurd h (by unfold cD tM; dsimp only; omega)⟩
 | succ m ih=>
  intro s fs f st w ht hr
  obtain ⟨k,pc,hA⟩:=iK ht hr
  rw [vb c kind (m+1) hA]
  by_cases h1:0≤cD s
  ·rw [if_pos h1]
   exact ⟨fs,f,st,(gn ht).symm,hr,uP s,fun h=>absurd h1 (by dsimp only at h; omega)⟩
  rw [if_neg h1]
  by_cases h2:dB (cH c f.1.toNat) (fs.length+1)=true
  ·rw [if_pos h2]
   exact ⟨fs,f,st,(gn ht).symm,hr,uP s,fun _=>⟨rfl,h2⟩⟩
  rw [if_neg h2]
  obtain ⟨hop,hb⟩:=uX hc hA (by simpa using h2)
  cases hsil:jA c kind s i fs f st w (cH c f.1.toNat) with
  | none=>
   dsimp only
   rw [qe hc hA]
   exact ⟨fs,f,st,(gn ht).symm,hr,Lo ..,fun h=>absurd h (by unfold cD tM; dsimp only; omega)⟩
  | some s' =>
   dsimp only
   obtain ⟨fs1,f1,st1,g1,g2,g3⟩:=HM hc hA hr hop hb hsil
   obtain ⟨fs2,f2,st2,j1,j2,j3,j4⟩:=ih (s:=s') (w:=w) (by rw [g1]; exact W5 (dt ht)) g2
   exact ⟨fs2,f2,st2,by rw [j1,g1,ae5],j2,PY g3 j3,j4⟩
theorem Nq {c:CC} (hc:bj c) (e:bI) (acc:List ((Int×Int×Bool)×Bool)) {s:aO} (hs:pw c s i) (hf:Fit1 c s) :
  iJ (c,e,s,acc) (i:Int)=some (c,e,(cK c e.1 i s).1,(cK c e.1 i s).2.foldl cv acc):=by
 obtain ⟨fs,f,st,w,ht,hr⟩:=hs
 obtain ⟨fs',f',st',g1,g2,g3,g4⟩:=ya hc e.1 64 ht hr
 have hl:=agi hc e acc ⟨fs,f,st,w,ht,hr⟩
 have hf' := Lq hf g3
 unfold iJ cK
 generalize dH c e.1 i 64 s=q at *
 obtain ⟨b,s'⟩:=q
 dsimp only at *
 have ht' : s'.1[i]? = some (fs' ++ [f'],st',w,false):=by rw [g1]; exact W5 (dt ht)
 simp only [bC ht,f7,ZJ]
 refine (Xw (fun o:Option (pT⊕aR)=>o.bind _) hl).trans ?_
 cases b
 ·rfl
 ·simp only [We,f7,ZJ,ajr]
  by_cases ho:cD s' < 0
  rotate_left
  ·rw [if_neg ho]
   have:(0:Int)≤s'.2.2.2.2.2.2.2.2.2.1:=by unfold cD at ho; omega
   simp only [fl,this,YD,f9]
   rfl
  rw [if_pos ho]
  have ho' : ¬ (0:Int)≤s'.2.2.2.2.2.2.2.2.2.1:=by unfold cD at ho; omega
  obtain ⟨k,pc,hA⟩:=iK ht' g2
  have hst:=(g4 ho).2
  have hx:eA c (bL s' i)=cH c f'.1.toNat:=by rw [jN ht']; unfold eA; rw [ef]
  have hF:=hc.2.2.1 k pc hA.pc2 hA.pr
  rw [hA.x] at hF
  have e2:oj (fl 0 (c,e,s',acc)).2 (i:Int)=some (cH c f'.1.toNat):=by
   unfold oj
   have hx:ac c.1 f'.1=some (cH c f'.1.toNat):=by rw [hA.pc1]; exact aB _ hA.pc2
   simp only [fl,bC ht',f7,ZJ,no,mP fs' f' (by have:=g2.n; omega),hx]
  unfold qU
  dsimp only
  rw [hx]
  generalize cH c f'.1.toNat=x at *
  obtain ⟨op,u,b⟩:=x
  obtain ⟨_,_,o1,o2,o3,o4,o5,o6,o7,o8,o9,o10,o11,o12⟩:=hF
  dsimp only at o1 o2 o3 o4 o5 o6 o7 o8 o9 o10 o11 o12 hst
  simp only [e2,f7,ZJ]
  simp only [fl,ho',Yv,no,bC ht',f7,ZJ,jN ht',V9,af,f9]
  by_cases h25:op=25
  ·subst h25
   simp only [Int.reduceBEq,f9,no,We,VY,aeY,List.foldl_nil]
   rfl
  rw [bf h25,if_neg h25]
  by_cases h21:op=21
  ·subst h21
   obtain ⟨q1,q2⟩:=o8 (.inl rfl)
   have eo:ac s'.2.2.2.1 u=some (s'.2.2.2.1.getD u.toNat 0):=aT 0 q1 (by have:=hf'.own; omega)
   simp only [Int.reduceBEq,f9,no,We,eo,f7,ZJ,aeY,List.foldl_nil]
   by_cases hw:0≤s'.2.2.2.1.getD u.toNat 0
   ·rw [aw hw,if_pos hw]
    rfl
   ·rw [aG hw,if_neg hw]
    rfl
  rw [bf h21,if_neg h21]
  by_cases h20:op=20
  ·subst h20
   obtain ⟨q1,q2⟩:=o7 (.inr rfl)
   have eo:ac c.2.2.2.2.1 u=some (c.2.2.2.2.1.getD u.toNat ([],0)):=aT _ q1 (by omega)
   simp only [Int.reduceBEq,f9,no,We,eo,f7,ZJ]
   by_cases hw:(c.2.2.2.2.1.getD u.toNat ([],0)).2=0
   ·rw [show ((c.2.2.2.2.1.getD u.toNat ([],0)).2==0)=true by simp only [aag]; exact hw,if_pos hw]
    rfl
   ·rw [show ((c.2.2.2.2.1.getD u.toNat ([],0)).2==0)=false by simp only [WW]; exact hw,if_neg hw]
    rfl
  rw [bf h20,if_neg h20]
  rfl
end Go.Proofs.YtfhhiajfciblbaaGreatDoor
