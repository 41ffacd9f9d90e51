/-
  Plain laws for functions on data: loops, indexes, checks, integers of 64 bits. No program is walked here.
-/
import Derived.Test.YtfhhiajfciblbaaGreatDoorFn
namespace Go.Proofs.YtfhhiajfciblbaaGreatDoor
open Go.Sm
instance instItr:Itr:=itF
theorem BX {S R:Type} (f:S→Option (S⊕R)) (m:S→Nat) (F:S→R) (inv:S→Prop)
  (hstep : ∀ s,inv s→f s=some (.inr (F s))∨∃ s',f s=some (.inl s')∧inv s' ∧ m s' < m s∧F s' = F s) : ∀ (k:Nat) (s:S),inv s→m s<k→rh f k s=some (F s)
 | 0,s,_,h=>by omega
 | k+1,s,hs,h=>by
  rcases hstep s hs with h1 | ⟨s',h1,h2,h3,h4⟩
  ·simp only [rh,h1,Option.bind_some]
  ·simp only [rh,h1,Option.bind_some]
   rw [BX f m F inv hstep k s' h2 (by omega),h4]
theorem dW {S R:Type} {f:S→Option (S⊕R)} (m:S→Nat) (F:S→R) (inv:S→Prop)
  (hstep : ∀ s,inv s→f s=some (.inr (F s))∨∃ s',f s=some (.inl s')∧inv s' ∧ m s' < m s∧F s' = F s) {s:S} (hs:inv s) (hm:m s<9223372036854775808):Itr.it f s=some (F s):=
 BX f m F inv hstep Oh s hs hm
theorem bi {x:Int} (h1 : -9223372036854775808≤x) (h2:x≤9223372036854775807):ad x=x:=by
 rw [ad,IntKind.wrap_i64]; omega
theorem Qb (x:Int) : -9223372036854775808≤ad x∧ad x≤9223372036854775807:=by
 rw [ad,IntKind.wrap_i64]; omega
theorem cv {α:Type} {xs:List α} {i:Nat} {x:α} (h:xs[i]? = some x):ac xs (i:Int)=some x:=by
 simp [ac,h]
theorem d8 {α:Type} {b:Bool} {m:Option α} (h:b=true):ah b m=m:=by subst h; rfl
theorem be {m k b:Nat} (h:(m+k) * b≤140737488355328) (hb:1≤b):aH m k b=true:=by
 unfold aH
 rw [decide_eq_true_eq]
 refine ⟨h,?_⟩
 have:m+k≤(m+k) * b:=Nat.le_mul_of_pos_right _ hb
 simp only [maxLen]
 omega
theorem mX {α:Type} {xs:List α} {i:Nat} {x:α} (h:xs[i]? = some x):i<xs.length:=(List.getElem?_eq_some_iff.1 h).1
theorem aE {p:Prop} [Decidable p] (h:p):decide p=true:=decide_eq_true h
theorem aQ {p:Prop} [Decidable p] (h : ¬ p):decide p=false:=decide_eq_false h
theorem bt {a b:Int} (h:a=b):(a==b)=true:=beq_iff_eq.2 h
theorem bf {a b:Int} (h : ¬ a=b):(a==b)=false:=beq_eq_false_iff_ne.2 h
theorem nt {a b:Int} (h : ¬ a=b):(a != b)=true:=bne_iff_ne.2 h
theorem nf {a b:Int} (h:a=b):(a != b)=false:=bne_eq_false_iff_eq.2 h
theorem fk {S R:Type} {f:S→Option (S⊕R)} (m:S→Nat) (inv:S→Prop) (Q:R→Prop)
  (hstep : ∀ s,inv s→(∃ r,f s=some (.inr r)∧Q r)∨∃ s',f s=some (.inl s')∧inv s' ∧ m s' < m s) {s:S} (hs:inv s) (hm:m s<9223372036854775808) : ∃ r,Itr.it f s=some r∧Q r:=by
 have gen : ∀ (k:Nat) (s:S),inv s→m s<k→∃ r,rh f k s=some r∧Q r:=by
  intro k
  induction k with
  | zero=>intro s _ h; omega
  | succ k ih=>
   intro s hs h
   rcases hstep s hs with ⟨r,h1,h2⟩ | ⟨s',h1,h2,h3⟩
   ·exact ⟨r,by simp only [rh,h1,Option.bind_some],h2⟩
   ·obtain ⟨r,e1,e2⟩:=ih s' h2 (by omega)
    exact ⟨r,by simp only [rh,h1,Option.bind_some]; exact e1,e2⟩
 exact gen Oh s hs hm
open Go.Sm
set_option linter.unusedSimpArgs false
set_option linter.unusedVariables false
theorem aD {α:Type} {xs:List α} {i:Nat} (d:α) (h:i<xs.length):ac xs (i:Int)=some (xs.getD i d):=by
 simp [ac,h]
theorem bu {α:Type} {xs:List α} {k:Int} (d:α) (h0:0≤k) (h:k<xs.length):ac xs k=some (xs.getD k.toNat d):=by
 have h1:k.toNat<xs.length:=by omega
 simp [ac,h0,h1]
theorem aS {i n:Nat} (hn:n<9223372036854775808) (h:i<n):ad ((i:Int)+1)=(i:Int)+1:=bi (by omega) (by omega)
theorem yr {i n:Nat} (hn:n<9223372036854775808) (h:i<n) (h0:0<i):ad ((i:Int) - 1)=((i - 1:Nat):Int):=by rw [bi (by omega) (by omega)]; omega
theorem BS {R:Type} {f:Int→Option (Int⊕(Unit⊕R))} (a n:Nat) (ha:a≤n) (hn:n<9223372036854775808) (P:Nat→Prop) (Z:Nat→R)
  (hstep : ∀ i:Nat,a≤i→i<n→(∀ j,a≤j→j<i→P j)→(P i∧f (i:Int)=some (.inl ((i:Int)+1)))∨(¬ P i∧f (i:Int)=some (.inr (.inr (Z i)))))
  (hend:(∀ j,a≤j→j<n→P j)→f (n:Int)=some (.inr (.inl ()))) :
  ((∀ j,a≤j→j<n→P j)∧Itr.it f (a:Int)=some (.inl ()))∨∃ i,a≤i∧i<n∧(∀ j,a≤j→j<i→P j)∧¬ P i∧Itr.it f (a:Int)=some (.inr (Z i)):=by
 obtain ⟨r,h1,h2⟩:=fk (f:=f) (fun s=>n - s.toNat) (fun s=>∃ i:Nat,s=(i:Int)∧a≤i∧i≤n∧∀ j,a≤j→j<i→P j)
  (fun r=>((∀ j,a≤j→j<n→P j)∧r = .inl ())∨∃ i,a≤i∧i<n∧(∀ j,a≤j→j<i→P j)∧¬ P i∧r = .inr (Z i))
  (fun s hs=>by
   obtain ⟨i,rfl,hia,hi,hP⟩:=hs
   rcases Nat.lt_or_ge i n with hlt | hge
   ·rcases hstep i hia hlt hP with ⟨hp,he⟩ | ⟨hp,he⟩
    ·refine .inr ⟨_,he,⟨i+1,by simp,by omega,by omega,fun j hj0 hj=>?_⟩,?_⟩
     ·rcases Nat.lt_or_ge j i with h | h
      ·exact hP j hj0 h
      ·rw [show j=i by omega]; exact hp
     ·show n - ((i:Int)+1).toNat<n - (i:Int).toNat
      omega
    ·exact .inl ⟨_,he, .inr ⟨i,hia,hlt,hP,hp,rfl⟩⟩
   ·have:i=n:=by omega
    subst this
    exact .inl ⟨_,hend hP, .inl ⟨hP,rfl⟩⟩) (s:=(a:Int)) ⟨a,rfl,by omega,ha,fun j hj0 hj=>by omega⟩ (by show n - (a:Int).toNat<_; omega)
 rcases h2 with ⟨h2,rfl⟩ | ⟨i,h0,h3,h4,h5,rfl⟩
 ·exact .inl ⟨h2,h1⟩
 ·exact .inr ⟨i,h0,h3,h4,h5,h1⟩
theorem dH {R:Type} {f:Int→Option (Int⊕(Unit⊕R))} (n:Nat) (hn:n<9223372036854775808) (P:Nat→Prop) (Z:Nat→R)
  (hstep : ∀ i:Nat,i<n→(∀ j,j<i→P j)→(P i∧f (i:Int)=some (.inl ((i:Int)+1)))∨(¬ P i∧f (i:Int)=some (.inr (.inr (Z i)))))
  (hend:(∀ j,j<n→P j)→f (n:Int)=some (.inr (.inl ()))) :
  ((∀ j,j<n→P j)∧Itr.it f (0:Int)=some (.inl ()))∨∃ i,i<n∧(∀ j,j<i→P j)∧¬ P i∧Itr.it f (0:Int)=some (.inr (Z i)):=by
 rcases BS (f:=f) 0 n (by omega) hn P Z (fun i _ hi hP=>hstep i hi fun j hj=>hP j (by omega) hj) (fun hP=>hend fun j hj=>hP j (by omega) hj) with ⟨h1,h2⟩ | ⟨i,_,h1,h2,h3,h4⟩
 ·exact .inl ⟨fun j hj=>h1 j (by omega) hj,h2⟩
 ·exact .inr ⟨i,h1,fun j hj=>h2 j (by omega) hj,h3,h4⟩
theorem iL {α:Type} {xs:List α} {i:Nat} (d:α) (h:i<xs.length):xs.take (i+1)=xs.take i++[xs.getD i d]:=by
 rw [List.take_add_one]
 simp [h]
theorem n5 (l:List (List UInt8×Int)) (h:l.length≤1048576):cJ l=some (l.map (·.1)):=by
 unfold cJ
 have:=dW (f:=iT l) (fun s=>l.length - s.2.toNat) (fun _=>l.map (·.1)) (fun s=>∃ i:Nat,s=((l.take i).map (·.1),(i:Int))∧i≤l.length)
  (fun s hs=>by
   obtain ⟨i,rfl,hi⟩:=hs
   unfold iT
   rcases Nat.lt_or_ge i l.length with hlt | hge
   ·right
    refine ⟨((l.take (i+1)).map (·.1),((i+1:Nat):Int)),?_,⟨i+1,rfl,by omega⟩,?_,rfl⟩
    ·simp only [aE (show (i:Int)<(l.length:Int) by omega),cond_true,aD ([],0) hlt,Option.bind_some]
     rw [d8 (be (by simp only [List.length_map,List.length_take,List.length_singleton]; omega) (by omega)),aS (n:=l.length) (by omega) hlt,iL ([],0) hlt]
     simp
    ·show l.length - ((i+1:Nat):Int).toNat<l.length - (i:Int).toNat
     omega
   ·left
    have:i=l.length:=by omega
    subst this
    simp) (s:=([],0)) ⟨0,rfl,by omega⟩ (by show l.length - (0:Int).toNat<_; omega)
 rw [this]; rfl
theorem GJ (l:List (List UInt8×Int)) (h:l.length≤1048576):qy l=some (l.map (·.1)):=n5 l h
def u1 (l:List (List UInt8)):Prop:=∀ i,i<l.length→0<i→Op.bytesLess (l.getD (i - 1) []) (l.getD i [])=true
theorem ke (l:List (List UInt8)) (h:l.length≤1048576) : ∃ b,cX l=some b∧(b=true↔u1 l):=by
 unfold cX
 rcases dH (f:=eu l) (l.length - 1) (by omega) (fun i=>Op.bytesLess (l.getD i []) (l.getD (i+1) [])=true) (fun _=>false)
  (fun i hi hP=>by
   have e:ad ((i:Int)+1)=((i+1:Nat):Int):=by rw [aS (n:=l.length) (by omega) (by omega)]; rfl
   unfold eu
   simp only [e,aE (show ((i+1:Nat):Int)<(l.length:Int) by omega),cond_true,aD [] (show i<l.length by omega),aD [] (show i+1<l.length by omega),Option.bind_some]
   cases hb:Op.bytesLess (l.getD i []) (l.getD (i+1) [])
   ·right; exact ⟨by simp,rfl⟩
   ·left; exact ⟨rfl,rfl⟩)
  (fun hP=>by
   unfold eu
   rcases l with _ | ⟨x,l⟩
   ·rfl
   ·rw [bi (by simp at h ⊢; omega) (by simp at h ⊢; omega),aQ (by simp)]
    rfl) with ⟨hP,he⟩ | ⟨i,hi,_,hP,he⟩
 ·rw [he]
  refine ⟨true,rfl,⟨fun _ i hi h0=>?_,fun _=>rfl⟩⟩
  have:=hP (i - 1) (by omega)
  rwa [show i - 1+1=i by omega] at this
 ·rw [he]
  refine ⟨false,rfl,⟨fun h=>(by cases h),fun h=>?_⟩⟩
  exact absurd (h (i+1) (by omega) (by omega)) (by simpa using hP)
theorem aa2 (l:List (List UInt8)) (h:l.length≤1048576):(u1 l∧Itr.it (fY l) 0=some (.inl ()))∨(¬ u1 l∧Itr.it (fY l) 0=some (.inr (.inr (.inr false)))):=by
 rcases dH (f:=fY l) l.length (by omega) (fun i=>0<i→Op.bytesLess (l.getD (i - 1) []) (l.getD i [])=true) (fun _=>.inr (.inr false))
  (fun i hi hP=>by
   unfold fY
   rcases Nat.eq_zero_or_pos i with rfl | h0
   ·left
    refine ⟨fun h=>by omega,?_⟩
    simp only [aE (show ((0:Nat):Int)<(l.length:Int) by omega),aQ (show ¬ (0:Int)<((0:Nat):Int) by omega),cond_true,cond_false,Option.bind_some]
    rfl
   ·have e:ad ((i:Int) - 1)=((i - 1:Nat):Int):=yr (n:=l.length) (by omega) hi h0
    simp only [aE (show (i:Int)<(l.length:Int) by omega),aE (show (0:Int)<(i:Int) by omega),cond_true,e,aD [] hi,aD [] (show i - 1<l.length by omega),Option.bind_some,aS (n:=l.length) (by omega) hi]
    cases hb:Op.bytesLess (l.getD (i - 1) []) (l.getD i [])
    ·right; exact ⟨fun h=>(by cases h h0),rfl⟩
    ·left; exact ⟨fun _=>rfl,rfl⟩)
  (fun hP=>by unfold fY; rw [aQ (by omega)]; rfl) with ⟨hP,he⟩ | ⟨i,hi,_,hP,he⟩
 ·exact .inl ⟨fun i hi h0=>hP i hi h0,he⟩
 ·exact .inr ⟨fun h=>hP fun h0=>h i hi h0,he⟩
def q0 (c:ao) (i:Nat):Prop:=
 (i=0→c.2.1.getD 0 0=0)∧(0<i→c.2.1.getD (i - 1) 0<c.2.1.getD i 0)∧0≤c.2.1.getD i 0∧c.2.1.getD i 0<c.1.length∧0≤c.2.2.1.getD i 0∧c.2.2.1.getD i 0≤512
def KQ (c:ao):Prop:=∀ i,i<c.2.2.2.2.1.length→0≤(c.2.2.2.2.1.getD i ([],0)).2∧(c.2.2.2.2.1.getD i ([],0)).2≤3
def E8 (c:ao):Prop:=1≤c.2.1.length∧c.2.2.1.length=c.2.1.length∧c.2.2.2.2.2.2.2.length=c.2.1.length
def Nu (c:ao):Prop:=u1 (c.2.2.2.1.map (·.1))∧u1 (c.2.2.2.2.1.map (·.1))∧u1 c.2.2.2.2.2.1∧u1 c.2.2.2.2.2.2.1
def jC (c:ao):Prop:=E8 c∧Nu c∧(∀ i,i<c.2.1.length→q0 c i)∧KQ c
def dD (c:ao):Prop:=c.2.1.length≤1048576∧c.2.2.1.length≤1048576∧c.2.2.2.1.length≤1048576∧c.2.2.2.2.1.length≤1048576∧c.2.2.2.2.2.1.length≤1048576∧c.2.2.2.2.2.2.1.length≤1048576∧c.2.2.2.2.2.2.2.length≤1048576
open Go.Sm
set_option linter.unusedSimpArgs false
set_option linter.unusedVariables false
theorem UX (c:ao) (hl:c.1.length≤512) (hs:dD c) (hp:E8 c) (i:Nat) (hi:i<c.2.1.length) (hP : ∀ j,j<i→q0 c j) :
  (q0 c i∧dr c (i:Int)=some (.inl ((i:Int)+1)))∨(¬ q0 c i∧dr c (i:Int)=some (.inr (.inr false))):=by
 obtain ⟨p1,p2,p3⟩:=hp
 obtain ⟨s1,s2,s3⟩:=hs
 have hi2:i<c.2.2.1.length:=by omega
 unfold dr mI
 generalize hb:c.2.1.getD i 0=b
 generalize hq:c.2.2.1.getD i 0=q
 have e1:=aD (0:Int) hi
 have e2:=aD (0:Int) hi2
 rw [hb] at e1
 rw [hq] at e2
 rcases Nat.eq_zero_or_pos i with rfl | h0
 ·have hB:q0 c 0↔(b=0∧(0:Int)<c.1.length∧0≤q∧q≤512):=by
   unfold q0
   rw [hb,hq]
   constructor
   ·rintro ⟨h1,_,h3,h4,h5,h6⟩
    have:=h1 rfl
    exact ⟨this,by omega,h5,h6⟩
   ·rintro ⟨h1,h2,h3,h4⟩
    exact ⟨fun _=>h1,fun h=>absurd h (by omega),by omega,by omega,h3,h4⟩
  have e1' : ac c.2.1 0=some b:=e1
  have e2' : ac c.2.2.1 0=some q:=e2
  rw [hB]
  simp only [aE (show ((0:Nat):Int)<(c.2.1.length:Int) by omega),aQ (show ¬ (0:Int)<((0:Nat):Int) by omega),cond_true,cond_false,Option.bind_some,e1,e2,e1',e2',show (((0:Nat):Int)==(0:Int))=true from rfl]
  by_cases h1:b<0
  ·right
   exact ⟨by omega,by simp [h1,e1']⟩
  by_cases h2:0<b
  ·right
   exact ⟨by omega,by simp [h1,h2,e1']⟩
  by_cases h3:(c.1.length:Int)≤b
  ·right
   exact ⟨by omega,by simp [h1,h2,h3,e1']⟩
  by_cases h4:q<0
  ·right
   exact ⟨by omega,by simp [h1,h2,h3,h4,e1',e2']⟩
  by_cases h5:512<q
  ·right
   exact ⟨by omega,by simp [h1,h2,h3,h4,h5,e1',e2']⟩
  left
  refine ⟨by omega,?_⟩
  simp [h1,h2,h3,h4,h5,e1',e2']
  rfl
 ·have hpr:i - 1<c.2.1.length:=by omega
  have e3:=aD (0:Int) hpr
  generalize ha:c.2.1.getD (i - 1) 0=a
  rw [ha] at e3
  have hbp:=hP (i - 1) (by omega)
  unfold q0 at hbp
  rw [ha] at hbp
  obtain ⟨_,_,ha0,ha1,_,_⟩:=hbp
  have hB:q0 c i↔(a+1≤b∧b<c.1.length∧0≤q∧q≤512):=by
   unfold q0
   rw [hb,hq,ha]
   constructor
   ·rintro ⟨_,h1,h3,h4,h5,h6⟩
    have:=h1 h0
    exact ⟨by omega,by omega,h5,h6⟩
   ·rintro ⟨h1,h2,h3,h4⟩
    exact ⟨fun h=>absurd h (by omega),fun _=>by omega,by omega,by omega,h3,h4⟩
  rw [hB]
  have ew:ad (a+1)=a+1:=bi (by omega) (by omega)
  simp only [aE (show (i:Int)<(c.2.1.length:Int) by omega),aE (show (0:Int)<(i:Int) by omega),cond_true,yr (n:=c.2.1.length) (by omega) hi h0,e3,ew,Option.bind_some,e1,e2,show ((i:Int)==(0:Int))=false by rw [beq_eq_false_iff_ne]; omega]
  by_cases h1:b<a+1
  ·right
   exact ⟨by omega,by simp [h1]⟩
  by_cases h3:(c.1.length:Int)≤b
  ·right
   exact ⟨by omega,by simp [h1,h3,e1]⟩
  by_cases h4:q<0
  ·right
   exact ⟨by omega,by simp [h1,h3,h4,e1,e2]⟩
  by_cases h5:512<q
  ·right
   exact ⟨by omega,by simp [h1,h3,h4,h5,e1,e2]⟩
  left
  refine ⟨by omega,?_⟩
  simp [h1,h3,h4,h5,e1,e2]
  exact aS (n:=c.2.1.length) (by omega) hi
theorem RG (c:ao) (hs:dD c):(KQ c∧Itr.it (dp c) 0=some (.inl ()))∨(¬ KQ c∧Itr.it (dp c) 0=some (.inr false)):=by
 have hn:c.2.2.2.2.1.length≤1048576:=hs.2.2.2.1
 rcases dH (f:=dp c) c.2.2.2.2.1.length (by omega) (fun i=>0≤(c.2.2.2.2.1.getD i ([],0)).2∧(c.2.2.2.2.1.getD i ([],0)).2≤3) (fun _=>false)
  (fun i hi _=>by
   unfold dp
   have e:=aD (([],0):List UInt8×Int) hi
   generalize c.2.2.2.2.1.getD i ([],0)=x at e ⊢
   simp only [aE (show (i:Int)<(c.2.2.2.2.1.length:Int) by omega),cond_true,e,Option.bind_some,aS (n:=c.2.2.2.2.1.length) (by omega) hi]
   by_cases h1:x.2<0
   ·right; exact ⟨by omega,by simp [h1]⟩
   by_cases h2:3<x.2
   ·right; exact ⟨by omega,by simp [h1,h2]⟩
   left; exact ⟨by omega,by simp [h1,h2]⟩)
  (fun _=>by unfold dp; dsimp only; rw [aQ (by omega)]; rfl) with ⟨hP,he⟩ | ⟨i,hi,_,hP,he⟩
 ·exact .inl ⟨hP,he⟩
 ·exact .inr ⟨fun h=>hP (h i hi),he⟩
theorem Cn (c:ao) (hl:c.1.length≤512) (hs:dD c) : ∃ b,jf c=some b∧(b=true↔jC c):=by
 have hs0:=hs
 obtain ⟨s1,s2,s3,s4,s5,s6,s7⟩:=hs0
 unfold jf
 dsimp only
 by_cases hp:E8 c
 ·have p1 : ¬ ((c.2.1.length:Int)<1):=by have:=hp.1; omega
  have p2:(c.2.2.1.length:Int)=c.2.1.length:=by have:=hp.2.1; omega
  have p3:(c.2.2.2.2.2.2.2.length:Int)=c.2.1.length:=by have:=hp.2.2; omega
  obtain ⟨b1,g1,k1⟩:=ke (c.2.2.2.1.map (·.1)) (by simpa using s3)
  obtain ⟨b2,g2,k2⟩:=ke (c.2.2.2.2.1.map (·.1)) (by simpa using s4)
  obtain ⟨b3,g3,k3⟩:=ke c.2.2.2.2.2.1 s5
  obtain ⟨b4,g4,k4⟩:=ke c.2.2.2.2.2.2.1 s6
  have q2:((c.2.2.1.length:Int) != (c.2.1.length:Int))=false:=by simp [p2]
  have q3:((c.2.2.2.2.2.2.2.length:Int) != (c.2.1.length:Int))=false:=by simp [p3]
  simp only [aQ p1,q2,q3,cond_false,cond_true,Bool.not_false,n5 _ s3,Option.bind_some,g1]
  cases b1
  ·exact ⟨false,rfl,fun h=>(by cases h),fun h=>(by have:=k1.2 h.2.1.1; cases this)⟩
  simp only [Bool.not_true,Bool.not_false,cond_false,cond_true,n5 _ s4,Option.bind_some,g2]
  cases b2
  ·exact ⟨false,rfl,fun h=>(by cases h),fun h=>(by have:=k2.2 h.2.1.2.1; cases this)⟩
  simp only [Bool.not_true,Bool.not_false,cond_false,cond_true,Option.bind_some,g3]
  cases b3
  ·exact ⟨false,rfl,fun h=>(by cases h),fun h=>(by have:=k3.2 h.2.1.2.2.1; cases this)⟩
  simp only [Bool.not_true,Bool.not_false,cond_false,cond_true,Option.bind_some,g4]
  cases b4
  ·exact ⟨false,rfl,fun h=>(by cases h),fun h=>(by have:=k4.2 h.2.1.2.2.2; cases this)⟩
  simp only [Bool.not_true,Bool.not_false,cond_false,cond_true]
  have hinc:Nu c:=⟨k1.1 rfl,k2.1 rfl,k3.1 rfl,k4.1 rfl⟩
  rcases dH (f:=dr c) c.2.1.length (by omega) (q0 c) (fun _=>false) (UX c hl hs hp) (fun _=>by unfold dr; rw [aQ (by omega)]; rfl) with ⟨hP,he⟩ | ⟨i,hi,_,hP,he⟩
  ·rw [he]
   simp only [Option.bind_some]
   rcases RG c hs with ⟨hc,he⟩ | ⟨hc,he⟩
   ·rw [he]; exact ⟨true,rfl,fun _=>⟨hp,hinc,hP,hc⟩,fun _=>rfl⟩
   ·rw [he]; exact ⟨false,rfl,fun h=>(by cases h),fun h=>absurd h.2.2.2 hc⟩
  ·rw [he]; exact ⟨false,rfl,fun h=>(by cases h),fun h=>absurd (h.2.2.1 i hi) hP⟩
 ·refine ⟨false,?_,fun h=>(by cases h),fun h=>absurd h.1 hp⟩
  by_cases p1:(c.2.1.length:Int)<1
  ·rw [aE p1]
   rfl
  rw [aQ p1]
  by_cases p2:(c.2.2.1.length:Int)=c.2.1.length
  ·have p3 : ¬ ((c.2.2.2.2.2.2.2.length:Int)=c.2.1.length):=fun h=>hp ⟨by omega,by omega,by omega⟩
   rw [nf p2,nt p3]
   rfl
  ·rw [nt p2]
   rfl
def Gb (c:ao) (i:Nat):Prop:=(0<i→c.2.1.getD (i - 1) 0<c.2.1.getD i 0)∧0≤c.2.2.1.getD i 0∧c.2.2.1.getD i 0≤512
theorem abr (c:ao) (h0:c.2.1.getD 0 0=0) (hl:c.2.1.getD (c.2.1.length - 1) 0<c.1.length) (h : ∀ i,i<c.2.1.length→Gb c i) : ∀ i,i<c.2.1.length→q0 c i:=by
 have up : ∀ i,i<c.2.1.length→0≤c.2.1.getD i 0:=by
  intro i
  induction i with
  | zero=>intro _; omega
  | succ i ih=>intro hi; have:=ih (by omega); have:=(h (i+1) hi).1 (by omega); rw [show i+1 - 1=i from rfl] at this; omega
 have dn : ∀ k i,i+k+1=c.2.1.length→c.2.1.getD i 0≤c.2.1.getD (c.2.1.length - 1) 0:=by
  intro k
  induction k with
  | zero=>intro i hi; rw [show c.2.1.length - 1=i by omega]; omega
  | succ k ih=>intro i hi; have:=ih (i+1) (by omega); have:=(h (i+1) (by omega)).1 (by omega); rw [show i+1 - 1=i from rfl] at this; omega
 intro i hi
 have:=dn (c.2.1.length - 1 - i) i (by omega)
 obtain ⟨h1,h2,h3⟩:=h i hi
 exact ⟨fun e=>h0,h1,up i hi,by omega,h2,h3⟩
theorem QL (c:ao) (hs:dD c) (hp:E8 c) (i:Nat) (hi:i<c.2.1.length) :
  (Gb c i∧f0 c (i:Int)=some (.inl ((i:Int)+1)))∨(¬ Gb c i∧f0 c (i:Int)=some (.inr (.inr false))):=by
 obtain ⟨p1,p2,p3⟩:=hp
 obtain ⟨s1,s2,s3⟩:=hs
 have hi2:i<c.2.2.1.length:=by omega
 unfold f0 Gb
 have e1:=aD (0:Int) hi
 have e2:=aD (0:Int) hi2
 generalize c.2.1.getD i 0=b at e1 ⊢
 generalize c.2.2.1.getD i 0=q at e2 ⊢
 have ew:=aS (n:=c.2.1.length) (by omega) hi
 rcases Nat.eq_zero_or_pos i with rfl | h0
 ·have e2' : ac c.2.2.1 0=some q:=e2
  simp only [aE (show ((0:Nat):Int)<(c.2.1.length:Int) by omega),aQ (show ¬ (0:Int)<((0:Nat):Int) by omega),cond_true,cond_false,Option.bind_some,Bool.not_false,e2,ew]
  by_cases h4:q<0
  ·right
   exact ⟨by omega,by simp [h4]⟩
  by_cases h5:512<q
  ·right
   exact ⟨by omega,by simp [h4,h5,e2']⟩
  left
  exact ⟨⟨fun h=>absurd h (by omega),by omega,by omega⟩,by simp [h4,h5,e2']⟩
 ·have hpr:i - 1<c.2.1.length:=by omega
  have e3:=aD (0:Int) hpr
  generalize c.2.1.getD (i - 1) 0=a at e3 ⊢
  simp only [aE (show (i:Int)<(c.2.1.length:Int) by omega),aE (show (0:Int)<(i:Int) by omega),cond_true,yr (n:=c.2.1.length) (by omega) hi h0,e3,Option.bind_some,e1,e2,ew]
  by_cases h1:b≤a
  ·right
   exact ⟨fun h=>by have:=h.1 h0; omega,by simp [h1]⟩
  by_cases h4:q<0
  ·right
   exact ⟨by omega,by simp [h1,h4,e2]⟩
  by_cases h5:512<q
  ·right
   exact ⟨by omega,by simp [h1,h4,h5,e2]⟩
  left
  exact ⟨⟨fun _=>by omega,by omega,by omega⟩,by simp [h1,h4,h5,e2]⟩
theorem Qt (c:ao) (hs:dD c) : ∃ b,cU c.2.2.2.2.1=some b∧((!b)=true↔KQ c):=by
 have hn:c.2.2.2.2.1.length≤1048576:=hs.2.2.2.1
 unfold cU eO
 rcases dH (f:=cH c.2.2.2.2.1) c.2.2.2.2.1.length (by omega) (fun i=>0≤(c.2.2.2.2.1.getD i ([],0)).2∧(c.2.2.2.2.1.getD i ([],0)).2≤3) (fun i=>(i:Int))
  (fun i hi _=>by
   unfold cH qj
   have e:=aD (([],0):List UInt8×Int) hi
   generalize c.2.2.2.2.1.getD i ([],0)=x at e ⊢
   simp only [aE (show (i:Int)<(c.2.2.2.2.1.length:Int) by omega),cond_true,e,Option.bind_some,aS (n:=c.2.2.2.2.1.length) (by omega) hi]
   by_cases h1:x.2<0
   ·right; exact ⟨by omega,by simp [h1]⟩
   by_cases h2:3<x.2
   ·right; exact ⟨by omega,by simp [h1,h2]⟩
   left; exact ⟨by omega,by simp [h1,h2]⟩)
  (fun _=>by unfold cH; rw [aQ (by omega)]; rfl) with ⟨hP,he⟩ | ⟨i,hi,_,hP,he⟩
 ·rw [he]; exact ⟨false,rfl,fun _=>hP,fun _=>rfl⟩
 ·rw [he]
  refine ⟨true,?_,fun h=>(by cases h),fun h=>absurd (h i hi) hP⟩
  simp only [Option.bind_some]
  rw [aE (by omega)]
theorem AD (c:ao) (hl:c.1.length≤512) (hs:dD c) : ∃ b,pq c=some b∧(b=true↔jC c):=by
 have hs0:=hs
 obtain ⟨s1,s2,s3,s4,s5,s6,s7⟩:=hs0
 unfold pq
 dsimp only
 by_cases hp:E8 c
 ·have p1:((c.2.1.length:Int)==0)=false:=by have:=hp.1; rw [beq_eq_false_iff_ne]; omega
  have p2:(c.2.2.1.length:Int)=c.2.1.length:=by have:=hp.2.1; omega
  have p3:(c.2.2.2.2.2.2.2.length:Int)=c.2.1.length:=by have:=hp.2.2; omega
  have q2:((c.2.2.1.length:Int) != (c.2.1.length:Int))=false:=by simp [p2]
  have q3:((c.2.2.2.2.2.2.2.length:Int) != (c.2.1.length:Int))=false:=by simp [p3]
  have n1:0<c.2.1.length:=hp.1
  have e0:ac c.2.1 0=some (c.2.1.getD 0 0):=aD 0 n1
  have e1:ac c.2.1 (ad ((c.2.1.length:Int) - 1))=some (c.2.1.getD (c.2.1.length - 1) 0):=by
   rw [bi (by omega) (by omega),show (c.2.1.length:Int) - 1=((c.2.1.length - 1:Nat):Int) by omega]
   exact aD 0 (by omega)
  simp only [p1,q2,q3,cond_false,cond_true,Bool.not_false,e0,Option.bind_some]
  by_cases h0:c.2.1.getD 0 0=0
  rotate_left
  ·refine ⟨false,?_,fun h=>(by cases h),fun h=>absurd ((h.2.2.1 0 n1).1 rfl) h0⟩
   rw [nt h0]
   rfl
  rw [nf h0]
  simp only [cond_false,cond_true,Bool.not_false,e1,Option.bind_some]
  by_cases h9:(c.1.length:Int)≤c.2.1.getD (c.2.1.length - 1) 0
  ·refine ⟨false,by rw [aE h9]; rfl,fun h=>(by cases h),fun h=>?_⟩
   have:=(h.2.2.1 (c.2.1.length - 1) (by omega)).2.2.2.1
   omega
  rw [aQ h9]
  simp only [cond_false,GJ _ s3,GJ _ s4,Option.bind_some]
  generalize hL:[c.2.2.2.1.map (·.1),c.2.2.2.2.1.map (·.1),c.2.2.2.2.2.1,c.2.2.2.2.2.2.1]=L
  have hL4:L.length=4:=by rw [← hL]; rfl
  have hall:(∀ i,i<4→u1 (L.getD i []))↔Nu c:=by
   rw [← hL]
   constructor
   ·intro h; exact ⟨h 0 (by omega),h 1 (by omega),h 2 (by omega),h 3 (by omega)⟩
   ·rintro ⟨h1,h2,h3,h4⟩ i hi
    rcases i with _ | _ | _ | _ | i
    ·exact h1
    ·exact h2
    ·exact h3
    ·exact h4
    ·omega
  have hsm : ∀ i,i<4→(L.getD i []).length≤1048576:=by
   rw [← hL]
   intro i hi
   rcases i with _ | _ | _ | _ | i
   ·simpa using s3
   ·simpa using s4
   ·exact s5
   ·exact s6
   ·omega
  rcases dH (f:=kf c (c.2.2.2.1.map (·.1)) (c.2.2.2.2.1.map (·.1))) 4 (by omega) (fun i=>u1 (L.getD i [])) (fun _=>false)
   (fun i hi _=>by
    unfold kf
    dsimp only
    rw [hL,hL4,aE (show (i:Int)<((4:Nat):Int) by omega)]
    simp only [cond_true,aD [] (show i<L.length by omega),Option.bind_some]
    rcases aa2 (L.getD i []) (hsm i hi) with ⟨h1,h2⟩ | ⟨h1,h2⟩
    ·left
     refine ⟨h1,?_⟩
     rw [h2]
     simp only [Option.bind_some]
     rw [aS (n:=4) (by omega) hi]
    ·right
     refine ⟨h1,?_⟩
     rw [h2]
     rfl)
   (fun _=>by
    unfold kf
    rfl) with ⟨hP,he⟩ | ⟨i,hi,_,hP,he⟩
  ·rw [he]
   simp only [Option.bind_some]
   rcases dH (f:=f0 c) c.2.1.length (by omega) (Gb c) (fun _=>false) (fun i hi _=>QL c hs hp i hi) (fun _=>by unfold f0; rw [aQ (by omega)]; rfl) with ⟨hB,he⟩ | ⟨i,hi,_,hB,he⟩
   ·rw [he]
    simp only [Option.bind_some]
    obtain ⟨b,hb,hb2⟩:=Qt c hs
    rw [hb]
    exact ⟨!b,rfl,fun h=>⟨hp,hall.1 hP,abr c h0 (by omega) hB,hb2.1 h⟩,fun h=>hb2.2 h.2.2.2⟩
   ·rw [he]
    refine ⟨false,rfl,fun h=>(by cases h),fun h=>absurd ?_ hB⟩
    obtain ⟨_,g2,_,_,g5,g6⟩:=h.2.2.1 i hi
    exact ⟨g2,g5,g6⟩
  ·rw [he]
   refine ⟨false,rfl,fun h=>(by cases h),fun h=>absurd (hall.2 h.2.1 i hi) hP⟩
 ·refine ⟨false,?_,fun h=>(by cases h),fun h=>absurd h.1 hp⟩
  by_cases p1:(c.2.1.length:Int)=0
  ·rw [bt p1]
   rfl
  rw [bf p1]
  by_cases p2:(c.2.2.1.length:Int)=c.2.1.length
  ·have p3 : ¬ ((c.2.2.2.2.2.2.2.length:Int)=c.2.1.length):=fun h=>hp ⟨by omega,by omega,by omega⟩
   rw [nf p2,nt p3]
   rfl
  ·rw [nt p2]
   rfl
open Go.Sm
set_option linter.unusedSimpArgs false
set_option linter.unusedVariables false
def od (b:List Int):Prop:=1≤b.length∧b.length≤1048576∧b.getD 0 0=0∧∀ i,i<b.length→0<i→b.getD (i - 1) 0<b.getD i 0
def i9 (b:List Int) (pc:Int) (k:Nat):Prop:=k<b.length∧b.getD k 0≤pc∧(k+1<b.length→pc<b.getD (k+1) 0)
theorem aaz {b:List Int} (h:od b) : ∀ d i,i+d+1<b.length→b.getD i 0<b.getD (i+d+1) 0:=by
 intro d
 induction d with
 | zero=>intro i hi; have:=h.2.2.2 (i+1) (by omega) (by omega); rwa [show i+1 - 1=i from rfl] at this
 | succ d ih=>
  intro i hi
  have h1:=ih i (by omega)
  have h2:=h.2.2.2 (i+d+1+1) (by omega) (by omega)
  rw [show i+d+1+1 - 1=i+d+1 from rfl] at h2
  rw [show i+(d+1)+1=i+d+1+1 by omega]
  omega
theorem sJ {b:List Int} (h:od b) {i j:Nat} (hij:i<j) (hj:j<b.length):b.getD i 0<b.getD j 0:=by
 have:=aaz h (j - i - 1) i (by omega)
 rwa [show i+(j - i - 1)+1=j by omega] at this
theorem mh {b:List Int} (h:od b) {i j:Nat} (hij:i≤j) (hj:j<b.length):b.getD i 0≤b.getD j 0:=by
 rcases Nat.lt_or_eq_of_le hij with h1 | h1
 ·exact Int.le_of_lt (sJ h h1 hj)
 ·rw [h1]; exact Int.le_refl _
theorem uM {b:List Int} (h:od b) {i:Nat} (hi:i<b.length):0≤b.getD i 0:=by
 have:=mh h (Nat.zero_le i) hi
 rw [h.2.2.1] at this
 exact this
theorem oO {c:ao} (h:jC c) (hs:dD c):od c.2.1:=⟨h.1.1,hs.1,(h.2.2.1 0 h.1.1).1 rfl,fun i hi h0=>(h.2.2.1 i hi).2.1 h0⟩
theorem Io {b:List Int} (h:od b) {pc:Int} {j k:Nat} (h1:i9 b pc j) (h2:i9 b pc k):j=k:=by
 obtain ⟨a1,a2,a3⟩:=h1
 obtain ⟨b1,b2,b3⟩:=h2
 rcases Nat.lt_trichotomy j k with hl | hl | hl
 ·have:=a3 (by omega)
  have:=mh h (show j+1≤k by omega) b1
  omega
 ·exact hl
 ·have:=b3 (by omega)
  have:=mh h (show k+1≤j by omega) a1
  omega
theorem O8 {b:List Int} (h:od b) {pc:Int} (hp:0≤pc) : ∃ k,i9 b pc k:=by
 have gen : ∀ n,n<b.length→(∃ k,k≤n∧b.getD k 0≤pc∧(k+1≤n→pc<b.getD (k+1) 0)):=by
  intro n
  induction n with
  | zero=>intro _; exact ⟨0,by omega,by rw [h.2.2.1]; exact hp,by omega⟩
  | succ n ih=>
   intro hn
   obtain ⟨k,h1,h2,h3⟩:=ih (by omega)
   rcases Nat.lt_or_eq_of_le h1 with hk | hk
   ·exact ⟨k,by omega,h2,fun _=>h3 (by omega)⟩
   ·by_cases hb:b.getD (n+1) 0≤pc
    ·exact ⟨n+1,by omega,hb,by omega⟩
    ·exact ⟨k,by omega,h2,fun _=>by rw [hk]; omega⟩
 obtain ⟨k,h1,h2,h3⟩:=gen (b.length - 1) (by have:=h.1; omega)
 have:=h.1
 exact ⟨k,by omega,h2,fun hk=>h3 (by omega)⟩
theorem SR {c:ao} {pc:Int} {k:Nat} (h:od c.2.1) (hk:i9 c.2.1 pc k):f5 c pc=some (k:Int):=by
 obtain ⟨k1,k2,k3⟩:=hk
 unfold f5
 have hl:=h.2.1
 have:=dW (f:=jv c pc) (fun s=>k - s.toNat) (fun _=>(k:Int)) (fun s=>∃ j:Nat,s=(j:Int)∧j≤k)
  (fun s hs=>by
   obtain ⟨j,rfl,hj⟩:=hs
   unfold jv
   have e:ad ((j:Int)+1)=((j+1:Nat):Int):=by rw [aS (n:=c.2.1.length) (by omega) (by omega)]; rfl
   rw [e]
   by_cases hn:j+1<c.2.1.length
   ·simp only [aE (show ((j+1:Nat):Int)<(c.2.1.length:Int) by omega),cond_true,aD 0 hn,Option.bind_some]
    rcases Nat.lt_or_eq_of_le hj with hl2 | hl2
    ·right
     refine ⟨((j+1:Nat):Int),?_,⟨j+1,rfl,by omega⟩,by simp; omega,(by trivial)⟩
     rw [aE (Int.le_trans (mh h (show j+1≤k by omega) k1) k2)]
     rfl
    ·left
     rw [aQ (by have:=k3 (by omega); rw [hl2]; omega),hl2]
     rfl
   ·left
    simp only [aQ (show ¬ ((j+1:Nat):Int)<(c.2.1.length:Int) by omega),cond_false,Option.bind_some]
    rw [show j=k by omega]) (s:=0) ⟨0,rfl,by omega⟩ (by show k - (0:Int).toNat<_; omega)
 rw [this]; rfl
theorem aa4 {c:ao} {pc:Int} {k:Nat} (h:od c.2.1) (hk:i9 c.2.1 pc k):lD c pc=some (k:Int):=by
 obtain ⟨k1,k2,k3⟩:=hk
 unfold lD
 have hl:=h.2.1
 have:=dW (f:=kw c pc) (fun s=>c.2.1.length - s.2.toNat) (fun _=>(k:Int)) (fun s=>∃ j:Nat,s.2=(j:Int)∧j≤c.2.1.length∧s.1=if j≤k then (j:Int) - 1 else (k:Int))
  (fun s hs=>by
   obtain ⟨s1,s2⟩:=s
   obtain ⟨j,h1,hj,h2⟩:=hs
   dsimp only at h1 h2
   subst h1 h2
   unfold kw
   by_cases hn:j<c.2.1.length
   ·right
    simp only [aE (show (j:Int)<(c.2.1.length:Int) by omega),cond_true,aD 0 hn,Option.bind_some,aS (n:=c.2.1.length) (by omega) hn]
    by_cases hjk:j≤k
    ·rw [aE (Int.le_trans (mh h hjk k1) k2)]
     refine ⟨_,rfl,⟨j+1,rfl,by omega,?_⟩,by dsimp only; omega,(by trivial)⟩
     dsimp only
     split <;> omega
    ·rw [aQ (by have:=k3 (by omega); have:=mh h (show k+1≤j by omega) hn; omega)]
     refine ⟨_,rfl,⟨j+1,rfl,by omega,?_⟩,by dsimp only; omega,(by trivial)⟩
     rw [if_neg hjk,if_neg (by omega)]
   ·left
    simp only [aQ (show ¬ (j:Int)<(c.2.1.length:Int) by omega),cond_false]
    rw [if_neg (by omega)]) (s:=(-1,0)) ⟨0,rfl,by omega,by simp⟩ (by show c.2.1.length - (0:Int).toNat<_; omega)
 rw [this]; rfl
theorem RF (x y:Int):nT x y=some (decide (x<y)):=by
 unfold nT mU
 simp
theorem ae3 {n:Nat} (h:n<4611686018427387904):kJ .u64 (IntKind.u64.wrap (n:Int)) (1:Int)=((n / 2:Nat):Int):=by
 rw [IntKind.wrap_u64,show (n:Int) % 18446744073709551616=n by omega]
 show Int.fdiv (n:Int) (2 ^ (min (1:Int).toNat 64))=_
 rw [show (2:Int) ^ (min (1:Int).toNat 64)=2 from rfl,Int.fdiv_eq_ediv_of_nonneg _ (by omega)]
 omega
theorem MA {b:List Int} {pc:Int} {k:Nat} (h:od b) (hk:i9 b pc k) (hp:0≤pc):eT b pc=some (if b.getD k 0=pc then ((k:Int),true) else ((k:Int)+1,false)):=by
 obtain ⟨k1,k2,k3⟩:=hk
 have hl:=h.2.1
 unfold eT
 generalize hr:(if b.getD k 0=pc then k else k+1)=r
 have hrn:r≤b.length:=by rw [← hr]; split <;> omega
 have lo : ∀ j,j<r→b.getD j 0<pc:=by
  intro j hj
  rw [← hr] at hj
  split at hj
  ·have:=sJ h hj k1; omega
  ·have:=mh h (show j≤k by omega) k1; omega
 have hi : ∀ j,r≤j→j<b.length→pc≤b.getD j 0:=by
  intro j hj hjn
  rw [← hr] at hj
  split at hj
  ·have:=mh h hj hjn; omega
  ·have:=k3 (by omega); have:=mh h (show k+1≤j by omega) hjn; omega
 have:=dW (f:=eX b pc) (fun s=>s.2.toNat - s.1.toNat) (fun _=>(r:Int)) (fun s=>∃ x y:Nat,s=((x:Int),(y:Int))∧x≤r∧r≤y∧y≤b.length)
  (fun s hs=>by
   obtain ⟨x,y,rfl,hx,hy,hyn⟩:=hs
   unfold eX
   by_cases hxy:x<y
   ·right
    have e1:ad ((x:Int)+(y:Int))=((x+y:Nat):Int):=by rw [bi (by omega) (by omega)]; omega
    have e2:ad (((x+y) / 2:Nat):Int)=(((x+y) / 2:Nat):Int):=bi (by omega) (by omega)
    have e3:ad ((((x+y) / 2:Nat):Int)+1)=(((x+y) / 2+1:Nat):Int):=by rw [bi (by omega) (by omega)]; omega
    have hm:(x+y) / 2<b.length:=by omega
    simp only [aE (show (x:Int)<(y:Int) by omega),aE (show (0:Int)≤1 by omega),ah,cond_true,e1,ae3 (show x+y<4611686018427387904 by omega),e2,e3,aD 0 hm,Option.bind_some,RF]
    by_cases hb:b.getD ((x+y) / 2) 0<pc
    ·rw [aE hb]
     refine ⟨_,rfl,⟨(x+y) / 2+1,y,rfl,?_,hy,hyn⟩,by dsimp only; omega,(by trivial)⟩
     rcases Nat.lt_or_ge ((x+y) / 2) r with h1 | h1
     ·omega
     ·have:=hi _ h1 hm; omega
    ·rw [aQ hb]
     refine ⟨_,rfl,⟨x,(x+y) / 2,rfl,hx,?_,by omega⟩,by dsimp only; omega,(by trivial)⟩
     rcases Nat.lt_or_ge ((x+y) / 2) r with h1 | h1
     ·exact absurd (lo _ h1) hb
     ·exact h1
   ·left
    simp only [aQ (show ¬ (x:Int)<(y:Int) by omega),cond_false]
    rw [show x=r by omega]) (s:=(0,(b.length:Int))) ⟨0,b.length,rfl,by omega,hrn,by omega⟩ (by dsimp only; omega)
 rw [this]
 simp only [Option.bind_some]
 by_cases he:b.getD k 0=pc
 ·rw [if_pos he] at hr
  subst hr
  rw [if_pos he]
  simp only [aE (show (k:Int)<(b.length:Int) by omega),cond_true,aD 0 k1,Option.bind_some,he,beq_self_eq_true,Bool.not_true,Bool.and_false,Bool.false_and,cond_false]
 ·rw [if_neg he] at hr
  subst hr
  rw [if_neg he]
  by_cases hn:k+1<b.length
  ·have:pc<b.getD (k+1) 0:=k3 hn
   have hne:(b.getD (k+1) 0==pc)=false:=by rw [beq_eq_false_iff_ne]; omega
   simp only [aE (show ((k+1:Nat):Int)<(b.length:Int) by omega),cond_true,aD 0 hn,Option.bind_some,hne,Bool.not_false,Bool.and_true,kI,bne_self_eq_false,Bool.and_false,cond_false,Bool.false_eq_true]
   rfl
  ·simp only [aQ (show ¬ ((k+1:Nat):Int)<(b.length:Int) by omega),cond_false,Option.bind_some,Bool.false_and]
   rfl
theorem YH {c:ao} {pc:Int} {k:Nat} (h:od c.2.1) (hk:i9 c.2.1 pc k) (hp:0≤pc):dQ c pc=some (k:Int):=by
 unfold dQ
 have:=h.2.1
 have:=hk.1
 rw [MA h hk hp]
 simp only [Option.bind_some]
 split
 ·rfl
 ·simp only [Bool.not_false,cond_true,Option.bind_some]
  rw [bi (by omega) (by omega)]
  congr 1
  omega
open Go.Sm
set_option linter.unusedSimpArgs false
set_option linter.unusedVariables false
def q8 (a lo hi:Int):Prop:=lo≤a∧a<hi
def tM (op:Int):Int:=(pB.getD op.toNat ([],0)).2
def cn (c:ao) (k:Nat):Int:=if k+1<c.2.1.length then c.2.1.getD (k+1) 0 else c.1.length
def vR (c:ao) (k:Nat) (x:Int×Int×Int):Prop:=
 (x.1=1∨x.1=2∨x.1=24→q8 x.2.1 0 (c.2.2.1.getD k 0))∧(x.1=10∨x.1=11→q8 x.2.1 (c.2.1.getD k 0) (cn c k))∧(x.1=12∨x.1=18→q8 x.2.1 0 c.2.1.length) ∧
 (x.1=14→0≤x.2.1∧x.2.2=k)∧(x.1=15→q8 x.2.1 1 100)∧(x.1=16∨x.1=17→q8 x.2.1 0 c.2.2.2.1.length)∧(x.1=19∨x.1=20→q8 x.2.1 0 c.2.2.2.2.1.length) ∧
 (x.1=21∨x.1=22→q8 x.2.1 0 c.2.2.2.2.2.1.length)∧(x.1=23→q8 x.2.1 2 7)∧(x.1=25→q8 x.2.1 1 10)∧(x.1=26∨x.1=27→q8 x.2.1 0 c.2.2.2.2.2.2.1.length) ∧
 (x.1=20∨x.1=23∨x.1=27→q8 x.2.2 0 (c.2.2.1.getD k 0))
def NQ (c:ao) (k:Nat) (pc:Int) (x:Int×Int×Int):Prop:=
 (tM x.1<2→x.2.2=0)∧(tM x.1<1→x.2.1=0)∧(x.1=13→k+1≠c.2.1.length)∧(x.1=28→k+1=c.2.1.length)∧(pc+1=cn c k→x.1=13∨x.1=28)
def sS (c:ao) (k:Nat) (pc:Int) (x:Int×Int×Int):Prop:=(0≤x.1∧x.1<29)∧NQ c k pc x∧vR c k x
theorem Q4 {op:Int} (h0:0≤op) (h1:op<29):op=0∨op=1∨op=2∨op=3∨op=4∨op=5∨op=6∨op=7∨op=8∨op=9∨op=10∨op=11∨op=12∨op=13∨op=14∨op=15∨op=16∨op=17∨op=18∨op=19∨op=20∨op=21∨op=22∨op=23∨op=24∨op=25∨op=26∨op=27∨op=28:=by omega
theorem lE (p q:Prop) [Decidable p] [Decidable q]:(bif decide p then decide q else false)=decide (p∧q):=by
 by_cases p <;> by_cases q <;> simp [*]
theorem uX (p q:Prop) [Decidable p] [Decidable q]:(bif decide p then true else decide q)=decide (p∨q):=by
 by_cases p <;> by_cases q <;> simp [*]
theorem sn (a b:Int):(a==b)=decide (a=b):=by by_cases h:a=b <;> simp [h]
theorem OG (a b:Int):(a != b)=decide (a≠b):=by by_cases h:a=b <;> simp [h]
theorem VJ (p:Prop) [Decidable p]:(!decide p)=decide (¬ p):=by by_cases p <;> simp [*]
theorem Zk (c:ao) (k:Nat) (hn:c.2.2.2.2.2.2.2.length=c.2.1.length) (x:Int×Int×Int) (h0:0≤x.1) (h1:x.1<29) :
  ∃ r,wv x (c.2.2.1.getD k 0) ((k:Int),c.2.1.getD k 0,cn c k) c=some r ∧
   ((match r with | .inl s=>(s.1≤x.2.1∧x.2.1<s.2)∧(tM x.1<2∨(0≤x.2.2∧x.2.2<c.2.2.1.getD k 0)) | .inr b=>b=true)↔vR c k x):=by
 obtain ⟨op,a,b⟩:=x
 have hn' : (c.2.2.2.2.2.2.2.length:Int)=c.2.1.length:=by omega
 rcases Q4 h0 h1 with h | h | h | h | h | h | h | h | h | h | h | h | h | h | h | h | h | h | h | h | h | h | h | h | h | h | h | h | h
 all_goals
  dsimp only at h
  subst h
  refine ⟨_,rfl,?_⟩
  simp [vR,q8,tM,pB,lE,sn,hn']
theorem O7 (c:ao) (hl:c.1.length≤512) (hs:dD c) (h:jC c) (k:Nat) (hk:k<c.2.1.length) (pc:Nat) (hpc:pc<c.1.length) :
  ∃ b,sD c ((k:Int),c.2.1.getD k 0,cn c k) (pc:Int)=some b∧(b=true↔sS c k pc (c.1.getD pc (0,0,0))):=by
 unfold sD
 have e1:=aD ((0,0,0):Int×Int×Int) hpc
 generalize c.1.getD pc (0,0,0)=x at e1 ⊢
 simp only [e1,Option.bind_some]
 by_cases hop:0≤x.1∧x.1<29
 rotate_left
 ·refine ⟨false,?_,fun h=>(by cases h),fun h=>absurd h.1 hop⟩
  rw [uX,aE (by omega)]
  rfl
 rw [uX,aQ (by omega),cond_false,aE hop]
 have hb:=h.1.1
 have hs1:=hs.1
 obtain ⟨q,e2,hq⟩ : ∃ q,ac pB x.1=some q∧q.2=tM x.1:=⟨_,bu ([],0) hop.1 (by show x.1<((29:Nat):Int); omega),rfl⟩
 have e3:ac c.2.2.1 (k:Int)=some (c.2.2.1.getD k 0):=aD 0 (by have:=h.1.2.1; omega)
 have ew:ad ((c.2.1.length:Int) - 1)=(c.2.1.length:Int) - 1:=bi (by omega) (by omega)
 have ew2:ad ((pc:Int)+1)=(pc:Int)+1:=bi (by omega) (by omega)
 obtain ⟨r,hr,hr2⟩:=Zk c k h.1.2.2 x hop.1 hop.2
 simp only [ah,cond_true,e2,e3,Option.bind_some,ew,ew2,hq,sn,OG,lE,uX,VJ,hr]
 unfold sS NQ
 generalize tM x.1=o at *
 by_cases h1:(o<2→x.2.2=0)∧(o<1→x.2.1=0)∧(x.1=13→k+1≠c.2.1.length)∧(x.1=28→k+1=c.2.1.length)
 rotate_left
 ·rw [aE (by omega)]
  exact ⟨false,rfl,fun h=>(by cases h),fun h=>absurd ⟨h.2.1.1,h.2.1.2.1,h.2.1.2.2.1,h.2.1.2.2.2.1⟩ h1⟩
 rw [aQ (by omega),cond_false]
 by_cases h2:(pc:Int)+1=cn c k→x.1=13∨x.1=28
 rotate_left
 ·rw [aE (by omega)]
  exact ⟨false,rfl,fun h=>(by cases h),fun h=>absurd h.2.1.2.2.2.2 h2⟩
 rw [aQ (by omega),cond_false]
 have hall : ∀ {p:Prop},(p↔vR c k x)→(p↔(0≤x.1∧x.1<29)∧((o<2→x.2.2=0)∧(o<1→x.2.1=0)∧(x.1=13→k+1≠c.2.1.length)∧(x.1=28→k+1=c.2.1.length)∧((pc:Int)+1=cn c k→x.1=13∨x.1=28))∧vR c k x):=
  fun hp=>⟨fun h=>⟨hop,⟨h1.1,h1.2.1,h1.2.2.1,h1.2.2.2,h2⟩,hp.1 h⟩,fun h=>hp.2 h.2.2⟩
 rcases r with s | b
 ·refine ⟨_,rfl,hall ?_⟩
  rw [← hr2]
  by_cases g1:s.1≤x.2.1 <;> by_cases g2:x.2.1<s.2 <;> by_cases g3:o<2 <;> by_cases g4:0≤x.2.2 <;> by_cases g5:x.2.2<c.2.2.1.getD k 0 <;> simp [g1,g2,g3,g4,g5]
 ·exact ⟨b,rfl,hall hr2⟩
theorem PQ (a lo hi:Int):br a lo hi=some (decide (lo≤a∧a≤hi)):=by
 unfold br
 rw [lE]
theorem Iw {op:Int} (h0:0≤op) (h1:op<29):gV op=some (tM op):=by
 rcases Q4 h0 h1 with h | h | h | h | h | h | h | h | h | h | h | h | h | h | h | h | h | h | h | h | h | h | h | h | h | h | h | h | h <;> subst h <;> rfl
theorem abW {α:Type} (p q:Bool):((bif p then some q else some false).bind fun r=>(some (Sum.inr (bif p then r else false)):Option (α⊕Bool)))=some (Sum.inr (p&&q)):=by cases p <;> rfl
theorem abR (c:ao) (k:Nat) (hs:dD c) (hL:jC c) (hk:k<c.2.1.length) (x:Int×Int×Int) (h0:0≤x.1) (h1:x.1<29) (he:1≤cn c k) (he2:cn c k≤512) :
  ∃ r,lb x (c.2.2.1.getD k 0) c (k:Int) (cn c k)=some r∧((match r with | .inl _=>true | .inr b=>b)=true↔vR c k x):=by
 obtain ⟨op,a,b⟩:=x
 obtain ⟨s1,s2,s3,s4,s5,s6,s7⟩:=hs
 obtain ⟨_,_,_,_,l1,l2⟩:=hL.2.2.1 k hk
 have hn' : (c.2.2.2.2.2.2.2.length:Int)=c.2.1.length:=by have:=hL.1.2.2; omega
 have eb:ac c.2.1 (k:Int)=some (c.2.1.getD k 0):=aD 0 hk
 have w1:ad (c.2.2.1.getD k 0 - 1)=c.2.2.1.getD k 0 - 1:=bi (by omega) (by omega)
 have w2:ad (cn c k - 1)=cn c k - 1:=bi (by omega) (by omega)
 have w3:ad ((c.2.2.2.2.2.2.2.length:Int) - 1)=(c.2.2.2.2.2.2.2.length:Int) - 1:=bi (by omega) (by omega)
 have w4:ad ((c.2.2.2.1.length:Int) - 1)=(c.2.2.2.1.length:Int) - 1:=bi (by omega) (by omega)
 have w5:ad ((c.2.2.2.2.1.length:Int) - 1)=(c.2.2.2.2.1.length:Int) - 1:=bi (by omega) (by omega)
 have w6:ad ((c.2.2.2.2.2.1.length:Int) - 1)=(c.2.2.2.2.2.1.length:Int) - 1:=bi (by omega) (by omega)
 have w7:ad ((c.2.2.2.2.2.2.1.length:Int) - 1)=(c.2.2.2.2.2.2.1.length:Int) - 1:=bi (by omega) (by omega)
 have le (n m:Int):n≤m - 1↔n<m:=by omega
 have l99 (n:Int):n≤99↔n<100:=by omega
 have l9 (n:Int):n≤9↔n<10:=by omega
 have l6 (n:Int):n≤6↔n<7:=by omega
 unfold lb
 rcases Q4 h0 h1 with h | h | h | h | h | h | h | h | h | h | h | h | h | h | h | h | h | h | h | h | h | h | h | h | h | h | h | h | h
 all_goals
  dsimp only at h
  subst h
  simp only [Int.reduceBEq,cond_true,cond_false,Option.bind_some,PQ,w1,w2,w3,w4,w5,w6,w7,eb,le,l99,l9,l6,abW]
  refine ⟨_,rfl,?_⟩
  simp [vR,q8,lE,sn,hn']
theorem Vs (c:ao) (hl:c.1.length≤512) (hs:dD c) (h:jC c) (k:Nat) (pc:Nat) (hk:i9 c.2.1 (pc:Int) k) (hpc:pc<c.1.length) :
  ∃ b,j8 c (pc:Int)=some b∧(b=true↔sS c k pc (c.1.getD pc (0,0,0))):=by
 obtain ⟨hk1,hk2,hk3⟩:=hk
 have hB:=oO h hs
 have hs1:=hs.1
 unfold j8
 have e1:=aD ((0,0,0):Int×Int×Int) hpc
 generalize c.1.getD pc (0,0,0)=x at e1 ⊢
 simp only [e1,Option.bind_some]
 by_cases hop:0≤x.1∧x.1<29
 rotate_left
 ·refine ⟨false,?_,fun h=>(by cases h),fun h=>absurd h.1 hop⟩
  rw [uX,aE (by omega)]
  rfl
 rw [uX,aQ (by omega),cond_false]
 have hb:=h.1.1
 have e3:ac c.2.2.1 (k:Int)=some (c.2.2.1.getD k 0):=aD 0 (by have:=h.1.2.1; omega)
 have ew:ad ((k:Int)+1)=(k:Int)+1:=bi (by omega) (by omega)
 have ew2:ad ((pc:Int)+1)=(pc:Int)+1:=bi (by omega) (by omega)
 have he:(bif decide ((k:Int)+1<(c.2.1.length:Int)) then (ac c.2.1 ((k:Int)+1)).bind fun _=>(ac c.2.1 ((k:Int)+1)).bind fun v8=>some v8 else some (c.1.length:Int))=some (cn c k):=by
  unfold cn
  by_cases h1:k+1<c.2.1.length
  ·rw [aE (by omega),if_pos h1,cond_true,show (k:Int)+1=((k+1:Nat):Int) from rfl,aD 0 h1]
   rfl
  ·rw [aQ (by omega),if_neg h1,cond_false]
 have hend:1≤cn c k∧cn c k≤512:=by
  unfold cn
  split
  ·rename_i h1
   have h2:=sJ hB (show 0<k+1 by omega) h1
   rw [hB.2.2.1] at h2
   have h3:=(h.2.2.1 (k+1) h1).2.2.2.1
   omega
  ·omega
 obtain ⟨r,hr,hr2⟩:=abR c k hs h hk1 x hop.1 hop.2 hend.1 hend.2
 have ho:=Iw hop.1 hop.2
 simp only [aa4 hB ⟨hk1,hk2,hk3⟩,Option.bind_some,ew,ew2,he,ho,hr]
 rw [show (bif !bif decide (tM x.1<2) then x.2.2 != 0 else false then some (tM x.1) else some 0)=some (bif !bif decide (tM x.1<2) then x.2.2 != 0 else false then tM x.1 else 0) by cases (!bif decide (tM x.1<2) then x.2.2 != 0 else false) <;> rfl]
 simp only [Option.bind_some]
 unfold sS NQ
 generalize tM x.1=o at *
 by_cases h0:o<2∧x.2.2≠0
 ·rw [aE h0.1,nt h0.2]
  exact ⟨false,rfl,fun h=>(by cases h),fun h=>absurd (h.2.1.1 h0.1) h0.2⟩
 rw [show (bif decide (o<2) then x.2.2 != 0 else false)=false by rw [OG,lE,aQ h0]]
 simp only [cond_true,cond_false,Bool.not_false,sn,OG,lE,uX,VJ]
 by_cases h1:(o<2→x.2.2=0)∧(o<1→x.2.1=0)∧(x.1=13→k+1≠c.2.1.length)∧(x.1=28→k+1=c.2.1.length)∧((pc:Int)+1=cn c k→x.1=13∨x.1=28)
 rotate_left
 ·rw [aE (by omega)]
  exact ⟨false,rfl,fun h=>(by cases h),fun h=>absurd h.2.1 h1⟩
 rw [aQ (by omega),cond_false]
 simp only [e3,Option.bind_some,hr]
 have hall : ∀ {p:Prop},(p↔vR c k x)→(p↔(0≤x.1∧x.1<29)∧((o<2→x.2.2=0)∧(o<1→x.2.1=0)∧(x.1=13→k+1≠c.2.1.length)∧(x.1=28→k+1=c.2.1.length)∧((pc:Int)+1=cn c k→x.1=13∨x.1=28))∧vR c k x):=
  fun hp=>⟨fun h=>⟨hop,h1,hp.1 h⟩,fun h=>hp.2 h.2.2⟩
 rcases r with s | b
 ·exact ⟨true,rfl,hall hr2⟩
 ·exact ⟨b,rfl,hall hr2⟩
open Go.Sm
set_option linter.unusedSimpArgs false
set_option linter.unusedVariables false
def ey (c:ao) (pc:Nat):Int×Int×Int:=c.1.getD pc (0,0,0)
def Fqw (c:ao):Prop:=∀ k pc:Nat,pc<c.1.length→i9 c.2.1 (pc:Int) k→sS c k pc (ey c pc)
def VE (c:ao) (e:Int):Prop:=
 (512<c.1.length∧e=4)∨(c.1.length≤512∧¬ jC c∧e=1)∨(c.1.length≤512∧jC c∧¬ Fqw c∧e=2)∨(c.1.length≤512∧jC c∧Fqw c∧e=0)
theorem ZY {c:ao} {d e:Int} (h1:VE c d) (h2:VE c e):d=e:=by
 rcases h1 with ⟨a1,rfl⟩ | ⟨a1,a2,rfl⟩ | ⟨a1,a2,a3,rfl⟩ | ⟨a1,a2,a3,rfl⟩ <;> rcases h2 with ⟨b1,rfl⟩ | ⟨b1,b2,rfl⟩ | ⟨b1,b2,b3,rfl⟩ | ⟨b1,b2,b3,rfl⟩ <;> first | rfl | omega | contradiction
theorem Pl (c:ao) (hs:dD c) : ∃ k e,gM c=some (k,e)∧VE c e:=by
 unfold gM
 by_cases hl:c.1.length≤512
 rotate_left
 ·rw [aE (by omega)]
  exact ⟨0,4,rfl, .inl ⟨by omega,rfl⟩⟩
 rw [aQ (by omega),cond_false]
 obtain ⟨b,hb,hb2⟩:=Cn c hl hs
 rw [hb]
 cases b
 ·exact ⟨0,1,rfl, .inr (.inl ⟨hl,fun h=>(by have:=hb2.2 h; cases this),rfl⟩)⟩
 have hL:=hb2.1 rfl
 have hB:=oO hL hs
 simp only [Option.bind_some,Bool.not_true,cond_false]
 rcases dH (f:=fK c) c.1.length (by omega) (fun pc=>∀ k,i9 c.2.1 (pc:Int) k→sS c k pc (ey c pc)) (fun i=>((i:Int),2))
  (fun i hi _=>by
   unfold fK
   obtain ⟨k,hk⟩:=O8 hB (show (0:Int)≤(i:Int) by omega)
   obtain ⟨b,hb,hb2⟩:=Vs c hl hs hL k i hk hi
   rw [aE (show (i:Int)<(c.1.length:Int) by omega),cond_true,hb]
   simp only [Option.bind_some]
   cases b
   ·right; exact ⟨fun h=>(by have:=hb2.2 (h k hk); cases this),rfl⟩
   ·left
    refine ⟨fun k' hk' => by rw [Io hB hk' hk]; exact hb2.1 rfl,?_⟩
    rw [aS (n:=c.1.length) (by omega) hi]
    rfl)
  (fun _=>by unfold fK; rw [aQ (by omega)]; rfl) with ⟨hP,he⟩ | ⟨i,hi,_,hP,he⟩
 ·rw [he]
  exact ⟨_,0,rfl, .inr (.inr (.inr ⟨hl,hL,fun k pc hpc hk=>hP pc hpc k hk,rfl⟩))⟩
 ·rw [he]
  exact ⟨_,2,rfl, .inr (.inr (.inl ⟨hl,hL,fun h=>hP fun k hk=>h k i hi hk,rfl⟩))⟩
theorem pI {c:ao} (hs:dD c) (h:jC c) {k:Nat} (hk:k<c.2.1.length):c.2.1.getD k 0<cn c k∧cn c k≤c.1.length:=by
 unfold cn
 split
 ·rename_i h1
  have h2:=sJ (oO h hs) (show k<k+1 by omega) h1
  have h3:=(h.2.2.1 (k+1) h1).2.2.2.1
  omega
 ·have h3:=(h.2.2.1 k hk).2.2.2.1
  omega
theorem mn {c:ao} (hs:dD c) (h:jC c) {k pc:Nat} (hpc:pc<c.1.length):i9 c.2.1 (pc:Int) k↔k<c.2.1.length∧c.2.1.getD k 0≤pc∧(pc:Int)<cn c k:=by
 unfold i9 cn
 constructor
 ·rintro ⟨h1,h2,h3⟩
  refine ⟨h1,h2,?_⟩
  split
  ·exact h3 (by assumption)
  ·omega
 ·rintro ⟨h1,h2,h3⟩
  refine ⟨h1,h2,fun h4=>?_⟩
  rwa [if_pos h4] at h3
theorem SW (c:ao) (hs:dD c):qC c=some ((List.range c.2.1.length).map fun k:Nat=>((k:Int),c.2.1.getD k 0,cn c k)):=by
 have hn:=hs.1
 unfold qC
 have:=dW (f:=mY c) (fun s=>c.2.1.length - s.2.toNat) (fun _=>(List.range c.2.1.length).map fun k:Nat=>((k:Int),c.2.1.getD k 0,cn c k))
  (fun s=>∃ i:Nat,s=((List.range i).map fun k:Nat=>((k:Int),c.2.1.getD k 0,cn c k),(i:Int))∧i≤c.2.1.length)
  (fun s hs=>by
   obtain ⟨i,rfl,hi⟩:=hs
   unfold mY
   rcases Nat.lt_or_ge i c.2.1.length with hlt | hge
   ·right
    refine ⟨((List.range (i+1)).map fun k:Nat=>((k:Int),c.2.1.getD k 0,cn c k),((i+1:Nat):Int)),?_,⟨i+1,rfl,by omega⟩,by dsimp only; omega,rfl⟩
    have ew:=aS (n:=c.2.1.length) (by omega) hlt
    have he:(bif decide ((i:Int)+1<(c.2.1.length:Int)) then (ac c.2.1 ((i:Int)+1)).bind fun _=>(ac c.2.1 ((i:Int)+1)).bind fun v8=>some v8 else some (c.1.length:Int))=some (cn c i):=by
     unfold cn
     by_cases h1:i+1<c.2.1.length
     ·rw [aE (by omega),if_pos h1,cond_true,show (i:Int)+1=((i+1:Nat):Int) from rfl,aD 0 h1]
      rfl
     ·rw [aQ (by omega),if_neg h1,cond_false]
    simp only [aE (show (i:Int)<(c.2.1.length:Int) by omega),cond_true,aD 0 hlt,Option.bind_some,ew,he]
    rw [d8 (be (by simp only [List.length_map,List.length_range,List.length_singleton]; omega) (by omega)),List.range_succ]
    simp
   ·left
    have:i=c.2.1.length:=by omega
    subst this
    simp) (s:=([],0)) ⟨0,rfl,by omega⟩ (by show c.2.1.length - (0:Int).toNat<_; omega)
 rw [this]; rfl
theorem Lh (c:ao) (hs:dD c) : ∃ k e,mf c=some (k,e)∧VE c e:=by
 unfold mf
 have hn:=hs.1
 by_cases hl:c.1.length≤512
 rotate_left
 ·rw [aE (by omega)]
  exact ⟨0,4,rfl, .inl ⟨by omega,rfl⟩⟩
 rw [aQ (by omega),cond_false]
 obtain ⟨b,hb,hb2⟩:=AD c hl hs
 rw [hb]
 cases b
 ·exact ⟨0,1,rfl, .inr (.inl ⟨hl,fun h=>(by have:=hb2.2 h; cases this),rfl⟩)⟩
 have hL:=hb2.1 rfl
 have hB:=oO hL hs
 simp only [Option.bind_some,Bool.not_true,cond_false,SW c hs]
 have inner : ∀ k,k<c.2.1.length→((∀ pc:Nat,c.2.1.getD k 0≤pc→(pc:Int)<cn c k→sS c k pc (ey c pc))∧Itr.it (fc c ((k:Int),c.2.1.getD k 0,cn c k)) (c.2.1.getD k 0)=some (.inl ())) ∨
   ∃ pc:Nat,c.2.1.getD k 0≤pc∧(pc:Int)<cn c k∧¬ sS c k pc (ey c pc)∧Itr.it (fc c ((k:Int),c.2.1.getD k 0,cn c k)) (c.2.1.getD k 0)=some (.inr (.inr (.inr ((pc:Int),2)))):=by
  intro k hk
  obtain ⟨a,ha⟩ : ∃ a:Nat,c.2.1.getD k 0=(a:Int):=⟨(c.2.1.getD k 0).toNat,by have:=uM hB hk; omega⟩
  obtain ⟨e,he⟩ : ∃ e:Nat,cn c k=(e:Int):=⟨(cn c k).toNat,by have:=uM hB hk; have:=pI hs hL hk; omega⟩
  have hle:=pI hs hL hk
  rw [ha,he] at hle ⊢
  rcases BS (f:=fc c ((k:Int),(a:Int),(e:Int))) a e (by omega) (by omega) (fun pc=>sS c k pc (ey c pc)) (fun pc=>.inr (.inr ((pc:Int),2)))
   (fun i hai hi _=>by
    unfold fc
    obtain ⟨b,hb,hb2⟩:=O7 c hl hs hL k hk i (by omega)
    rw [ha,he] at hb
    rw [aE (show (i:Int)<(e:Int) by omega),cond_true,hb]
    simp only [Option.bind_some]
    cases b
    ·right; exact ⟨fun h=>(by have:=hb2.2 h; cases this),rfl⟩
    ·left
     refine ⟨hb2.1 rfl,?_⟩
     rw [aS (n:=e) (by omega) hi]
     rfl)
   (fun _=>by unfold fc; rw [aQ (show ¬ (e:Int)<(e:Int) by omega)]; rfl) with ⟨hP,he⟩ | ⟨i,h0,hi,_,hP,he⟩
  ·exact .inl ⟨fun pc h1 h2=>hP pc (by omega) (by omega),he⟩
  ·exact .inr ⟨i,by omega,by omega,hP,he⟩
 generalize hps:((List.range c.2.1.length).map fun k:Nat=>((k:Int),c.2.1.getD k 0,cn c k))=ps
 have hpl:ps.length=c.2.1.length:=by rw [← hps]; simp
 have hpg : ∀ k,k<c.2.1.length→ac ps (k:Int)=some ((k:Int),c.2.1.getD k 0,cn c k):=by
  intro k hk
  rw [← hps]
  apply cv
  simp [hk]
 rcases dH (f:=kR c ps) c.2.1.length (by omega) (fun k=>∀ pc:Nat,c.2.1.getD k 0≤pc→(pc:Int)<cn c k→sS c k pc (ey c pc))
  (fun k=>(((Itr.it (fc c ((k:Int),c.2.1.getD k 0,cn c k)) (c.2.1.getD k 0)).bind fun z=>match z with | .inr (.inr (.inr x))=>some x.1 | _=>none).getD 0,2))
  (fun k hk _=>by
   unfold kR
   rw [aE (show (k:Int)<(ps.length:Int) by omega),cond_true,hpg k hk]
   simp only [Option.bind_some]
   rcases inner k hk with ⟨h1,h2⟩ | ⟨pc,h1,h2,h3,h4⟩
   ·left
    refine ⟨h1,?_⟩
    rw [h2]
    simp only [Option.bind_some]
    rw [aS (n:=c.2.1.length) (by omega) hk]
   ·right
    refine ⟨fun h=>h3 (h pc h1 h2),?_⟩
    rw [h4]
    rfl)
  (fun _=>by unfold kR; rw [aQ (by omega)]; rfl) with ⟨hP,he⟩ | ⟨k,hk,_,hP,he⟩
 ·rw [he]
  refine ⟨_,0,rfl, .inr (.inr (.inr ⟨hl,hL,fun k pc hpc h=>?_,rfl⟩))⟩
  obtain ⟨h1,h2,h3⟩:=(mn hs hL hpc).1 h
  exact hP k h1 pc h2 h3
 ·rw [he]
  refine ⟨_,2,rfl, .inr (.inr (.inl ⟨hl,hL,fun h=>hP fun pc h1 h2=>?_,rfl⟩))⟩
  have:=pI hs hL hk
  exact h k pc (by omega) ((mn hs hL (by omega)).2 ⟨hk,h1,h2⟩)
theorem MF (c:ao) (hs:dD c) : ∃ j k e,mf c=some (j,e)∧gM c=some (k,e)∧VE c e:=by
 obtain ⟨j,e,h1,h2⟩:=Lh c hs
 obtain ⟨k,e',h3,h4⟩:=Pl c hs
 rw [← ZY h2 h4] at h3
 exact ⟨j,k,e,h1,h3,h2⟩
open Go.Sm
set_option linter.unusedSimpArgs false
set_option linter.unusedVariables false
abbrev CC:Type:=ao
abbrev bw:Type:=bg
abbrev Fr:Type:=Int×List Int
abbrev Th:Type:=aA
abbrev dy:Type:=Int×Int×Int
def df (c:CC):Prop:=c.1.length≤512∧jC c∧Fqw c∧dD c
def um (c:CC) (f:Fr):Prop:=∃ k pc:Nat,f.1=(pc:Int)∧pc<c.1.length∧i9 c.2.1 (pc:Int) k∧(f.2.length:Int)=c.2.2.1.getD k 0
def fl (n:Int) (r:aO):sH:=(n,r.1.1,r.1.2.1,r.1.2.2.1,r.1.2.2.2.1,r.1.2.2.2.2.1,r.1.2.2.2.2.2.1,r.1.2.2.2.2.2.2.1,r.1.2.2.2.2.2.2.2,r.2.1.1,r.2.1.2.1,r.2.1.2.2,r.2.2.1.1,r.2.2.1.2.1,r.2.2.1.2.2.1,r.2.2.1.2.2.2.1,r.2.2.1.2.2.2.2.1,r.2.2.1.2.2.2.2.2.1,r.2.2.1.2.2.2.2.2.2.1,r.2.2.1.2.2.2.2.2.2.2.1.1,r.2.2.1.2.2.2.2.2.2.2.1.2.1,r.2.2.1.2.2.2.2.2.2.2.1.2.2,r.2.2.1.2.2.2.2.2.2.2.2.1,r.2.2.1.2.2.2.2.2.2.2.2.2.1,r.2.2.1.2.2.2.2.2.2.2.2.2.2.1,r.2.2.1.2.2.2.2.2.2.2.2.2.2.2,r.2.2.2)
def Pp (s:bw) (a:Int):bw:=(s.1,s.2.1,s.2.2.1,s.2.2.2.1,s.2.2.2.2.1,s.2.2.2.2.2.1,s.2.2.2.2.2.2.1,(s.2.2.2.2.2.2.2.1.1,ad (s.2.2.2.2.2.2.2.1.2.1+a),s.2.2.2.2.2.2.2.1.2.2),s.2.2.2.2.2.2.2.2)
def rB (s:bw) (o site:Int) (w:List UInt8):bw:=(s.1,s.2.1,s.2.2.1,s.2.2.2.1,s.2.2.2.2.1,s.2.2.2.2.2.1,s.2.2.2.2.2.2.1,s.2.2.2.2.2.2.2.1,s.2.2.2.2.2.2.2.2.1,o,site,w)
def fe (s:bw) (i:Nat) (t:Th):bw:=(s.1.set i t,s.2)
def xG (op a b:Int):Int:=if op=4 then ad (a+b) else if op=5 then ad (a - b) else if op=6 then ad (a * b) else if op=7 then (if a<b then 1 else 0) else if op=8 then (if a≤b then 1 else 0) else (if a=b then 1 else 0)
def iJ (c:CC) (kind:Int) (s:bw) (i:Nat) (fs:List Fr) (f:Fr) (st:List Int) (w:Int) (x:dy):Option bw:=
 let pu (v:Int):Option bw:=if 16≤st.length then none else some (fe s i (fs++[(ad (f.1+1),f.2)],st++[v],w,false))
 let po (g:Int→bw):Option bw:=if st.length=0 then none else some (g (st.getD (st.length - 1) 0))
 let st1:=st.take (st.length - 1)
 if x.1=0 then pu x.2.1 else if x.1=1 then pu (f.2.getD x.2.1.toNat 0) else if x.1=3 then pu kind
 else if x.1=2 then po fun v=>fe s i (fs++[(ad (f.1+1),f.2.set x.2.1.toNat v)],st1,w,false)
 else if x.1=10 then some (fe s i (fs++[(x.2.1,f.2)],st,w,false))
 else if x.1=11 then po fun v=>fe s i (fs++[(if v=0 then x.2.1 else ad (f.1+1),f.2)],st1,w,false)
 else if x.1=12 then if 8≤fs.length+1 then none else some (fe s i (fs++[(ad (f.1+1),f.2)]++[(c.2.1.getD x.2.1.toNat 0,List.replicate (c.2.2.1.getD x.2.1.toNat 0).toNat 0)],st,w,false))
 else if x.1=13 then some (fe s i (fs,st,w,false))
 else if x.1=14 then po fun v=>let s' := fe s i (fs++[(ad (f.1+1),f.2)],st1,w,false); if v=0 then rB s' 1 x.2.1 (c.2.2.2.2.2.2.2.getD x.2.2.toNat []) else s'
 else if x.1=15 then some (Pp (fe s i (fs++[(ad (f.1+1),f.2)],st,w,false)) x.2.1)
 else if st.length<2 then none else some (fe s i (fs++[(ad (f.1+1),f.2)],st.take (st.length - 2)++[xG x.1 (st.getD (st.length - 2) 0) (st.getD (st.length - 1) 0)],w,false))
theorem qT {α:Type} (fs:List α) (f:α) (h:fs.length<9223372036854775807):ac (fs++[f]) (ad (((fs++[f]).length:Int) - 1))=some f:=by
 rw [bi (by simp only [List.length_append,List.length_singleton]; omega) (by simp only [List.length_append,List.length_singleton]; omega)]
 simp [ac]
theorem fI {α:Type} (fs:List α) (f g:α):(fs++[f]).set fs.length g=fs++[g]:=by simp
theorem Ce {α:Type} (fs:List α) (f:α):(fs++[f]).take fs.length=fs:=by simp
theorem iV {α:Type} {xs:List α} {i:Nat} {v:α} (h:xs[i]? = some v):xs.set i v=xs:=by
 apply List.ext_getElem?
 intro j
 by_cases hj:i=j
 ·subst hj; rw [List.getElem?_set_self (mX h)]; exact h.symm
 ·rw [List.getElem?_set_ne hj]
theorem abf {op:Int} (h:op=4∨op=5∨op=6∨op=7∨op=8∨op=9) (a b:Int) : ∃ m v,lZ=some m∧cV (.sc (.int .i64)) (.sc .fnc) op m=some v∧Mm v a b=some (xG op a b):=by
 rcases h with rfl | rfl | rfl | rfl | rfl | rfl
 ·exact ⟨_,201,rfl,rfl,rfl⟩
 ·exact ⟨_,202,rfl,rfl,rfl⟩
 ·exact ⟨_,203,rfl,rfl,rfl⟩
 ·refine ⟨_,204,rfl,rfl,?_⟩
  show iw a b=_
  unfold iw gc xG
  by_cases h:a<b <;> simp [h]
 ·refine ⟨_,205,rfl,rfl,?_⟩
  show iA a b=_
  unfold iA gc xG
  by_cases h:a≤b <;> simp [h]
 ·refine ⟨_,206,rfl,rfl,?_⟩
  show iC a b=_
  unfold iC gc xG
  by_cases h:a=b
  ·simp [h]
  ·rw [bf h]
   simp [h]
open Go.Sm
set_option linter.unusedSimpArgs false
set_option linter.unusedVariables false
set_option maxRecDepth 4000
theorem Tv {op:Int} (h0:0≤op) (h1:op<16):op=0∨op=1∨op=2∨op=3∨op=10∨op=11∨op=12∨op=13∨op=14∨op=15∨(op=4∨op=5∨op=6∨op=7∨op=8∨op=9):=by omega
structure AtP (c:CC) (s:bw) (i:Nat) (fs:List Fr) (f:Fr) (st:List Int) (w:Int) (x:dy) (k pc:Nat):Prop where
 t:s.1[i]? = some (fs++[f],st,w,false)
 n:fs.length<8
 m:st.length≤16
 pc1:f.1=(pc:Int)
 pc2:pc<c.1.length
 pr:i9 c.2.1 (pc:Int) k
 lo:(f.2.length:Int)=c.2.2.1.getD k 0
 x:ey c pc=x
theorem acN {c:CC} {e:dy} {s:bw} {acc:List ((Int×Int×Bool)×Bool)} {n:Int} {i:Nat} {fs:List Fr} {f:Fr} {st:List Int} {w:Int} {x:dy} {k pc:Nat} (h:AtP c s i fs f st w x k pc) :
  jG (fl n (c,e,s,acc)) (i:Int)=some x:=by
 unfold jG
 have hx:ac c.1 f.1=some x:=by rw [h.pc1,← h.x]; exact aD _ h.pc2
 simp only [fl,cv h.t,Option.bind_some,cond_false,qT fs f (by have:=h.n; omega),hx]
theorem adY {c:CC} (hc:df c) {e:dy} {s:bw} {acc:List ((Int×Int×Bool)×Bool)} {n:Int} {i:Nat} {fs:List Fr} {f:Fr} {st:List Int} {w:Int} {x:dy} {k pc:Nat} (h:AtP c s i fs f st w x k pc) (hop:x.1<16) :
  jZ (fl n (c,e,s,acc)) (i:Int)=some (match iJ c e.1 s i fs f st w x with | none=>(true,(fl n (c,e,s,acc)).2) | some s' => (false,(fl n (c,e,s',acc)).2)):=by
 have eat:=acN (e:=e) (acc:=acc) (n:=n) h
 obtain ⟨ht,hn,hm,hpc1,hpc2,hpr,hlo,hx⟩:=h
 have hF:=hc.2.2.1 k pc hpc2 hpr
 rw [hx] at hF
 obtain ⟨⟨h0,_⟩,_,hO⟩:=hF
 have et:=cv ht
 have efr : ∀ g:Fr,ac (fs++[g]) (fs.length:Int)=some g:=fun g=>by simp [ac]
 have esa:=iV ht
 have ela : ∀ g:Fr,((fs++[g]).length:Int)=(fs.length:Int)+1:=fun g=>by simp
 have ewl:ad ((fs.length:Int)+1 - 1)=(fs.length:Int):=by rw [bi (by omega) (by omega)]; omega
 obtain ⟨op,a,b⟩:=x
 unfold jZ
 have ew1:ad ((st.length:Int) - 1)=(st.length:Int) - 1:=bi (by omega) (by omega)
 have ew2:ad ((st.length:Int) - 2)=(st.length:Int) - 2:=bi (by omega) (by omega)
 have eto1:((st.length:Int) - 1).toNat=st.length - 1:=by omega
 have eto2:((st.length:Int) - 2).toNat=st.length - 2:=by omega
 have po : ¬ st.length=0→ac st ((st.length:Int) - 1)=some (st.getD (st.length - 1) 0):=fun hv=>by rw [bu 0 (by omega) (by omega),eto1]
 have pu : ∀ v:Int,aH st.length ([v]:List Int).length 8=true:=fun v=>be (by simp only [List.length_singleton]; omega) (by omega)
 obtain ⟨o1,o2,o3,o4,o5,o6,o7,o8,o9,o10,o11,o12⟩:=hO
 obtain ⟨hl512,hLi,hAF,hSm⟩:=hc
 obtain ⟨l1,l2,l3,l4,l5,l6⟩:=hLi.2.2.1 k hpr.1
 dsimp only at hop h0 o1 o2 o3 o4 o5 o6 o7 o8 o9 o10 o11 o12
 simp only [eat,Option.bind_some]
 rcases Tv h0 hop with h | h | h | h | h | h | h | h | h | h | h
 ·subst h
  simp only [fl,et,Option.bind_some,beq_self_eq_true,ah,cond_true,ela,efr,ewl,iJ,Int.reduceBEq,cond_false,if_true,Int.toNat_natCast,fI,pu,esa]
  by_cases hv:16≤st.length
  ·rw [aE (show (16:Int)≤(st.length:Int) by omega),if_pos hv]
   rfl
  ·rw [aQ (show ¬ (16:Int)≤(st.length:Int) by omega),if_neg hv]
   rfl
 ·subst h
  have ei:ac f.2 a=some (f.2.getD a.toNat 0):=by
   obtain ⟨g1,g2⟩:=o1 (.inl rfl)
   exact bu 0 g1 (by omega)
  simp only [fl,et,ei,Option.bind_some,beq_self_eq_true,ah,cond_true,ela,efr,ewl,iJ,Int.reduceBEq,cond_false,if_true,Int.toNat_natCast,fI,pu,esa,Int.reduceEq,if_false]
  by_cases hv:16≤st.length
  ·rw [aE (show (16:Int)≤(st.length:Int) by omega),if_pos hv]
   rfl
  ·rw [aQ (show ¬ (16:Int)≤(st.length:Int) by omega),if_neg hv]
   rfl
 ·subst h
  have ei:ac f.2 a=some (f.2.getD a.toNat 0):=by
   obtain ⟨g1,g2⟩:=o1 (.inr (.inl rfl))
   exact bu 0 g1 (by omega)
  simp only [fl,et,ei,Option.bind_some,beq_self_eq_true,ah,cond_true,ela,efr,ewl,iJ,Int.reduceBEq,cond_false,if_true,Int.toNat_natCast,fI,pu,esa,Int.reduceEq,if_false,ew1]
  by_cases hv:st.length=0
  ·rw [aE (show (st.length:Int) - 1<0 by omega),if_pos hv]
   rfl
  ·rw [aQ (show ¬ (st.length:Int) - 1<0 by omega),if_neg hv,aE (show 0≤(st.length:Int) - 1∧(st.length:Int) - 1≤st.length by omega)]
   simp only [cond_false,cond_true,po hv,Option.bind_some,eto1]
   rfl
 ·subst h
  simp only [fl,et,Option.bind_some,beq_self_eq_true,ah,cond_true,ela,efr,ewl,iJ,Int.reduceBEq,cond_false,if_true,Int.toNat_natCast,fI,pu,esa,Int.reduceEq,if_false]
  by_cases hv:16≤st.length
  ·rw [aE (show (16:Int)≤(st.length:Int) by omega),if_pos hv]
   rfl
  ·rw [aQ (show ¬ (16:Int)≤(st.length:Int) by omega),if_neg hv]
   rfl
 ·subst h
  obtain ⟨g1,g2⟩:=o2 (.inl rfl)
  have hw:ad (ad (a - 1)+1)=a:=by
   have he:cn c k≤512:=by have:=(pI hSm hLi hpr.1).2; omega
   rw [bi (x:=a - 1) (by omega) (by omega),bi (by omega) (by omega)]; omega
  simp only [fl,et,Option.bind_some,beq_self_eq_true,ah,cond_true,ela,efr,ewl,iJ,Int.reduceBEq,cond_false,if_true,Int.toNat_natCast,fI,pu,esa,Int.reduceEq,if_false,hw]
  rfl
 ·subst h
  obtain ⟨g1,g2⟩:=o2 (.inr rfl)
  have hw:ad (ad (a - 1)+1)=a:=by
   have he:cn c k≤512:=by have:=(pI hSm hLi hpr.1).2; omega
   rw [bi (x:=a - 1) (by omega) (by omega),bi (by omega) (by omega)]; omega
  simp only [fl,et,Option.bind_some,beq_self_eq_true,ah,cond_true,ela,efr,ewl,iJ,Int.reduceBEq,cond_false,if_true,Int.toNat_natCast,fI,pu,esa,Int.reduceEq,if_false,ew1,hw]
  by_cases hv:st.length=0
  ·rw [aE (show (st.length:Int) - 1<0 by omega),if_pos hv]
   rfl
  ·rw [aQ (show ¬ (st.length:Int) - 1<0 by omega),if_neg hv,aE (show 0≤(st.length:Int) - 1∧(st.length:Int) - 1≤st.length by omega)]
   simp only [cond_false,cond_true,po hv,Option.bind_some,eto1]
   by_cases hz:st.getD (st.length - 1) 0=0
   ·rw [hz]; rfl
   ·rw [bf hz,if_neg hz]
    rfl
 ·subst h
  obtain ⟨g1,g2⟩:=o3 (.inl rfl)
  have ei:ac c.2.1 a=some (c.2.1.getD a.toNat 0):=bu 0 g1 g2
  have ej:ac c.2.2.1 a=some (c.2.2.1.getD a.toNat 0):=bu 0 g1 (by have:=hLi.1.2.1; omega)
  obtain ⟨_,_,_,_,q5,q6⟩:=hLi.2.2.1 a.toNat (by omega)
  simp only [fl,et,Option.bind_some,beq_self_eq_true,ah,cond_true,ela,efr,ewl,iJ,Int.reduceBEq,cond_false,if_true,Int.toNat_natCast,fI,pu,esa,Int.reduceEq,if_false,ei,ej]
  by_cases hv:8≤fs.length+1
  ·rw [aE (show (8:Int)≤(fs.length:Int)+1 by omega),if_pos hv]
   rfl
  ·rw [aQ (show ¬ (8:Int)≤(fs.length:Int)+1 by omega),if_neg hv,aE (show 0≤c.2.2.1.getD a.toNat 0∧c.2.2.1.getD a.toNat 0 * 8≤281474976710656∧c.2.2.1.getD a.toNat 0≤maxLen by refine ⟨q5,by omega,?_⟩; simp only [maxLen]; omega),show aH (fs++[(ad (f.1+1),f.2)]).length ([(c.2.1.getD a.toNat 0,List.replicate (c.2.2.1.getD a.toNat 0).toNat 0)]:List Fr).length 32=true from be (by simp only [List.length_append,List.length_singleton]; omega) (by omega)]
   rfl
 ·subst h
  have et2:(fs++[f]).take fs.length=fs:=Ce fs f
  simp only [fl,et,Option.bind_some,beq_self_eq_true,ah,cond_true,ela,efr,ewl,iJ,Int.reduceBEq,cond_false,if_true,Int.toNat_natCast,fI,pu,esa,Int.reduceEq,if_false,et2]
  rw [aE (show 0≤(fs.length:Int)∧(fs.length:Int)≤(fs.length:Int)+1 by omega)]
  rfl
 ·subst h
  obtain ⟨g1,g2⟩:=o4 rfl
  have ei:ac c.2.2.2.2.2.2.2 b=some (c.2.2.2.2.2.2.2.getD b.toNat []):=by
   rw [g2]
   exact bu [] (by omega) (by have:=hLi.1.2.2; have:=hpr.1; omega)
  simp only [fl,et,Option.bind_some,beq_self_eq_true,ah,cond_true,ela,efr,ewl,iJ,Int.reduceBEq,cond_false,if_true,Int.toNat_natCast,fI,pu,esa,Int.reduceEq,if_false,ew1,ei]
  by_cases hv:st.length=0
  ·rw [aE (show (st.length:Int) - 1<0 by omega),if_pos hv]
   rfl
  ·rw [aQ (show ¬ (st.length:Int) - 1<0 by omega),if_neg hv,aE (show 0≤(st.length:Int) - 1∧(st.length:Int) - 1≤st.length by omega)]
   simp only [cond_false,cond_true,po hv,Option.bind_some,eto1]
   by_cases hz:st.getD (st.length - 1) 0=0
   ·rw [hz]; rfl
   ·rw [bf hz,if_neg hz]
    rfl
 ·subst h
  simp only [fl,et,Option.bind_some,beq_self_eq_true,ah,cond_true,ela,efr,ewl,iJ,Int.reduceBEq,cond_false,if_true,Int.toNat_natCast,fI,pu,esa,Int.reduceEq,if_false]
  rfl
 ·have hne : ∀ m:Int,(m<4∨9<m)→(op==m)=false∧¬ op=m:=fun m hm=>⟨by rw [beq_eq_false_iff_ne]; omega,by omega⟩
  obtain ⟨m,v,hm1,hm2,hm3⟩:=abf h (st.getD (st.length - 2) 0) (st.getD (st.length - 1) 0)
  simp only [fl,et,Option.bind_some,beq_self_eq_true,ah,cond_true,ela,efr,ewl,iJ,cond_false,if_true,Int.toNat_natCast,fI,esa,if_false,ew2,(hne 0 (by omega)).1,(hne 1 (by omega)).1,(hne 2 (by omega)).1,(hne 3 (by omega)).1,(hne 10 (by omega)).1,(hne 11 (by omega)).1,(hne 12 (by omega)).1,(hne 13 (by omega)).1,(hne 14 (by omega)).1,(hne 15 (by omega)).1,(hne 0 (by omega)).2,(hne 1 (by omega)).2,(hne 2 (by omega)).2,(hne 3 (by omega)).2,(hne 10 (by omega)).2,(hne 11 (by omega)).2,(hne 12 (by omega)).2,(hne 13 (by omega)).2,(hne 14 (by omega)).2,(hne 15 (by omega)).2]
  by_cases hv:st.length<2
  ·rw [aE (show (st.length:Int) - 2<0 by omega),if_pos hv]
   rfl
  ·have e2:ac st ((st.length:Int) - 2)=some (st.getD (st.length - 2) 0):=by rw [bu 0 (by omega) (by omega),eto2]
   have e3:ad ((st.length:Int) - 2+1)=(st.length:Int) - 1:=by rw [bi (by omega) (by omega)]; omega
   rw [aQ (show ¬ (st.length:Int) - 2<0 by omega),if_neg hv,aE (show 0≤(st.length:Int) - 2∧(st.length:Int) - 2≤st.length by omega)]
   simp only [cond_false,cond_true,hm1,hm2,hm3,e2,e3,po (by omega),Option.bind_some,eto2]
   rw [show aH (st.take (st.length - 2)).length ([xG op (st.getD (st.length - 2) 0) (st.getD (st.length - 1) 0)]:List Int).length 8=true from be (by simp only [List.length_take,List.length_singleton]; omega) (by omega)]
   rfl
open Go.Sm
set_option linter.unusedSimpArgs false
set_option linter.unusedVariables false
set_option maxRecDepth 4000
abbrev me:Type:=Int×Int×Bool
theorem wW {s:bw} {i:Nat} {t t' : Th} (h:s.1[i]? = some t):(fe s i t').1[i]? = some t' := by
 show (s.1.set i t')[i]? = some t'
 exact List.getElem?_set_self (mX h)
theorem fh {s:bw} {i:Nat} {t t' : Th}:fe (fe s i t) i t' = fe s i t' := by
 show ((s.1.set i t).set i t',s.2)=(s.1.set i t',s.2)
 rw [List.set_set]
theorem ny {s:bw} {i:Nat} {t:Th} (h:s.1[i]? = some t):decide ((0:Int)≤(i:Int)∧(i:Int)<(s.1.length:Int) - 0)=true:=by
 have:=mX h
 rw [aE (by omega)]
theorem zJ {c:CC} {e:dy} {s:bw} {a:List me} {i:Nat} {fr:List Fr} {st:List Int} {w:Int} {b:Bool} (h:s.1[i]? = some (fr,st,w,b)) (v:Int) :
  fq (c,e,s,a) (i:Int) v=some (if 16≤st.length then (false,(c,e,s,a)) else (true,(c,e,fe s i (fr,st++[v],w,b),a))):=by
 unfold fq
 simp only [cv h,Option.bind_some,ah,ny h,cond_true,Int.zero_add,beq_self_eq_true]
 by_cases hv:16≤st.length
 ·rw [aE (show (16:Int)≤(st.length:Int) by omega),if_pos hv]
  rfl
 ·rw [aQ (show ¬ (16:Int)≤(st.length:Int) by omega),if_neg hv,show aH st.length ([v]:List Int).length 8=true from be (by simp only [List.length_singleton]; omega) (by omega)]
  rfl
theorem Ab {c:CC} {e:dy} {s:bw} {a:List me} {i:Nat} {fr:List Fr} {st:List Int} {w:Int} {b:Bool} (h:s.1[i]? = some (fr,st,w,b)) (hm:st.length≤1048576) :
  dg (c,e,s,a) (i:Int)=some (if st.length=0 then (0,false,(c,e,s,a)) else (st.getD (st.length - 1) 0,true,(c,e,fe s i (fr,st.take (st.length - 1),w,b),a))):=by
 unfold dg
 have ew1:ad ((st.length:Int) - 1)=(st.length:Int) - 1:=bi (by omega) (by omega)
 have eto1:((st.length:Int) - 1).toNat=st.length - 1:=by omega
 simp only [cv h,Option.bind_some,ah,ny h,cond_true,Int.zero_add,beq_self_eq_true,Int.toNat_natCast,iV h,ew1]
 by_cases hv:st.length=0
 ·rw [show ((st.length:Int)==0)=true by simp only [beq_iff_eq]; omega,if_pos hv]
  rfl
 ·rw [show ((st.length:Int)==0)=false by simp only [beq_eq_false_iff_ne]; omega,if_neg hv,bu 0 (by omega) (by omega),aE (show 0≤(st.length:Int) - 1∧(st.length:Int) - 1≤st.length by omega),eto1]
  rfl
theorem mL {c:CC} {e:dy} {s:bw} {a:List me} {i:Nat} {fs:List Fr} {f:Fr} {st:List Int} {w:Int} {b:Bool} (h:s.1[i]? = some (fs++[f],st,w,b)) (hn:fs.length<1048576) :
  bW (c,e,s,a) (i:Int)=some (c,e,fe s i (fs++[(ad (f.1+1),f.2)],st,w,b),a):=by
 unfold bW
 have efr : ∀ g:Fr,ac (fs++[g]) (fs.length:Int)=some g:=fun g=>by simp [ac]
 have ela : ∀ g:Fr,((fs++[g]).length:Int)=(fs.length:Int)+1:=fun g=>by simp
 have ewl:ad ((fs.length:Int)+1 - 1)=(fs.length:Int):=by rw [bi (by omega) (by omega)]; omega
 simp only [cv h,Option.bind_some,ah,ny h,cond_true,Int.zero_add,beq_self_eq_true,ela,ewl,efr,Int.toNat_natCast,fI]
 rfl
theorem PV {c:CC} {e:dy} {s:bw} {a:List me} {i:Nat} {fs:List Fr} {f:Fr} {st:List Int} {w:Int} {b:Bool} (h:s.1[i]? = some (fs++[f],st,w,b)) (hn:fs.length<1048576) (v:Int) :
  fi (c,e,s,a) (i:Int) v=some (c,e,fe s i (fs++[(v,f.2)],st,w,b),a):=by
 unfold fi
 have efr : ∀ g:Fr,ac (fs++[g]) (fs.length:Int)=some g:=fun g=>by simp [ac]
 have ela : ∀ g:Fr,((fs++[g]).length:Int)=(fs.length:Int)+1:=fun g=>by simp
 have ewl:ad ((fs.length:Int)+1 - 1)=(fs.length:Int):=by rw [bi (by omega) (by omega)]; omega
 simp only [cv h,Option.bind_some,ah,ny h,cond_true,Int.zero_add,beq_self_eq_true,ela,ewl,efr,Int.toNat_natCast,fI]
 rfl
theorem adX {c:CC} {e:dy} {s:bw} {a:List me} {i:Nat} {fr:List Fr} {st:List Int} {w:Int} {b:Bool} (h:s.1[i]? = some (fr,st,w,b)) (hm:st.length≤16) {op:Int} (ho:op=4∨op=5∨op=6∨op=7∨op=8∨op=9) :
  iG (c,e,s,a) op (i:Int)=some (if st.length<2 then (false,(c,e,s,a)) else (true,(c,e,fe s i (fr,st.take (st.length - 2)++[xG op (st.getD (st.length - 2) 0) (st.getD (st.length - 1) 0)],w,b),a))):=by
 unfold iG
 simp only [cv h,Option.bind_some]
 by_cases hv:st.length<2
 ·rw [aE (show (st.length:Int)<2 by omega),if_pos hv]
  rfl
 rw [aQ (show ¬ (st.length:Int)<2 by omega),if_neg hv]
 have h1:(fe s i (fr,st.take (st.length - 1),w,b)).1[i]? = some (fr,st.take (st.length - 1),w,b):=wW h
 have e1:(st.take (st.length - 1)).length=st.length - 1:=by simp
 have e2:(st.take (st.length - 1)).getD (st.length - 1 - 1) 0=st.getD (st.length - 2) 0:=by
  simp only [List.getD_eq_getElem?_getD]
  rw [List.getElem?_take_of_lt (by omega)]
  rfl
 have e3:(st.take (st.length - 1)).take (st.length - 1 - 1)=st.take (st.length - 2):=by
  rw [List.take_take,show min (st.length - 1 - 1) (st.length - 1)=st.length - 2 by omega]
 have h2:(fe s i (fr,st.take (st.length - 2),w,b)).1[i]? = some (fr,st.take (st.length - 2),w,b):=wW h
 simp only [cond_false,Ab h (by omega),if_neg (show ¬ st.length=0 by omega),Option.bind_some,Ab h1 (by omega),e1,if_neg (show ¬ st.length - 1=0 by omega),fh,e2,e3]
 have hop : ∀ x y:Int,(bif op==(4:Int) then some (ad (x+y)) else bif op==(5:Int) then some (ad (x - y)) else bif op==(6:Int) then some (ad (x * y)) else bif op==(7:Int) then (dK (decide (x<y))).bind fun r6=>some r6 else bif op==(8:Int) then (dK (decide (x≤y))).bind fun r7=>some r7 else bif op==(9:Int) then (dK (x==y)).bind fun r8=>some r8 else some 0)=some (xG op x y):=by
  intro x y
  unfold dK xG
  rcases ho with rfl | rfl | rfl | rfl | rfl | rfl
  ·rfl
  ·rfl
  ·rfl
  ·by_cases h:x<y <;> simp [h]
  ·by_cases h:x≤y <;> simp [h]
  ·by_cases h:x=y
   ·simp [h]
   ·rw [bf h]
    simp [h]
 simp only [hop,Option.bind_some,zJ h2,fh]
 rw [if_neg (by simp only [List.length_take]; omega)]
theorem adS {c:CC} (hc:df c) {e:dy} {s:bw} {a:List me} {i:Nat} {fs:List Fr} {f:Fr} {st:List Int} {w:Int} {x:dy} {k pc:Nat} (h:AtP c s i fs f st w x k pc) (hop:x.1<16) :
  eL (c,e,s,a) x (i:Int)=some (match iJ c e.1 s i fs f st w x with | none=>(false,(c,e,s,a)) | some s' => (true,(c,e,s',a))):=by
 obtain ⟨ht,hn,hm,hpc1,hpc2,hpr,hlo,hx⟩:=h
 have hF:=hc.2.2.1 k pc hpc2 hpr
 rw [hx] at hF
 obtain ⟨⟨h0,_⟩,_,hO⟩:=hF
 have et:=cv ht
 have efr : ∀ g:Fr,ac (fs++[g]) (fs.length:Int)=some g:=fun g=>by simp [ac]
 have ela : ∀ g:Fr,((fs++[g]).length:Int)=(fs.length:Int)+1:=fun g=>by simp
 have ewl:ad ((fs.length:Int)+1 - 1)=(fs.length:Int):=by rw [bi (by omega) (by omega)]; omega
 have pt : ∀ t',(fe s i t').1[i]? = some t' := fun t' => wW ht
 obtain ⟨op,u,b⟩:=x
 obtain ⟨o1,o2,o3,o4,o5,o6,o7,o8,o9,o10,o11,o12⟩:=hO
 obtain ⟨hl512,hLi,hAF,hSm⟩:=hc
 obtain ⟨l1,l2,l3,l4,l5,l6⟩:=hLi.2.2.1 k hpr.1
 dsimp only at hop h0 o1 o2 o3 o4 o5 o6 o7 o8 o9 o10 o11 o12
 unfold eL lj
 rcases Tv h0 hop with h | h | h | h | h | h | h | h | h | h | h
 ·subst h
  simp only [Int.reduceBEq,cond_true,cond_false,Option.bind_some,zJ ht,iJ,if_true]
  by_cases hv:16≤st.length
  ·rw [if_pos hv,if_pos hv]
   rfl
  ·rw [if_neg hv,if_neg hv]
   simp only [Bool.not_true,cond_false,Option.bind_some]
   rw [show bW _ _=_ from mL (e:=e) (a:=a) (pt (fs++[f],st++[u],w,false)) (by omega),fh]
   rfl
 ·subst h
  have ei:ac f.2 u=some (f.2.getD u.toNat 0):=by
   obtain ⟨g1,g2⟩:=o1 (.inl rfl)
   exact bu 0 g1 (by omega)
  simp only [Int.reduceBEq,cond_true,cond_false,Option.bind_some,et,ela,ewl,efr,ei,zJ ht,iJ,if_true,Int.reduceEq,if_false]
  by_cases hv:16≤st.length
  ·rw [if_pos hv,if_pos hv]
   rfl
  ·rw [if_neg hv,if_neg hv]
   simp only [Bool.not_true,cond_false,Option.bind_some]
   rw [show bW _ _=_ from mL (e:=e) (a:=a) (pt (fs++[f],st++[f.2.getD u.toNat 0],w,false)) (by omega),fh]
   rfl
 ·subst h
  have ei : ∀ v:Int,ac f.2 u=some (f.2.getD u.toNat 0):=by
   obtain ⟨g1,g2⟩:=o1 (.inr (.inl rfl))
   exact fun _=>bu 0 g1 (by omega)
  simp only [Int.reduceBEq,cond_true,cond_false,Option.bind_some,iJ,if_true,Int.reduceEq,if_false,Ab ht (show st.length≤1048576 by omega)]
  by_cases hv:st.length=0
  ·rw [if_pos hv,if_pos hv]
   rfl
  ·rw [if_neg hv,if_neg hv]
   simp only [Bool.not_true,cond_false,Option.bind_some,cv (pt _),ela,ewl,efr,ei 0,ah,ny (pt _),cond_true,Int.zero_add,beq_self_eq_true,aE (show 0≤(fs.length:Int)∧(fs.length:Int)<(fs.length:Int)+1 - 0 by omega),Int.toNat_natCast,fI]
   refine (congrArg (fun o:Option aG=>o.bind fun r33=>some (true,r33)) (mL (c:=c) (e:=e) (a:=a) (s:=fe (fe s i (fs++[f],st.take (st.length - 1),w,false)) i (fs++[(f.1,f.2.set u.toNat (st.getD (st.length - 1) 0))],st.take (st.length - 1),w,false)) (wW (pt _)) (by omega))).trans ?_
   rw [fh,fh]
   rfl
 ·subst h
  simp only [Int.reduceBEq,cond_true,cond_false,Option.bind_some,zJ ht,iJ,if_true,Int.reduceEq,if_false]
  by_cases hv:16≤st.length
  ·rw [if_pos hv,if_pos hv]
   rfl
  ·rw [if_neg hv,if_neg hv]
   simp only [Bool.not_true,cond_false,Option.bind_some]
   rw [show bW _ _=_ from mL (e:=e) (a:=a) (pt (fs++[f],st++[e.1],w,false)) (by omega),fh]
   rfl
 ·subst h
  simp only [Int.reduceBEq,cond_true,cond_false,Option.bind_some,iJ,if_true,Int.reduceEq,if_false,PV ht (show fs.length<1048576 by omega)]
 ·subst h
  simp only [Int.reduceBEq,cond_true,cond_false,Option.bind_some,iJ,if_true,Int.reduceEq,if_false,Ab ht (show st.length≤1048576 by omega)]
  by_cases hv:st.length=0
  ·rw [if_pos hv,if_pos hv]
   rfl
  ·rw [if_neg hv,if_neg hv]
   simp only [Bool.not_true,cond_false]
   by_cases hz:st.getD (st.length - 1) 0=0
   ·rw [if_pos hz,bt hz]
    simp only [cond_true,PV (pt _) (show fs.length<1048576 by omega),Option.bind_some,fh]
   ·rw [if_neg hz,bf hz]
    simp only [cond_false,Option.bind_some]
    rw [show bW _ _=_ from mL (e:=e) (a:=a) (pt (fs++[f],st.take (st.length - 1),w,false)) (by omega),fh]
    rfl
 ·subst h
  obtain ⟨g1,g2⟩:=o3 (.inl rfl)
  have ei:ac c.2.1 u=some (c.2.1.getD u.toNat 0):=bu 0 g1 g2
  have ej:ac c.2.2.1 u=some (c.2.2.1.getD u.toNat 0):=bu 0 g1 (by have:=hLi.1.2.1; omega)
  obtain ⟨_,_,_,_,q5,q6⟩:=hLi.2.2.1 u.toNat (by omega)
  simp only [Int.reduceBEq,cond_true,cond_false,Option.bind_some,iJ,if_true,Int.reduceEq,if_false,et,ela]
  by_cases hv:8≤fs.length+1
  ·rw [aE (show (8:Int)≤(fs.length:Int)+1 by omega),if_pos hv]
   rfl
  ·rw [aQ (show ¬ (8:Int)≤(fs.length:Int)+1 by omega),if_neg hv]
   simp only [cond_false,mL ht (show fs.length<1048576 by omega),Option.bind_some,cv (pt _),ah,ny (pt _),cond_true,Int.zero_add,beq_self_eq_true,ei,ej,Int.toNat_natCast]
   rw [aE (show 0≤c.2.2.1.getD u.toNat 0∧c.2.2.1.getD u.toNat 0 * 8≤281474976710656∧c.2.2.1.getD u.toNat 0≤maxLen by refine ⟨q5,by omega,?_⟩; simp only [maxLen]; omega),show aH (fs++[(ad (f.1+1),f.2)]).length ([(c.2.1.getD u.toNat 0,List.replicate (c.2.2.1.getD u.toNat 0).toNat 0)]:List Fr).length 32=true from be (by simp only [List.length_append,List.length_singleton]; omega) (by omega)]
   simp only [cond_true,Option.bind_some]
   rw [← fh (t:=(fs++[(ad (f.1+1),f.2)],st,w,false)) (t' := (fs++[(ad (f.1+1),f.2)]++[(c.2.1.getD u.toNat 0,List.replicate (c.2.2.1.getD u.toNat 0).toNat 0)],st,w,false))]
   rfl
 ·subst h
  have et2:(fs++[f]).take fs.length=fs:=Ce fs f
  simp only [Int.reduceBEq,cond_true,cond_false,Option.bind_some,iJ,if_true,Int.reduceEq,if_false,et,ela,ewl,ah,ny ht,Int.zero_add,beq_self_eq_true,Int.toNat_natCast,et2]
  rw [aE (show 0≤(fs.length:Int)∧(fs.length:Int)≤(fs.length:Int)+1 by omega)]
  rfl
 ·subst h
  obtain ⟨g1,g2⟩:=o4 rfl
  have ei:ac c.2.2.2.2.2.2.2 b=some (c.2.2.2.2.2.2.2.getD b.toNat []):=by
   rw [g2]
   exact bu [] (by omega) (by have:=hLi.1.2.2; have:=hpr.1; omega)
  simp only [Int.reduceBEq,cond_true,cond_false,Option.bind_some,iJ,if_true,Int.reduceEq,if_false,Ab ht (show st.length≤1048576 by omega)]
  by_cases hv:st.length=0
  ·rw [if_pos hv,if_pos hv]
   rfl
  ·rw [if_neg hv,if_neg hv]
   simp only [Bool.not_true,cond_false]
   by_cases hz:st.getD (st.length - 1) 0=0
   ·rw [if_pos hz,bt hz]
    simp only [cond_true,ei,Option.bind_some]
    refine (congrArg (fun o:Option aG=>o.bind fun r33=>some (true,r33)) (mL (c:=c) (e:=e) (a:=a) (s:=rB (fe s i (fs++[f],st.take (st.length - 1),w,false)) 1 u (c.2.2.2.2.2.2.2.getD b.toNat [])) (pt _) (by omega))).trans ?_
    rw [show fe (rB (fe s i (fs++[f],st.take (st.length - 1),w,false)) 1 u (c.2.2.2.2.2.2.2.getD b.toNat [])) i (fs++[(ad (f.1+1),f.2)],st.take (st.length - 1),w,false)=rB (fe (fe s i (fs++[f],st.take (st.length - 1),w,false)) i (fs++[(ad (f.1+1),f.2)],st.take (st.length - 1),w,false)) 1 u (c.2.2.2.2.2.2.2.getD b.toNat []) from rfl,fh]
    rfl
   ·rw [if_neg hz,bf hz]
    simp only [cond_false,Option.bind_some]
    rw [show bW _ _=_ from mL (e:=e) (a:=a) (pt (fs++[f],st.take (st.length - 1),w,false)) (by omega),fh]
    rfl
 ·subst h
  simp only [Int.reduceBEq,cond_true,cond_false,Option.bind_some,iJ,if_true,Int.reduceEq,if_false]
  exact congrArg (fun o:Option aG=>o.bind fun r33=>some (true,r33)) (mL (c:=c) (e:=e) (a:=a) (s:=Pp s u) ht (by omega))
 ·have hne : ∀ m:Int,(m<4∨9<m)→(op==m)=false∧¬ op=m:=fun m hm=>⟨by rw [beq_eq_false_iff_ne]; omega,by omega⟩
  simp only [Option.bind_some,iJ,cond_false,adX ht hm h,if_false,(hne 0 (by omega)).1,(hne 1 (by omega)).1,(hne 2 (by omega)).1,(hne 3 (by omega)).1,(hne 10 (by omega)).1,(hne 11 (by omega)).1,(hne 12 (by omega)).1,(hne 13 (by omega)).1,(hne 14 (by omega)).1,(hne 15 (by omega)).1,(hne 0 (by omega)).2,(hne 1 (by omega)).2,(hne 2 (by omega)).2,(hne 3 (by omega)).2,(hne 10 (by omega)).2,(hne 11 (by omega)).2,(hne 12 (by omega)).2,(hne 13 (by omega)).2,(hne 14 (by omega)).2,(hne 15 (by omega)).2]
  by_cases hv:st.length<2
  ·rw [if_pos hv,if_pos hv]
   rfl
  ·rw [if_neg hv,if_neg hv]
   simp only [Bool.not_true,cond_false,Option.bind_some]
   rw [show bW _ _=_ from mL (e:=e) (a:=a) (pt (fs++[f],st.take (st.length - 2)++[xG op (st.getD (st.length - 2) 0) (st.getD (st.length - 1) 0)],w,false)) (by omega),fh]
   rfl
open Go.Sm
set_option linter.unusedSimpArgs false
set_option linter.unusedVariables false
set_option maxRecDepth 4000
structure Run1 (c:CC) (fs:List Fr) (f:Fr) (st:List Int):Prop where
 n:fs.length<8
 m:st.length≤16
 fr : ∀ g∈fs++[f],um c g
theorem lU {c:CC} {s:bw} {i:Nat} {fs:List Fr} {f:Fr} {st:List Int} {w:Int} (ht:s.1[i]? = some (fs++[f],st,w,false)) (h:Run1 c fs f st) : ∃ k pc,AtP c s i fs f st w (ey c f.1.toNat) k pc:=by
 obtain ⟨k,pc,h1,h2,h3,h4⟩:=h.fr f (by simp)
 exact ⟨k,pc,ht,h.n,h.m,h1,h2,h3,h4,by rw [h1]; rfl⟩
theorem aaH {c:CC} (hc:df c) {k pc:Nat} (hpc:pc<c.1.length) (hk:i9 c.2.1 (pc:Int) k) (h13:(ey c pc).1≠13) (h28:(ey c pc).1≠28) {l:List Int} (hl:(l.length:Int)=c.2.2.1.getD k 0) :
  um c (ad ((pc:Int)+1),l):=by
 obtain ⟨hl512,hL,hA,hS⟩:=hc
 have hF:=hA k pc hpc hk
 have h1:=(mn hS hL hpc).1 hk
 have h2:=(pI hS hL h1.1).2
 have hlt:(pc:Int)+1<cn c k:=by
  have:=hF.2.1.2.2.2.2
  by_cases he:(pc:Int)+1=cn c k
  ·rcases this he with h | h <;> contradiction
  ·omega
 rw [bi (by omega) (by omega)]
 exact ⟨k,pc+1,by simp,by omega,(mn hS hL (by omega)).2 ⟨h1.1,by omega,by omega⟩,hl⟩
theorem YN {c:CC} (hc:df c) {k:Nat} (hk:k<c.2.1.length) {a:Int} (ha:q8 a (c.2.1.getD k 0) (cn c k)) {l:List Int} (hl:(l.length:Int)=c.2.2.1.getD k 0):um c (a,l):=by
 obtain ⟨hl512,hL,hA,hS⟩:=hc
 have h2:=(pI hS hL hk).2
 have h3:=uM (oO hL hS) hk
 obtain ⟨g1,g2⟩:=ha
 refine ⟨k,a.toNat,by simp; omega,by omega,(mn hS hL (by omega)).2 ⟨hk,by omega,by omega⟩,hl⟩
theorem IZ {c:CC} (hc:df c) {a:Nat} (ha:a<c.2.1.length):um c (c.2.1.getD a 0,List.replicate (c.2.2.1.getD a 0).toNat 0):=by
 obtain ⟨hl512,hL,hA,hS⟩:=hc
 have h2:=(pI hS hL ha)
 have h3:=uM (oO hL hS) ha
 obtain ⟨_,_,_,_,q5,q6⟩:=hL.2.2.1 a ha
 refine ⟨a,(c.2.1.getD a 0).toNat,(Int.toNat_of_nonneg h3).symm,by omega,(mn hS hL (by omega)).2 ⟨ha,by omega,by omega⟩,?_⟩
 simp only [List.length_replicate]
 omega
def q9 (s s' : bw):Prop:=
 s'.2.1=s.2.1∧s'.2.2.1=s.2.2.1∧s'.2.2.2.1=s.2.2.2.1∧s'.2.2.2.2.1=s.2.2.2.2.1∧s'.2.2.2.2.2.1=s.2.2.2.2.2.1∧s'.2.2.2.2.2.2.1=s.2.2.2.2.2.2.1∧s'.2.2.2.2.2.2.2.1.1=s.2.2.2.2.2.2.2.1.1∧s'.2.2.2.2.2.2.2.1.2.2=s.2.2.2.2.2.2.2.1.2.2∧s'.2.2.2.2.2.2.2.2.1=s.2.2.2.2.2.2.2.2.1
theorem l8 {s:bw} {i:Nat} {t:Th}:q9 s (fe s i t):=⟨rfl,rfl,rfl,rfl,rfl,rfl,rfl,rfl,rfl⟩
theorem M0 {s t u:bw} (h:q9 s t) (h' : q9 t u):q9 s u:=by
 obtain ⟨a1,a2,a3,a4,a5,a6,a7,a8,a9⟩:=h
 obtain ⟨b1,b2,b3,b4,b5,b6,b7,b8,b9⟩:=h'
 exact ⟨b1.trans a1,b2.trans a2,b3.trans a3,b4.trans a4,b5.trans a5,b6.trans a6,b7.trans a7,b8.trans a8,b9.trans a9⟩
theorem EX {c:CC} (hc:df c) {kind:Int} {s s' : bw} {i:Nat} {fs:List Fr} {f:Fr} {st:List Int} {w:Int} {x:dy} {k pc:Nat} (h:AtP c s i fs f st w x k pc) (hr:Run1 c fs f st) (hop:x.1<16) (hb:x.1=13→fs≠[])
  (he:iJ c kind s i fs f st w x=some s') : ∃ fs' f' st',s'.1=s.1.set i (fs' ++ [f'],st',w,false)∧Run1 c fs' f' st' ∧ q9 s s' := by
 obtain ⟨ht,hn,hm,hpc1,hpc2,hpr,hlo,hx⟩:=h
 have hF:=hc.2.2.1 k pc hpc2 hpr
 rw [hx] at hF
 obtain ⟨⟨h0,_⟩,_,hO⟩:=hF
 have hfs : ∀ g∈fs,um c g:=fun g hg=>hr.fr g (by simp [hg])
 have nx:x.1≠13→∀ l:List Int,(l.length:Int)=c.2.2.1.getD k 0→∀ g∈fs++[(ad (f.1+1),l)],um c g:=by
  intro h13 l hl g hg
  rcases List.mem_append.1 hg with hg | hg
  ·exact hfs g hg
  ·rw [List.mem_singleton] at hg
   rw [hg,hpc1]
   exact aaH hc hpc2 hpr (by rw [hx]; exact h13) (by rw [hx]; omega) hl
 have jm : ∀ a,q8 a (c.2.1.getD k 0) (cn c k)→∀ g∈fs++[(a,f.2)],um c g:=by
  intro a ha g hg
  rcases List.mem_append.1 hg with hg | hg
  ·exact hfs g hg
  ·rw [List.mem_singleton] at hg
   rw [hg]
   exact YN hc hpr.1 ha hlo
 obtain ⟨op,u,b⟩:=x
 obtain ⟨o1,o2,o3,o4,o5,o6,o7,o8,o9,o10,o11,o12⟩:=hO
 dsimp only at hop h0 hb nx o1 o2 o3 o4 o5 o6 o7 o8 o9 o10 o11 o12
 have pu : ∀ v:Int,op≠13→(if 16≤st.length then none else some (fe s i (fs++[(ad (f.1+1),f.2)],st++[v],w,false)))=some s' → ∃ fs' f' st',s'.1=s.1.set i (fs' ++ [f'],st',w,false)∧Run1 c fs' f' st' ∧ q9 s s' := by
  intro v h13 hv
  by_cases h16:16≤st.length
  ·rw [if_pos h16] at hv; cases hv
  ·rw [if_neg h16] at hv
   cases hv
   exact ⟨fs,_,_,rfl,⟨hn,by simp; omega,nx h13 f.2 hlo⟩,l8⟩
 unfold iJ at he
 rcases Tv h0 hop with h | h | h | h | h | h | h | h | h | h | h
 ·subst h
  exact pu _ (by omega) he
 ·subst h
  exact pu _ (by omega) he
 ·subst h
  simp only [Int.reduceEq,if_false,if_true] at he
  by_cases hv:st.length=0
  ·rw [if_pos hv] at he; cases he
  rw [if_neg hv] at he
  cases he
  exact ⟨fs,_,_,rfl,⟨hn,by simp only [List.length_take]; omega,nx (by omega) _ (by simpa using hlo)⟩,l8⟩
 ·subst h
  exact pu _ (by omega) he
 ·subst h
  simp only [Int.reduceEq,if_false,if_true] at he
  cases he
  exact ⟨fs,_,_,rfl,⟨hn,hm,jm _ (o2 (.inl rfl))⟩,l8⟩
 ·subst h
  simp only [Int.reduceEq,if_false,if_true] at he
  by_cases hv:st.length=0
  ·rw [if_pos hv] at he; cases he
  rw [if_neg hv] at he
  cases he
  refine ⟨fs,_,_,rfl,⟨hn,by simp only [List.length_take]; omega,?_⟩,l8⟩
  split
  ·exact jm _ (o2 (.inr rfl))
  ·exact nx (by omega) _ hlo
 ·subst h
  simp only [Int.reduceEq,if_false,if_true] at he
  by_cases hv:8≤fs.length+1
  ·rw [if_pos hv] at he; cases he
  rw [if_neg hv] at he
  cases he
  obtain ⟨g1,g2⟩:=o3 (.inl rfl)
  refine ⟨_,_,_,rfl,⟨by simp only [List.length_append,List.length_singleton]; omega,hm,?_⟩,l8⟩
  intro g hg
  rcases List.mem_append.1 hg with hg | hg
  ·exact nx (by omega) _ hlo g hg
  ·rw [List.mem_singleton] at hg
   rw [hg]
   exact IZ hc (by omega)
 ·subst h
  simp only [Int.reduceEq,if_false,if_true] at he
  cases he
  rcases List.eq_nil_or_concat fs with h | ⟨fs',f',rfl⟩
  ·exact absurd h (hb rfl)
  rw [List.concat_eq_append] at *
  exact ⟨fs',f',st,rfl,⟨by simp only [List.length_append,List.length_singleton] at hn; omega,hm,hfs⟩,l8⟩
 ·subst h
  simp only [Int.reduceEq,if_false,if_true] at he
  by_cases hv:st.length=0
  ·rw [if_pos hv] at he; cases he
  rw [if_neg hv] at he
  cases he
  refine ⟨fs,(ad (f.1+1),f.2),st.take (st.length - 1),?_,⟨hn,by simp only [List.length_take]; omega,nx (by omega) _ hlo⟩,?_⟩
  ·split <;> rfl
  ·split
   ·exact ⟨rfl,rfl,rfl,rfl,rfl,rfl,rfl,rfl,rfl⟩
   ·exact l8
 ·subst h
  simp only [Int.reduceEq,if_false,if_true] at he
  cases he
  exact ⟨fs,_,_,rfl,⟨hn,hm,nx (by omega) _ hlo⟩,⟨rfl,rfl,rfl,rfl,rfl,rfl,rfl,rfl,rfl⟩⟩
 ·have hne : ∀ m:Int,(m<4∨9<m)→¬ op=m:=fun m hm=>by omega
  simp only [hne 0 (by omega),hne 1 (by omega),hne 2 (by omega),hne 3 (by omega),hne 10 (by omega),hne 11 (by omega),hne 12 (by omega),hne 13 (by omega),hne 14 (by omega),hne 15 (by omega),if_false] at he
  by_cases hv:st.length<2
  ·rw [if_pos hv] at he; cases he
  rw [if_neg hv] at he
  cases he
  exact ⟨fs,_,_,rfl,⟨hn,by simp only [List.length_append,List.length_take,List.length_singleton]; omega,nx (by omega) _ hlo⟩,l8⟩
open Go.Sm
set_option linter.unusedSimpArgs false
set_option linter.unusedVariables false
set_option maxRecDepth 4000
def zs (t:Th):Prop:=t.1.length≤1048576∧t.2.1.length≤1048576∧∀ f∈t.1,f.2.length≤1048576
def d9 (s:bw):Prop:=s.1.length≤1048576∧(∀ t∈s.1,zs t)∧s.2.1.length≤1048576∧s.2.2.1.length≤1048576∧(∀ q∈s.2.2.1,q.length≤1048576)∧s.2.2.2.1.length≤1048576∧s.2.2.2.2.1.length≤1048576
theorem fP {α:Type} {xs:List α} {i:Nat} (d:α) (h:i<xs.length):xs.getD i d∈xs:=by
 simp [h]
theorem aea (t:Th) (h:zs t):Itr.it (go t) (0,([]:List Fr),([]:List Int)++t.2.1,t.2.2)=some t:=by
 obtain ⟨h1,h2,h3⟩:=h
 exact dW (f:=go t) (fun s=>t.1.length - s.1.toNat) (fun _=>t) (fun s=>∃ i:Nat,s=((i:Int),t.1.take i,t.2.1,t.2.2)∧i≤t.1.length)
  (fun s hs=>by
   obtain ⟨i,rfl,hi⟩:=hs
   unfold go
   rcases Nat.lt_or_ge i t.1.length with hlt | hge
   ·right
    refine ⟨(((i+1:Nat):Int),t.1.take (i+1),t.2.1,t.2.2),?_,⟨i+1,rfl,by omega⟩,by dsimp only; omega,rfl⟩
    have hf:=h3 _ (fP (0,[]) hlt)
    have e1:aH ([]:List Int).length (t.1.getD i (0,[])).2.length 8=true:=be (by simp only [List.length_nil]; omega) (by omega)
    have e2:aH (t.1.take i).length ([((t.1.getD i (0,[])).1,([]:List Int)++(t.1.getD i (0,[])).2)]:List Fr).length 32=true:=be (by simp only [List.length_take,List.length_singleton]; omega) (by omega)
    simp only [aE (show (i:Int)<(t.1.length:Int) by omega),cond_true,aD (0,[]) hlt,Option.bind_some,ah,e1,e2,aS (n:=t.1.length) (by omega) hlt,iL (0,[]) hlt]
    rfl
   ·left
    have:i=t.1.length:=by omega
    subst this
    simp) (s:=(0,[],t.2.1,t.2.2)) ⟨0,rfl,by omega⟩ (by show t.1.length - (0:Int).toNat<_; omega)
theorem aeu (s:bw) (hs:d9 s) (z:qY) (hz:z.1=[]):Itr.it (gq s) (0,z)=some (s.1,z.2):=by
 obtain ⟨h1,h2,h3⟩:=hs
 refine dW (f:=gq s) (fun y=>s.1.length - y.1.toNat) (fun _=>(s.1,z.2)) (fun y=>∃ i:Nat,y=((i:Int),s.1.take i,z.2)∧i≤s.1.length)
  (fun y hy=>by
   obtain ⟨i,rfl,hi⟩:=hy
   unfold gq
   rcases Nat.lt_or_ge i s.1.length with hlt | hge
   ·right
    refine ⟨(((i+1:Nat):Int),s.1.take (i+1),z.2),?_,⟨i+1,rfl,by omega⟩,by dsimp only; omega,rfl⟩
    have ht:=h2 _ (fP ([],[],0,false) hlt)
    have e1:aH ([]:List Int).length (s.1.getD i ([],[],0,false)).2.1.length 8=true:=be (by simp only [List.length_nil]; have:=ht.2.1; omega) (by omega)
    have e2:aH (s.1.take i).length ([s.1.getD i ([],[],0,false)]:List Th).length 64=true:=be (by simp only [List.length_take,List.length_singleton]; omega) (by omega)
    simp only [aE (show (i:Int)<(s.1.length:Int) by omega),cond_true,aD ([],[],0,false) hlt,Option.bind_some,ah,e1,aea _ ht,e2,aS (n:=s.1.length) (by omega) hlt,iL ([],[],0,false) hlt]
    rfl
   ·left
    have:i=s.1.length:=by omega
    subst this
    simp) ⟨0,?_,by omega⟩ (by show s.1.length - (0:Int).toNat<_; omega)
 obtain ⟨z1,z2⟩:=z
 dsimp only at hz
 subst hz
 rfl
theorem aen (s:bw) (hs:d9 s) (z:qY) (hz:z.2.2.1=[]):Itr.it (gm s) (0,z)=some (z.1,z.2.1,s.2.2.1,z.2.2.2):=by
 obtain ⟨_,_,_,h1,h2,_⟩:=hs
 refine dW (f:=gm s) (fun y=>s.2.2.1.length - y.1.toNat) (fun _=>(z.1,z.2.1,s.2.2.1,z.2.2.2)) (fun y=>∃ i:Nat,y=((i:Int),z.1,z.2.1,s.2.2.1.take i,z.2.2.2)∧i≤s.2.2.1.length)
  (fun y hy=>by
   obtain ⟨i,rfl,hi⟩:=hy
   unfold gm
   rcases Nat.lt_or_ge i s.2.2.1.length with hlt | hge
   ·right
    refine ⟨(((i+1:Nat):Int),z.1,z.2.1,s.2.2.1.take (i+1),z.2.2.2),?_,⟨i+1,rfl,by omega⟩,by dsimp only; omega,rfl⟩
    have ht:=h2 _ (fP [] hlt)
    have e1:aH ([]:List Int).length (s.2.2.1.getD i []).length 8=true:=be (by simp only [List.length_nil]; omega) (by omega)
    have e2:aH (s.2.2.1.take i).length ([([]:List Int)++s.2.2.1.getD i []]:List (List Int)).length 24=true:=be (by simp only [List.length_take,List.length_singleton]; omega) (by omega)
    simp only [aE (show (i:Int)<(s.2.2.1.length:Int) by omega),cond_true,aD [] hlt,Option.bind_some,ah,e1,e2,aS (n:=s.2.2.1.length) (by omega) hlt,iL [] hlt]
    rfl
   ·left
    have:i=s.2.2.1.length:=by omega
    subst this
    simp) ⟨0,?_,by omega⟩ (by show s.2.2.1.length - (0:Int).toNat<_; omega)
 obtain ⟨z1,z2,z3,z4⟩:=z
 dsimp only at hz
 subst hz
 rfl
theorem YA (s:bw) (hs:d9 s):ip s=some s:=by
 unfold ip
 have h:=hs
 obtain ⟨h1,h2,h3,h4,h5,h6,h7⟩:=h
 have e1:aH ([]:List Int).length s.2.1.length 8=true:=be (by simp only [List.length_nil]; omega) (by omega)
 have e2:aH ([]:List Int).length s.2.2.2.1.length 8=true:=be (by simp only [List.length_nil]; omega) (by omega)
 have e3:aH ([]:List Int).length s.2.2.2.2.1.length 8=true:=be (by simp only [List.length_nil]; omega) (by omega)
 dsimp only
 rw [aeu s hs _ rfl]
 simp only [Option.bind_some,ah,e1,e2,e3,cond_true]
 rw [aen s hs _ rfl]
 rfl
open Go.Sm
set_option linter.unusedSimpArgs false
set_option linter.unusedVariables false
set_option maxRecDepth 4000
def Aw (t:Th):Fr:=t.1.getLastD (0,[])
def cP (s:bw) (i:Nat):Th:=s.1.getD i ([],[],0,false)
def mB (c:CC) (t:Th):dy:=ey c (Aw t).1.toNat
def jz (s:bw):Int:=s.2.2.2.2.2.2.2.2.2.1
def fZ (x:dy) (n:Nat):Bool:=decide ((16≤x.1∧x.1<29)∨(x.1=13∧n=1))
def jM (c:CC) (s:bw) (i:Nat) (o:Int):bw:=
 let k:=((f5 c (Aw (cP s i)).1).getD 0).toNat
 if (cP s i).2.2.2=false then rB s o (ad ((Aw (cP s i)).1 - c.2.1.getD k 0)) (c.2.2.2.2.2.2.2.getD k []) else rB s o s.2.2.2.2.2.2.2.2.2.2.1 s.2.2.2.2.2.2.2.2.2.2.2
def ea (c:CC) (kind:Int) (i:Nat):Nat→bw→Bool×bw
 | m,s=>
  if 0≤jz s then (true,s) else if fZ (mB c (cP s i)) (cP s i).1.length then (true,s) else match m with
   | 0=>(false,jM c s i 3)
   | m+1=>match iJ c kind s i (cP s i).1.dropLast (Aw (cP s i)) (cP s i).2.1 (cP s i).2.2.1 (mB c (cP s i)) with
    | none=>(false,jM c s i 4)
    | some s' => ea c kind i m s'
def rR (c:CC) (s:bw) (i:Nat):Prop:=∃ fs f st w,s.1[i]? = some (fs++[f],st,w,false)∧Run1 c fs f st
theorem l7 (fs:List Fr) (f:Fr) (r:List Int×Int×Bool):Aw (fs++[f],r)=f:=by
 unfold Aw
 simp
theorem qS {s:bw} {i:Nat} {t:Th} (h:s.1[i]? = some t):cP s i=t:=by
 unfold cP
 simp [h]
theorem R8 {c:CC} {e:dy} {s:bw} {acc:List ((Int×Int×Bool)×Bool)} {n:Int} {i:Nat} {fs:List Fr} {f:Fr} {st:List Int} {w:Int} {x:dy} {k pc:Nat} (h:AtP c s i fs f st w x k pc) :
  jU (fl n (c,e,s,acc)) (i:Int)=some (fZ x (fs.length+1)):=by
 unfold jU nU fZ
 have eat:=acN (e:=e) (acc:=acc) (n:=n) h
 have et:=cv h.t
 simp only [eat,Option.bind_some,lE]
 by_cases h1:16≤x.1∧x.1<29
 ·rw [aE h1,aE (.inl h1)]
  rfl
 ·rw [aQ h1]
  by_cases h2:x.1=13
  ·rw [bt h2]
   simp only [Bool.not_false,Bool.and_true,cond_true,cond_false,fl,et,Option.bind_some]
   by_cases h3:fs.length+1=1
   ·rw [aE (.inr ⟨h2,h3⟩)]
    simp [h3]
   ·rw [aQ (by intro h; rcases h with h | h; exact h1 h; exact h3 h.2)]
    simp
    omega
  ·rw [bf h2,aQ (by intro h; rcases h with h | h; exact h1 h; exact h2 h.1)]
   rfl
theorem RE (x:dy) (n:Nat) (hn:1≤n):gt x (n:Int)=some (fZ x n):=by
 unfold gt ld fZ
 simp only [lE,Option.bind_some,sn]
 by_cases h1:16≤x.1∧x.1<29
 ·rw [aE h1,aE (show (16≤x.1∧x.1<29)∨(x.1=13∧n=1) from .inl h1)]
  rfl
 ·rw [aQ h1]
  simp only [cond_false]
  congr 1
  rw [decide_eq_decide]
  omega
theorem wn {c:CC} (hc:df c) {s:bw} {i:Nat} {fs:List Fr} {f:Fr} {st:List Int} {w:Int} {x:dy} {k pc:Nat} (h:AtP c s i fs f st w x k pc) :
  dQ c f.1=some (k:Int)∧f5 c f.1=some (k:Int)∧ac c.2.2.2.2.2.2.2 (k:Int)=some (c.2.2.2.2.2.2.2.getD k [])∧ac c.2.1 (k:Int)=some (c.2.1.getD k 0):=by
 have hB:=oO hc.2.1 hc.2.2.2
 have h3:=hc.2.1.1.2.2
 rw [h.pc1]
 exact ⟨YH hB h.pr (by omega),SR hB h.pr,aD [] (by have:=h.pr.1; omega),aD 0 h.pr.1⟩
theorem oX {c:CC} (hc:df c) {s:bw} {i:Nat} {fs:List Fr} {f:Fr} {st:List Int} {w:Int} {x:dy} {k pc:Nat} (h:AtP c s i fs f st w x k pc) (o:Int):jM c s i o=rB s o (ad (f.1 - c.2.1.getD k 0)) (c.2.2.2.2.2.2.2.getD k []):=by
 unfold jM
 simp only [qS h.t,l7,(wn hc h).2.1,Option.getD_some,Int.toNat_natCast,if_true]
theorem PF {c:CC} (hc:df c) {e:dy} {s:bw} {a:List me} {i:Nat} {fs:List Fr} {f:Fr} {st:List Int} {w:Int} {x:dy} {k pc:Nat} (h:AtP c s i fs f st w x k pc) (o:Int) :
  bJ (c,e,s,a) o (i:Int)=some (c,e,jM c s i o,a):=by
 rw [oX hc h]
 unfold bJ
 have efr : ∀ g:Fr,ac (fs++[g]) (fs.length:Int)=some g:=fun g=>by simp [ac]
 have ela : ∀ g:Fr,((fs++[g]).length:Int)=(fs.length:Int)+1:=fun g=>by simp
 have ewl:ad ((fs.length:Int)+1 - 1)=(fs.length:Int):=by have:=h.n; rw [bi (by omega) (by omega)]; omega
 obtain ⟨q1,q2,q3,q4⟩:=wn hc h
 simp only [cv h.t,Option.bind_some,ela,ewl,efr,q2,q3,q4,aE (show (0:Int)<(fs.length:Int)+1 by omega),cond_true]
 rfl
theorem aa5 {c:CC} {e:dy} {s:bw} {a:List me} {i:Nat} {fs:List Fr} {f:Fr} {st:List Int} {w:Int} {x:dy} {k pc:Nat} (h:AtP c s i fs f st w x k pc) :
  co (c,e,s,a) (i:Int)=some x:=by
 unfold co
 have hx:ac c.1 f.1=some x:=by rw [h.pc1,← h.x]; exact aD _ h.pc2
 have efr : ∀ g:Fr,ac (fs++[g]) (fs.length:Int)=some g:=fun g=>by simp [ac]
 have ela : ∀ g:Fr,((fs++[g]).length:Int)=(fs.length:Int)+1:=fun g=>by simp
 have ewl:ad ((fs.length:Int)+1 - 1)=(fs.length:Int):=by have:=h.n; rw [bi (by omega) (by omega)]; omega
 simp only [cv h.t,Option.bind_some,ela,ewl,efr,hx,show ((fs.length:Int)+1==0)=false by simp only [beq_eq_false_iff_ne]; omega,cond_false]
theorem sB {c:CC} (hc:df c) {s:bw} {i:Nat} {fs:List Fr} {f:Fr} {st:List Int} {w:Int} {x:dy} {k pc:Nat} (h:AtP c s i fs f st w x k pc) (hs:fZ x (fs.length+1)=false):x.1<16∧(x.1=13→fs≠[]):=by
 have hF:=hc.2.2.1 k pc h.pc2 h.pr
 rw [h.x] at hF
 have h0:=hF.1
 unfold fZ at hs
 rw [decide_eq_false_iff_not] at hs
 refine ⟨by omega,fun h13 hf=>hs (.inr ⟨h13,by rw [hf]; rfl⟩)⟩
theorem BW {c:CC} (hc:df c) {kind:Int} {s s' : bw} {i:Nat} {fs:List Fr} {f:Fr} {st:List Int} {w:Int} {x:dy} {k pc:Nat} (h:AtP c s i fs f st w x k pc) (hr:Run1 c fs f st) (hs:fZ x (fs.length+1)=false) (he:iJ c kind s i fs f st w x=some s'):rR c s' i:=by
 obtain ⟨h1,h2⟩:=sB hc h hs
 obtain ⟨fs',f',st',g1,g2,g3⟩:=EX hc h hr h1 h2 he
 exact ⟨fs',f',st',w,by rw [g1]; exact List.getElem?_set_self (mX h.t),g2⟩
theorem sd (c:CC) (kind:Int) {i:Nat} (m:Nat) {s:bw} {fs:List Fr} {f:Fr} {st:List Int} {w:Int} {x:dy} {k pc:Nat} (h:AtP c s i fs f st w x k pc) :
  ea c kind i m s=(if 0≤jz s then (true,s) else if fZ x (fs.length+1) then (true,s) else match m with
   | 0=>(false,jM c s i 3)
   | m+1=>match iJ c kind s i fs f st w x with
    | none=>(false,jM c s i 4)
    | some s' => ea c kind i m s'):=by
 have hx:mB c (fs++[f],st,w,false)=x:=by
  unfold mB
  rw [l7,h.pc1]
  exact h.x
 rw [ea.eq_def]
 simp only [qS h.t,hx,l7,List.length_append,List.length_singleton,List.dropLast_concat]
theorem aa8 {c:CC} (hc:df c) (e:dy) (acc:List ((Int×Int×Bool)×Bool)) {s0:bw} {i:Nat} (hs:rR c s0 i) :
  Itr.it (fw (i:Int)) (fl 0 (c,e,s0,acc))=some (if (ea c e.1 i 64 s0).1 then .inl (fl 0 (c,e,(ea c e.1 i 64 s0).2,acc)).2 else .inr (c,e,(ea c e.1 i 64 s0).2,acc)):=by
 obtain ⟨r,h1,h2⟩:=fk (f:=fw (i:Int)) (fun y=>65 - y.1.toNat) (fun y=>∃ (n:Nat) (s:bw),y=fl (n:Int) (c,e,s,acc)∧n≤64∧rR c s i∧ea c e.1 i (64 - n) s=ea c e.1 i 64 s0)
  (fun r=>r=(if (ea c e.1 i 64 s0).1 then .inl (fl 0 (c,e,(ea c e.1 i 64 s0).2,acc)).2 else .inr (c,e,(ea c e.1 i 64 s0).2,acc)))
  (fun y hy=>by
   obtain ⟨n,s,rfl,hn,⟨fs,f,st,w,ht,hr⟩,hq⟩:=hy
   obtain ⟨k,pc,hA⟩:=lU ht hr
   obtain ⟨q1,q2,q3,q4⟩:=wn hc hA
   rw [← hq,sd c e.1 (64 - n) hA]
   have est:=R8 (e:=e) (acc:=acc) (n:=(n:Int)) hA
   have esi:=fun hop=>adY hc (e:=e) (acc:=acc) (n:=(n:Int)) hA hop
   have eov:=oX hc hA
   have efr : ∀ g:Fr,ac (fs++[g]) (fs.length:Int)=some g:=fun g=>by simp [ac]
   have ela : ∀ g:Fr,((fs++[g]).length:Int)=(fs.length:Int)+1:=fun g=>by simp
   have ewl:ad ((fs.length:Int)+1 - 1)=(fs.length:Int):=by have:=hA.n; rw [bi (by omega) (by omega)]; omega
   have et:=cv ht
   unfold fw
   by_cases ho:0≤jz s
   ·left
    rw [if_pos ho]
    refine ⟨_,?_,rfl⟩
    have : ¬ (s.2.2.2.2.2.2.2.2.2.1<(0:Int)):=by unfold jz at ho; omega
    simp only [fl,this,decide_false,cond_false,if_true]
   rw [if_neg ho]
   have hlt:s.2.2.2.2.2.2.2.2.2.1<(0:Int):=by unfold jz at ho; omega
   simp only [est,Option.bind_some]
   by_cases hst:fZ (ey c f.1.toNat) (fs.length+1)=true
   ·left
    rw [if_pos hst,hst]
    refine ⟨_,?_,rfl⟩
    simp only [fl,hlt,decide_true,cond_true,if_true]
   have hst' : fZ (ey c f.1.toNat) (fs.length+1)=false:=by simpa using hst
   rw [if_neg hst,hst']
   obtain ⟨hop,hb⟩:=sB hc hA hst'
   rcases Nat.lt_or_eq_of_le hn with hn | hn
   rotate_left
   ·left
    subst hn
    refine ⟨_,?_,rfl⟩
    simp only [fl,hlt,decide_true,cond_true,cond_false,show (((64:Nat):Int)==64)=true from rfl,et,Option.bind_some,Bool.not_false,ela,ewl,efr,q3,q4,Nat.sub_self,eov]
    rw [show dQ _ f.1=_ from q1]
    simp only [Option.bind_some,q3,q4]
    rfl
   rw [esi hop]
   obtain ⟨m,hm⟩ : ∃ m,64 - n=m+1:=⟨63 - n,by omega⟩
   rw [hm]
   have h64:((n:Int)==64)=false:=by simp only [beq_eq_false_iff_ne]; omega
   cases hsil:iJ c e.1 s i fs f st w (ey c f.1.toNat) with
   | none=>
    left
    refine ⟨_,?_,rfl⟩
    simp only [fl,hlt,decide_true,cond_true,cond_false,h64,et,Option.bind_some,Bool.not_false,ela,ewl,efr,q3,q4,eov]
    rw [show dQ _ f.1=_ from q1]
    simp only [Option.bind_some,q3,q4]
    rfl
   | some s' =>
    right
    refine ⟨fl ((n+1:Nat):Int) (c,e,s',acc),?_,⟨n+1,s',rfl,by omega,BW hc hA hr hst' hsil,?_⟩,by show 65 - ((n+1:Nat):Int).toNat<65 - (n:Int).toNat; omega⟩
    ·simp only [fl,hlt,decide_true,cond_true,cond_false,h64,Option.bind_some]
     rw [aS (n:=64) (by omega) hn]
     rfl
    ·rw [show 64 - (n+1)=m by omega]) (s:=fl 0 (c,e,s0,acc)) ⟨0,s0,rfl,by omega,hs,rfl⟩ (by show 65 - (0:Int).toNat<_; omega)
 rw [h1,h2]
open Go.Sm
set_option linter.unusedSimpArgs false
set_option linter.unusedVariables false
set_option maxRecDepth 4000
def NZ (s:bw):bw:=(s.1,s.2.1,s.2.2.1,s.2.2.2.1,s.2.2.2.2.1,s.2.2.2.2.2.1,s.2.2.2.2.2.2.1,(s.2.2.2.2.2.2.2.1.1,s.2.2.2.2.2.2.2.1.2.1,ad (s.2.2.2.2.2.2.2.1.2.2+1)),s.2.2.2.2.2.2.2.2)
def tT (c:CC) (s:bw) (i:Nat):bw×List me:=
 let t:=cP s i
 let x:=mB c t
 if x.1=25 then (fe s i (t.1,t.2.1,ad (s.2.2.2.2.2.1+x.2.1),t.2.2.2),[(4,0,false)])
 else if x.1=21 then (if 0≤s.2.2.2.1.getD x.2.1.toNat 0 then NZ s else s,[(2,x.2.1,false)])
 else if x.1=20 then (s,if (c.2.2.2.2.1.getD x.2.1.toNat ([],0)).2=0 then [(1,x.2.1,true)] else [])
 else (s,[])
def jF (c:CC) (kind:Int) (i:Nat) (s:bw):bw×List me:=
 if (ea c kind i 64 s).1=true∧jz (ea c kind i 64 s).2<0 then tT c (ea c kind i 64 s).2 i else ((ea c kind i 64 s).2,[])
def ab9 (m:List ((Int×Int×Bool)×Bool)) (a:me):List ((Int×Int×Bool)×Bool):=
 cW ae (.sc .bool) (a.1,a.2.1,false) (bif (cV ae (.sc .bool) (a.1,a.2.1,false) m).getD false then true else a.2.2) m
structure Fit1 (c:CC) (s:bw):Prop where
 vars:s.2.1.length=c.2.2.2.1.length
 qs:s.2.2.1.length=c.2.2.2.2.1.length
 own:s.2.2.2.1.length=c.2.2.2.2.2.1.length
 files:s.2.2.2.2.1.length=c.2.2.2.2.2.2.1.length
theorem HK {c:CC} {s s' : bw} (h:Fit1 c s) (k:q9 s s'):Fit1 c s' := by
 obtain ⟨a1,a2,a3,a4,a5,a6,a7,a8,a9⟩:=k
 exact ⟨by rw [a1]; exact h.1,by rw [a2]; exact h.2,by rw [a3]; exact h.3,by rw [a4]; exact h.4⟩
theorem sp (s:bw):q9 s s:=⟨rfl,rfl,rfl,rfl,rfl,rfl,rfl,rfl,rfl⟩
theorem Ij (s:bw) (o k:Int) (w:List UInt8):q9 s (rB s o k w):=⟨rfl,rfl,rfl,rfl,rfl,rfl,rfl,rfl,rfl⟩
theorem BI {c:CC} (hc:df c) (kind:Int) {i:Nat} : ∀ (m:Nat) {s:bw} {fs:List Fr} {f:Fr} {st:List Int} {w:Int},s.1[i]? = some (fs++[f],st,w,false)→Run1 c fs f st →
  ∃ fs' f' st',(ea c kind i m s).2.1=s.1.set i (fs' ++ [f'],st',w,false)∧Run1 c fs' f' st' ∧ q9 s (ea c kind i m s).2∧(jz (ea c kind i m s).2<0→(ea c kind i m s).1=true∧fZ (ey c f'.1.toNat) (fs'.length+1)=true):=by
 intro m
 induction m with
 | zero=>
  intro s fs f st w ht hr
  obtain ⟨k,pc,hA⟩:=lU ht hr
  rw [sd c kind 0 hA]
  by_cases h1:0≤jz s
  ·rw [if_pos h1]
   exact ⟨fs,f,st,(iV ht).symm,hr,sp s,fun h=>absurd h1 (by dsimp only at h; omega)⟩
  rw [if_neg h1]
  by_cases h2:fZ (ey c f.1.toNat) (fs.length+1)=true
  ·rw [if_pos h2]
   exact ⟨fs,f,st,(iV ht).symm,hr,sp s,fun _=>⟨rfl,h2⟩⟩
  rw [if_neg h2]
  dsimp only
  rw [oX hc hA]
  exact ⟨fs,f,st,(iV ht).symm,hr,Ij ..,fun h=>absurd h (by unfold jz rB; dsimp only; omega)⟩
 | succ m ih=>
  intro s fs f st w ht hr
  obtain ⟨k,pc,hA⟩:=lU ht hr
  rw [sd c kind (m+1) hA]
  by_cases h1:0≤jz s
  ·rw [if_pos h1]
   exact ⟨fs,f,st,(iV ht).symm,hr,sp s,fun h=>absurd h1 (by dsimp only at h; omega)⟩
  rw [if_neg h1]
  by_cases h2:fZ (ey c f.1.toNat) (fs.length+1)=true
  ·rw [if_pos h2]
   exact ⟨fs,f,st,(iV ht).symm,hr,sp s,fun _=>⟨rfl,h2⟩⟩
  rw [if_neg h2]
  obtain ⟨hop,hb⟩:=sB hc hA (by simpa using h2)
  cases hsil:iJ c kind s i fs f st w (ey c f.1.toNat) with
  | none=>
   dsimp only
   rw [oX hc hA]
   exact ⟨fs,f,st,(iV ht).symm,hr,Ij ..,fun h=>absurd h (by unfold jz rB; dsimp only; omega)⟩
  | some s' =>
   dsimp only
   obtain ⟨fs1,f1,st1,g1,g2,g3⟩:=EX hc hA hr hop hb hsil
   obtain ⟨fs2,f2,st2,j1,j2,j3,j4⟩:=ih (s:=s') (w:=w) (by rw [g1]; exact List.getElem?_set_self (mX ht)) g2
   exact ⟨fs2,f2,st2,by rw [j1,g1,List.set_set],j2,M0 g3 j3,j4⟩
theorem YJ {c:CC} (hc:df c) (e:dy) (acc:List ((Int×Int×Bool)×Bool)) {s:bw} {i:Nat} (hs:rR c s i) (hf:Fit1 c s) :
  gu (c,e,s,acc) (i:Int)=some (c,e,(jF c e.1 i s).1,(jF c e.1 i s).2.foldl ab9 acc):=by
 obtain ⟨fs,f,st,w,ht,hr⟩:=hs
 obtain ⟨fs',f',st',g1,g2,g3,g4⟩:=BI hc e.1 64 ht hr
 have hl:=aa8 hc e acc ⟨fs,f,st,w,ht,hr⟩
 have hf' := HK hf g3
 unfold gu jF
 generalize ea c e.1 i 64 s=q at *
 obtain ⟨b,s'⟩:=q
 dsimp only at *
 have ht' : s'.1[i]? = some (fs' ++ [f'],st',w,false):=by rw [g1]; exact List.getElem?_set_self (mX ht)
 simp only [cv ht,Option.bind_some]
 refine (congrArg (fun o:Option (n4⊕aO)=>o.bind _) hl).trans ?_
 cases b
 ·rfl
 ·simp only [if_true,Option.bind_some,true_and]
  by_cases ho:jz s' < 0
  rotate_left
  ·rw [if_neg ho]
   have:(0:Int)≤s'.2.2.2.2.2.2.2.2.2.1:=by unfold jz at ho; omega
   simp only [fl,this,decide_true,cond_true]
   rfl
  rw [if_pos ho]
  have ho' : ¬ (0:Int)≤s'.2.2.2.2.2.2.2.2.2.1:=by unfold jz at ho; omega
  obtain ⟨k,pc,hA⟩:=lU ht' g2
  have hst:=(g4 ho).2
  have hx:mB c (cP s' i)=ey c f'.1.toNat:=by rw [qS ht']; unfold mB; rw [l7]
  have hF:=hc.2.2.1 k pc hA.pc2 hA.pr
  rw [hA.x] at hF
  have e2:ma (fl 0 (c,e,s',acc)).2 (i:Int)=some (ey c f'.1.toNat):=by
   unfold ma
   have hx:ac c.1 f'.1=some (ey c f'.1.toNat):=by rw [hA.pc1]; exact aD _ hA.pc2
   simp only [fl,cv ht',Option.bind_some,cond_false,qT fs' f' (by have:=g2.n; omega),hx]
  unfold tT
  dsimp only
  rw [hx]
  generalize ey c f'.1.toNat=x at *
  obtain ⟨op,u,b⟩:=x
  obtain ⟨_,_,o1,o2,o3,o4,o5,o6,o7,o8,o9,o10,o11,o12⟩:=hF
  dsimp only at o1 o2 o3 o4 o5 o6 o7 o8 o9 o10 o11 o12 hst
  simp only [e2,Option.bind_some]
  simp only [fl,ho',decide_false,cond_false,cv ht',Option.bind_some,qS ht',beq_self_eq_true,ah,cond_true]
  by_cases h25:op=25
  ·subst h25
   simp only [Int.reduceBEq,cond_true,cond_false,if_true,Int.toNat_natCast,List.foldl_cons,List.foldl_nil]
   rfl
  rw [bf h25,if_neg h25]
  by_cases h21:op=21
  ·subst h21
   obtain ⟨q1,q2⟩:=o8 (.inl rfl)
   have eo:ac s'.2.2.2.1 u=some (s'.2.2.2.1.getD u.toNat 0):=bu 0 q1 (by have:=hf'.own; omega)
   simp only [Int.reduceBEq,cond_true,cond_false,if_true,eo,Option.bind_some,List.foldl_cons,List.foldl_nil]
   by_cases hw:0≤s'.2.2.2.1.getD u.toNat 0
   ·rw [aE hw,if_pos hw]
    rfl
   ·rw [aQ hw,if_neg hw]
    rfl
  rw [bf h21,if_neg h21]
  by_cases h20:op=20
  ·subst h20
   obtain ⟨q1,q2⟩:=o7 (.inr rfl)
   have eo:ac c.2.2.2.2.1 u=some (c.2.2.2.2.1.getD u.toNat ([],0)):=bu _ q1 (by omega)
   simp only [Int.reduceBEq,cond_true,cond_false,if_true,eo,Option.bind_some]
   by_cases hw:(c.2.2.2.2.1.getD u.toNat ([],0)).2=0
   ·rw [show ((c.2.2.2.2.1.getD u.toNat ([],0)).2==0)=true by simp only [beq_iff_eq]; exact hw,if_pos hw]
    rfl
   ·rw [show ((c.2.2.2.2.1.getD u.toNat ([],0)).2==0)=false by simp only [beq_eq_false_iff_ne]; exact hw,if_neg hw]
    rfl
  rw [bf h20,if_neg h20]
  rfl
end Go.Proofs.YtfhhiajfciblbaaGreatDoor
