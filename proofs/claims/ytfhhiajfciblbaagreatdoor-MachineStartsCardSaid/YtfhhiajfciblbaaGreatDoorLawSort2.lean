/-
  Plain law: insertion sort of accesses. No program is walked here.
-/
import Derived.Test.YtfhhiajfciblbaaGreatDoorLawM7
import Derived.Test.YtfhhiajfciblbaaGreatDoorExtT
namespace Go.Proofs.YtfhhiajfciblbaaGreatDoor
open Go.Sm
abbrev A3:Type:=Int×Int×Bool
def rF (a:A3):Prop:=0≤a.1∧a.1<1099511627776∧0≤a.2.1∧a.2.1<1099511627776
def iQ (a b:A3):Bool:=decide (a.1<b.1)||(a.1==b.1&&decide (a.2.1<b.2.1))
theorem acC {a b:A3} (ha:rF a) (hb:rF b) : ∃ n:Int,dm a b=some n∧decide (n<0)=iQ a b:=by
 obtain ⟨h1,h2,h3,h4⟩:=ha
 obtain ⟨g1,g2,g3,g4⟩:=hb
 by_cases h:a.1=b.1
 ·have e:dm a b=some (ad (a.2.1 - b.2.1)):=by
   unfold dm
   rw [show (a.1 != b.1)=false by simp [h]]
   rfl
  refine ⟨_,e,?_⟩
  rw [bi (by omega) (by omega)]
  unfold iQ
  simp only [h,Int.lt_irrefl,decide_false,Bool.false_or,beq_self_eq_true,Bool.true_and,decide_eq_decide]
  omega
 ·have e:dm a b=some (ad (a.1 - b.1)):=by
   unfold dm
   rw [show (a.1 != b.1)=true by simp [h]]
   rfl
  refine ⟨_,e,?_⟩
  rw [bi (by omega) (by omega)]
  unfold iQ
  simp only [beq_eq_false_iff_ne.2 h,Bool.false_and,Bool.or_false,decide_eq_decide]
  omega
def iP (x:A3):List A3→List A3
 | []=>[x]
 | y::r=>if iQ x y then y::iP x r else x::y::r
theorem Bt (pre:List A3) (x:A3) (rest:List A3) {i:Int} (h:i=(pre.length:Int)):ac (pre++x::rest) i=some x:=by
 subst h
 unfold ac
 simp
theorem TA {n:Nat} {d0:List A3} {pre rest:List A3} {x:A3} (hs : ∀ a∈pre++x::rest,rF a) (hn:(pre++x::rest).length=n) (h12:n≤12) :
  ∃ r,Itr.it (cO (d0,0,(n:Int)) 0) ((pre.length:Int),pre++x::rest)=some r∧r=(iP x pre.reverse).reverse++rest:=by
 obtain ⟨R,hR⟩ : ∃ R,R=(iP x pre.reverse).reverse++rest:=⟨_,rfl⟩
 rw [← hR]
 refine fk (fun s=>s.1.toNat) (fun s=>∃ pre x rest,s=((pre.length:Int),pre++x::rest)∧R=(iP x pre.reverse).reverse++rest∧(∀ a∈pre++x::rest,rF a)∧(pre++x::rest).length=n) (fun r=>r=R) ?_ ⟨pre,x,rest,rfl,hR,hs,hn⟩ (by simp only [List.length_append,List.length_cons] at hn; show ((pre.length:Int)).toNat<_; omega)
 rintro s ⟨pre,x,rest,rfl,hR,hs,hn⟩
 rcases List.eq_nil_or_concat pre with rfl | ⟨pre',y,rfl⟩
 ·left
  refine ⟨x::rest,rfl,?_⟩
  rw [hR]; rfl
 ·rw [List.concat_eq_append] at *
  have hlen:pre'.length+rest.length+2=n:=by rw [← hn]; simp; omega
  have hj:(((pre' ++ [y]).length:Nat):Int)=(pre'.length:Int)+1:=by simp
  have hw:ad ((pre'.length:Int)+1 - 1)=(pre'.length:Int):=by rw [bi (by omega) (by omega)]; omega
  have e0:ac ((pre' ++ [y])++x::rest) (0+((pre'.length:Int)+1))=some x:=Bt _ _ _ (by simp)
  have e1:ac ((pre' ++ [y])++x::rest) (0+(pre'.length:Int))=some y:=by
   rw [List.append_assoc]
   exact Bt pre' y (x::rest) (by simp)
  obtain ⟨m,hm,hlt⟩:=acC (hs x (by simp)) (hs y (by simp))
  have c1:decide ((0:Int)<(pre'.length:Int)+1)=true:=decide_eq_true (by omega)
  have c2:decide ((0:Int)≤(pre'.length:Int)+1∧(pre'.length:Int)+1<(n:Int) - 0)=true:=decide_eq_true (by omega)
  have c3:decide ((0:Int)≤(pre'.length:Int)∧(pre'.length:Int)<(n:Int) - 0)=true:=decide_eq_true (by omega)
  rw [hj]
  have hR' : R=(iP x (y::pre'.reverse)).reverse++rest:=by rw [hR]; simp
  unfold cO
  simp only [c1,c2,c3,hw,e0,e1,hm,hlt,ah,cond_true,cond_false,Bool.not_true,Bool.or_true,Option.bind_some]
  cases hxy:iQ x y
  ·left
   refine ⟨_,rfl,?_⟩
   rw [hR',iP,if_neg (by simp [hxy])]
   simp
  ·right
   have s1:((pre' ++ [y])++x::rest).set (0+((pre'.length:Int)+1)).toNat y=pre' ++ y::y::rest:=by
    rw [show (0+((pre'.length:Int)+1)).toNat=pre'.length+1 by omega,List.append_assoc,List.set_append_right _ _ (by omega)]
    simp
   have e2:ac (pre' ++ y::y::rest) (0+(pre'.length:Int))=some y:=Bt _ _ _ (by simp)
   have s2:(pre' ++ y::y::rest).set (0+(pre'.length:Int)).toNat x=pre' ++ x::y::rest:=by
    rw [show (0+(pre'.length:Int)).toNat=pre'.length by omega,List.set_append_right _ _ (by omega)]
    simp
   refine ⟨((pre'.length:Int),pre' ++ x::y::rest),?_,⟨pre',x,y::rest,rfl,?_,?_,by simp; omega⟩,by simp⟩
   ·simp only [cond_true,s1,e2,s2,Option.bind_some]
   ·rw [hR',iP,if_pos hxy]; simp
   ·intro a ha
    apply hs
    simp only [List.mem_append,List.mem_cons,List.not_mem_nil,or_false] at ha ⊢
    rcases ha with h | h | h | h <;> simp [h]
theorem pw (x:A3) : ∀ l:List A3,(iP x l).Perm (x::l)
 | []=>List.Perm.refl _
 | y::r=>by
  unfold iP
  split
  ·exact (List.Perm.cons y (pw x r)).trans (List.Perm.swap ..)
  ·exact List.Perm.refl _
theorem Cg {x y:A3} (h:iQ x y=true):iQ y x=false:=by
 unfold iQ at h ⊢
 simp only [Bool.or_eq_true,Bool.and_eq_true,decide_eq_true_eq,beq_iff_eq,Bool.or_eq_false_iff,Bool.and_eq_false_iff,decide_eq_false_iff_not,beq_eq_false_iff_ne] at h ⊢
 omega
theorem zo {x y z:A3} (h:iQ x y=false) (k:iQ y z=false):iQ x z=false:=by
 unfold iQ at h k ⊢
 simp only [Bool.or_eq_false_iff,Bool.and_eq_false_iff,decide_eq_false_iff_not,beq_eq_false_iff_ne] at h k ⊢
 omega
theorem vc (x:A3) : ∀ l:List A3,l.Pairwise (fun a b=>iQ a b=false)→(iP x l).Pairwise (fun a b=>iQ a b=false)
 | [],_=>by simp [iP]
 | y::r,h=>by
  obtain ⟨h1,h2⟩:=List.pairwise_cons.1 h
  unfold iP
  split
  ·rename_i hxy
   refine List.pairwise_cons.2 ⟨fun z hz=>?_,vc x r h2⟩
   rcases List.mem_cons.1 ((pw x r).mem_iff.1 hz) with rfl | hz
   ·exact Cg hxy
   ·exact h1 z hz
  ·rename_i hxy
   have hxy:iQ x y=false:=by simpa using hxy
   refine List.pairwise_cons.2 ⟨fun z hz=>?_,h⟩
   rcases List.mem_cons.1 hz with rfl | hz
   ·exact hxy
   ·exact zo hxy (h1 z hz)
theorem YD {n:Nat} {d:List A3} (hs : ∀ a∈d,rF a) (hn:d.length=n) (h12:n≤12) :
  ∃ r,cD (d,0,(n:Int)) 0 n=some r∧r.Perm d∧r.reverse.Pairwise (fun a b=>iQ a b=false):=by
 unfold cD
 refine fk (fun s:Int×List A3=>(n+1 - s.1.toNat)) (fun s:Int×List A3=>s.2.Perm d∧(∃ S rest:List A3,s.2=S++rest∧S.reverse.Pairwise (fun a b=>iQ a b=false)∧((s.1=(S.length:Int))∨(s.1=1∧n=0)))) (fun r:List A3=>r.Perm d∧r.reverse.Pairwise (fun a b=>iQ a b=false)) ?_ ⟨List.Perm.refl _,?_⟩ (by show n+1 - _<_; omega)
 ·rintro ⟨i,data⟩ ⟨hp,S,rest,hd,hS,hi⟩
  simp only at hp hd hi
  subst hd
  have hl:=hp.length_eq
  simp only [List.length_append] at hl
  unfold eB
  cases rest with
  | nil=>
   left
   refine ⟨S++[],?_,hp,by simpa using hS⟩
   rw [show decide (i<(n:Int))=false from decide_eq_false (by simp only [List.length_nil] at hl; omega)]
   rfl
  | cons x rest=>
   right
   simp only [List.length_cons] at hl
   have hi' : i=(S.length:Int):=by omega
   subst hi'
   obtain ⟨r,hr,rfl⟩:=TA (n:=n) (d0:=d) (pre:=S) (x:=x) (rest:=rest) (fun a ha=>hs a (hp.mem_iff.1 ha)) (by simp only [List.length_append,List.length_cons]; omega) h12
   refine ⟨((S.length:Int)+1,(iP x S.reverse).reverse++rest),?_,⟨?_,(iP x S.reverse).reverse,rest,rfl,by simpa using vc x _ hS, .inl ?_⟩,?_⟩
   ·rw [show decide ((S.length:Int)<(n:Int))=true from decide_eq_true (by omega)]
    simp only [cond_true,hr,Option.bind_some]
    rw [bi (by omega) (by omega)]
   ·refine List.Perm.trans ?_ hp
    have h1:(iP x S.reverse).reverse.Perm (x::S):=(List.reverse_perm _).trans ((pw x _).trans (List.Perm.cons x (List.reverse_perm S)))
    exact (List.Perm.append_right rest h1).trans (by simpa using (List.perm_middle (a:=x) (l₁:=S) (l₂:=rest)).symm)
   ·have:=(pw x S.reverse).length_eq
    simp at this ⊢
    omega
   ·show n+1 - ((S.length:Int)+1).toNat<n+1 - ((S.length:Int)).toNat
    omega
 ·cases d with
  | nil=>exact ⟨[],[],rfl,List.Pairwise.nil, .inr ⟨(by show ad (0+1)=1; rfl),by simpa using hn.symm⟩⟩
  | cons x r=>exact ⟨[x],r,rfl,by simp, .inl (by show ad (0+1)=1; rfl)⟩
theorem u4 : ∀ {l1 l2:List A3},l1.Perm l2→l1.Pairwise (fun a b=>iQ b a=false)→l2.Pairwise (fun a b=>iQ b a=false)→(∀ a∈l1,∀ b∈l1,iQ a b=false→iQ b a=false→a=b)→l1=l2
 | [],l2,hp,_,_,_=>(List.Perm.nil_eq hp)
 | a::r1,[],hp,_,_,_=>by have:=hp.length_eq; simp at this
 | a::r1,b::r2,hp,h1,h2,hd=>by
  obtain ⟨p1,q1⟩:=List.pairwise_cons.1 h1
  obtain ⟨p2,q2⟩:=List.pairwise_cons.1 h2
  have hab:a=b:=by
   have hb:b∈a::r1:=hp.mem_iff.2 (by simp)
   have ha:a∈b::r2:=hp.mem_iff.1 (by simp)
   rcases List.mem_cons.1 hb with h | hb'
   ·exact h.symm
   ·rcases List.mem_cons.1 ha with h | ha'
    ·exact h
    ·exact hd a (by simp) b hb (p2 a ha') (p1 b hb')
  subst hab
  rw [u4 ((List.perm_cons a).1 hp) q1 q2 fun x hx y hy=>hd x (List.mem_cons_of_mem _ hx) y (List.mem_cons_of_mem _ hy)]
theorem RL : ∀ k:Fin 13,(mT (IntKind.u64.wrap ((k.val:Int) - 0))).isSome=true:=by decide
theorem RZ {d:List A3} (hs : ∀ a∈d,rF a) (h12:d.length≤12) :
  ∃ r,bP (d,0,(d.length:Int))=some r∧r.Perm d∧r.reverse.Pairwise (fun a b=>iQ a b=false):=by
 obtain ⟨r,hr,hp,hq⟩:=YD hs rfl h12
 have hb:=RL ⟨d.length,by omega⟩
 obtain ⟨m,hm⟩:=Option.isSome_iff_exists.1 hb
 refine ⟨r,?_,hp,hq⟩
 have hm' : mT (IntKind.u64.wrap ((d.length:Int) - 0))=some m:=hm
 have hpdq:di (d,0,(d.length:Int)) 0 ((d.length:Int) - 0) m=some r:=by
  unfold di
  obtain ⟨r',h1,rfl⟩:=fk (f:=dB (d,0,(d.length:Int))) (fun _=>0) (fun s=>s=((0:Int),(d.length:Int) - 0,m,true,true)) (fun x=>x=r) (fun s hs=>.inl (by
   subst hs
   refine ⟨r,?_,rfl⟩
   unfold dB
   rw [show decide (ad ((d.length:Int) - 0 - 0)≤(12:Int))=true from decide_eq_true (by rw [bi (by omega) (by omega)]; omega)]
   simp only [cond_true,Int.sub_zero,hr,Option.bind_some])) rfl (by decide)
  exact h1
 unfold bP
 simp only [hm',Option.bind_some,hpdq]
open Go.Sm
theorem Gj (a b:A3):Ad a b = !(iQ b a):=by
 unfold Ad iQ
 rw [Bool.eq_iff_iff]
 simp only [Bool.or_eq_true,Bool.and_eq_true,decide_eq_true_eq,beq_iff_eq,Bool.not_eq_true',Bool.or_eq_false_iff,Bool.and_eq_false_iff,decide_eq_false_iff_not,beq_eq_false_iff_ne]
 omega
theorem ta (x:A3) : ∀ l:List A3,(rt x l).Perm (x::l)
 | []=>List.Perm.refl _
 | y::r=>by
  unfold rt
  cases Ad x y
  ·exact (List.Perm.cons y (ta x r)).trans (List.Perm.swap ..)
  ·exact List.Perm.refl _
theorem wo : ∀ l:List A3,(wZ l).Perm l
 | []=>List.Perm.refl _
 | x::r=>(ta x _).trans (List.Perm.cons x (wo r))
theorem u6 (x:A3) : ∀ l:List A3,l.Pairwise (fun a b=>iQ b a=false)→(rt x l).Pairwise (fun a b=>iQ b a=false)
 | [],_=>by simp [rt]
 | y::r,h=>by
  obtain ⟨h1,h2⟩:=List.pairwise_cons.1 h
  unfold rt
  cases hxy:Ad x y
  ·rw [Gj] at hxy
   refine List.pairwise_cons.2 ⟨fun z hz=>?_,u6 x r h2⟩
   rcases List.mem_cons.1 ((ta x r).mem_iff.1 hz) with rfl | hz
   ·exact Cg (by simpa using hxy)
   ·exact h1 z hz
  ·rw [Gj] at hxy
   have hxy:iQ y x=false:=by simpa using hxy
   refine List.pairwise_cons.2 ⟨fun z hz=>?_,h⟩
   rcases List.mem_cons.1 hz with rfl | hz
   ·exact hxy
   ·exact zo (h1 z hz) hxy
theorem tG : ∀ l:List A3,(wZ l).Pairwise (fun a b=>iQ b a=false)
 | []=>List.Pairwise.nil
 | x::r=>u6 x _ (tG r)
abbrev ER (p:A3×Bool):A3:=(p.1.1,p.1.2.1,p.2)
theorem vQ : ∀ {es:List (A3×Bool)},ud es=true→∀ a∈es.map ER,rF a
 | [],_,a,h=>by cases h
 | p::r,ho,a,h=>by
  simp only [ud,Bool.and_eq_true,decide_eq_true_eq] at ho
  rcases List.mem_cons.1 h with rfl | h
  ·exact ho.1.1
  ·exact vQ ho.2 a h
theorem BK {x:A3} {l:List (A3×Bool)} (h:OO x l=true) : ∀ a∈l.map ER,¬ (a.1=x.1∧a.2.1=x.2.1):=fun a ha=>by
 obtain ⟨p,hp,rfl⟩:=List.mem_map.1 ha
 have:=List.all_eq_true.1 h p hp
 simp only [Bool.not_eq_true',Bool.and_eq_false_iff,beq_eq_false_iff_ne] at this
 rintro ⟨h1,h2⟩
 rcases this with h | h
 ·exact h h1
 ·exact h h2
theorem xq : ∀ {es:List (A3×Bool)},ud es=true→∀ a∈es.map ER,∀ b∈es.map ER,a.1=b.1→a.2.1=b.2.1→a=b
 | [],_,a,h=>by cases h
 | p::r,ho,a,ha=>by
  intro b hb h1 h2
  simp only [ud,Bool.and_eq_true,decide_eq_true_eq] at ho
  rcases List.mem_cons.1 ha with rfl | ha
  ·rcases List.mem_cons.1 hb with rfl | hb
   ·rfl
   ·exact absurd ⟨h1.symm,h2.symm⟩ (BK ho.1.2 b hb)
  ·rcases List.mem_cons.1 hb with rfl | hb
   ·exact absurd ⟨h1,h2⟩ (BK ho.1.2 a ha)
   ·exact xq ho.2 a ha b hb h1 h2
instance instSortLaw:SortLaw:=⟨fun es d ho hp=>by
 unfold rV at ho
 obtain ⟨h12,ho⟩:=Bool.and_eq_true_iff.1 ho
 have h12:=Nat.le_of_ble_eq_true h12
 have hl:d.length≤12:=by have:=hp.length_eq; simp at this; omega
 obtain ⟨r,hr,hrp,hrs⟩:=RZ (fun a ha=>vQ ho a (hp.mem_iff.1 ha)) hl
 rw [hr]
 congr 1
 have hpp:r.Perm (es.map ER):=hrp.trans hp
 refine u4 (hpp.trans (wo _).symm) (by simpa [List.pairwise_reverse] using hrs) (tG _) fun a ha b hb h1 h2=>?_
 refine xq ho a (hpp.mem_iff.1 ha) b (hpp.mem_iff.1 hb) ?_ ?_
 ·unfold iQ at h1 h2
  simp only [Bool.or_eq_false_iff,Bool.and_eq_false_iff,decide_eq_false_iff_not,beq_eq_false_iff_ne] at h1 h2
  omega
 ·unfold iQ at h1 h2
  simp only [Bool.or_eq_false_iff,Bool.and_eq_false_iff,decide_eq_false_iff_not,beq_eq_false_iff_ne] at h1 h2
  omega⟩
end Go.Proofs.YtfhhiajfciblbaaGreatDoor
