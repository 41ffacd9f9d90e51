/- Laws for the row. No condition. -/
import Derived.Test.YtfhhiajfciblbaaGreatDoorLawM8
import Derived.Test.YtfhhiajfciblbaaGreatDoorExtT
import Derived.Test.YtfhhiajfciblbaaGreatDoorLawS8
namespace Go.Proofs.YtfhhiajfciblbaaGreatDoor
open Go.Sm
variable {s t u:aF} {c:CC} {i pc:Nat} {f:Fr} {st v g:List Int} {fs:List Fr} {w j K A N k kind o:Int} {L M:List bI} {α:Type} {m:List ((Int×Int×Bool)×Bool)}
abbrev A3:Type:=Int×Int×Bool
def ld (a:A3):Prop:=0≤a.1∧a.1<1099511627776∧0≤a.2.1∧a.2.1<1099511627776
def kQ (a b:A3):Bool:=decide (a.1<b.1)||(a.1==b.1&&decide (a.2.1<b.2.1))
theorem ai0 {a b:A3} (ha:ld a) (hb:ld b) : ∃ n:Int,dV a b=some n∧decide (n<0)=kQ a b:=by
 obtain ⟨h1,h2,h3,h4⟩:=ha
 obtain ⟨g1,g2,g3,g4⟩:=hb
 by_cases h:a.1=b.1
 ·have e:dV a b=some (ad (a.2.1 - b.2.1)):=by
   unfold dV
   grind
  refine ⟨_,e,?_⟩
  rw [aY (by omega) (by omega)]
  unfold kQ
  grind
 ·have e:dV a b=some (ad (a.1 - b.1)):=by
   unfold dV
   grind
  refine ⟨_,e,?_⟩
  rw [aY (by omega) (by omega)]
  unfold kQ
  grind
def kT (x:A3):List A3→List A3
 | []=>[x]
 | y::r=>if kQ x y then y::kT x r else x::y::r
theorem Dp (pre:List A3) (x:A3) (rest:List A3) {i:Int} (h:i=(pre.length:Int)):ac (pre++x::rest) i=some x:=by
 subst h
 unfold ac
 simp
theorem YF {n:Nat} {d0:List A3} {pre rest:List A3} {x:A3} (hs : ∀ a∈pre++x::rest,ld a) (hn:(pre++x::rest).length=n) (h12:n≤12) :
  ∃ r,Itr.it (dC (d0,0,(n:Int)) 0) ((pre.length:Int),pre++x::rest)=some r∧r=(kT x pre.reverse).reverse++rest:=by
 obtain ⟨R,hR⟩ : ∃ R,R=(kT x pre.reverse).reverse++rest:=⟨_,rfl⟩
 rw [← hR]
 refine fw (fun s=>s.1.toNat) (fun s=>∃ pre x rest,s=((pre.length:Int),pre++x::rest)∧R=(kT x pre.reverse).reverse++rest∧(∀ a∈pre++x::rest,ld a)∧(pre++x::rest).length=n) (fun r=>r=R) ?_ ⟨pre,x,rest,rfl,hR,hs,hn⟩ (by grind)
 rintro s ⟨pre,x,rest,rfl,hR,hs,hn⟩
 rcases List.eq_nil_or_concat pre with rfl | ⟨pre',y,rfl⟩
 ·left
  refine ⟨x::rest,rfl,?_⟩
  rw [hR]; rfl
 ·rw [List.concat_eq_append] at *
  have hlen:pre'.length+rest.length+2=n:=by grind
  have hj:(((pre' ++ [y]).length:Nat):Int)=(pre'.length:Int)+1:=by simp
  have hw:ad ((pre'.length:Int)+1 - 1)=(pre'.length:Int):=by rw [aY (by omega) (by omega)]; omega
  have e0:ac ((pre' ++ [y])++x::rest) (0+((pre'.length:Int)+1))=some x:=Dp _ _ _ (by simp)
  have e1:ac ((pre' ++ [y])++x::rest) (0+(pre'.length:Int))=some y:=by
   rw [Yi]
   exact Dp pre' y (x::rest) (by simp)
  obtain ⟨m,hm,hlt⟩:=ai0 (hs x (by simp)) (hs y (by simp))
  have c1:decide ((0:Int)<(pre'.length:Int)+1)=true:=aeT (by omega)
  have c2:decide ((0:Int)≤(pre'.length:Int)+1∧(pre'.length:Int)+1<(n:Int) - 0)=true:=aeT (by omega)
  have c3:decide ((0:Int)≤(pre'.length:Int)∧(pre'.length:Int)<(n:Int) - 0)=true:=aeT (by omega)
  rw [hj]
  have hR' : R=(kT x (y::pre'.reverse)).reverse++rest:=by rw [hR]; simp
  unfold dC
  simp only [c1,c2,c3,hw,e0,e1,hm,hlt,af,f9,XO,agH,f7,Zj]
  cases hxy:kQ x y
  ·left
   refine ⟨_,rfl,?_⟩
   rw [hR',kT,if_neg (by simp [hxy])]
   simp
  ·right
   have s1:((pre' ++ [y])++x::rest).set (0+((pre'.length:Int)+1)).toNat y=pre' ++ y::y::rest:=by
    grind
   have e2:ac (pre' ++ y::y::rest) (0+(pre'.length:Int))=some y:=Dp _ _ _ (by simp)
   have s2:(pre' ++ y::y::rest).set (0+(pre'.length:Int)).toNat x=pre' ++ x::y::rest:=by
    simp_all
   refine ⟨((pre'.length:Int),pre' ++ x::y::rest),?_,⟨pre',x,y::rest,rfl,?_,?_,by simp; omega⟩,by simp⟩
   ·grind
   ·rw [hR',kT,if_pos hxy]; simp
   grind
theorem se (x:A3) : ∀ l:List A3,(kT x l).Perm (x::l)
 | []=>ae3 _
 | y::r=>by
  unfold kT
  split
  ·exact (List.Perm.cons y (se x r)).trans (List.Perm.swap ..)
  grind
theorem Fk {x y:A3} (h:kQ x y=true):kQ y x=false:=by
 unfold kQ at h ⊢
 grind
theorem Dh {x y z:A3} (h:kQ x y=false) (k:kQ y z=false):kQ x z=false:=by
 unfold kQ at h k ⊢
 grind
theorem yg (x:A3) : ∀ l:List A3,l.Pairwise (fun a b=>kQ a b=false)→(kT x l).Pairwise (fun a b=>kQ a b=false)
 | [],_=>by simp [kT]
 | y::r,h=>by
  obtain ⟨h1,h2⟩:=YU.1 h
  unfold kT
  split
  ·rename_i hxy
   refine YU.2 ⟨fun z hz=>?_,yg x r h2⟩
   rcases Xb.1 ((se x r).mem_iff.1 hz) with rfl | hz
   ·exact Fk hxy
   grind
  ·rename_i hxy
   have hxy:kQ x y=false:=by grind
   refine YU.2 ⟨fun z hz=>?_,h⟩
   rcases Xb.1 hz with rfl | hz
   ·exact hxy
   ·exact Dh hxy (h1 z hz)
theorem af6 {n:Nat} {d:List A3} (hs : ∀ a∈d,ld a) (hn:d.length=n) (h12:n≤12) :
  ∃ r,df (d,0,(n:Int)) 0 n=some r∧r.Perm d∧r.reverse.Pairwise (fun a b=>kQ a b=false):=by
 unfold df
 refine fw (fun s:Int×List A3=>(n+1 - s.1.toNat)) (fun s:Int×List A3=>s.2.Perm d∧(∃ S rest:List A3,s.2=S++rest∧S.reverse.Pairwise (fun a b=>kQ a b=false)∧((s.1=(S.length:Int))∨(s.1=1∧n=0)))) (fun r:List A3=>r.Perm d∧r.reverse.Pairwise (fun a b=>kQ a b=false)) ?_ ⟨ae3 _,?_⟩ (by grind)
 ·rintro ⟨i,data⟩ ⟨hp,S,rest,hd,hS,hi⟩
  simp only at hp hd hi
  subst hd
  have hl:=hp.length_eq
  simp only [Wu] at hl
  unfold fI
  cases rest with
  | nil=>
   grind
  | cons x rest=>
   right
   simp only [XM] at hl
   have hi' : i=(S.length:Int):=by omega
   subst hi'
   obtain ⟨r,hr,rfl⟩:=YF (n:=n) (d0:=d) (pre:=S) (x:=x) (rest:=rest) (fun a ha=>hs a (hp.mem_iff.1 ha)) (by grind) h12
   refine ⟨((S.length:Int)+1,(kT x S.reverse).reverse++rest),?_,⟨?_,(kT x S.reverse).reverse,rest,rfl,by simpa using yg x _ hS, .inl ?_⟩,?_⟩
   ·rw [show decide ((S.length:Int)<(n:Int))=true from aeT (by omega)]
    simp only [f9,hr,f7,Zj]
    rw [aY (by omega) (by omega)]
   ·refine List.Perm.trans ?_ hp
    have h1:(kT x S.reverse).reverse.Perm (x::S):=(List.reverse_perm _).trans ((se x _).trans (List.Perm.cons x (List.reverse_perm S)))
    grind
   ·have:=(se x S.reverse).length_eq
    grind
   grind
 ·cases d with
  | nil=>exact ⟨[],[],rfl,List.Pairwise.nil, .inr ⟨(by rfl),by grind⟩⟩
  | cons x r=>exact ⟨[x],r,rfl,by simp, .inl (by rfl)⟩
theorem yk : ∀ {l1 l2:List A3},l1.Perm l2→l1.Pairwise (fun a b=>kQ b a=false)→l2.Pairwise (fun a b=>kQ b a=false)→(∀ a∈l1,∀ b∈l1,kQ a b=false→kQ b a=false→a=b)→l1=l2
 | [],l2,hp,_,_,_=>(List.Perm.nil_eq hp)
 | a::r1,[],hp,_,_,_=>by simp_all
 | a::r1,b::r2,hp,h1,h2,hd=>by
  obtain ⟨p1,q1⟩:=YU.1 h1
  obtain ⟨p2,q2⟩:=YU.1 h2
  have hab:a=b:=by
   have hb:b∈a::r1:=hp.mem_iff.2 (by simp)
   grind
  subst hab
  rw [yk ((List.perm_cons a).1 hp) q1 q2 fun x hx y hy=>hd x (Wq _ hx) y (Wq _ hy)]
theorem Xf : ∀ k:Fin 13,(pV (IntKind.u64.wrap ((k.val:Int) - 0))).isSome=true:=by decide
theorem WL {d:List A3} (hs : ∀ a∈d,ld a) (h12:d.length≤12) :
  ∃ r,cq (d,0,(d.length:Int))=some r∧r.Perm d∧r.reverse.Pairwise (fun a b=>kQ a b=false):=by
 obtain ⟨r,hr,hp,hq⟩:=af6 hs rfl h12
 have hb:=Xf ⟨d.length,by omega⟩
 obtain ⟨m,hm⟩:=aez.1 hb
 refine ⟨r,?_,hp,hq⟩
 have hm' : pV (IntKind.u64.wrap ((d.length:Int) - 0))=some m:=hm
 have hpdq:dU (d,0,(d.length:Int)) 0 ((d.length:Int) - 0) m=some r:=by
  unfold dU
  obtain ⟨r',h1,rfl⟩:=fw (f:=eu (d,0,(d.length:Int))) (fun _=>0) (fun s=>s=((0:Int),(d.length:Int) - 0,m,true,true)) (fun x=>x=r) (fun s hs=>.inl (by
   subst hs
   refine ⟨r,?_,rfl⟩
   unfold eu
   rw [show decide (ad ((d.length:Int) - 0 - 0)≤(12:Int))=true from aeT (by rw [aY (by omega) (by omega)]; omega)]
   grind)) rfl (by decide)
  exact h1
 unfold cq
 grind
theorem IP (a b:A3):Ca a b = !(kQ b a):=by
 unfold Ca kQ
 grind
theorem vN (x:A3) : ∀ l:List A3,(uI x l).Perm (x::l)
 | []=>ae3 _
 | y::r=>by
  unfold uI
  cases Ca x y
  ·exact (List.Perm.cons y (vN x r)).trans (List.Perm.swap ..)
  grind
theorem uH : ∀ l:List A3,(zO l).Perm l
 | []=>ae3 _
 | x::r=>(vN x _).trans (List.Perm.cons x (uH r))
theorem yp (x:A3) : ∀ l:List A3,l.Pairwise (fun a b=>kQ b a=false)→(uI x l).Pairwise (fun a b=>kQ b a=false)
 | [],_=>by simp [uI]
 | y::r,h=>by
  obtain ⟨h1,h2⟩:=YU.1 h
  unfold uI
  cases hxy:Ca x y
  ·rw [IP] at hxy
   refine YU.2 ⟨fun z hz=>?_,yp x r h2⟩
   rcases Xb.1 ((vN x r).mem_iff.1 hz) with rfl | hz
   ·exact Fk (by grind)
   grind
  ·rw [IP] at hxy
   have hxy:kQ y x=false:=by grind
   refine YU.2 ⟨fun z hz=>?_,h⟩
   rcases Xb.1 hz with rfl | hz
   ·exact hxy
   ·exact Dh (h1 z hz) hxy
theorem rJ : ∀ l:List A3,(zO l).Pairwise (fun a b=>kQ b a=false)
 | []=>List.Pairwise.nil
 | x::r=>yp x _ (rJ r)
abbrev je (p:A3×Bool):A3:=(p.1.1,p.1.2.1,p.2)
theorem zw : ∀ {es:List (A3×Bool)},sK es=true→∀ a∈es.map je,ld a
 | [],_,a,h=>by cases h
 | p::r,ho,a,h=>by
  simp only [sK,Wp,Z4] at ho
  rcases Xb.1 h with rfl | h
  ·exact ho.1.1
  ·exact zw ho.2 a h
theorem Fj {x:A3} {l:List (A3×Bool)} (h:Dj x l=true) : ∀ a∈l.map je,¬ (a.1=x.1∧a.2.1=x.2.1):=fun a ha=>by
 obtain ⟨p,hp,rfl⟩:=W6.1 ha
 have:=W3.1 h p hp
 grind
theorem AX : ∀ {es:List (A3×Bool)},sK es=true→∀ a∈es.map je,∀ b∈es.map je,a.1=b.1→a.2.1=b.2.1→a=b
 | [],_,a,h=>by cases h
 | p::r,ho,a,ha=>by
  intro b hb h1 h2
  simp only [sK,Wp,Z4] at ho
  rcases Xb.1 ha with rfl | ha
  ·rcases Xb.1 hb with rfl | hb
   ·rfl
   ·exact absurd ⟨h1.symm,h2.symm⟩ (Fj ho.1.2 b hb)
  ·rcases Xb.1 hb with rfl | hb
   ·exact absurd ⟨h1,h2⟩ (Fj ho.1.2 a ha)
   ·exact AX ho.2 a ha b hb h1 h2
instance instSortLaw:SortLaw:=⟨fun es d ho hp=>by
 unfold qX at ho
 obtain ⟨h12,ho⟩:=Bool.and_eq_true_iff.1 ho
 have h12:=Wt h12
 have hl:d.length≤12:=by have:=hp.length_eq; simp at this; omega
 obtain ⟨r,hr,hrp,hrs⟩:=WL (fun a ha=>zw ho a (hp.mem_iff.1 ha)) hl
 rw [hr]
 congr 1
 have hpp:r.Perm (es.map je):=hrp.trans hp
 refine yk (hpp.trans (uH _).symm) (by simpa [List.pairwise_reverse] using hrs) (rJ _) fun a ha b hb h1 h2=>?_
 refine AX ho a (hpp.mem_iff.1 ha) b (hpp.mem_iff.1 hb) ?_ ?_
 ·unfold kQ at h1 h2
  simp only [Zp,aaH,ZL,XT] at h1 h2
  omega
 ·unfold kQ at h1 h2
  simp only [Zp,aaH,ZL,XT] at h1 h2
  omega⟩
set_option linter.unusedVariables false
set_option maxRecDepth 4000
def bg:List bI→Int→Int→Option Bool
 | [],_,_=>none
 | y::r,k,o=>if y.1=k∧y.2.1=o then some y.2.2 else bg r k o
def lI (a b:bI):Prop:=a.1<b.1∨(a.1=b.1∧a.2.1<b.2.1)
instance (a b:bI):Decidable (lI a b):=by unfold lI; infer_instance
def qy (l:List bI):Prop:=l.Pairwise lI
theorem yH {l:List bI} (h : ∀ y∈l,¬ (y.1=k∧y.2.1=o)):bg l k o=none:=by
 induction l with
 | nil=>rfl
 | cons y r ih=>
  unfold bg
  grind
theorem sR {l:List bI} {b:Bool} (h:bg l k o=some b):(k,o,b)∈l:=by
 induction l with
 | nil=>cases h
 | cons y r ih=>
  unfold bg at h
  grind
theorem Fm : ∀ {l1 l2:List bI},qy l1→qy l2→(∀ k o,bg l1 k o=bg l2 k o)→l1=l2
 | [],[],_,_,_=>rfl
 | [],b::r,_,_,h=>by
  have:=h b.1 b.2.1
  unfold bg at this
  grind
 | a::r,[],_,_,h=>by
  have:=h a.1 a.2.1
  unfold bg at this
  grind
 | a::r1,b::r2,h1,h2,h=>by
  obtain ⟨a1,s1⟩:=YU.1 h1
  obtain ⟨b1,s2⟩:=YU.1 h2
  have ha:=h a.1 a.2.1
  have hb:=h b.1 b.2.1
  unfold bg at ha hb
  rw [if_pos ⟨rfl,rfl⟩] at ha
  rw [if_pos (show b.1=b.1∧b.2.1=b.2.1 from ⟨rfl,rfl⟩)] at hb
  have hk:a.1=b.1∧a.2.1=b.2.1:=by
   by_cases hab:b.1=a.1∧b.2.1=a.2.1
   ·grind
   ·exfalso
    rw [if_neg hab] at ha
    rw [if_neg (fun hh=>hab ⟨hh.1.symm,hh.2.symm⟩)] at hb
    have p:=b1 _ (sR ha.symm)
    have q:=a1 _ (sR hb)
    unfold lI at p q
    grind
  have e:a=b:=by
   grind
  subst e
  rw [Fm s1 s2 fun k o=>by
   by_cases hq:a.1=k∧a.2.1=o
   ·rw [yH (fun y hy hz=>by have:=a1 y hy; unfold lI at this; omega),yH (fun y hy hz=>by have:=b1 y hy; unfold lI at this; omega)]
   ·have:=h k o
    unfold bg at this
    grind]
def tm (L:List bI) (k o:Int):Option Bool:=if L.any (fun a=>decide (a.1=k∧a.2.1=o))=true then some (L.any fun a=>decide (a.1=k∧a.2.1=o)&&a.2.2) else none
theorem aaP (h:L.Perm M) (k o:Int):tm L k o=tm M k o:=by
 unfold tm
 grind
theorem JP (L:List bI) (x:bI) (k o:Int):tm (L++[x]) k o=if x.1=k∧x.2.1=o then some ((tm L k o).getD false||x.2.2) else tm L k o:=by
 unfold tm
 grind
def mH (x:bI):List bI→List bI
 | []=>[x]
 | y::r=>if lI y x then y::mH x r else if lI x y then x::y::r else (y.1,y.2.1,y.2.2||x.2.2)::r
theorem Lr {x z:bI} : ∀ {l:List bI},z∈mH x l→(z.1=x.1∧z.2.1=x.2.1)∨z∈l
 | [],h=>by
  rcases Wz.1 h with rfl
  grind
 | y::r,h=>by
  unfold mH at h
  split at h
  ·rcases Xb.1 h with rfl | h
   ·grind
   ·rcases Lr h with h | h
    ·exact .inl h
    grind
  ·split at h
   ·grind
   ·rename_i h1 h2
    rcases Xb.1 h with rfl | h
    ·left
     unfold lI at h1 h2
     grind
    grind
theorem AY (x:bI) : ∀ {l:List bI},qy l→qy (mH x l)
 | [],_=>aju _ _
 | y::r,h=>by
  obtain ⟨h1,h2⟩:=YU.1 h
  unfold mH
  split
  ·rename_i hyx
   refine YU.2 ⟨fun z hz=>?_,AY x h2⟩
   rcases Lr hz with hz | hz
   ·unfold lI at hyx ⊢; omega
   grind
  ·split
   ·rename_i hyx hxy
    refine YU.2 ⟨fun z hz=>?_,h⟩
    rcases Xb.1 hz with rfl | hz
    ·exact hxy
    ·have:=h1 z hz
     unfold lI at this hxy ⊢
     omega
   ·exact YU.2 ⟨fun z hz=>by have:=h1 z hz; unfold lI at this ⊢; exact this,h2⟩
theorem Fqw (x:bI) (k o:Int) : ∀ {l:List bI},qy l→bg (mH x l) k o=if x.1=k∧x.2.1=o then some ((bg l k o).getD false||x.2.2) else bg l k o
 | [],_=>by
  rfl
 | y::r,h=>by
  obtain ⟨h1,h2⟩:=YU.1 h
  unfold mH
  split
  ·rename_i hyx
   unfold bg
   rw [Fqw x k o h2]
   by_cases hq:x.1=k∧x.2.1=o
   ·rw [if_pos hq,if_pos hq,if_neg (by unfold lI at hyx; omega),if_neg (by unfold lI at hyx; omega)]
   grind
  ·split
   ·rename_i hyx hxy
    conv=>lhs; unfold bg
    by_cases hq:x.1=k∧x.2.1=o
    ·rw [if_pos hq,if_pos hq,yH (l:=y::r) fun z hz hh=>by
      rcases Xb.1 hz with rfl | hz
      ·unfold lI at hxy; omega
      ·have:=h1 z hz
       unfold lI at this hxy
       omega]
     rfl
    grind
   ·rename_i hyx hxy
    have he:y.1=x.1∧y.2.1=x.2.1:=by unfold lI at hyx hxy; omega
    unfold bg
    grind
theorem B3 : ∀ (L M:List bI) {l:List bI},qy l→(∀ k o,bg l k o=tm M k o)→qy (L.foldl (fun l x=>mH x l) l)∧∀ k o,bg (L.foldl (fun l x=>mH x l) l) k o=tm (M++L) k o
 | [],M,l,h1,h2=>by grind
 | x::L,M,l,h1,h2=>by
  have:=B3 L (M++[x]) (l:=mH x l) (AY x h1) (fun k o=>by rw [Fqw x k o h1,JP,h2])
  grind
structure MapOk (m:List ((Int×Int×Bool)×Bool)):Prop where
 key : ∀ p∈m,p.1.2.2=false
 ne:m.Pairwise fun p q=>¬ (p.1.1=q.1.1∧p.1.2.1=q.1.2.1)
theorem Vv (x:bI) (q:Int×Int×Bool) (hq:q.2.2=false):ae.eqD (x.1,x.2.1,false) q=decide (q.1=x.1∧q.2.1=x.2.1):=by
 obtain ⟨q1,q2,q3⟩:=q
 dsimp only at hq
 subst hq
 simp only [TC.eqD]
 grind
theorem aav (h : ∀ p∈m,p.1.2.2=false) (x:bI):du ae (.sc .bool) (x.1,x.2.1,false) m=bg (m.map je) x.1 x.2.1:=by
 unfold du
 induction m with
 | nil=>rfl
 | cons p r ih=>
  have hp:=h p (W7 ..)
  have ih:=ih fun q hq=>h q (Wq _ hq)
  rw [List.find?_cons,Vv x p.1 hp,XH]
  unfold bg
  grind
theorem ED {x:bI} {b:Bool} {z:(Int×Int×Bool)×Bool} : ∀ {m:List ((Int×Int×Bool)×Bool)},z∈cR ae (.sc .bool) (x.1,x.2.1,false) b m→z=((x.1,x.2.1,false),b)∨z∈m
 | [],h=>.inl (Wz.1 h)
 | p::r,h=>by
  unfold cR at h
  unfold xj at h
  cases hq:ae.eqD (x.1,x.2.1,false) p.1
  ·rw [hq] at h
   rcases Xb.1 h with h | h
   ·grind
   ·rcases ED h with h | h
    ·exact .inl h
    grind
  grind
theorem NE (x:bI) (b:Bool) : ∀ {m:List ((Int×Int×Bool)×Bool)},MapOk m→MapOk (cR ae (.sc .bool) (x.1,x.2.1,false) b m)∧(∀ k o,bg ((cR ae (.sc .bool) (x.1,x.2.1,false) b m).map je) k o=if x.1=k∧x.2.1=o then some b else bg (m.map je) k o)∧(cR ae (.sc .bool) (x.1,x.2.1,false) b m).length≤m.length+1
 | [],_=>⟨⟨fun p hp=>by rcases Wz.1 hp with rfl; rfl,aju _ _⟩,fun k o=>rfl,Xw _⟩
 | p::r,h=>by
  obtain ⟨h1,h2⟩:=YU.1 h.ne
  have hp:=h.key p (W7 ..)
  have ih:=NE x b (m:=r) ⟨fun q hq=>h.key q (Wq _ hq),h2⟩
  have e:cR ae (.sc .bool) (x.1,x.2.1,false) b (p::r)=bif decide (p.1.1=x.1∧p.1.2.1=x.2.1) then ((x.1,x.2.1,false),b)::r else p::cR ae (.sc .bool) (x.1,x.2.1,false) b r:=by
   rw [← Vv x p.1 hp]
   rfl
  rw [e]
  by_cases hk:p.1.1=x.1∧p.1.2.1=x.2.1
  ·rw [aeT hk]
   refine ⟨⟨fun q hq=>?_,YU.2 ⟨fun q hq=>by grind,h2⟩⟩,fun k o=>?_,by simp⟩
   ·rcases Xb.1 hq with rfl | hq
    ·rfl
    ·exact h.key q (Wq _ hq)
   ·show (if x.1=k∧x.2.1=o then some b else bg (r.map je) k o)=if x.1=k∧x.2.1=o then some b else if p.1.1=k∧p.1.2.1=o then some p.2 else bg (r.map je) k o
    grind
  ·rw [ajI hk]
   refine ⟨⟨fun q hq=>?_,YU.2 ⟨fun q hq=>?_,ih.1.ne⟩⟩,fun k o=>?_,by grind⟩
   ·rcases Xb.1 hq with rfl | hq
    ·exact hp
    ·exact ih.1.key q hq
   ·rcases ED hq with rfl | hq
    ·exact hk
    grind
   ·show (if p.1.1=k∧p.1.2.1=o then some p.2 else bg ((cR ae (.sc .bool) (x.1,x.2.1,false) b r).map je) k o)=if x.1=k∧x.2.1=o then some b else if p.1.1=k∧p.1.2.1=o then some p.2 else bg (r.map je) k o
    grind
theorem Xe (x:bI) (h:MapOk m):MapOk (cB m x)∧(∀ k o,bg ((cB m x).map je) k o=if x.1=k∧x.2.1=o then some ((bg (m.map je) k o).getD false||x.2.2) else bg (m.map je) k o)∧(cB m x).length≤m.length+1:=by
 unfold cB
 rw [aav h.key x]
 obtain ⟨a,b,c⟩:=NE x (bif (bg (m.map je) x.1 x.2.1).getD false then true else x.2.2) h
 grind
theorem C0 : ∀ (L M:List bI) {m:List ((Int×Int×Bool)×Bool)},MapOk m→m.length≤M.length→(∀ k o,bg (m.map je) k o=tm M k o)→MapOk (L.foldl cB m)∧(L.foldl cB m).length≤(M++L).length∧∀ k o,bg ((L.foldl cB m).map je) k o=tm (M++L) k o
 | [],M,m,h1,h3,h2=>by grind
 | x::L,M,m,h1,h3,h2=>by
  obtain ⟨a,b,c⟩:=Xe x h1
  have:=C0 L (M++[x]) (m:=cB m x) a (by grind) (fun k o=>by rw [b k o,JP,h2])
  grind
set_option linter.unusedSimpArgs false
def jJ (x:bI):List bI→Nat
 | []=>0
 | y::r=>if lI y x then jJ x r+1 else 0
theorem Kp (x:bI) : ∀ l,jJ x l≤l.length
 | []=>Xw _
 | y::r=>by
  have:=Kp x r
  unfold jJ
  grind
theorem UG {x:bI} : ∀ {l:List bI} {a:Nat},a<jJ x l→lI (l.getD a (0,0,false)) x
 | [],_,h=>by cases h
 | y::r,a,h=>by
  unfold jJ at h
  split at h
  ·cases a with
   | zero=>assumption
   | succ a=>exact UG (l:=r) (a:=a) (by omega)
  ·cases h
theorem OO {x:bI} : ∀ {l:List bI},jJ x l<l.length→¬ lI (l.getD (jJ x l) (0,0,false)) x
 | [],h=>by cases h
 | y::r,h=>by
  unfold jJ at h ⊢
  split
  ·rename_i hy
   rw [if_pos hy] at h
   exact OO (l:=r) (by grind)
  ·assumption
theorem VV (x:bI) : ∀ (l:List bI),mH x l=if jJ x l<l.length∧¬ lI x (l.getD (jJ x l) (0,0,false)) then l.set (jJ x l) ((l.getD (jJ x l) (0,0,false)).1,(l.getD (jJ x l) (0,0,false)).2.1,(l.getD (jJ x l) (0,0,false)).2.2||x.2.2) else l.take (jJ x l)++[x]++l.drop (jJ x l)
 | []=>rfl
 | y::r=>by
  unfold mH jJ
  by_cases hy:lI y x
  ·rw [if_pos hy,if_pos hy,VV x r]
   grind
  grind
theorem zE (a b:bI):i9 a b=some (decide (lI a b)):=by
 unfold i9 lI
 grind
theorem XS {bw:List bI} (hi:i<L.length) (ho:bw.length≤1000):Itr.it (fm L (bw,(i:Int))) 0=some ((jJ (L.getD i (0,0,false)) bw:Nat):Int):=
 dc (f:=fm L (bw,(i:Int))) (fun y=>bw.length - y.toNat) (fun _=>((jJ (L.getD i (0,0,false)) bw:Nat):Int)) (fun y=>∃ a:Nat,y=(a:Int)∧a≤jJ (L.getD i (0,0,false)) bw)
  (fun y hy=>by
   obtain ⟨a,rfl,ha⟩:=hy
   have hle:=Kp (L.getD i (0,0,false)) bw
   have ex:ac L (i:Int)=some (L.getD i (0,0,false)):=aB _ hi
   rcases XJ a (jJ (L.getD i (0,0,false)) bw) with hlt | hge
   ·right
    refine ⟨((a+1:Nat):Int),?_,⟨a+1,rfl,by omega⟩,by omega,rfl⟩
    unfold fm
    have eo:ac bw (a:Int)=some (bw.getD a (0,0,false)):=aB _ (by omega)
    simp only [aq (show (a:Int)<(bw.length:Int) by omega),f9,eo,ex,f7,Zj,zE,aq (UG hlt),aY (x:=(a:Int)+1) (by omega) (by omega)]
    rfl
   ·left
    have:a=jJ (L.getD i (0,0,false)) bw:=by omega
    subst this
    unfold fm
    by_cases hl:jJ (L.getD i (0,0,false)) bw<bw.length
    ·have eo:ac bw ((jJ (L.getD i (0,0,false)) bw:Nat):Int)=some (bw.getD (jJ (L.getD i (0,0,false)) bw) (0,0,false)):=aB _ hl
     simp only [aq (show ((jJ (L.getD i (0,0,false)) bw:Nat):Int)<(bw.length:Int) by omega),f9,eo,ex,f7,Zj,zE,aE (OO hl),no]
    grind)
  (s:=0) ⟨0,rfl,by omega⟩ (by grind)
theorem ajZ {bw:List bI} (hi:i<L.length) (ho:bw.length≤1000):mG L (bw,(i:Int))=some (mH (L.getD i (0,0,false)) bw):=by
 unfold mG
 have ex:ac L (i:Int)=some (L.getD i (0,0,false)):=aB _ hi
 rw [XS hi ho,VV]
 generalize L.getD i (0,0,false)=x at *
 have hle:=Kp x bw
 generalize jJ x bw=n at *
 simp only [f7,Zj]
 have rest : ∀ q:Bool,q=false→(bif q then ((ac bw (n:Int)).bind fun _=>(ac bw (n:Int)).bind fun v17=>(bif !v17.2.2 then ac L (i:Int) else some ((0:Int),(0:Int),false)).bind fun _=>(bif !v17.2.2 then ac L (i:Int) else some ((0:Int),(0:Int),false)).bind fun v19=>(ac bw (n:Int)).bind fun _=>(ac bw (n:Int)).bind fun v21=>some (bw.set (n:Int).toNat (v21.1,(v21.2.1,bif v17.2.2 then true else v19.2.2))))
   else af (decide (0≤(n:Int)∧(n:Int)≤bw.length)) (af (aK ([]:List bI).length (bw.take (n:Int).toNat).length 24) ((ac L (i:Int)).bind fun _=>(ac L (i:Int)).bind fun v23=>af (aK (([]:List bI)++(bw.take (n:Int).toNat)).length ([v23]:List bI).length 24) (af (decide (0≤(n:Int)∧(n:Int)≤(bw.length:Int)∧(bw.length:Int)≤bw.length)) (af (aK ((([]:List bI)++(bw.take (n:Int).toNat))++([v23]:List bI)).length ((bw.take (bw.length:Int).toNat).drop (n:Int).toNat).length 24) (some (((([]:List bI)++(bw.take (n:Int).toNat))++([v23]:List bI))++((bw.take (bw.length:Int).toNat).drop (n:Int).toNat))))))))=some (bw.take n++[x]++bw.drop n):=by
  rintro _ rfl
  have hlen:(bw.take n).length=n:=by grind
  have hdr:(bw.drop n).length=bw.length - n:=aaT
  have a1:aK 0 n 24=true:=ba (by omega) (by omega)
  have a2:aK n 1 24=true:=ba (by omega) (by omega)
  have a3:aK (n+1) (bw.length - n) 24=true:=ba (by omega) (by omega)
  simp only [no,aq (show 0≤(n:Int)∧(n:Int)≤bw.length by omega),aq (show 0≤(n:Int)∧(n:Int)≤(bw.length:Int)∧(bw.length:Int)≤bw.length by omega),af,f9,W4,List.length_nil,Yv,agd,Wu,Wr,hlen,hdr,a1,a2,a3,ex,f7,Zj]
 by_cases hl:n<bw.length
 ·have eo:ac bw (n:Int)=some (bw.getD n (0,0,false)):=aB _ hl
  rw [aq (show (n:Int)<(bw.length:Int) by omega)]
  simp only [f9,ex,eo,f7,Zj,zE]
  by_cases hx:lI x (bw.getD n (0,0,false))
  ·grind
  ·rw [if_pos ⟨hl,hx⟩,aE hx]
   simp only [Xo,f9,W4]
   generalize bw.getD n (0,0,false)=y
   grind
 grind
theorem OU (x:bI) : ∀ l:List bI,(mH x l).length≤l.length+1
 | []=>Xw _
 | y::r=>by
  have:=OU x r
  unfold mH
  grind
def nL (L:List bI):List bI:=L.foldl (fun l x=>mH x l) []
theorem SU (L:List bI) (x:bI):nL (L++[x])=mH x (nL L):=by
 unfold nL
 grind
theorem Mr : ∀ (L l:List bI),(L.foldl (fun l x=>mH x l) l).length≤l.length+L.length
 | [],l=>Xw _
 | x::L,l=>by
  have:=Mr L (mH x l)
  have:=OU x l
  grind
theorem FG (L:List bI):(nL L).length≤L.length:=by
 have:=Mr L []
 simpa [nL] using this
theorem LP (hn:L.length≤1000):fg L=some (nL L):=by
 unfold fg
 rw [dc (f:=gW L) (fun y=>L.length - y.2.toNat) (fun _=>nL L) (fun y=>∃ i:Nat,y=(nL (L.take i),(i:Int))∧i≤L.length)
  (fun y hy=>by
   obtain ⟨i,rfl,hi⟩:=hy
   rcases XJ i L.length with hlt | hge
   ·right
    refine ⟨(nL (L.take (i+1)),((i+1:Nat):Int)),?_,⟨i+1,rfl,by omega⟩,by grind,rfl⟩
    have hl:=FG (L.take i)
    rw [Xz] at hl
    unfold gW
    simp only [aq (show (i:Int)<(L.length:Int) by omega),f9,ajZ hlt (show (nL (L.take i)).length≤1000 by omega),f7,Zj,eW (0,0,false) hlt,SU,aY (x:=(i:Int)+1) (by omega) (by omega)]
    rfl
   ·left
    have:i=L.length:=by omega
    subst this
    unfold gW
    grind) (s:=([],0)) ⟨0,rfl,by omega⟩ (by grind)]
 rfl
theorem A5 {k o:Int} {b:Bool} : ∀ {l:List bI},l.Pairwise (fun p q=>¬ (p.1=q.1∧p.2.1=q.2.1))→(k,o,b)∈l→bg l k o=some b
 | [],_,h=>by cases h
 | y::r,hp,h=>by
  obtain ⟨h1,h2⟩:=YU.1 hp
  unfold bg
  rcases Xb.1 h with rfl | h
  ·grind
  ·rw [if_neg (h1 _ h)]
   exact A5 h2 h
theorem Fa {l1 l2:List bI} (h:l1.Perm l2) (hp:l2.Pairwise (fun p q=>¬ (p.1=q.1∧p.2.1=q.2.1))):l1.Pairwise (fun p q=>¬ (p.1=q.1∧p.2.1=q.2.1)):=
 (h.pairwise_iff (fun {a b} hab hh=>hab ⟨hh.1.symm,hh.2.symm⟩)).2 hp
theorem U8 {l1 l2:List bI} (h:l1.Perm l2) (hp:l2.Pairwise (fun p q=>¬ (p.1=q.1∧p.2.1=q.2.1))) (k o:Int):bg l1 k o=bg l2 k o:=by
 have hp1:=Fa h hp
 cases h1:bg l1 k o with
 | some b=>exact (A5 hp (h.mem_iff.1 (sR h1))).symm
 | none=>
  cases h2:bg l2 k o with
  | none=>rfl
  | some b=>
   rw [A5 hp1 (h.mem_iff.2 (sR h2))] at h1
   cases h1
theorem VK (h:MapOk m):qy (tn m)∧∀ k o,bg (tn m) k o=bg (m.map je) k o:=by
 have hd:(m.map je).Pairwise (fun p q=>¬ (p.1=q.1∧p.2.1=q.2.1)):=by
  rw [List.pairwise_map]
  exact h.ne
 have hp:=uH (m.map je)
 have hs:=rJ (m.map je)
 refine ⟨?_,U8 hp hd⟩
 refine (hs.and (Fa hp hd)).imp fun {a b} hab=>?_
 obtain ⟨h1,h2⟩:=hab
 unfold kQ at h1
 simp only [Zp,ZL,aaH,XT] at h1
 unfold lI
 omega
theorem E4 (P:Int→Int→Prop) : ∀ (L:List bI) {m:List ((Int×Int×Bool)×Bool)},(∀ p∈m,P p.1.1 p.1.2.1)→(∀ a∈L,P a.1 a.2.1)→∀ p∈L.foldl cB m,P p.1.1 p.1.2.1
 | [],m,h1,_=>h1
 | x::L,m,h1,h2=>E4 P L (m:=cB m x) (fun p hp=>by
   rcases ED hp with rfl | hp
   ·grind
   grind) fun a ha=>h2 a (Wq _ ha)
theorem ET : ∀ {m:List ((Int×Int×Bool)×Bool)},MapOk m→(∀ p∈m,0≤p.1.1∧p.1.1<1099511627776∧0≤p.1.2.1∧p.1.2.1<1099511627776)→sK m=true
 | [],_,_=>rfl
 | p::r,h,hk=>by
  obtain ⟨h1,h2⟩:=YU.1 h.ne
  unfold sK
  rw [aeT (hk p (W7 ..)),ET ⟨fun q hq=>h.key q (Wq _ hq),h2⟩ fun q hq=>hk q (Wq _ hq)]
  have:Dj p.1 r=true:=by
   unfold Dj
   grind
  grind
theorem Mg (h:L.Perm M) (hk : ∀ a∈L,ld a) (hn:L.length≤12):qX (L.foldl cB [])=true∧fg M=some (tn (L.foldl cB [])):=by
 obtain ⟨m1,m2,m3⟩:=C0 L [] (m:=[]) ⟨fun p hp=>(by cases hp),List.Pairwise.nil⟩ (Xw _) (fun k o=>rfl)
 obtain ⟨a1,a2⟩:=VK m1
 obtain ⟨i1,i2⟩:=B3 M [] (l:=[]) List.Pairwise.nil (fun k o=>rfl)
 have hl:=h.length_eq
 refine ⟨?_,?_⟩
 ·unfold qX
  rw [ET m1 (E4 (fun a b=>0≤a∧a<1099511627776∧0≤b∧b<1099511627776) L (fun p hp=>by cases hp) hk),afx]
  rw [Yv] at m2
  exact Yb (by omega)
 ·rw [LP (by omega)]
  congr 1
  refine Fm i1 a1 fun k o=>?_
  rw [a2,m3]
  show bg (M.foldl (fun l x=>mH x l) []) k o=_
  rw [i2]
  exact (aaP h k o).symm
structure GoodS (c:CC) (s:aF):Prop where
 ok:StOk c s
 sm:cU s
 lo : -1≤bj s
 hi:bj s≤4
theorem ach (hc:bc c)  (hs:StOk c s) : ∀ l∈s.2.2.1,l.length≤1048575:=by
 intro l hl
 obtain ⟨j,hj,rfl⟩:=agL hl
 have h1:=hs.cap j (by rw [← hs.fit.qs]; exact hj)
 rw [XF,YK hj,aet] at h1
 have h2:=hc.2.1.2.2.2
 have:=(h2 j (by rw [← hs.fit.qs]; exact hj)).2
 omega
theorem uN (hc:bc c) {q:aF} (hs:GoodS c s)  (hi:i<s.1.length)     (h1:q.1=s.1.set i (fs++[f],st,w,false)) (hr:Run1 c fs f st)
  (h2:q.2.1.length=s.2.1.length) (h3:q.2.2.1.length=s.2.2.1.length) (h4:q.2.2.2.1.length=s.2.2.2.1.length) (h5:q.2.2.2.2.1.length=s.2.2.2.2.1.length) (h6:bj q=bj s)
  (hcap : ∀ j,j<c.2.2.2.2.1.length→((q.2.2.1.getD j []).length:Int)≤(c.2.2.2.2.1.getD j ([],0)).2):GoodS c q∧pj c q i:=by
 obtain ⟨hs,hsm,o1,o2⟩:=hs
 have hq:StOk c q:=⟨by rw [h1]; simpa using hs.n,fun t ht=>by
  rw [h1] at ht
  rcases aao ht with ht | rfl
  ·exact hs.th t ht
  ·exact .inr ⟨rfl,fs,f,rfl,hr⟩,⟨by rw [h2]; exact hs.fit.1,by rw [h3]; exact hs.fit.2,by rw [h4]; exact hs.fit.3,by rw [h5]; exact hs.fit.4⟩,hcap⟩
 refine ⟨⟨hq,?_,by grind,by grind⟩,fs,f,st,w,by grind,hr⟩
 obtain ⟨h1',h2',h3',h4',h5',h6',h7'⟩:=hsm
 refine ⟨by grind,fun t ht=>?_,by grind,by grind,fun l hl=>by have:=ach hc hq l hl; omega,by grind,by grind⟩
 rw [h1] at ht
 rcases aao ht with ht | rfl
 ·exact h2' t ht
 ·have:=hr.n
  have:=hr.m
  exact ⟨by grind,by grind,fun g hg=>by have:=yB hc (hr.fr g hg); omega⟩
theorem YA (q:List (List Int)) (a j:Nat):((q.set a ((q.getD a []).drop 1)).getD j []).length≤(q.getD j []).length:=by
 grind
structure EffOk (f:Fr) (x:bu) (r:Bq) (q:List bI×Bool×List Int×List Int×Bq):Prop where
 lo:q.2.2.1.length=f.2.length
 st:q.2.2.2.1.length≤16
 v:q.2.2.2.2.1.length=r.1.length
 qn:q.2.2.2.2.2.1.length=r.2.1.length
 qj : ∀ j,(q.2.2.2.2.2.1.getD j []).length≤(r.2.1.getD j []).length
 ow:q.2.2.2.2.2.2.1.length=r.2.2.1.length
 fi:q.2.2.2.2.2.2.2.1.length=r.2.2.2.1.length
 bw:q.2.2.2.2.2.2.2.2.2.2.2.2.1=r.2.2.2.2.2.2.2.2.1
 an:q.1.length≤1
 ak : ∀ a∈q.1,0≤a.1∧a.1<5∧(a.2.1=x.2.1∧(x.1≠23∧x.1≠24∧x.1≠25)∨a.2.1=0)
theorem aeW {x:bu}  {r:Bq} (hop:f0 x.1) (hm:st.length≤16):EffOk f x r (dH i f st x k r):=by
 obtain ⟨op,a,b⟩:=x
 have ht:(st.take (st.length - 1)).length≤16:=by grind
 unfold dH
 dsimp only
 rcases hop with h | h | h | h | h | h | h | h | h | h
 ·dsimp only at h
  subst h
  simp only [Xa]
  split
  ·exact ⟨rfl,hm,rfl,rfl,fun j=>Xw _,rfl,rfl,rfl,Xw _,fun z hz=>by grind⟩
  ·exact ⟨rfl,by grind,rfl,rfl,fun j=>Xw _,rfl,rfl,rfl,Xw _,fun z hz=>by grind⟩
 ·dsimp only at h
  subst h
  simp only [Int.reduceEq,XB,Xa]
  split
  ·exact ⟨rfl,hm,rfl,rfl,fun j=>Xw _,rfl,rfl,rfl,Xw _,fun z hz=>by grind⟩
  ·exact ⟨rfl,ht,Y4,rfl,fun j=>Xw _,rfl,rfl,rfl,Xw _,fun z hz=>by grind⟩
 ·dsimp only at h
  subst h
  simp only [Int.reduceEq,XB,Xa]
  exact ⟨Y4,hm,rfl,Y4,fun j=>YA _ _ _,rfl,rfl,rfl,Xw _,fun z hz=>by grind⟩
 ·dsimp only at h
  subst h
  simp only [Int.reduceEq,XB,Xa]
  exact ⟨rfl,hm,rfl,rfl,fun j=>Xw _,Y4,rfl,rfl,Xw _,fun z hz=>by grind⟩
 ·dsimp only at h
  subst h
  simp only [Int.reduceEq,XB,Xa]
  exact ⟨rfl,hm,rfl,rfl,fun j=>Xw _,Y4,rfl,rfl,Xw _,fun z hz=>by grind⟩
 ·dsimp only at h
  subst h
  simp only [Int.reduceEq,XB,Xa]
  exact ⟨Y4,hm,rfl,rfl,fun j=>Xw _,rfl,rfl,rfl,afB _,fun z hz=>by cases hz⟩
 ·dsimp only at h
  subst h
  simp only [Int.reduceEq,XB,Xa]
  exact ⟨Y4,hm,rfl,rfl,fun j=>Xw _,rfl,rfl,rfl,Xw _,fun z hz=>by grind⟩
 ·dsimp only at h
  subst h
  simp only [Int.reduceEq,XB,Xa]
  exact ⟨rfl,hm,rfl,rfl,fun j=>Xw _,rfl,rfl,rfl,Xw _,fun z hz=>by grind⟩
 ·dsimp only at h
  subst h
  simp only [Int.reduceEq,XB,Xa]
  split
  ·exact ⟨rfl,hm,rfl,rfl,fun j=>Xw _,rfl,rfl,rfl,Xw _,fun z hz=>by grind⟩
  ·split
   ·exact ⟨rfl,ht,rfl,rfl,fun j=>Xw _,rfl,Y4,rfl,Xw _,fun z hz=>by grind⟩
   ·exact ⟨rfl,ht,rfl,rfl,fun j=>Xw _,rfl,rfl,rfl,Xw _,fun z hz=>by grind⟩
 ·dsimp only at h
  subst h
  simp only [Int.reduceEq,XB,Xa]
  exact ⟨Y4,hm,rfl,rfl,fun j=>Xw _,rfl,rfl,rfl,Xw _,fun z hz=>by grind⟩
structure Left (c:CC) (s:aF) (q:rY):Prop where
 g:GoodS c q.2.2.2
 n:q.2.2.2.1.length≤s.1.length+1
 run : ∀ z∈q.1,∃ n:Nat,z=(n:Int)∧pj c q.2.2.2 n
 nd:q.1.Nodup
 two:q.1.length≤2
structure Does (c:CC) (s:aF) (q:rY):Prop where
 an:q.2.1.length≤2
 ak : ∀ a∈q.2.1,ld a
 left:q.2.2.1=true→Left c s q
theorem xw (hc:bc c)       {x:bu} {k:Nat} (h:AtP c s i fs f st w x k pc) (hr:Run1 c fs f st) (h13:x.1≠13) (h28:x.1≠28) {l st' : List Int} (hl:l.length=f.2.length) (hm:st'.length≤16):Run1 c fs (ad (f.1+1),l) st' :=
 ⟨hr.n,hm,fun g hg=>by
  rcases Xd.1 hg with hg | hg
  ·exact hr.fr g (Xd.2 (.inl hg))
  ·rcases Wz.1 hg with rfl
   rw [h.pc1]
   exact N3 hc h.pc2 h.pr (by rw [h.x]; exact h13) (by rw [h.x]; exact h28) (by rw [hl]; exact h.lo)⟩
theorem my {b:Bool} (h1:0≤k) (h2:k<10) (h3:0≤o) (h4:o≤1048577):ld (k,o,b):=⟨h1,(by grind),h3,(by grind)⟩
theorem ZE {op:Int} (h:f0 op):op≠13∧op≠28:=by
 unfold f0 at h
 omega
theorem QL (hc:bc c)  (hs:GoodS c s)      {x:bu}  {k:Nat} (hA:AtP c s i fs f st w x k pc) (hr:Run1 c fs f st) (hp:f0 x.1):Does c s (kn s i fs f st w x j):=by
 have hE:=aeW (i:=i) (f:=f) (k:=j) (r:=s.2) hp hr.m
 unfold kn nU
 dsimp only
 generalize dH i f st x j s.2=q at *
 obtain ⟨e1,e2,e3,e4,e5,e6,e7,e8,e9,e10⟩:=hE
 obtain ⟨q1,q2,q3,q4,q5⟩:=q
 dsimp only at *
 have hF:=hc.2.2.1 k pc hA.pc2 hA.pr
 rw [hA.x] at hF
 obtain ⟨⟨h0,_⟩,_,o1,o2,o3,o4,o5,o6,o7,o8,o9,o10,o11,o12⟩:=hF
 obtain ⟨z1,z2,z3,z4,z5,z6,z7⟩:=hc.2.2.2
 refine ⟨(by grind),fun a ha=>?_,fun hg=>?_⟩
 ·obtain ⟨a1,a2,a3⟩:=e10 a ha
  have hb:0≤a.2.1∧a.2.1≤1048577:=by
   rcases a3 with ⟨a3,n23,n24,n25⟩ | a3
   ·rw [a3]
    rcases hp with h | h | h | h | h | h | h | h | h | h
    ·obtain ⟨g1,g2⟩:=o6 (.inl h); omega
    ·obtain ⟨g1,g2⟩:=o6 (.inr h); omega
    ·obtain ⟨g1,g2⟩:=o7 (.inr h); omega
    ·obtain ⟨g1,g2⟩:=o8 (.inl h); omega
    ·obtain ⟨g1,g2⟩:=o8 (.inr h); omega
    ·grind
    ·grind
    ·grind
    ·obtain ⟨g1,g2⟩:=o11 (.inl h); omega
    ·obtain ⟨g1,g2⟩:=o11 (.inr h); omega
   grind
  exact ⟨a1,(by omega),hb.1,(by omega)⟩
 ·have hi:=cK hA.t
  have h13:=ZE hp
  have hn:=xw hc hA hr h13.1 h13.2 e1 e2
  rw [if_pos hg]
  obtain ⟨g1,g2⟩:=uN hc hs (q:=(s.1.set i (fs++[(ad (f.1+1),q3)],q4,w,false),q5)) hi rfl hn e3 e4 e6 e7 e8 (fun y hy=>by
   have:=e5 y
   have h2:=hs.ok.cap y hy
   grind)
  have hp:bM (s.1.set i (fs++[(f.1,q3)],q4,w,false),q5) i (fs++[(ad (f.1+1),q3)],q4,w,false)=(s.1.set i (fs++[(ad (f.1+1),q3)],q4,w,false),q5):=by unfold bM; simp_all
  rw [hp]
  exact ⟨g1,by grind,fun z hz=>by grind,by simp,by simp⟩
theorem afQ (hc:bc c)  (hs:GoodS c s) (hn65:s.1.length≤70)      {x:bu} {k:Nat} (hA:AtP c s i fs f st w x k pc) (hr:Run1 c fs f st) (h18:x.1=18):Does c s (ni c s i fs f st w x.2.1):=by
 have hF:=hc.2.2.1 k pc hA.pc2 hA.pr
 rw [hA.x] at hF
 obtain ⟨⟨h0,_⟩,_,o1,o2,o3,o4,o5,o6,o7,o8,o9,o10,o11,o12⟩:=hF
 obtain ⟨p1,p2⟩:=o3 (.inr h18)
 have hi:=cK hA.t
 unfold ni
 by_cases h5:5≤cy s s.1.length
 ·rw [if_pos h5]
  exact ⟨by simp,fun a ha=>by rcases Wz.1 ha with rfl; exact my (by omega) (by omega) (by omega) (by omega),fun h=>by cases h⟩
 rw [if_neg h5]
 refine ⟨by simp,fun a ha=>?_,fun _=>?_⟩
 ·rcases Xb.1 ha with rfl | ha
  ·exact my (by omega) (by omega) (by omega) (by omega)
  ·rcases Wz.1 ha with rfl
   exact my (by omega) (by omega) (by omega) (by omega)
 ·have hn:=xw hc hA hr (by omega) (by omega) (l:=f.2) rfl hr.m
  obtain ⟨g1,fs',f',st',w',g2,g3⟩:=uN hc hs (q:=oB s i fs f st w) hi rfl hn rfl rfl rfl rfl rfl hs.ok.cap
  have hl:(oB s i fs f st w).1.length=s.1.length:=cD
  have hfc:=Ed hc (a:=x.2.1.toNat) (by omega)
  have hnew:Run1 c [] (c.2.1.getD x.2.1.toNat 0,List.replicate (c.2.2.1.getD x.2.1.toNat 0).toNat 0) []:=⟨by simp,by simp,fun g hg=>by grind⟩
  have hss:GoodS c ((oB s i fs f st w).1++[rL c x.2.1],(oB s i fs f st w).2):=by
   obtain ⟨⟨q1,q2,q3,q4⟩,⟨u1,u2,u3⟩,u4,u5⟩:=g1
   refine ⟨⟨by grind,fun t ht=>?_,⟨q3.1,q3.2,q3.3,q3.4⟩,q4⟩,⟨by grind,fun t ht=>?_,u3⟩,u4,u5⟩
   ·rcases Xd.1 ht with ht | ht
    ·exact q2 t ht
    ·rcases Wz.1 ht with rfl
     exact .inr ⟨rfl,[],_,rfl,hnew⟩
   ·rcases Xd.1 ht with ht | ht
    ·exact u2 t ht
    ·rcases Wz.1 ht with rfl
     refine ⟨by simp [rL],by simp [rL],fun g hg=>?_⟩
     rcases Wz.1 hg with rfl
     have:=yB hc hfc
     grind
  refine ⟨hss,by grind,fun z hz=>?_,?_,by simp⟩
  ·rcases Xb.1 hz with rfl | hz
   ·refine ⟨s.1.length,rfl,[],_,[],0,?_,hnew⟩
    show ((oB s i fs f st w).1++[rL c x.2.1])[s.1.length]? = _
    rw [← hl]
    simp [rL]
   ·rcases Wz.1 hz with rfl
    refine ⟨i,rfl,fs',f',st',w',?_,g3⟩
    grind
  grind
theorem Vi (hc:bc c)  (hs:GoodS c s)      {x:bu} {k:Nat}  (hA:AtP c s i fs f st w x k pc) (hr:Run1 c fs f st) (h19:x.1=19)
  (hj : ¬ 0<(c.2.2.2.2.1.getD x.2.1.toNat ([],0)).2→0≤j∧j<(ee c s x.2.1).length) (hq:0<(c.2.2.2.2.1.getD x.2.1.toNat ([],0)).2→((s.2.2.1.getD x.2.1.toNat []).length:Int)<(c.2.2.2.2.1.getD x.2.1.toNat ([],0)).2):Does c s (gk c s i fs f st w x.2.1 j):=by
 have hF:=hc.2.2.1 k pc hA.pc2 hA.pr
 rw [hA.x] at hF
 obtain ⟨⟨h0,_⟩,_,o1,o2,o3,o4,o5,o6,o7,o8,o9,o10,o11,o12⟩:=hF
 obtain ⟨p1,p2⟩:=o7 (.inl h19)
 obtain ⟨z1,z2,z3,z4,z5,z6,z7⟩:=hc.2.2.2
 have hi:=cK hA.t
 have h1a:ld (1,x.2.1,true):=my (by omega) (by omega) (by omega) (by omega)
 unfold gk
 by_cases hv:st.length=0
 ·rw [if_pos hv]
  exact ⟨by simp,fun a ha=>by grind,fun h=>by cases h⟩
 rw [if_neg hv]
 have hn:=xw hc hA hr (by omega) (by omega) (l:=f.2) (st' := st.take (st.length - 1)) rfl (by rw [Xz]; have:=hr.m; omega)
 dsimp only
 by_cases hcap:0<(c.2.2.2.2.1.getD x.2.1.toNat ([],0)).2
 ·rw [if_pos hcap]
  refine ⟨by simp,fun a ha=>by grind,fun _=>?_⟩
  have hqq:=hq hcap
  obtain ⟨g1,g2⟩:=uN hc hs (q:=((bM s i (fs++[(ad (f.1+1),f.2)],st.take (st.length - 1),w,false)).1,s.2.1,s.2.2.1.set x.2.1.toNat (s.2.2.1.getD x.2.1.toNat []++[st.getD (st.length - 1) 0]),s.2.2.2)) hi rfl hn rfl Y4 rfl rfl rfl (fun y hy=>by
   have h2:=hs.ok.cap y hy
   simp only [XF] at *
   by_cases he:x.2.1.toNat=y
   ·subst he
    rw [Yc (by have:=hs.ok.fit.qs; omega)]
    grind
   grind)
  exact ⟨g1,by show (bM s i _).1.length≤_; rw [cD]; omega,fun z hz=>by rcases Wz.1 hz with rfl; exact ⟨i,rfl,g2⟩,by simp,by simp⟩
 ·rw [if_neg hcap]
  obtain ⟨q,gs,g,tt,tw,y,w1,w2,w3⟩:=xe hc hs.ok hA h19 (hj hcap)
  have hle:=hs.ok.n
  rw [w1]
  simp only [W4]
  refine ⟨by simp,fun a ha=>?_,fun _=>?_⟩
  ·rcases Xb.1 ha with rfl | ha
   ·exact h1a
   ·rcases Wz.1 ha with rfl
    exact my (by omega) (by omega) (by omega) (by omega)
  ·obtain ⟨g1,fs',f',st',w',g2,g3⟩:=uN hc hs (q:=bM s i (fs++[(ad (f.1+1),f.2)],st.take (st.length - 1),w,false)) hi rfl hn rfl rfl rfl rfl rfl hs.ok.cap
   obtain ⟨k',pc',hB⟩:=w3.at_
   have hop:=w3.op
   have eq0:be s q=(gs++[g],tt,tw,false):=d8 w3.t
   obtain ⟨n,hn3⟩ : ∃ n,n=(dM c (be s q)).2.2.toNat:=⟨_,rfl⟩
   rw [← hn3,eq0,dL,agc]
   have hn2:=xw hc hB w3.run (by omega) (by omega) (l:=g.2.set n (st.getD (st.length - 1) 0)) Y4 w3.run.m
   obtain ⟨g4,g5⟩:=uN hc g1 (i:=q) (q:=bM (bM s i (fs++[(ad (f.1+1),f.2)],st.take (st.length - 1),w,false)) q (gs++[(ad (g.1+1),g.2.set n (st.getD (st.length - 1) 0))],tt,tw,false)) (by rw [cD]; exact w2) rfl hn2 rfl rfl rfl rfl rfl g1.ok.cap
   refine ⟨g4,by dsimp only; rw [cD,cD]; omega,fun z hz=>?_,?_,by simp⟩
   ·rcases Xb.1 hz with rfl | hz
    ·grind
    ·rcases Wz.1 hz with rfl
     refine ⟨i,rfl,fs',f',st',w',?_,g3⟩
     unfold bM
     dsimp only
     rw [Zd w3.ne]
     exact g2
   ·refine agK.2 ⟨fun h=>?_,by simp⟩
    have:=Wz.1 h
    have:=w3.ne
    omega
theorem Xi (hs:GoodS c s) :Does c s (oq s i):=by
 have hb:GoodS c (bM s i ([],[],0,true)):=by
  obtain ⟨q1,⟨u1,u2,u3⟩,q3,q4⟩:=hs
  refine ⟨JX q1 (.inl ⟨rfl,rfl⟩),⟨by rw [cD]; exact u1,fun t ht=>?_,u3⟩,q3,q4⟩
  rcases aao ht with ht | rfl
  ·exact u2 t ht
  ·exact ⟨by simp,by simp,fun g hg=>by cases hg⟩
 unfold oq
 refine ⟨by simp,fun a ha=>by rcases Wz.1 ha with rfl; exact my (by omega) (by omega) (by omega) (by omega),fun _=>?_⟩
 by_cases h0:i=0
 ·rw [if_pos h0]
  obtain ⟨⟨q1,q2,q3,q4⟩,q5,q6,q7⟩:=hb
  exact ⟨⟨⟨q1,q2,⟨q3.1,q3.2,q3.3,q3.4⟩,q4⟩,q5,by show (-1:Int)≤0; omega,by show (0:Int)≤4; omega⟩,by show (bM s i _).1.length≤_; rw [cD]; omega,fun z hz=>(by cases hz),by simp,by simp⟩
 ·rw [if_neg h0]
  exact ⟨hb,by show (bM s i _).1.length≤_; rw [cD]; omega,fun z hz=>(by cases hz),by simp,by simp⟩
theorem xu (hc:bc c)  (hs:GoodS c s) (hn65:s.1.length≤70)      {x:bu}  (h:CanDo c s i fs f st w x j) (hr:Run1 c fs f st)
  (hq:x.1=19→0<(c.2.2.2.2.1.getD x.2.1.toNat ([],0)).2→((s.2.2.1.getD x.2.1.toNat []).length:Int)<(c.2.2.2.2.1.getD x.2.1.toNat ([],0)).2):Does c s (cP c s i fs f st w x j):=by
 obtain ⟨k,pc,hA⟩:=h.at_
 unfold cP
 by_cases h18:x.1=18
 ·rw [if_pos h18]
  exact afQ hc hs hn65 hA hr h18
 rw [if_neg h18]
 by_cases h19:x.1=19
 ·rw [if_pos h19]
  exact Vi hc hs hA hr h19 (h.to h19) (hq h19)
 rw [if_neg h19]
 by_cases hp:f0 x.1
 ·rw [if_pos hp]
  exact QL hc hs hA hr hp
 ·rw [if_neg hp]
  exact Xi hs
theorem aey {s':aF}      {x:bu} (he:gN c kind s i fs f st w x=some s'):bj s' = bj s∨bj s' = 1:=by
 unfold gN at he
 dsimp only at he
 by_cases n0:x.1=0
 ·rw [if_pos n0] at he
  split at he <;> cases he
  exact .inl rfl
 rw [if_neg n0] at he
 by_cases n1:x.1=1
 ·rw [if_pos n1] at he
  split at he <;> cases he
  exact .inl rfl
 rw [if_neg n1] at he
 by_cases n3:x.1=3
 ·rw [if_pos n3] at he
  split at he <;> cases he
  exact .inl rfl
 rw [if_neg n3] at he
 by_cases n2:x.1=2
 ·rw [if_pos n2] at he
  split at he <;> cases he
  exact .inl rfl
 rw [if_neg n2] at he
 by_cases n10:x.1=10
 ·rw [if_pos n10] at he
  cases he
  exact .inl rfl
 rw [if_neg n10] at he
 by_cases n11:x.1=11
 ·rw [if_pos n11] at he
  split at he <;> cases he
  exact .inl rfl
 rw [if_neg n11] at he
 by_cases n12:x.1=12
 ·rw [if_pos n12] at he
  split at he <;> cases he
  exact .inl rfl
 rw [if_neg n12] at he
 by_cases n13:x.1=13
 ·rw [if_pos n13] at he
  cases he
  exact .inl rfl
 rw [if_neg n13] at he
 by_cases n14:x.1=14
 ·rw [if_pos n14] at he
  split at he <;> cases he
  split
  ·exact .inr rfl
  ·exact .inl rfl
 rw [if_neg n14] at he
 by_cases n15:x.1=15
 ·rw [if_pos n15] at he
  cases he
  exact .inl rfl
 rw [if_neg n15] at he
 split at he <;> cases he
 exact .inl rfl
theorem mt (c:CC) (s:aF) (i:Nat) (o:Int):bj (fY c s i o)=o:=by
 unfold fY
 dsimp only
 split <;> rfl
theorem T2 (c:CC) (kind:Int) (i:Nat) : ∀ (m:Nat) (s:aF),-1≤bj s∧bj s≤4→-1≤bj (bX c kind i m s).2∧bj (bX c kind i m s).2≤4:=by
 intro m
 induction m with
 | zero=>
  intro s h
  unfold bX
  split
  ·exact h
  split
  ·exact h
  ·dsimp only
   rw [mt]
   omega
 | succ m ih=>
  intro s h
  unfold bX
  split
  ·exact h
  split
  ·exact h
  ·dsimp only
   split
   ·dsimp only
    rw [mt]
    omega
   ·rename_i s' he
    refine ih s' ?_
    rcases aey he with h1 | h1
    ·grind
    grind
theorem FI (c:CC) (s:aF) (i:Nat):bj (ln c s i).1=bj s:=by
 unfold ln
 dsimp only
 split
 ·rfl
 split
 ·dsimp only
  split <;> rfl
 split <;> rfl
theorem q0 (hc:bc c) (kind:Int)   (hs:GoodS c s) (hr:pj c s i) :
  GoodS c (bE c kind i s).1∧(bE c kind i s).1.1.length=s.1.length∧(∀ q,q≠i→(bE c kind i s).1.1[q]? = s.1[q]?)∧(bE c kind i s).2.length≤1∧∀ a∈(bE c kind i s).2,ld a:=by
 obtain ⟨b1,b2,b3⟩:=Lj hc kind hs.ok hr hs.sm
 have hout:=T2 c kind i 64 s ⟨hs.lo,hs.hi⟩
 obtain ⟨fs,f,st,w,ht,hr⟩:=hr
 obtain ⟨fs',f',st',g1,g2,g3,g4⟩:=vi hc kind 64 ht hr
 have ho : -1≤bj (bE c kind i s).1∧bj (bE c kind i s).1≤4:=by
  unfold bE
  split
  ·rw [FI]; exact hout
  ·exact hout
 refine ⟨⟨b1,b2,ho.1,ho.2⟩,b3,?_⟩
 unfold bE
 generalize bX c kind i 64 s=q at *
 obtain ⟨b,q⟩:=q
 dsimp only at *
 have ht' : q.1[i]? = some (fs' ++ [f'],st',w,false):=by grind
 have hbase : ∀ j,j≠i→q.1[j]? = s.1[j]? := fun j hj=>by grind
 obtain ⟨k,pc,hA⟩:=gx ht' g2
 have hF:=hc.2.2.1 k pc hA.pc2 hA.pr
 rw [hA.x] at hF
 have hx:dM c (be q i)=cz c f'.1.toNat:=by rw [d8 ht']; unfold dM; rw [dL]
 obtain ⟨z1,z2,z3,z4,z5,z6,z7⟩:=hc.2.2.2
 split
 ·unfold ln
  dsimp only
  rw [hx]
  obtain ⟨_,_,o1,o2,o3,o4,o5,o6,o7,o8,o9,o10,o11,o12⟩:=hF
  split
  ·refine ⟨fun j hj=>?_,by simp,fun a ha=>by rcases Wz.1 ha with rfl; exact my (by omega) (by omega) (by omega) (by omega)⟩
   show (q.1.set i _)[j]? = _
   grind
  split
  ·rename_i h21
   obtain ⟨p1,p2⟩:=o8 (.inl h21)
   refine ⟨fun j hj=>?_,by simp,fun a ha=>by rcases Wz.1 ha with rfl; exact my (by omega) (by omega) (by omega) (by omega)⟩
   dsimp only
   split <;> exact hbase j hj
  split
  ·rename_i h20
   obtain ⟨p1,p2⟩:=o7 (.inr h20)
   refine ⟨hbase,?_,fun a ha=>?_⟩
   ·grind
   ·dsimp only at ha
    split at ha
    ·rcases Wz.1 ha with rfl; exact my (by omega) (by omega) (by omega) (by omega)
    ·cases ha
  grind
 grind
def bk (c:CC) (kind:Int):List Int→aF→aF×List bI
 | [],s=>(s,[])
 | z::r,s=>((bk c kind r (bE c kind z.toNat s).1).1,(bE c kind z.toNat s).2++(bk c kind r (bE c kind z.toNat s).1).2)
structure CanRun (c:CC) (l:List Int) (s:aF):Prop where
 g:GoodS c s
 run : ∀ z∈l,∃ n:Nat,z=(n:Int)∧pj c s n
 nd:l.Nodup
theorem wW (hc:bc c) (kind:Int) {z:Int} {l:List Int}  (h:CanRun c (z::l) s):CanRun c l (bE c kind z.toNat s).1:=by
 obtain ⟨n,rfl,hr⟩:=h.run z (W7 ..)
 obtain ⟨q1,q2,q3,q4,q5⟩:=q0 hc kind h.g hr
 obtain ⟨d1,d2⟩:=agK.1 h.nd
 refine ⟨q1,fun y hy=>?_,d2⟩
 obtain ⟨m,rfl,fs,f,st,w,h1,h2⟩:=h.run y (Wq _ hy)
 refine ⟨m,rfl,fs,f,st,w,?_,h2⟩
 grind
theorem xX {c:CC} (hc:bc c) (kind:Int) : ∀ {l:List Int} {s:aF},CanRun c l s→GoodS c (bk c kind l s).1∧(bk c kind l s).1.1.length=s.1.length∧(bk c kind l s).2.length≤l.length∧∀ a∈(bk c kind l s).2,ld a
 | [],s,h=>⟨h.g,rfl,Xw _,fun a ha=>by cases ha⟩
 | z::l,s,h=>by
  obtain ⟨n,hz,hr⟩:=h.run z (W7 ..)
  obtain ⟨q1,q2,q3,q4,q5⟩:=q0 hc kind h.g hr
  obtain ⟨b1,b2,b3,b4⟩:=xX hc kind (wW hc kind h)
  have hz' : z.toNat=n:=by omega
  unfold bk
  grind
theorem Zu (hc:bc c) (e:bu) (acc:List ((Int×Int×Bool)×Bool)) (who:List Int) (ok:Bool) (r0:aQ)  (hw:who.length≤1000) (h:CanRun c who s) :
  Itr.it (nw (who,ok,r0)) (fl 0 (c,e,s,acc))=some (fl 0 (c,e,(bk c e.1 who s).1,(bk c e.1 who s).2.foldl cB acc)).2:=by
 obtain ⟨r,h1,h2⟩:=fw (f:=nw (who,ok,r0)) (fun y=>who.length - y.1.toNat) (fun y=>∃ (n:Nat) (t:aF) (a:List ((Int×Int×Bool)×Bool)),y=fl (n:Int) (c,e,t,a)∧n≤who.length∧CanRun c (who.drop n) t∧(bk c e.1 (who.drop n) t).1=(bk c e.1 who s).1∧(bk c e.1 (who.drop n) t).2.foldl cB a=(bk c e.1 who s).2.foldl cB acc)
  (fun r=>r=(fl 0 (c,e,(bk c e.1 who s).1,(bk c e.1 who s).2.foldl cB acc)).2)
  (fun y hy=>by
   obtain ⟨n,t,a,rfl,hn,hc1,e1,e2⟩:=hy
   unfold nw
   rcases XJ n who.length with hlt | hge
   ·right
    have hd:who.drop n=who.getD n 0::who.drop (n+1):=by
     simp_all
    rw [hd] at hc1 e1 e2
    obtain ⟨m,hz,hr⟩:=hc1.run _ (W7 ..)
    have hq:=NN hc e a hr hc1.g.ok.fit
    have hx:=wW hc e.1 hc1
    have e1:(bk c e.1 (who.drop (n+1)) (bE c e.1 (who.getD n 0).toNat t).1).1=(bk c e.1 who s).1:=e1
    have e2:((bE c e.1 (who.getD n 0).toNat t).2++(bk c e.1 (who.drop (n+1)) (bE c e.1 (who.getD n 0).toNat t).1).2).foldl cB a=(bk c e.1 who s).2.foldl cB acc:=e2
    have hm:(who.getD n 0).toNat=m:=by omega
    rw [hm] at hx e1 e2
    rw [ahS] at e2
    refine ⟨fl ((n+1:Nat):Int) (c,e,(bE c e.1 m t).1,(bE c e.1 m t).2.foldl cB a),?_,⟨n+1,_,_,rfl,hlt,hx,e1,e2⟩,by show who.length - ((n+1:Nat):Int).toNat<who.length - ((n:Nat):Int).toNat; omega⟩
    have ew:ac who (n:Int)=some ((m:Nat):Int):=by rw [aB 0 hlt,hz]
    have ed:(n:Int)<(who.length:Int):=by omega
    simp only [fl,ed,ZU,f9,ew,f7,Zj]
    rw [aY (x:=(n:Int)+1) (by omega) (by omega)]
    grind
   ·left
    have hnn:n=who.length:=by omega
    subst hnn
    rw [aeQ] at e1 e2
    have e1:t=(bk c e.1 who s).1:=e1
    have e2:a=(bk c e.1 who s).2.foldl cB acc:=e2
    refine ⟨_,?_,rfl⟩
    have ed : ¬ (who.length:Int)<(who.length:Int):=by omega
    rw [← e1,← e2]
    simp only [fl,ed,Zw,no])
  (s:=fl 0 (c,e,s,acc)) ⟨0,s,acc,rfl,by omega,h,rfl,rfl⟩ (by grind)
 rw [h1,h2]
theorem YJ (hc:bc c) (e:bu) (who:List Int) (r0:(List (Int×Int×Bool))×Bool×ay) (sd:List bI) (hsd:sd.length≤1000)  (hw:who.length≤1000) (h:CanRun c who s) :
  Itr.it (jQ (who,r0)) (gM 0 (c,e,s,sd))=some (gM 0 (c,e,(bk c e.1 who s).1,sd++(bk c e.1 who s).2)).2:=by
 obtain ⟨r,h1,h2⟩:=fw (f:=jQ (who,r0)) (fun y=>who.length - y.1.toNat) (fun y=>∃ (n:Nat) (t:aF) (a:List bI),y=gM (n:Int) (c,e,t,a)∧n≤who.length∧a.length≤1000+n∧CanRun c (who.drop n) t∧(bk c e.1 (who.drop n) t).1=(bk c e.1 who s).1∧a++(bk c e.1 (who.drop n) t).2=sd++(bk c e.1 who s).2)
  (fun r=>r=(gM 0 (c,e,(bk c e.1 who s).1,sd++(bk c e.1 who s).2)).2)
  (fun y hy=>by
   obtain ⟨n,t,a,rfl,hn,ha,hc1,e1,e2⟩:=hy
   unfold jQ
   rcases XJ n who.length with hlt | hge
   ·right
    have hd:who.drop n=who.getD n 0::who.drop (n+1):=by
     simp_all
    rw [hd] at hc1 e1 e2
    obtain ⟨m,hz,hr⟩:=hc1.run _ (W7 ..)
    have hq:=OG hc e a (by omega) hr hc1.g.ok.fit hc1.g.sm
    have hx:=wW hc e.1 hc1
    obtain ⟨_,_,_,hl1,_⟩:=q0 hc e.1 hc1.g hr
    have e1:(bk c e.1 (who.drop (n+1)) (bE c e.1 (who.getD n 0).toNat t).1).1=(bk c e.1 who s).1:=e1
    have e2:a++((bE c e.1 (who.getD n 0).toNat t).2++(bk c e.1 (who.drop (n+1)) (bE c e.1 (who.getD n 0).toNat t).1).2)=sd++(bk c e.1 who s).2:=e2
    have hm:(who.getD n 0).toNat=m:=by omega
    rw [hm] at hx e1 e2
    rw [← Yi] at e2
    refine ⟨gM ((n+1:Nat):Int) (c,e,(bE c e.1 m t).1,a++(bE c e.1 m t).2),?_,⟨n+1,_,_,rfl,hlt,by grind,hx,e1,e2⟩,by show who.length - ((n+1:Nat):Int).toNat<who.length - ((n:Nat):Int).toNat; omega⟩
    have ew:ac who (n:Int)=some ((m:Nat):Int):=by rw [aB 0 hlt,hz]
    have ed:(n:Int)<(who.length:Int):=by omega
    simp only [gM,ed,ZU,f9,ew,f7,Zj]
    rw [aY (x:=(n:Int)+1) (by omega) (by omega)]
    grind
   ·left
    have hnn:n=who.length:=by omega
    subst hnn
    rw [aeQ] at e1 e2
    have e1:t=(bk c e.1 who s).1:=e1
    have e2:a++[]=sd++(bk c e.1 who s).2:=e2
    rw [XE] at e2
    refine ⟨_,?_,rfl⟩
    have ed : ¬ (who.length:Int)<(who.length:Int):=by omega
    rw [← e1,← e2]
    simp only [gM,ed,Zw,no])
  (s:=gM 0 (c,e,s,sd)) ⟨0,s,sd,rfl,by omega,by omega,h,rfl,rfl⟩ (by grind)
 rw [h1,h2]
def bR (s:aF) (p:Int):aF:=(s.1,s.2.1,s.2.2.1,s.2.2.2.1,s.2.2.2.2.1,s.2.2.2.2.2.1,s.2.2.2.2.2.2.1,s.2.2.2.2.2.2.2.1,p,s.2.2.2.2.2.2.2.2.2)
theorem me (h:GoodS c s) (p:Int):GoodS c (bR s p):=
 ⟨⟨h.ok.n,h.ok.th,⟨h.ok.fit.1,h.ok.fit.2,h.ok.fit.3,h.ok.fit.4⟩,h.ok.cap⟩,h.sm,h.lo,h.hi⟩
def ju (s:aF):aF:=(s.1,s.2.1,s.2.2.1,s.2.2.2.1,s.2.2.2.2.1,ad (s.2.2.2.2.2.1+1),ad (s.2.2.2.2.2.2.1 - 1),(ad (s.2.2.2.2.2.2.2.1.1+1),s.2.2.2.2.2.2.2.1.2),s.2.2.2.2.2.2.2.2)
theorem vJ (h:GoodS c s):GoodS c (ju s):=
 ⟨⟨h.ok.n,h.ok.th,⟨h.ok.fit.1,h.ok.fit.2,h.ok.fit.3,h.ok.fit.4⟩,h.ok.cap⟩,h.sm,h.lo,h.hi⟩
theorem AS (h:GoodS c s):GoodS c (dz c s):=by
 obtain ⟨a,b⟩:=FD h.ok h.sm
 have ho : -1≤bj (dz c s)∧bj (dz c s)≤4:=by
  unfold dz
  split
  ·exact ⟨h.lo,h.hi⟩
  split
  ·rw [mt]; omega
  split
  ·exact ⟨h.lo,h.hi⟩
  split
  ·exact ⟨h.lo,h.hi⟩
  ·rw [mt]; omega
 exact ⟨a,b,ho.1,ho.2⟩
theorem V2 (h:GoodS c s) (i:Nat) (o:Int) (h1:0≤o) (h2:o≤4):GoodS c (fY c s i o):=by
 have ho:=mt c s i o
 unfold fY at *
 dsimp only at *
 split at ho
 ·rename_i hh
  rw [if_pos hh]
  exact ⟨⟨h.ok.n,h.ok.th,⟨h.ok.fit.1,h.ok.fit.2,h.ok.fit.3,h.ok.fit.4⟩,h.ok.cap⟩,h.sm,by rw [ho]; omega,by rw [ho]; omega⟩
 ·rename_i hh
  rw [if_neg hh]
  exact ⟨⟨h.ok.n,h.ok.th,⟨h.ok.fit.1,h.ok.fit.2,h.ok.fit.3,h.ok.fit.4⟩,h.ok.cap⟩,h.sm,by rw [ho]; omega,by rw [ho]; omega⟩
theorem Og {x:bu}  (h:0<s.1.length):0<(cP c s i fs f st w x j).2.2.2.1.length:=by
 unfold cP
 split
 ·unfold ni
  grind
 split
 ·unfold gk
  split
  ·exact h
  ·dsimp only
   split
   ·show 0<(bM s i _).1.length
    rw [cD]; exact h
   ·dsimp only
    rw [cD,cD]; exact h
 split
 ·unfold kn nU
  dsimp only
  split
  ·rw [cD]; grind
  grind
 ·unfold oq
  dsimp only
  split
  ·show 0<(bM s i _).1.length
   rw [cD]; exact h
  ·rw [cD]; exact h
def lH (c:CC) (e:bu) (s:aF) (i:Nat) (q:rY):aF×List bI:=
 if q.2.2.1=true then (dz c (bk c e.1 q.1 (ju q.2.2.2)).1,((5,(i:Int)+1,true)::q.2.1)++(bk c e.1 q.1 (ju q.2.2.2)).2)
 else (fY c (bR s (-1)) i 4,(5,(i:Int)+1,true)::q.2.1)
structure Moves (c:CC) (e:bu) (s:aF) (j:Int) (i:Nat) (fs:List Fr) (f:Fr) (st:List Int) (w:Int) (x:bu):Prop where
 gs:GoodS c s
 n:s.1.length≤65
 r1:dO c e s=some 0
 r2:eY c e s=some 0
 pt : ∃ p:UD,iK (c,e,s,[])=some p∧eU (c,e,s,[])=some p∧p.2.1=(i:Int)∧0≤j∧j<(p.2.2.2.length:Int)
 t:s.1[i]? = some (fs++[f],st,w,false)
 run:Run1 c fs f st
 can:CanDo c (bR s (-1)) i fs f st w x j
 hq:x.1=19→0<(c.2.2.2.2.1.getD x.2.1.toNat ([],0)).2→((s.2.2.1.getD x.2.1.toNat []).length:Int)<(c.2.2.2.2.1.getD x.2.1.toNat ([],0)).2
theorem aln (hc:bc c) (e:bu)        {x:bu} (h:Moves c e s j i fs f st w x) (q:rY) (hq:q=cP c (bR s (-1)) i fs f st w x j)
  (hok:qX ((lH c e s i q).2.foldl cB [])=true):gB c e s j=some ((lH c e s i q).1,tn ((lH c e s i q).2.foldl cB []),0):=by
 obtain ⟨p,p1,p2,p3,p4,p5⟩:=h.pt
 have hd:=xu hc (me h.gs (-1)) (show (bR s (-1)).1.length≤70 by have:=h.n; show s.1.length≤70; omega) h.can h.run h.hq
 have hln:0<(cP c (bR s (-1)) i fs f st w x j).2.2.2.1.length:=Og (show 0<s.1.length by have:=cK h.t; omega)
 have hi:=cK h.t
 have hn:=h.n
 unfold gB
 rw [h.r1]
 simp only [f7,Zj,Zh,no,lm s h.gs.sm,p1,p3]
 have d1 : ¬ j<0:=by omega
 have d2 : ¬ (p.2.2.2.length:Int)≤j:=by omega
 have d3 : ¬ (i:Int)<0:=by omega
 have ewm:ad (1+(i:Int))=(i:Int)+1:=by rw [aY (by omega) (by omega)]; omega
 simp only [d1,d2,d3,Zw,no,ewm]
 have he:=Xr hc (e:=e) (acc:=cB [] (5,(i:Int)+1,true)) h.can
 rw [← hq] at he hd hln
 refine (XZ (fun o:Option ((List Int)×Bool×aQ)=>o.bind _) he).trans ?_
 have hfo:q.2.1.foldl cB (cB [] (5,(i:Int)+1,true))=((5,(i:Int)+1,true)::q.2.1).foldl cB []:=rfl
 simp only [f7,Zj,hfo]
 unfold lH at hok ⊢
 cases hg:q.2.2.1
 ·rw [hg] at hok
  simp only [Ys,XB] at hok
  simp only [Xo,f9,Ys,XB]
  obtain ⟨k,pc,hA⟩:=gx (s:=bR s (-1)) (i:=i) h.t h.run
  have et:=bG h.t
  obtain ⟨q1,q2,q3,q4⟩:=wR hc hA
  rw [qu hc hA]
  simp only [et,f7,Zj,Xo,f9,nX fs f (by have:=h.run.n; omega),q1,q2,q3,q4,hok,af]
  rfl
 ·rw [hg] at hok
  simp only [Xa] at hok
  simp only [XO,no,Xa]
  have hl:=hd.left hg
  have hcan:CanRun c q.1 (ju q.2.2.2):=⟨vJ hl.g,fun z hz=>by
   obtain ⟨n,rfl,fs',f',st',w',h1,h2⟩:=hl.run z hz
   exact ⟨n,rfl,fs',f',st',w',h1,h2⟩,hl.nd⟩
  have hqs:=Zu hc e (((5,(i:Int)+1,true)::q.2.1).foldl cB []) q.1 true (c,e,q.2.2.2,((5,(i:Int)+1,true)::q.2.1).foldl cB []) (by have:=hl.two; omega) hcan
  refine (XZ (fun o:Option qF=>o.bind _) hqs).trans ?_
  obtain ⟨g1,g2,g3,g4⟩:=xX hc e.1 hcan
  have hset:=L2 hc (e:=e) (acc:=(bk c e.1 q.1 (ju q.2.2.2)).2.foldl cB (((5,(i:Int)+1,true)::q.2.1).foldl cB [])) g1.ok (by rw [g2]; exact hln)
  simp only [f7,Zj]
  refine (XZ (fun o:Option aQ=>o.bind _) hset).trans ?_
  rw [ahS] at hok ⊢
  simp only [f7,Zj,hok,af,f9]
theorem alf (hc:bc c) (e:bu)        {x:bu} (h:Moves c e s j i fs f st w x) (q:rY) (hq:q=cP c (bR s (-1)) i fs f st w x j) (v:List bI)
  (hv : ∀ M:List bI,(lH c e s i q).2.Perm M→fg M=some v):gm c e s j=some ((lH c e s i q).1,v,0):=by
 obtain ⟨p,p1,p2,p3,p4,p5⟩:=h.pt
 have hd:=xu hc (me h.gs (-1)) (show (bR s (-1)).1.length≤70 by have:=h.n; show s.1.length≤70; omega) h.can h.run h.hq
 have hln:0<(cP c (bR s (-1)) i fs f st w x j).2.2.2.1.length:=Og (show 0<s.1.length by have:=cK h.t; omega)
 have hi:=cK h.t
 have hn:=h.n
 unfold gm
 rw [h.r2]
 simp only [f7,Zj,Zh,no,Ak s h.gs.sm,p2,p3]
 have d1 : ¬ j<0:=by omega
 have d2 : ¬ (p.2.2.2.length:Int)≤j:=by omega
 have d3 : ¬ (i:Int)<0:=by omega
 simp only [d1,d2,d3,Zw,no,BR (show i≤1048576 by omega)]
 have he:=aaI hc (e:=e) (sd:=[]) h.can
 rw [← hq] at he hd hln
 refine (XZ (fun o:Option ((List Int)×(List (Int×Int×Bool))×Bool×ay)=>o.bind _) he).trans ?_
 have a1:aK q.2.1.length 1 24=true:=ba (by have:=hd.an; omega) (by omega)
 simp only [f7,Zj,Wr,a1,af,f9]
 unfold lH at hv ⊢
 have hp1 : ∀ l:List bI,(((5,(i:Int)+1,true)::q.2.1)++l).Perm ((q.2.1++[(5,(i:Int)+1,true)])++l):=fun l=>List.Perm.append_right l (List.perm_append_singleton _ _).symm
 cases hg:q.2.2.1
 ·rw [hg] at hv
  simp only [Ys,XB] at hv
  simp only [Xo,f9,Ys,XB]
  obtain ⟨k,pc,hA⟩:=gx (s:=bR s (-1)) (i:=i) h.t h.run
  have hs:=hv (q.2.1++[(5,(i:Int)+1,true)]) (by grind)
  have ho:=Jn hc (e:=e) (a:=[]) hA 4
  refine (XZ (fun o:Option ay=>o.bind _) ho).trans ?_
  grind
 ·rw [hg] at hv
  simp only [Xa] at hv
  simp only [XO,no,Xa]
  have hl:=hd.left hg
  have hcan:CanRun c q.1 (ju q.2.2.2):=⟨vJ hl.g,fun z hz=>by
   obtain ⟨n,rfl,fs',f',st',w',h1,h2⟩:=hl.run z hz
   exact ⟨n,rfl,fs',f',st',w',h1,h2⟩,hl.nd⟩
  have hqs:=YJ hc e q.1 (q.2.1,true,(c,e,q.2.2.2,[])) [] (by simp) (by have:=hl.two; omega) hcan
  refine (XZ (fun o:Option pC=>o.bind _) hqs).trans ?_
  obtain ⟨g1,g2,g3,g4⟩:=xX hc e.1 hcan
  have hset:=Mf hc (e:=e) (a:=[]++(bk c e.1 q.1 (ju q.2.2.2)).2) g1.ok (by rw [g2]; exact hln)
  simp only [f7,Zj]
  refine (XZ (fun o:Option ay=>o.bind _) hset).trans ?_
  have hs:=hv ((q.2.1++[(5,(i:Int)+1,true)])++(bk c e.1 q.1 (ju q.2.2.2)).2) (hp1 _)
  have a2:aK (q.2.1.length+1) (bk c e.1 q.1 (ju q.2.2.2)).2.length 24=true:=ba (by have:=hd.an; have:=hl.two; omega) (by omega)
  grind
theorem DN (hc:bc c) (e:bu)        {x:bu} (h:Moves c e s j i fs f st w x) :
  gB c e s j=some ((lH c e s i (cP c (bR s (-1)) i fs f st w x j)).1,nL (lH c e s i (cP c (bR s (-1)) i fs f st w x j)).2,0)∧gm c e s j=some ((lH c e s i (cP c (bR s (-1)) i fs f st w x j)).1,nL (lH c e s i (cP c (bR s (-1)) i fs f st w x j)).2,0) ∧
   GoodS c (lH c e s i (cP c (bR s (-1)) i fs f st w x j)).1∧(nL (lH c e s i (cP c (bR s (-1)) i fs f st w x j)).2).length≤12:=by
 have hd:=xu hc (me h.gs (-1)) (show (bR s (-1)).1.length≤70 by have:=h.n; show s.1.length≤70; omega) h.can h.run h.hq
 obtain ⟨q,hq⟩ : ∃ q,q=cP c (bR s (-1)) i fs f st w x j:=⟨_,rfl⟩
 have hn:=h.n
 have hi:=cK h.t
 have h5:ld (5,(i:Int)+1,true):=my (by omega) (by omega) (by omega) (by omega)
 have hall:GoodS c (lH c e s i q).1∧(lH c e s i q).2.length≤12∧∀ a∈(lH c e s i q).2,ld a:=by
  rw [← hq] at hd
  unfold lH
  cases hg:q.2.2.1
  ·simp only [Ys,XB]
   refine ⟨V2 (me h.gs (-1)) i 4 (by omega) (by omega),by have:=hd.an; grind,fun a ha=>?_⟩
   rcases Xb.1 ha with rfl | ha
   ·exact h5
   ·exact hd.ak a ha
  ·simp only [Xa]
   have hl:=hd.left hg
   have hcan:CanRun c q.1 (ju q.2.2.2):=⟨vJ hl.g,fun z hz=>by
    obtain ⟨n,rfl,fs',f',st',w',h1,h2⟩:=hl.run z hz
    exact ⟨n,rfl,fs',f',st',w',h1,h2⟩,hl.nd⟩
   obtain ⟨g1,g2,g3,g4⟩:=xX hc e.1 hcan
   refine ⟨AS g1,by have:=hd.an; have:=hl.two; grind,fun a ha=>?_⟩
   rcases Xd.1 ha with ha | ha
   ·rcases Xb.1 ha with rfl | ha
    ·exact h5
    ·exact hd.ak a ha
   grind
 obtain ⟨b1,b2,b3⟩:=hall
 obtain ⟨c1,c2⟩:=Mg (ae3 _) b3 b2
 rw [LP (by omega)] at c2
 injection c2 with c2
 rw [← hq,c2]
 exact ⟨aln hc e h q hq c1,alf hc e h q hq _ (fun M hM=>(Mg hM b3 b2).2),b1,by rw [← c2]; exact agt (FG _) b2⟩
theorem x9 (c:CC) (e:bu) (s:aF) (k:Nat):(iz c e s k).2.1=(k:Int):=by
 unfold iz
 grind
theorem YL (hc:bc c) (e:bu)  (hs:GoodS c s)  (h1:dO c e s=some 0) (h2:eY c e s=some 0) (hg:GoOn c s) (hp : ¬ (s.2.2.2.2.2.2.2.2.1<0∧1<(dB c s).length)) (hj:0≤j∧j<((eN c e s).2.2.2.length:Int)) :
  ∃ i fs f st w x,Moves c e s j i fs f st w x:=by
 obtain ⟨k,w1,w2,w3⟩:=yW hg
 obtain ⟨fs,f,st,w,ht,hr⟩:=zC hg.ok w2 w3
 have hP:eN c e s=iz c e s k:=by
  unfold eN
  grind
 have htk:s.1[k]? = some (fs++[f],st,w,false):=by rw [fW w2,ht]
 obtain ⟨k',pc,hA⟩:=gx (s:=bR s (-1)) (i:=k) htk hr
 have hF:=hc.2.2.1 k' pc hA.pc2 hA.pr
 rw [hA.x] at hF
 obtain ⟨⟨h0,_⟩,_,o1,o2,o3,o4,o5,o6,o7,o8,o9,o10,o11,o12⟩:=hF
 have hx:dM c (be s k)=cz c f.1.toNat:=by rw [ht]; unfold dM; rw [dL]
 have hat:kf c (be s k)=cz c f.1.toNat:=by
  unfold kf
  grind
 have hen:=w3
 unfold vh at hen
 dsimp only at hen
 rw [hat,if_neg (by rw [ht]; simp)] at hen
 have hpt:eN c e s=iz c e s k:=hP
 rw [hP] at hj
 unfold iz at hj
 dsimp only at hj
 rw [hx] at hj
 have hn:=hg.n
 generalize cz c f.1.toNat=x at *
 refine ⟨k,fs,f,st,w,x,⟨hs,hn,h1,h2,⟨_,oZ hc e [] hg,wI hc e [] hg,by rw [hpt]; exact x9 c e s k,hj.1,?_⟩,htk,hr,⟨⟨k',pc,hA⟩,(me hs (-1)).ok,by show s.1.length≤1048575; omega,ach hc (me hs (-1)).ok,fun h20=>?_,fun h19 hcap=>?_⟩,fun h19 hcap=>?_⟩⟩
 ·rw [hpt]
  unfold iz
  grind
 ·rw [if_neg (by omega),if_neg (by omega),if_pos h20] at hen
  exact Yd hen
 ·obtain ⟨p1,p2⟩:=o7 (.inl h19)
  have hc0:(c.2.2.2.2.1.getD x.2.1.toNat ([],0)).2=0:=by
   grind
  rw [if_neg (by omega),if_pos h19,if_pos hc0] at hen
  have hrl:0<(ee c s x.2.1).length:=by grind
  refine ⟨hj.1,?_⟩
  have h2:=hj.2
  show j<((ee c s x.2.1).length:Int)
  rw [if_neg (by omega)] at h2
  by_cases h1r:1<(ee c s x.2.1).length
  ·grind
  grind
 grind
theorem alh (s:aF) (hs:cU s) (hi:i<s.1.length) (z:ko):Itr.it (jl s ((i:Int),z)) (0,([]:List Fr),(s.1.getD i ([],[],0,false)).2)=some (s.1.getD i ([],[],0,false)):=by
 obtain ⟨h1,h2,h3⟩:=hs.2.1 _ (dv ([],[],0,false) hi)
 have et:=aB (([],[],0,false):Th) hi
 generalize s.1.getD i ([],[],0,false)=t at *
 exact dc (f:=jl s ((i:Int),z)) (fun y=>t.1.length - y.1.toNat) (fun _=>t) (fun y=>∃ k:Nat,y=((k:Int),t.1.take k,t.2)∧k≤t.1.length)
  (fun y hy=>by
   obtain ⟨k,rfl,hk⟩:=hy
   unfold jl
   rcases XJ k t.1.length with hlt | hge
   ·right
    refine ⟨(((k+1:Nat):Int),t.1.take (k+1),t.2),?_,⟨k+1,rfl,by omega⟩,by grind,rfl⟩
    simp only [et,f7,Zj,aq (show (k:Int)<(t.1.length:Int) by omega),f9,aB (0,[]) hlt,aW (n:=t.1.length) (by omega) hlt,eW (0,[]) hlt]
    rw [jI (ba (by grind) (by omega))]
    rfl
   ·left
    grind) (s:=(0,[],t.2)) ⟨0,rfl,by omega⟩ (by grind)
theorem alo (s:aF) (hs:cU s) (z:ko) (hz:z.1=[]):Itr.it (jr s) (0,z)=some (s.1,z.2):=by
 have h1:=hs.1
 refine dc (f:=jr s) (fun y=>s.1.length - y.1.toNat) (fun _=>(s.1,z.2)) (fun y=>∃ i:Nat,y=((i:Int),s.1.take i,z.2)∧i≤s.1.length)
  (fun y hy=>by
   obtain ⟨i,rfl,hi⟩:=hy
   unfold jr
   rcases XJ i s.1.length with hlt | hge
   ·right
    refine ⟨(((i+1:Nat):Int),s.1.take (i+1),z.2),?_,⟨i+1,rfl,by omega⟩,by grind,rfl⟩
    have e2:aK (s.1.take i).length ([s.1.getD i ([],[],0,false)]:List Th).length 64=true:=ba (by grind) (by omega)
    have e3:=alh s hs hlt (s.1.take i,z.2)
    simp only [aq (show (i:Int)<(s.1.length:Int) by omega),f9,aB ([],[],0,false) hlt,f7]
    refine (XZ (fun o:Option Th=>(o.bind fun s10=>af (aK (s.1.take i).length ([s10]:List Th).length 64) (some (s.1.take i++([s10]:List Th),z.2))).bind fun s3=>(some (Sum.inl (ad ((i:Int)+1),s3)):Option (oM⊕ko))) e3).trans ?_
    simp only [f7,Zj,af,e2,f9,aW (n:=s.1.length) (by omega) hlt,eW ([],[],0,false) hlt]
    rfl
   grind) ⟨0,?_,by omega⟩ (by grind)
 grind
theorem VG (s:aF) (hs:cU s):lr s=some s:=by
 unfold lr
 rw [Ak s hs]
 simp only [f7,Zj]
 rw [alo s hs _ rfl]
 rfl
theorem ahd (l:List bI) (h:l.length≤1000):gO l=some l:=by
 unfold gO
 rw [dc (f:=jD l) (fun y=>l.length - y.2.toNat) (fun _=>l) (fun y=>∃ i:Nat,y=(l.take i,(i:Int))∧i≤l.length)
  (fun y hy=>by
   obtain ⟨i,rfl,hi⟩:=hy
   unfold jD
   rcases XJ i l.length with hlt | hge
   ·right
    refine ⟨(l.take (i+1),((i+1:Nat):Int)),?_,⟨i+1,rfl,by omega⟩,by grind,rfl⟩
    have e2:aK (l.take i).length 1 24=true:=ba (by grind) (by omega)
    simp only [aq (show (i:Int)<(l.length:Int) by omega),f9,aB (0,0,false) hlt,f7,Zj,af,Wr,e2,aW (n:=l.length) (by omega) hlt,eW (0,0,false) hlt]
    rfl
   grind) (s:=([],0)) ⟨0,rfl,by omega⟩ (by grind)]
 rfl
theorem aaC (l:List bI) (h:l.length≤1000):gT l l=some true:=by
 unfold gT
 rw [Zh]
 simp only [no]
 rcases cH (f:=eS l l) l.length (by omega) (fun _=>True) (fun _=>false)
  (fun i hi _=>by
   left
   refine ⟨trivial,?_⟩
   unfold eS
   simp only [aq (show (i:Int)<(l.length:Int) by omega),f9,aB (0,0,false) hi,f7,Zj,W9,acw,XO,no,aW (n:=l.length) (by omega) hi])
  (fun _=>by unfold eS; grind) with ⟨_,he⟩ | ⟨i,_,_,hP,_⟩
 ·grind
 grind
theorem RY (p:UD) (h:p.2.2.2.length≤1000):jp p p=some true:=by
 unfold jp
 simp only [W9,f9,Fy p.2.2.2 (by omega),f7,Zj]
theorem RT (hc:bc c) (e:bu) (l:List lJ):GoodS c (sA c e l):=by
 obtain ⟨r1,r2,r3⟩:=Ck hc l
 have hg:GoodS c (ib c l):=⟨TJ hc l,r3,(by show (-1:Int)≤-1; omega),(by show (-1:Int)≤4; omega)⟩
 exact AS (q0 hc e.1 hg r1).1
def vf (v g:List Int) (s:aF):aF:=(s.1,v,s.2.2.1,s.2.2.2.1,g,s.2.2.2.2.2)
theorem ub (c:CC) (v g:List Int) (s:aF) (i:Nat) (o:Int):fY c (vf v g s) i o=vf v g (fY c s i o):=by
 unfold fY
 simp only [apply_ite (vf v g)]
 rfl
theorem ahw (c:CC) (kind:Int) (v g:List Int) (s:aF) (i:Nat) (fs:List Fr) (f:Fr) (st:List Int) (w:Int) (x:bu):gN c kind (vf v g s) i fs f st w x=(gN c kind s i fs f st w x).map (vf v g):=by
 unfold gN
 simp only [apply_ite (Option.map (vf v g)),Option.map_none,afO,apply_ite (vf v g)]
 rfl
theorem UK (c:CC) (kind:Int) (v g:List Int) (i:Nat) : ∀ (m:Nat) (s:aF),bX c kind i m (vf v g s)=((bX c kind i m s).1,vf v g (bX c kind i m s).2):=by
 intro m
 induction m with
 | zero=>
  intro s
  unfold bX
  rw [ub,show bj (vf v g s)=bj s from rfl,show be (vf v g s) i=be s i from rfl]
  repeat' (first | rfl | split)
 | succ m ih=>
  intro s
  unfold bX
  rw [ub,show bj (vf v g s)=bj s from rfl,show be (vf v g s) i=be s i from rfl,ahw]
  split
  ·rfl
  split
  ·rfl
  dsimp only
  cases gN c kind s i (be s i).1.dropLast (tz (be s i)) (be s i).2.1 (be s i).2.2.1 (dM c (be s i)) with
  | none=>exact XZ (Prod.mk false) (ub c v g s i 4)
  | some s' => exact ih s'
theorem YT (c:CC) (v g:List Int) (s:aF) (i:Nat):ln c (vf v g s) i=(vf v g (ln c s i).1,(ln c s i).2):=by
 unfold ln
 rw [show be (vf v g s) i=be s i from rfl,show (vf v g s).2.2.2.1=s.2.2.2.1 from rfl]
 dsimp only
 generalize dM c (be s i)=x
 by_cases h1:x.1=25
 ·rw [if_pos h1,if_pos h1]
  rfl
 rw [if_neg h1,if_neg h1]
 by_cases h2:x.1=21
 ·rw [if_pos h2,if_pos h2]
  simp only [apply_ite (vf v g)]
  rfl
 rw [if_neg h2,if_neg h2]
 by_cases h3:x.1=20
 ·rw [if_pos h3,if_pos h3]
 rw [if_neg h3,if_neg h3]
theorem Xn (c:CC) (kind:Int) (v g:List Int) (s:aF) (i:Nat):bE c kind i (vf v g s)=(vf v g (bE c kind i s).1,(bE c kind i s).2):=by
 unfold bE
 rw [UK,YT,show bj (vf v g (bX c kind i 64 s).2)=bj (bX c kind i 64 s).2 from rfl]
 split <;> rfl
theorem Uy (c:CC) (kind:Int) (v g:List Int) : ∀ (l:List Int) (s:aF),bk c kind l (vf v g s)=(vf v g (bk c kind l s).1,(bk c kind l s).2)
 | [],s=>rfl
 | z::r,s=>by
  unfold bk
  rw [Xn]
  dsimp only
  rw [Uy c kind v g r]
theorem NW (c:CC) (v g:List Int) (s:aF) : ∀ n,jn c (vf v g s) n=jn c s n
 | 0=>rfl
 | n+1=>by
  unfold jn
  rw [NW c v g s n]
  rfl
theorem UF (c:CC) (v g:List Int) (s:aF):dz c (vf v g s)=vf v g (dz c s):=by
 unfold dz
 rw [ub,ub,show (vf v g s).1=s.1 from rfl,NW,show bj (vf v g s)=bj s from rfl,show dB c (vf v g s)=dB c s from rfl,show (vf v g s).2.2.2.2.2.2.1=s.2.2.2.2.2.2.1 from rfl]
 repeat' (first | rfl | split)
def P8 (x:bu) (v g:List Int) (s:aF):Prop:=(x.1=16→v.getD x.2.1.toNat 0=s.2.1.getD x.2.1.toNat 0)∧(x.1=27→g.getD x.2.1.toNat 0=s.2.2.2.2.1.getD x.2.1.toNat 0)
theorem ae6 {x:bu}    (hp:f0 x.1) (h:P8 x v g s) :
  ∃ v' g',dH i f st x k (vf v g s).2=((dH i f st x k s.2).1,(dH i f st x k s.2).2.1,(dH i f st x k s.2).2.2.1,(dH i f st x k s.2).2.2.2.1,(vf v' g' (s.1,(dH i f st x k s.2).2.2.2.2)).2):=by
 obtain ⟨op,a,b⟩:=x
 obtain ⟨h1,h2⟩:=h
 dsimp only at h1 h2 hp
 unfold dH vf
 dsimp only
 rcases hp with rfl | rfl | rfl | rfl | rfl | rfl | rfl | rfl | rfl | rfl <;> simp only [Int.reduceEq,Xa,XB]
 ·rw [h1 rfl]
  split <;> exact ⟨_,_,rfl⟩
 ·split <;> exact ⟨_,_,rfl⟩
 ·exact ⟨_,_,rfl⟩
 ·exact ⟨_,_,rfl⟩
 ·exact ⟨_,_,rfl⟩
 ·exact ⟨_,_,rfl⟩
 ·exact ⟨_,_,rfl⟩
 ·exact ⟨_,_,rfl⟩
 ·split
  ·exact ⟨_,_,rfl⟩
  split <;> exact ⟨_,_,rfl⟩
 ·rw [h2 rfl]
  exact ⟨_,_,rfl⟩
theorem ag5 {x:bu}   (h:P8 x v g s) :
  ∃ v' g',cP c (vf v g s) i fs f st w x j=((cP c s i fs f st w x j).1,(cP c s i fs f st w x j).2.1,(cP c s i fs f st w x j).2.2.1,vf v' g' (cP c s i fs f st w x j).2.2.2):=by
 unfold cP
 split
 ·refine ⟨v,g,?_⟩
  unfold ni
  have : ∀ n,cy (vf v g s) n=cy s n:=fun n=>by
   induction n with
   | zero=>rfl
   | succ n ih=>unfold cy; rw [ih]; rfl
  rw [this]
  show (if 5≤cy s s.1.length then _ else _)=_
  split <;> rfl
 split
 ·refine ⟨v,g,?_⟩
  unfold gk
  dsimp only
  repeat' (first | rfl | split)
 split
 ·rename_i hp
  obtain ⟨v',g',he⟩:=ae6 (i:=i) (f:=f) (st:=st) (k:=j) hp h
  refine ⟨v',g',?_⟩
  unfold kn nU
  dsimp only
  rw [he]
  dsimp only
  split <;> rfl
 ·refine ⟨v,g,?_⟩
  unfold oq
  split <;> rfl
theorem aku {e:bu}   {q:rY} {v' g':List Int} : ∃ a b,lH c e (vf v g s) i (q.1,q.2.1,q.2.2.1,vf v' g' q.2.2.2)=(vf a b (lH c e s i q).1,(lH c e s i q).2):=by
 unfold lH
 dsimp only
 split
 ·refine ⟨v',g',?_⟩
  rw [show ju (vf v' g' q.2.2.2)=vf v' g' (ju q.2.2.2) from rfl,Uy,UF]
 ·refine ⟨v,g,?_⟩
  rw [show bR (vf v g s) (-1)=vf v g (bR s (-1)) from rfl,ub]
def EA {α:Type} (Q:α→Prop) (o:Option α):Prop:=∀ x,o=some x→Q x
theorem ZV {Q:α→Prop} {p:Prop} [Decidable p] {a b:Option α} (h1:p→EA Q a) (h2 : ¬ p→EA Q b):EA Q (if p then a else b):=by
 split
 ·exact h1 ‹_›
 ·exact h2 ‹_›
theorem UA {Q:α→Prop}:EA Q (none:Option α):=fun x h=>by cases h
theorem vn {Q:α→Prop} {x:α} (h:Q x):EA Q (some x):=fun y hy=>by cases hy; exact h
def ah2 (s:aF) (x:bu) (s' : aF):Prop:=
 tf s s' ∧ (s'.2.2.2.2.2.2.2.2.2=s.2.2.2.2.2.2.2.2.2∨bj s' = 1)∧(s'.2.2.2.2.2.2.2.1.2.1=s.2.2.2.2.2.2.2.1.2.1∨x.1=15∧s'.2.2.2.2.2.2.2.1.2.1=ad (s.2.2.2.2.2.2.2.1.2.1+x.2.1))
theorem IK {x:bu}  {t:Th}:ah2 s x (bM s i t):=⟨mD, .inl rfl, .inl rfl⟩
theorem Jw {x:bu}:EA (ah2 s x) (gN c kind s i fs f st w x):=by
 unfold gN
 dsimp only
 repeat' (first | exact UA | exact vn IK | refine ZV (fun h=>?_) (fun h=>?_))
 ·split
  ·exact vn ⟨Br _ _ _ _, .inr rfl, .inl rfl⟩
  ·exact vn IK
 ·exact vn ⟨mD, .inl rfl, .inr ⟨h,rfl⟩⟩
def tI (s t:aF):Prop:=t.2.1=s.2.1∧t.2.2.1=s.2.2.1∧t.2.2.2.1=s.2.2.2.1∧t.2.2.2.2.1=s.2.2.2.2.1
theorem CN (s:aF):tI s s:=⟨rfl,rfl,rfl,rfl⟩
theorem sw (h:tI s t) (h' : tI t u):tI s u:=⟨h'.1.trans h.1,h'.2.1.trans h.2.1,h'.2.2.1.trans h.2.2.1,h'.2.2.2.trans h.2.2.2⟩
def vg (s t:aF):Prop:=tI s t∧t.2.2.2.2.2.2.1=s.2.2.2.2.2.2.1∧t.2.2.2.2.2.2.2.2.1=s.2.2.2.2.2.2.2.2.1
theorem kL (s:aF):vg s s:=⟨CN s,rfl,rfl⟩
theorem wn (h:vg s t) (h' : vg t u):vg s u:=⟨sw h.1 h'.1,h'.2.1.trans h.2.1,h'.2.2.trans h.2.2⟩
theorem tP (c:CC) (s:aF) (i:Nat) (o:Int):vg s (fY c s i o):=by
 unfold fY
 dsimp only
 split <;> exact ⟨⟨rfl,rfl,rfl,rfl⟩,rfl,rfl⟩
theorem Ki (c:CC) (kind:Int) (i:Nat) : ∀ (m:Nat) (s:aF),vg s (bX c kind i m s).2:=by
 intro m
 induction m with
 | zero=>
  intro s
  unfold bX
  split
  ·exact kL s
  split
  ·exact kL s
  ·exact tP c s i 3
 | succ m ih=>
  intro s
  unfold bX
  split
  ·exact kL s
  split
  ·exact kL s
  dsimp only
  split
  ·exact tP c s i 4
  ·rename_i s' he
   obtain ⟨⟨a1,a2,a3,a4,_,a6,_,_,a9⟩,_⟩:=Jw _ he
   exact wn ⟨⟨a1,a2,a3,a4⟩,a6,a9⟩ (ih s')
theorem AG (c:CC) (kind:Int) (i:Nat) (s:aF):vg s (bE c kind i s).1:=by
 unfold bE
 refine wn (Ki c kind i 64 s) ?_
 split
 ·unfold ln
  dsimp only
  split
  ·exact kL _
  split
  ·dsimp only
   split <;> exact kL _
  split <;> exact kL _
 ·exact kL _
theorem yX (c:CC) (kind:Int) : ∀ (l:List Int) (s:aF),vg s (bk c kind l s).1
 | [],s=>kL s
 | z::r,s=>wn (AG c kind z.toNat s) (yX c kind r _)
theorem Iy (c:CC) (s:aF):tI s (dz c s):=by
 unfold dz
 repeat' (first | exact CN _ | exact (tP _ _ _ _).1 | split)
def Nm {α:Type} (d:α) (L:List bI) (kind:Int) (a b:List α):Prop:=a.length=b.length∧∀ k:Nat,a.getD k d≠b.getD k d→(kind,(k:Int),true)∈L
theorem eH {d:α}   {a:List α}:Nm d L kind a a:=⟨rfl,fun k h=>absurd rfl h⟩
theorem wQ {d:α}   {a:List α} {x:Int} {v:α} (hx:0≤x) (h:(kind,x,true)∈L):Nm d L kind a (a.set x.toNat v):=by
 refine ⟨by simp,fun k hk=>?_⟩
 by_cases e:x.toNat=k
 ·rw [← e,agh hx]
  exact h
 ·refine absurd ?_ hk
  rw [XF,XF,Zd e]
structure NmS (L:List bI) (s t:aF):Prop where
 v:Nm 0 L 0 s.2.1 t.2.1
 q:Nm [] L 1 s.2.2.1 t.2.2.1
 o:Nm 0 L 2 s.2.2.2.1 t.2.2.2.1
 f:Nm 0 L 3 s.2.2.2.2.1 t.2.2.2.2.1
theorem ic (h:tI s t):NmS L s t:=by
 obtain ⟨h1,h2,h3,h4⟩:=h
 exact ⟨by rw [h1]; exact eH,by rw [h2]; exact eH,by rw [h3]; exact eH,by rw [h4]; exact eH⟩
theorem Fp (h:NmS L s t) (hs : ∀ a∈L,a∈M) (h' : tI t u):NmS M s u:=by
 obtain ⟨h1,h2,h3,h4⟩:=h'
 exact ⟨by rw [h1]; exact ⟨h.v.1,fun k hk=>hs _ (h.v.2 k hk)⟩,by rw [h2]; exact ⟨h.q.1,fun k hk=>hs _ (h.q.2 k hk)⟩,by rw [h3]; exact ⟨h.o.1,fun k hk=>hs _ (h.o.2 k hk)⟩,by rw [h4]; exact ⟨h.f.1,fun k hk=>hs _ (h.f.2 k hk)⟩⟩
theorem ahI {x:bu}  (hx:(x.1=17∨x.1=19∨x.1=20∨x.1=21∨x.1=22∨x.1=26)→0≤x.2.1) :
  NmS (cP c s i fs f st w x j).2.1 s (cP c s i fs f st w x j).2.2.2:=by
 obtain ⟨op,a,b⟩:=x
 dsimp only at hx
 unfold cP
 dsimp only
 split
 ·unfold ni
  split <;> exact ic ⟨rfl,rfl,rfl,rfl⟩
 split
 ·unfold gk
  dsimp only
  split
  ·exact ic ⟨rfl,rfl,rfl,rfl⟩
  split
  ·exact ⟨eH,wQ (hx (by omega)) (by simp),eH,eH⟩
  ·exact ic ⟨rfl,rfl,rfl,rfl⟩
 split
 ·rename_i hp
  have e:(kn s i fs f st w (op,a,b) j).2.2.2.2=(dH i f st (op,a,b) j s.2).2.2.2.2:=by
   unfold kn nU
   dsimp only
   split <;> rfl
  suffices h:NmS (dH i f st (op,a,b) j s.2).1 s (s.1,(dH i f st (op,a,b) j s.2).2.2.2.2) by
   refine Fp h (fun a ha=>ha) ?_
   unfold tI
   rw [e]
   exact ⟨rfl,rfl,rfl,rfl⟩
  unfold dH
  dsimp only
  rcases hp with rfl | rfl | rfl | rfl | rfl | rfl | rfl | rfl | rfl | rfl <;> simp only [Int.reduceEq,Xa,XB]
  ·split <;> exact ic ⟨rfl,rfl,rfl,rfl⟩
  ·split
   ·exact ic ⟨rfl,rfl,rfl,rfl⟩
   ·exact ⟨wQ (hx (by omega)) (by simp),eH,eH,eH⟩
  ·exact ⟨eH,wQ (hx (by omega)) (by simp),eH,eH⟩
  ·exact ⟨eH,eH,wQ (hx (by omega)) (by simp),eH⟩
  ·exact ⟨eH,eH,wQ (hx (by omega)) (by simp),eH⟩
  ·exact ic ⟨rfl,rfl,rfl,rfl⟩
  ·exact ic ⟨rfl,rfl,rfl,rfl⟩
  ·exact ic ⟨rfl,rfl,rfl,rfl⟩
  ·split
   ·exact ic ⟨rfl,rfl,rfl,rfl⟩
   split
   ·exact ⟨eH,eH,eH,wQ (hx (by omega)) (by simp)⟩
   ·exact ic ⟨rfl,rfl,rfl,rfl⟩
  ·exact ic ⟨rfl,rfl,rfl,rfl⟩
 ·unfold oq
  dsimp only
  split <;> exact ic ⟨rfl,rfl,rfl,rfl⟩
theorem akI {e:bu}   {q:rY} (h:NmS q.2.1 (bR s (-1)) q.2.2.2):NmS (lH c e s i q).2 s (lH c e s i q).1:=by
 unfold lH
 split
 ·refine Fp (t:=q.2.2.2) ⟨h.v,h.q,h.o,h.f⟩ (fun a ha=>Xd.2 (.inl (Wq _ ha))) ?_
  exact sw (t:=ju q.2.2.2) ⟨rfl,rfl,rfl,rfl⟩ (sw (yX _ _ _ _).1 (Iy _ _))
 ·exact ic (sw (t:=bR s (-1)) ⟨rfl,rfl,rfl,rfl⟩ (tP _ _ _ _).1)
theorem MW (hc:bc c) (kind:Int)  : ∀ (m:Nat) {s:aF} {fs:List Fr} {f:Fr} {st:List Int} {w:Int},s.1[i]? = some (fs++[f],st,w,false)→Run1 c fs f st →
  0≤s.2.2.2.2.2.2.2.1.2.1→s.2.2.2.2.2.2.2.1.2.1+100 * m≤2000000000→bj (bX c kind i m s).2<0 →
  (bX c kind i m s).2.2.2.2.2.2.2.2.2.2=s.2.2.2.2.2.2.2.2.2∧s.2.2.2.2.2.2.2.1.2.1≤(bX c kind i m s).2.2.2.2.2.2.2.2.1.2.1∧(bX c kind i m s).2.2.2.2.2.2.2.2.1.2.1≤s.2.2.2.2.2.2.2.1.2.1+100 * m:=by
 intro m
 induction m with
 | zero=>
  intro s fs f st w ht hr h1 h2
  obtain ⟨k,pc,hA⟩:=gx ht hr
  rw [qw c kind 0 hA]
  split
  ·exact fun _=>⟨rfl,by dsimp only; omega,by dsimp only; omega⟩
  split
  ·exact fun _=>⟨rfl,by dsimp only; omega,by dsimp only; omega⟩
  ·dsimp only
   rw [mt]
   exact fun h=>absurd h (by omega)
 | succ m ih=>
  intro s fs f st w ht hr h1 h2
  obtain ⟨k,pc,hA⟩:=gx ht hr
  rw [qw c kind (m+1) hA]
  split
  ·exact fun _=>⟨rfl,by dsimp only; omega,by dsimp only; omega⟩
  split
  ·exact fun _=>⟨rfl,by dsimp only; omega,by dsimp only; omega⟩
  rename_i n1 n2
  obtain ⟨hop,hb⟩:=sW hc hA (by simpa using n2)
  dsimp only
  cases hsil:gN c kind s i fs f st w (cz c f.1.toNat) with
  | none=>
   dsimp only
   rw [mt]
   exact fun h=>absurd h (by omega)
  | some s' =>
   dsimp only
   obtain ⟨fs1,f1,st1,g1,g2,g3⟩:=C7 hc hA hr hop hb hsil
   obtain ⟨_,m1,m2⟩:=Jw _ hsil
   have hF:=hc.2.2.1 k pc hA.pc2 hA.pr
   rw [hA.x] at hF
   obtain ⟨_,_,_,_,_,_,o5,_⟩:=hF
   have ha:0≤s'.2.2.2.2.2.2.2.1.2.1∧s.2.2.2.2.2.2.2.1.2.1≤s'.2.2.2.2.2.2.2.1.2.1∧s'.2.2.2.2.2.2.2.1.2.1≤s.2.2.2.2.2.2.2.1.2.1+100:=by
    rcases m2 with m2 | ⟨m2,m3⟩
    ·omega
    ·obtain ⟨o1,o2⟩:=o5 m2
     rw [m3,aY (by omega) (by omega)]
     omega
   rcases m1 with m1 | m1
   ·intro hq
    obtain ⟨j1,j2,j3⟩:=ih (s:=s') (w:=w) (by rw [g1]; exact Yc (cK ht)) g2 (by omega) (by omega) hq
    exact ⟨j1.trans m1,by omega,by omega⟩
   ·have:(bX c kind i m s').2=s' := by
     unfold bX
     rw [if_pos (by omega)]
    rw [this]
    exact fun h=>absurd h (by omega)
structure RunV (c:CC) (s:aF) (L:List Int) (K A N:Int):Prop where
 n1:1≤s.1.length
 n:(s.1.length:Int)+s.2.2.2.2.2.2.1≤N
 fu:0≤s.2.2.2.2.2.2.1
 own : ∀ k,k<s.2.2.2.1.length→kY s k
 so : ∀ k,k<s.1.length→(k:Int)∉L→jb c s k=true
 wk : ∀ k,k<s.1.length→0≤(be s k).2.2.1∧(be s k).2.2.1≤K+10
 live:cy s s.1.length≤5
 cl:0≤s.2.2.2.2.2.1∧s.2.2.2.2.2.1≤K
 st:0≤s.2.2.2.2.2.2.2.1.1∧s.2.2.2.2.2.2.2.1.1≤A
 al:0≤s.2.2.2.2.2.2.2.1.2.1∧s.2.2.2.2.2.2.2.1.2.1≤A
 wa:0≤s.2.2.2.2.2.2.2.1.2.2∧s.2.2.2.2.2.2.2.1.2.2≤A
 wh:s.2.2.2.2.2.2.2.2.2.2=(0,[])
 t0:(be s 0).2.2.2=false
theorem lT : ∀ n:Nat,(∀ k,k<n→(be s k).2.2.2=true→(be t k).2.2.2=true)→cy t n≤cy s n:=by
 intro n
 induction n with
 | zero=>exact fun _=>aeq _
 | succ n ih=>
  intro h
  have:=ih fun k hk=>h k (by omega)
  have:=h n (by omega)
  unfold cy
  split <;> split <;> rename_i a b
  ·omega
  ·omega
  ·exact absurd (this b) a
  ·omega
theorem Vl {k:Nat} (h:t.1[k]? = s.1[k]?):be t k=be s k:=by
 unfold be
 rw [XF,XF,h]
theorem uA {k:Nat} (h:be t k=be s k) (ho:bj t=bj s):jb c t k=jb c s k:=by
 unfold jb
 rw [h,ho]
theorem FQ (hc:bc c) (kind:Int)   {L:List Int}  (hg:GoodS c s) (hr:pj c s i) (h:RunV c s ((i:Int)::L) K A N) (hK:K≤10000) (hA:A≤1000000000)
  (ho:bj (bE c kind i s).1<0):RunV c (bE c kind i s).1 L K (A+6401) N:=by
 obtain ⟨q1,q2,q3,_⟩:=q0 hc kind hg hr
 obtain ⟨fs,f,st,w,ht,hr⟩:=hr
 have hi:=cK ht
 obtain ⟨fs',f',st',g1,g2,g3,g4⟩:=vi hc kind 64 ht hr
 have hm:=MW hc kind 64 ht hr h.al.1 (by have:=h.al.2; omega)
 obtain ⟨k1,k2,k3,k4,k5,k6,k7,k8,k9⟩:=g3
 have hw:=h.wk i hi
 rw [d8 ht] at hw
 have key : ∃ w',be (bE c kind i s).1 i=(fs' ++ [f'],st',w',false)∧dE (cz c f'.1.toNat) (fs'.length+1)=true∧0≤w' ∧ w' ≤ K+10∧(bE c kind i s).1.2.2.2.2.2.2.2.2.2=s.2.2.2.2.2.2.2.2.2 ∧
   (bE c kind i s).1.2.2.2.1=s.2.2.2.1∧(bE c kind i s).1.2.2.2.2.2.1=s.2.2.2.2.2.1∧(bE c kind i s).1.2.2.2.2.2.2.1=s.2.2.2.2.2.2.1∧(bE c kind i s).1.2.2.2.2.2.2.2.1.1=s.2.2.2.2.2.2.2.1.1 ∧
   (0≤(bE c kind i s).1.2.2.2.2.2.2.2.1.2.1∧(bE c kind i s).1.2.2.2.2.2.2.2.1.2.1≤A+6401)∧(0≤(bE c kind i s).1.2.2.2.2.2.2.2.1.2.2∧(bE c kind i s).1.2.2.2.2.2.2.2.1.2.2≤A+6401):=by
  have ho' : bj (bX c kind i 64 s).2<0:=by
   unfold bE at ho
   split at ho
   ·rw [FI] at ho; exact ho
   ·exact ho
  obtain ⟨b1,b2⟩:=g4 ho'
  obtain ⟨m1,m2,m3⟩:=hm ho'
  have hal:=h.al
  have hwa:=h.wa
  have hcl:=h.cl
  unfold bE
  rw [if_pos ⟨b1,ho'⟩]
  generalize bX c kind i 64 s=q at *
  obtain ⟨b,q⟩:=q
  dsimp only at *
  have hq:q.1[i]? = some (fs' ++ [f'],st',w,false):=by rw [g1]; exact Yc hi
  obtain ⟨k,pc,hAt⟩:=gx hq g2
  have hF:=hc.2.2.1 k pc hAt.pc2 hAt.pr
  rw [hAt.x] at hF
  obtain ⟨_,_,_,_,_,_,_,_,_,_,_,o10,_⟩:=hF
  have hx:dM c (be q i)=cz c f'.1.toNat:=by rw [d8 hq]; unfold dM; rw [dL]
  have hl:i<q.1.length:=cK hq
  unfold ln
  dsimp only
  rw [hx]
  split
  ·rename_i h25
   obtain ⟨o1,o2⟩:=o10 h25
   have ew:ad (q.2.2.2.2.2.1+(cz c f'.1.toNat).2.1)=q.2.2.2.2.2.1+(cz c f'.1.toNat).2.1:=aY (by omega) (by omega)
   exact ⟨_,by rw [uc hl,d8 hq],b2,by rw [ew]; omega,by rw [ew]; omega,m1,k3,k5,k6,k7,⟨by dsimp only [bM]; omega,by dsimp only [bM]; omega⟩,⟨by dsimp only [bM]; omega,by dsimp only [bM]; omega⟩⟩
  split
  ·dsimp only
   split
   ·have ew:ad (q.2.2.2.2.2.2.2.1.2.2+1)=q.2.2.2.2.2.2.2.1.2.2+1:=aY (by omega) (by omega)
    exact ⟨w,d8 hq,b2,hw.1,hw.2,m1,k3,k5,k6,k7,⟨by dsimp only [xK]; omega,by dsimp only [xK]; omega⟩,⟨by dsimp only [xK]; omega,by dsimp only [xK]; omega⟩⟩
   ·exact ⟨w,d8 hq,b2,hw.1,hw.2,m1,k3,k5,k6,k7,⟨by omega,by omega⟩,⟨by omega,by omega⟩⟩
  split
  ·exact ⟨w,d8 hq,b2,hw.1,hw.2,m1,k3,k5,k6,k7,⟨by dsimp only; omega,by dsimp only; omega⟩,⟨by dsimp only; omega,by dsimp only; omega⟩⟩
  ·exact ⟨w,d8 hq,b2,hw.1,hw.2,m1,k3,k5,k6,k7,⟨by dsimp only; omega,by dsimp only; omega⟩,⟨by dsimp only; omega,by dsimp only; omega⟩⟩
 generalize (bE c kind i s).1=t at *
 obtain ⟨w',t1,t2,t3,t4,t5,t6,t7,t8,t9,t10,t11⟩:=key
 have hth : ∀ k,k≠i→be t k=be s k:=fun k hk=>Vl (q3 k hk)
 have hio:bj t=bj s:=by unfold bj; rw [t5]
 have hlv : ∀ k,(be s k).2.2.2=true→(be t k).2.2.2=true:=fun k hk=>by
  by_cases e:k=i
  ·subst e
   rw [d8 ht] at hk
   cases hk
  ·rw [hth k e]; exact hk
 exact ⟨by rw [q2]; exact h.n1,by rw [q2,t8]; exact h.n,by rw [t8]; exact h.fu,fun k hk=>by
   have:=h.own k (by rw [← t6]; exact hk)
   unfold kY at this ⊢
   rw [t6,q2]
   exact this,fun k hk hL=>by
   by_cases e:k=i
   ·subst e
    unfold jb
    rw [t1]
    dsimp only
    rw [if_neg (by simp)]
    refine aq ⟨t3,by omega, .inr ?_⟩
    unfold dM
    rw [dL,Wu,Wr]
    exact t2
   ·rw [uA (hth k e) hio]
    exact h.so k (by omega) (by simp only [Xb,not_or]; exact ⟨by omega,hL⟩),fun k hk=>by
   by_cases e:k=i
   ·subst e
    rw [t1]
    exact ⟨t3,t4⟩
   ·rw [hth k e]
    exact h.wk k (by omega),by
   have:=lT (s:=s) (t:=t) t.1.length fun k _=>hlv k
   rw [q2] at this ⊢
   have:=h.live
   omega,by rw [t7]; exact h.cl,by rw [t9]; exact ⟨h.st.1,by have:=h.st.2; omega⟩,t10,t11,by rw [t5]; exact h.wh,by
   by_cases e:(0:Nat)=i
   ·rw [e,t1]
   ·rw [hth 0 e]; exact h.t0⟩
theorem mB {L:List Int} {K' A' N':Int} (h:RunV c s L K A N) (h1:K≤K') (h2:A≤A') (h3:N≤N'):RunV c s L K' A' N' := by
 obtain ⟨a1,a2,a3,a4,a5,a6,a7,a8,a9,a10,a11,a12,a13⟩:=h
 exact ⟨a1,by omega,a3,a4,a5,fun k hk=>by have:=a6 k hk; omega,a7,by omega,by omega,by omega,by omega,a12,a13⟩
theorem BI {L:List Int} {K':Int} (h:RunV c s L K A N) (h1:t.1=s.1) (h2 : ∀ k,k<t.2.2.2.1.length→kY t k) (h3:0≤t.2.2.2.2.2.1∧t.2.2.2.2.2.1≤K') (h4:K≤K') (h5:t.2.2.2.2.2.2=s.2.2.2.2.2.2):RunV c t L K' A N:=by
 have hth : ∀ k,be t k=be s k:=fun k=>by unfold be; rw [h1]
 have ho:bj t=bj s:=by unfold bj; rw [h5]
 obtain ⟨a1,a2,a3,a4,a5,a6,a7,a8,a9,a10,a11,a12,a13⟩:=h
 refine ⟨by rw [h1]; exact a1,by rw [h1,h5]; exact a2,by rw [h5]; exact a3,h2,fun k hk hL=>?_,fun k hk=>?_,?_,h3,by rw [h5]; exact a9,by rw [h5]; exact a10,by rw [h5]; exact a11,by rw [h5]; exact a12,by rw [hth]; exact a13⟩
 ·rw [uA (hth k) ho]
  exact a5 k (by rw [← h1]; exact hk) hL
 ·rw [hth]
  have:=a6 k (by rw [← h1]; exact hk)
  omega
 ·have:=lT (s:=s) (t:=t) t.1.length fun k _ hk=>by rw [hth]; exact hk
  rw [h1] at this ⊢
  omega
theorem D6 {L:List Int}  (h:RunV c s L K A N)  {t:Th} (hi:i<s.1.length) (ht:t.2.2=(be s i).2.2):RunV c (bM s i t) ((i:Int)::L) K A N:=by
 obtain ⟨a1,a2,a3,a4,a5,a6,a7,a8,a9,a10,a11,a12,a13⟩:=h
 have hf : ∀ k,(be (bM s i t) k).2.2=(be s k).2.2:=fun k=>by
  by_cases e:k=i
  ·rw [e,uc hi,ht]
  ·rw [nj e]
 refine ⟨by rw [cD]; exact a1,by rw [cD]; exact a2,a3,fun k hk=>?_,fun k hk hL=>?_,fun k hk=>?_,?_,a8,a9,a10,a11,a12,by rw [hf]; exact a13⟩
 ·have:=a4 k hk
  unfold kY at this ⊢
  rw [cD]
  exact this
 ·simp only [Xb,not_or] at hL
  rw [uA (nj (by omega)) rfl]
  exact a5 k (by rw [← cD]; exact hk) hL.2
 ·rw [hf]
  exact a6 k (by rw [← cD]; exact hk)
 ·have:=lT (s:=s) (t:=bM s i t) s.1.length fun k _ hk=>by rw [hf]; exact hk
  rw [cD]
  omega
theorem agI {L:List Int}  (h:RunV c s L K A N) (hl:cy s s.1.length<5) (p:Int):RunV c (s.1++[rL c p],s.2) ((s.1.length:Int)::L) K A (N+1):=by
 obtain ⟨a1,a2,a3,a4,a5,a6,a7,a8,a9,a10,a11,a12,a13⟩:=h
 have hlen:(s.1++[rL c p]).length=s.1.length+1:=by simp
 have hth : ∀ k,k<s.1.length→be (s.1++[rL c p],s.2) k=be s k:=fun k hk=>Vl (by dsimp only; rw [aa5 hk])
 have hn:be (s.1++[rL c p],s.2) s.1.length=rL c p:=by unfold be; simp
 refine ⟨by dsimp only; omega,by dsimp only; rw [hlen]; omega,a3,fun k hk=>?_,fun k hk hL=>?_,fun k hk=>?_,?_,a8,a9,a10,a11,a12,by rw [hth 0 a1]; exact a13⟩
 ·have:=a4 k hk
  unfold kY at this ⊢
  dsimp only
  rw [hlen]
  omega
 ·simp only [Xb,not_or] at hL
  dsimp only at hk
  rw [uA (hth k (by omega)) rfl]
  exact a5 k (by omega) hL.2
 ·dsimp only at hk
  by_cases e:k<s.1.length
  ·rw [hth k e]
   exact a6 k e
  ·rw [show k=s.1.length by omega,hn]
   exact ⟨aeq _,by show (0:Int)≤K+10; omega⟩
 ·dsimp only
  rw [hlen]
  unfold cy
  have:=lT (s:=s) (t:=(s.1++[rL c p],s.2)) s.1.length fun k hk hk2=>by rw [hth k hk]; exact hk2
  split <;> omega
theorem af1 {L:List Int}  (h:RunV c s L K A N)  (hi:i<s.1.length) (h0:i≠0):RunV c (bM s i ([],[],0,true)) L K A N:=by
 obtain ⟨a1,a2,a3,a4,a5,a6,a7,a8,a9,a10,a11,a12,a13⟩:=h
 refine ⟨by rw [cD]; exact a1,by rw [cD]; exact a2,a3,fun k hk=>?_,fun k hk hL=>?_,fun k hk=>?_,?_,a8,a9,a10,a11,a12,by rw [nj (agN h0)]; exact a13⟩
 ·have:=a4 k hk
  unfold kY at this ⊢
  rw [cD]
  exact this
 ·by_cases e:k=i
  ·unfold jb
   rw [e,uc hi]
   rfl
  ·rw [uA (nj e) rfl]
   exact a5 k (by rw [← cD]; exact hk) hL
 ·by_cases e:k=i
  ·rw [e,uc hi]
   exact ⟨aeq _,by show (0:Int)≤K+10; omega⟩
  ·rw [nj e]
   exact a6 k (by rw [← cD]; exact hk)
 ·have:=lT (s:=s) (t:=bM s i ([],[],0,true)) s.1.length fun k _ hk=>by
   by_cases e:k=i
   ·rw [e,uc hi]
   ·rw [nj e]; exact hk
  rw [cD]
  omega
theorem afZ (c:CC) (s:aF) : ∀ n,0≤jn c s n→∃ k,k<n∧(kf c (be s k)).1=25∧(be s k).2.2.1=jn c s n:=by
 intro n
 induction n with
 | zero=>intro h; unfold jn at h; omega
 | succ n ih=>
  unfold jn
  split
  ·rename_i h
   exact fun _=>⟨n,by omega,h.1,rfl⟩
  ·intro h
   obtain ⟨k,h1,h2⟩:=ih h
   exact ⟨k,by omega,h2⟩
theorem CQ (h:RunV c s [] K A N) (ho:bj (dz c s)<0) :
  RunV c (dz c s) [] (K+10) A N∧1≤(dz c s).2.2.2.2.2.2.1∧0<(dB c (dz c s)).length∧(dz c s).2.2.2.2.2.2=s.2.2.2.2.2.2:=by
 have hfu:=h.fu
 unfold dz at *
 split at ho
 ·omega
 rename_i h0
 rw [if_neg h0]
 split at ho
 ·rw [mt] at ho; omega
 rename_i h1
 rw [if_neg h1]
 split at ho
 ·rename_i h2
  rw [if_pos h2]
  exact ⟨mB h (by omega) (by omega) (by omega),by omega,h2,rfl⟩
 rename_i h2
 rw [if_neg h2]
 split at ho
 ·rename_i h3
  rw [if_pos h3]
  obtain ⟨k,k1,k2,k3⟩:=afZ c s _ h3
  have hk:=h.wk k k1
  refine ⟨BI h rfl h.own ⟨h3,by show jn c s s.1.length≤K+10; omega⟩ (by omega) rfl,by show 1≤s.2.2.2.2.2.2.1; omega,?_,rfl⟩
  refine List.length_pos_of_mem (a:=(k:Int)) (B2.2 ⟨k,k1,?_,rfl⟩)
  unfold vh
  dsimp only
  rw [show be (U6 s (jn c s s.1.length)) k=be s k from rfl,k2]
  rw [if_neg (by intro h; unfold kf at k2; rw [if_pos h] at k2; cases k2)]
  simp only [Int.reduceEq,Xa,XB]
  exact aq (by show (be s k).2.2.1≤jn c s s.1.length; omega)
 ·rw [mt] at ho; omega
theorem WD {L:List Int}  (h:RunV c s L K A N) (hf:1≤s.2.2.2.2.2.2.1) (hf2:s.2.2.2.2.2.2.1≤64) (hK:K≤10000) (hA:A≤1000000000):RunV c (ju s) L (K+1) (A+1) (N - 1):=by
 obtain ⟨a1,a2,a3,a4,a5,a6,a7,a8,a9,a10,a11,a12,a13⟩:=h
 have e1:ad (s.2.2.2.2.2.1+1)=s.2.2.2.2.2.1+1:=aY (by omega) (by omega)
 have e2:ad (s.2.2.2.2.2.2.1 - 1)=s.2.2.2.2.2.2.1 - 1:=aY (by omega) (by omega)
 have e3:ad (s.2.2.2.2.2.2.2.1.1+1)=s.2.2.2.2.2.2.2.1.1+1:=aY (by omega) (by omega)
 refine ⟨a1,?_,?_,a4,a5,fun k hk=>?_,?_,?_,?_,?_,?_,a12,a13⟩
 ·show (s.1.length:Int)+ad (s.2.2.2.2.2.2.1 - 1)≤N - 1
  omega
 ·show 0≤ad (s.2.2.2.2.2.2.1 - 1)
  omega
 ·have:=a6 k hk
  exact ⟨this.1,by show (be s k).2.2.1≤_; omega⟩
 ·exact agu (lT (s:=s) (t:=ju s) s.1.length fun k _ h=>h) a7
 ·show 0≤ad (s.2.2.2.2.2.1+1)∧ad (s.2.2.2.2.2.1+1)≤K+1
  omega
 ·show 0≤ad (s.2.2.2.2.2.2.2.1.1+1)∧ad (s.2.2.2.2.2.2.2.1.1+1)≤A+1
  omega
 ·exact ⟨a10.1,by show s.2.2.2.2.2.2.2.1.2.1≤A+1; omega⟩
 ·exact ⟨a11.1,by show s.2.2.2.2.2.2.2.1.2.2≤A+1; omega⟩
theorem aeI {x:Int} {a:Nat} (h : ∀ k,k<s.2.2.2.1.length→kY s k) (hl:t.1.length=s.1.length) (h1:t.2.2.2.1=s.2.2.2.1.set a x) (hx : -1≤x∧x<s.1.length) : ∀ k,k<t.2.2.2.1.length→kY t k:=by
 intro k hk
 rw [h1,Y4] at hk
 have:=h k hk
 unfold kY at this ⊢
 rw [hl,h1,XF]
 by_cases e:a=k
 ·subst e
  rw [Yc hk]
  exact hx
 ·rw [Zd e,← XF]
  exact this
theorem Fw {x:bu}  {r:Bq} (hp:f0 x.1):(dH i f st x k r).2.2.2.2.2.2.2.2.2=r.2.2.2.2.2:=by
 obtain ⟨op,a,b⟩:=x
 dsimp only at hp
 unfold dH
 dsimp only
 rcases hp with rfl | rfl | rfl | rfl | rfl | rfl | rfl | rfl | rfl | rfl <;> simp only [Int.reduceEq,Xa,XB]
 ·split <;> rfl
 ·split <;> rfl
 ·split
  ·rfl
  split <;> rfl
structure EffFine (s:aF) (K:Int) (r:Bq):Prop where
 own:(∃ x' a,r.2.2.1=s.2.2.2.1.set a x' ∧ -1≤x' ∧ x' < s.1.length)∨r.2.2.1=s.2.2.2.1
 ck:0≤r.2.2.2.2.1∧r.2.2.2.2.1≤K+1
theorem VU (h:RunV c s [] K A N)      {x:bu}  (hK:K≤10000) (ht:s.1[i]? = some (fs++[f],st,w,false)) (hp:f0 x.1) (hj:x.1=24→0≤j∧j≤1) (hg:(kn s i fs f st w x j).2.2.1=true) :
  RunV c (kn s i fs f st w x j).2.2.2 (kn s i fs f st w x j).1 (K+1) A N:=by
 have hi:=cK ht
 have hcl:=h.cl
 unfold kn at *
 dsimp only at hg ⊢
 rw [if_pos hg]
 have e0:bM (nU s i fs f st w x j) i (fs++[(ad (f.1+1),(dH i f st x j s.2).2.2.1)],(dH i f st x j s.2).2.2.2.1,w,false)=(s.1.set i (fs++[(ad (f.1+1),(dH i f st x j s.2).2.2.1)],(dH i f st x j s.2).2.2.2.1,w,false),(dH i f st x j s.2).2.2.2.2):=by
  unfold bM nU
  dsimp only
  rw [af7]
 rw [e0]
 have hput:=D6 h (t:=(fs++[(ad (f.1+1),(dH i f st x j s.2).2.2.1)],(dH i f st x j s.2).2.2.2.1,w,false)) hi (by rw [d8 ht])
 generalize hr:(dH i f st x j s.2).2.2.2.2=r
 have hst:(bM s i (fs++[(ad (f.1+1),(dH i f st x j s.2).2.2.1)],(dH i f st x j s.2).2.2.2.1,w,false)).1.length=s.1.length:=cD
 have hall:EffFine s K r:=by
  rw [← hr]
  clear hr hput hst e0 hg
  obtain ⟨op,a,b⟩:=x
  dsimp only at hp hj
  unfold dH
  dsimp only
  have keep:(0≤s.2.2.2.2.2.1∧s.2.2.2.2.2.1≤K+1):=by omega
  rcases hp with rfl | rfl | rfl | rfl | rfl | rfl | rfl | rfl | rfl | rfl <;> simp only [Int.reduceEq,Xa,XB]
  ·split <;> exact ⟨.inr rfl,keep⟩
  ·split <;> exact ⟨.inr rfl,keep⟩
  ·exact ⟨.inr rfl,keep⟩
  ·exact ⟨.inl ⟨_,_,rfl,by omega,by omega⟩,keep⟩
  ·exact ⟨.inl ⟨_,_,rfl,by omega,by omega⟩,keep⟩
  ·exact ⟨.inr rfl,keep⟩
  ·obtain ⟨j1,j2⟩:=hj rfl
   rw [aY (by omega) (by omega)]
   exact ⟨.inr rfl,by dsimp only; omega⟩
  ·exact ⟨.inr rfl,keep⟩
  ·split
   ·exact ⟨.inr rfl,keep⟩
   split <;> exact ⟨.inr rfl,keep⟩
  ·exact ⟨.inr rfl,keep⟩
 obtain ⟨ho,hc1⟩:=hall
 refine BI hput rfl (fun k hk=>?_) hc1 (by omega) (by rw [← hr]; exact Fw hp)
 rcases ho with ⟨x',a,h1,h2⟩ | h1
 ·exact aeI (t:=(s.1.set i (fs++[(ad (f.1+1),(dH i f st x j s.2).2.2.1)],(dH i f st x j s.2).2.2.2.1,w,false),r)) hput.own rfl h1 (by rw [hst]; exact h2) k hk
 ·have:=hput.own k (by show k<s.2.2.2.1.length; rw [← h1]; exact hk)
  unfold kY at this ⊢
  dsimp only
  rw [h1]
  exact this
end Go.Proofs.YtfhhiajfciblbaaGreatDoor
