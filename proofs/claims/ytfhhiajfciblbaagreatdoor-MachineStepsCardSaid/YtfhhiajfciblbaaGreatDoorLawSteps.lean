/- Laws for the row. No condition. -/
import Derived.Test.YtfhhiajfciblbaaGreatDoorLawM7
import Derived.Test.YtfhhiajfciblbaaGreatDoorExtT
import Derived.Test.YtfhhiajfciblbaaGreatDoorLawS8
import Derived.Test.YtfhhiajfciblbaaGreatDoorLawS6
namespace Go.Proofs.YtfhhiajfciblbaaGreatDoor
open Go.Sm
variable {c:CC} {s:aO} {i pc:Nat} {f:Fr} {st:List Int} {fs:List Fr} {w j k o:Int} {L:List bR} {m:List ((Int×Int×Bool)×Bool)}
abbrev A3:Type:=Int×Int×Bool
def kB (a:A3):Prop:=0≤a.1∧a.1<1099511627776∧0≤a.2.1∧a.2.1<1099511627776
def kg (a b:A3):Bool:=decide (a.1<b.1)||(a.1==b.1&&decide (a.2.1<b.2.1))
theorem ahc {a b:A3} (ha:kB a) (hb:kB b) : ∃ n:Int,dJ a b=some n∧decide (n<0)=kg a b:=by
 obtain ⟨h1,h2,h3,h4⟩:=ha
 obtain ⟨g1,g2,g3,g4⟩:=hb
 by_cases h:a.1=b.1
 ·have e:dJ a b=some (ad (a.2.1 - b.2.1)):=by
   unfold dJ
   rw [show (a.1 != b.1)=false by simp [h]]
   rfl
  refine ⟨_,e,?_⟩
  rw [aZ (by omega) (by omega)]
  unfold kg
  simp only [h,adv,Yv,adH,V9,afa,aat]
  omega
 ·have e:dJ a b=some (ad (a.1 - b.1)):=by
   unfold dJ
   rw [show (a.1 != b.1)=true by simp [h]]
   rfl
  refine ⟨_,e,?_⟩
  rw [aZ (by omega) (by omega)]
  unfold kg
  simp only [WW.2 h,afE,agv,aat]
  omega
def kH (x:A3):List A3→List A3
 | []=>[x]
 | y::r=>if kg x y then y::kH x r else x::y::r
theorem C4 (pre:List A3) (x:A3) (rest:List A3) {i:Int} (h:i=(pre.length:Int)):ac (pre++x::rest) i=some x:=by
 subst h
 unfold ac
 simp
theorem XG {n:Nat} {d0:List A3} {pre rest:List A3} {x:A3} (hs : ∀ a∈pre++x::rest,kB a) (hn:(pre++x::rest).length=n) (h12:n≤12) :
  ∃ r,Itr.it (dr (d0,0,(n:Int)) 0) ((pre.length:Int),pre++x::rest)=some r∧r=(kH x pre.reverse).reverse++rest:=by
 obtain ⟨R,hR⟩ : ∃ R,R=(kH x pre.reverse).reverse++rest:=⟨_,rfl⟩
 rw [← hR]
 refine fw (fun s=>s.1.toNat) (fun s=>∃ pre x rest,s=((pre.length:Int),pre++x::rest)∧R=(kH x pre.reverse).reverse++rest∧(∀ a∈pre++x::rest,kB a)∧(pre++x::rest).length=n) (fun r=>r=R) ?_ ⟨pre,x,rest,rfl,hR,hs,hn⟩ (by simp only [Vs,Ws] at hn; show ((pre.length:Int)).toNat<_; omega)
 rintro s ⟨pre,x,rest,rfl,hR,hs,hn⟩
 rcases List.eq_nil_or_concat pre with rfl | ⟨pre',y,rfl⟩
 ·left
  refine ⟨x::rest,rfl,?_⟩
  rw [hR]; rfl
 ·rw [List.concat_eq_append] at *
  have hlen:pre'.length+rest.length+2=n:=by rw [← hn]; simp; omega
  have hj:(((pre' ++ [y]).length:Nat):Int)=(pre'.length:Int)+1:=by simp
  have hw:ad ((pre'.length:Int)+1 - 1)=(pre'.length:Int):=by rw [aZ (by omega) (by omega)]; omega
  have e0:ac ((pre' ++ [y])++x::rest) (0+((pre'.length:Int)+1))=some x:=C4 _ _ _ (by simp)
  have e1:ac ((pre' ++ [y])++x::rest) (0+(pre'.length:Int))=some y:=by
   rw [V8]
   exact C4 pre' y (x::rest) (by simp)
  obtain ⟨m,hm,hlt⟩:=ahc (hs x (by simp)) (hs y (by simp))
  have c1:decide ((0:Int)<(pre'.length:Int)+1)=true:=adU (by omega)
  have c2:decide ((0:Int)≤(pre'.length:Int)+1∧(pre'.length:Int)+1<(n:Int) - 0)=true:=adU (by omega)
  have c3:decide ((0:Int)≤(pre'.length:Int)∧(pre'.length:Int)<(n:Int) - 0)=true:=adU (by omega)
  rw [hj]
  have hR' : R=(kH x (y::pre'.reverse)).reverse++rest:=by rw [hR]; simp
  unfold dr
  simp only [c1,c2,c3,hw,e0,e1,hm,hlt,af,f9,no,WM,afq,f7,ZJ]
  cases hxy:kg x y
  ·left
   refine ⟨_,rfl,?_⟩
   rw [hR',kH,if_neg (by simp [hxy])]
   simp
  ·right
   have s1:((pre' ++ [y])++x::rest).set (0+((pre'.length:Int)+1)).toNat y=pre' ++ y::y::rest:=by
    rw [show (0+((pre'.length:Int)+1)).toNat=pre'.length+1 by omega,V8,List.set_append_right _ _ (by omega)]
    simp
   have e2:ac (pre' ++ y::y::rest) (0+(pre'.length:Int))=some y:=C4 _ _ _ (by simp)
   have s2:(pre' ++ y::y::rest).set (0+(pre'.length:Int)).toNat x=pre' ++ x::y::rest:=by
    rw [show (0+(pre'.length:Int)).toNat=pre'.length by omega,List.set_append_right _ _ (by omega)]
    simp
   refine ⟨((pre'.length:Int),pre' ++ x::y::rest),?_,⟨pre',x,y::rest,rfl,?_,?_,by simp; omega⟩,by simp⟩
   ·simp only [f9,s1,e2,s2,f7,ZJ]
   ·rw [hR',kH,if_pos hxy]; simp
   ·intro a ha
    apply hs
    simp only [Wc,Wd,aeh,ah9] at ha ⊢
    rcases ha with h | h | h | h <;> simp [h]
theorem rI (x:A3) : ∀ l:List A3,(kH x l).Perm (x::l)
 | []=>adz _
 | y::r=>by
  unfold kH
  split
  ·exact (List.Perm.cons y (rI x r)).trans (List.Perm.swap ..)
  ·exact adz _
theorem DX {x y:A3} (h:kg x y=true):kg y x=false:=by
 unfold kg at h ⊢
 simp only [Yi,Vf,YW,aag,Ys,ZU,YH,WW] at h ⊢
 omega
theorem Bu {x y z:A3} (h:kg x y=false) (k:kg y z=false):kg x z=false:=by
 unfold kg at h k ⊢
 simp only [Ys,ZU,YH,WW] at h k ⊢
 omega
theorem xx (x:A3) : ∀ l:List A3,l.Pairwise (fun a b=>kg a b=false)→(kH x l).Pairwise (fun a b=>kg a b=false)
 | [],_=>by simp [kH]
 | y::r,h=>by
  obtain ⟨h1,h2⟩:=X0.1 h
  unfold kH
  split
  ·rename_i hxy
   refine X0.2 ⟨fun z hz=>?_,xx x r h2⟩
   rcases Wd.1 ((rI x r).mem_iff.1 hz) with rfl | hz
   ·exact DX hxy
   ·exact h1 z hz
  ·rename_i hxy
   have hxy:kg x y=false:=by simpa using hxy
   refine X0.2 ⟨fun z hz=>?_,h⟩
   rcases Wd.1 hz with rfl | hz
   ·exact hxy
   ·exact Bu hxy (h1 z hz)
theorem ad5 {n:Nat} {d:List A3} (hs : ∀ a∈d,kB a) (hn:d.length=n) (h12:n≤12) :
  ∃ r,cX (d,0,(n:Int)) 0 n=some r∧r.Perm d∧r.reverse.Pairwise (fun a b=>kg a b=false):=by
 unfold cX
 refine fw (fun s:Int×List A3=>(n+1 - s.1.toNat)) (fun s:Int×List A3=>s.2.Perm d∧(∃ S rest:List A3,s.2=S++rest∧S.reverse.Pairwise (fun a b=>kg a b=false)∧((s.1=(S.length:Int))∨(s.1=1∧n=0)))) (fun r:List A3=>r.Perm d∧r.reverse.Pairwise (fun a b=>kg a b=false)) ?_ ⟨adz _,?_⟩ (by show n+1 - _<_; omega)
 ·rintro ⟨i,data⟩ ⟨hp,S,rest,hd,hS,hi⟩
  simp only at hp hd hi
  subst hd
  have hl:=hp.length_eq
  simp only [Vs] at hl
  unfold fy
  cases rest with
  | nil=>
   left
   refine ⟨S++[],?_,hp,by simpa using hS⟩
   rw [show decide (i<(n:Int))=false from ajy (by simp only [List.length_nil] at hl; omega)]
   rfl
  | cons x rest=>
   right
   simp only [Ws] at hl
   have hi' : i=(S.length:Int):=by omega
   subst hi'
   obtain ⟨r,hr,rfl⟩:=XG (n:=n) (d0:=d) (pre:=S) (x:=x) (rest:=rest) (fun a ha=>hs a (hp.mem_iff.1 ha)) (by simp only [Vs,Ws]; omega) h12
   refine ⟨((S.length:Int)+1,(kH x S.reverse).reverse++rest),?_,⟨?_,(kH x S.reverse).reverse,rest,rfl,by simpa using xx x _ hS, .inl ?_⟩,?_⟩
   ·rw [show decide ((S.length:Int)<(n:Int))=true from adU (by omega)]
    simp only [f9,hr,f7,ZJ]
    rw [aZ (by omega) (by omega)]
   ·refine List.Perm.trans ?_ hp
    have h1:(kH x S.reverse).reverse.Perm (x::S):=(List.reverse_perm _).trans ((rI x _).trans (List.Perm.cons x (List.reverse_perm S)))
    exact (List.Perm.append_right rest h1).trans (by simpa using (List.perm_middle (a:=x) (l₁:=S) (l₂:=rest)).symm)
   ·have:=(rI x S.reverse).length_eq
    simp at this ⊢
    omega
   ·show n+1 - ((S.length:Int)+1).toNat<n+1 - ((S.length:Int)).toNat
    omega
 ·cases d with
  | nil=>exact ⟨[],[],rfl,List.Pairwise.nil, .inr ⟨(by show ad (0+1)=1; rfl),by simpa using hn.symm⟩⟩
  | cons x r=>exact ⟨[x],r,rfl,by simp, .inl (by show ad (0+1)=1; rfl)⟩
theorem xv : ∀ {l1 l2:List A3},l1.Perm l2→l1.Pairwise (fun a b=>kg b a=false)→l2.Pairwise (fun a b=>kg b a=false)→(∀ a∈l1,∀ b∈l1,kg a b=false→kg b a=false→a=b)→l1=l2
 | [],l2,hp,_,_,_=>(List.Perm.nil_eq hp)
 | a::r1,[],hp,_,_,_=>by have:=hp.length_eq; simp at this
 | a::r1,b::r2,hp,h1,h2,hd=>by
  obtain ⟨p1,q1⟩:=X0.1 h1
  obtain ⟨p2,q2⟩:=X0.1 h2
  have hab:a=b:=by
   have hb:b∈a::r1:=hp.mem_iff.2 (by simp)
   have ha:a∈b::r2:=hp.mem_iff.1 (by simp)
   rcases Wd.1 hb with h | hb'
   ·exact h.symm
   ·rcases Wd.1 ha with h | ha'
    ·exact h
    ·exact hd a (by simp) b hb (p2 a ha') (p1 b hb')
  subst hab
  rw [xv ((List.perm_cons a).1 hp) q1 q2 fun x hx y hy=>hd x (Vi _ hx) y (Vi _ hy)]
theorem WY : ∀ k:Fin 13,(px (IntKind.u64.wrap ((k.val:Int) - 0))).isSome=true:=by decide
theorem Yp {d:List A3} (hs : ∀ a∈d,kB a) (h12:d.length≤12) :
  ∃ r,cn (d,0,(d.length:Int))=some r∧r.Perm d∧r.reverse.Pairwise (fun a b=>kg a b=false):=by
 obtain ⟨r,hr,hp,hq⟩:=ad5 hs rfl h12
 have hb:=WY ⟨d.length,by omega⟩
 obtain ⟨m,hm⟩:=adE.1 hb
 refine ⟨r,?_,hp,hq⟩
 have hm' : px (IntKind.u64.wrap ((d.length:Int) - 0))=some m:=hm
 have hpdq:dG (d,0,(d.length:Int)) 0 ((d.length:Int) - 0) m=some r:=by
  unfold dG
  obtain ⟨r',h1,rfl⟩:=fw (f:=dX (d,0,(d.length:Int))) (fun _=>0) (fun s=>s=((0:Int),(d.length:Int) - 0,m,true,true)) (fun x=>x=r) (fun s hs=>.inl (by
   subst hs
   refine ⟨r,?_,rfl⟩
   unfold dX
   rw [show decide (ad ((d.length:Int) - 0 - 0)≤(12:Int))=true from adU (by rw [aZ (by omega) (by omega)]; omega)]
   simp only [f9,Int.sub_zero,hr,f7,ZJ])) rfl (by decide)
  exact h1
 unfold cn
 simp only [hm',f7,ZJ,hpdq]
theorem IL (a b:A3):Ci a b = !(kg b a):=by
 unfold Ci kg
 rw [ajz]
 simp only [Yi,Vf,YW,aag,X8,Ys,ZU,YH,WW]
 omega
theorem vh (x:A3) : ∀ l:List A3,(tI x l).Perm (x::l)
 | []=>adz _
 | y::r=>by
  unfold tI
  cases Ci x y
  ·exact (List.Perm.cons y (vh x r)).trans (List.Perm.swap ..)
  ·exact adz _
theorem tN : ∀ l:List A3,(zr l).Perm l
 | []=>adz _
 | x::r=>(vh x _).trans (List.Perm.cons x (tN r))
theorem xq (x:A3) : ∀ l:List A3,l.Pairwise (fun a b=>kg b a=false)→(tI x l).Pairwise (fun a b=>kg b a=false)
 | [],_=>by simp [tI]
 | y::r,h=>by
  obtain ⟨h1,h2⟩:=X0.1 h
  unfold tI
  cases hxy:Ci x y
  ·rw [IL] at hxy
   refine X0.2 ⟨fun z hz=>?_,xq x r h2⟩
   rcases Wd.1 ((vh x r).mem_iff.1 hz) with rfl | hz
   ·exact DX (by simpa using hxy)
   ·exact h1 z hz
  ·rw [IL] at hxy
   have hxy:kg y x=false:=by simpa using hxy
   refine X0.2 ⟨fun z hz=>?_,h⟩
   rcases Wd.1 hz with rfl | hz
   ·exact hxy
   ·exact Bu (h1 z hz) hxy
theorem rl : ∀ l:List A3,(zr l).Pairwise (fun a b=>kg b a=false)
 | []=>List.Pairwise.nil
 | x::r=>xq x _ (rl r)
abbrev iR (p:A3×Bool):A3:=(p.1.1,p.1.2.1,p.2)
theorem yw : ∀ {es:List (A3×Bool)},rU es=true→∀ a∈es.map iR,kB a
 | [],_,a,h=>by cases h
 | p::r,ho,a,h=>by
  simp only [rU,Vf,YW] at ho
  rcases Wd.1 h with rfl | h
  ·exact ho.1.1
  ·exact yw ho.2 a h
theorem Es {x:A3} {l:List (A3×Bool)} (h:BZ x l=true) : ∀ a∈l.map iR,¬ (a.1=x.1∧a.2.1=x.2.1):=fun a ha=>by
 obtain ⟨p,hp,rfl⟩:=VO.1 ha
 have:=Vx.1 h p hp
 simp only [X8,ZU,WW] at this
 rintro ⟨h1,h2⟩
 rcases this with h | h
 ·exact h h1
 ·exact h h2
theorem Ae : ∀ {es:List (A3×Bool)},rU es=true→∀ a∈es.map iR,∀ b∈es.map iR,a.1=b.1→a.2.1=b.2.1→a=b
 | [],_,a,h=>by cases h
 | p::r,ho,a,ha=>by
  intro b hb h1 h2
  simp only [rU,Vf,YW] at ho
  rcases Wd.1 ha with rfl | ha
  ·rcases Wd.1 hb with rfl | hb
   ·rfl
   ·exact absurd ⟨h1.symm,h2.symm⟩ (Es ho.1.2 b hb)
  ·rcases Wd.1 hb with rfl | hb
   ·exact absurd ⟨h1,h2⟩ (Es ho.1.2 a ha)
   ·exact Ae ho.2 a ha b hb h1 h2
instance instSortLaw:SortLaw:=⟨fun es d ho hp=>by
 unfold qr at ho
 obtain ⟨h12,ho⟩:=Bool.and_eq_true_iff.1 ho
 have h12:=Vg h12
 have hl:d.length≤12:=by have:=hp.length_eq; simp at this; omega
 obtain ⟨r,hr,hrp,hrs⟩:=Yp (fun a ha=>yw ho a (hp.mem_iff.1 ha)) hl
 rw [hr]
 congr 1
 have hpp:r.Perm (es.map iR):=hrp.trans hp
 refine xv (hpp.trans (tN _).symm) (by simpa [List.pairwise_reverse] using hrs) (rl _) fun a ha b hb h1 h2=>?_
 refine Ae ho a (hpp.mem_iff.1 ha) b (hpp.mem_iff.1 hb) ?_ ?_
 ·unfold kg at h1 h2
  simp only [Ys,ZU,YH,WW] at h1 h2
  omega
 ·unfold kg at h1 h2
  simp only [Ys,ZU,YH,WW] at h1 h2
  omega⟩
set_option linter.unusedSimpArgs false
set_option linter.unusedVariables false
set_option maxRecDepth 4000
def bd:List bR→Int→Int→Option Bool
 | [],_,_=>none
 | y::r,k,o=>if y.1=k∧y.2.1=o then some y.2.2 else bd r k o
def lc (a b:bR):Prop:=a.1<b.1∨(a.1=b.1∧a.2.1<b.2.1)
instance (a b:bR):Decidable (lc a b):=by unfold lc; infer_instance
def qa (l:List bR):Prop:=l.Pairwise lc
theorem xW {l:List bR} (h : ∀ y∈l,¬ (y.1=k∧y.2.1=o)):bd l k o=none:=by
 induction l with
 | nil=>rfl
 | cons y r ih=>
  unfold bd
  rw [if_neg (h y (VU ..)),ih fun z hz=>h z (Vi _ hz)]
theorem uE {l:List bR} {b:Bool} (h:bd l k o=some b):(k,o,b)∈l:=by
 induction l with
 | nil=>cases h
 | cons y r ih=>
  unfold bd at h
  split at h
  ·rename_i hy
   injection h with h
   obtain ⟨y1,y2,y3⟩:=y
   obtain ⟨rfl,rfl⟩:=hy
   subst h
   exact VU ..
  ·exact Vi _ (ih h)
theorem EG : ∀ {l1 l2:List bR},qa l1→qa l2→(∀ k o,bd l1 k o=bd l2 k o)→l1=l2
 | [],[],_,_,_=>rfl
 | [],b::r,_,_,h=>by
  have:=h b.1 b.2.1
  unfold bd at this
  rw [if_pos ⟨rfl,rfl⟩] at this
  cases this
 | a::r,[],_,_,h=>by
  have:=h a.1 a.2.1
  unfold bd at this
  rw [if_pos ⟨rfl,rfl⟩] at this
  cases this
 | a::r1,b::r2,h1,h2,h=>by
  obtain ⟨a1,s1⟩:=X0.1 h1
  obtain ⟨b1,s2⟩:=X0.1 h2
  have ha:=h a.1 a.2.1
  have hb:=h b.1 b.2.1
  unfold bd at ha hb
  rw [if_pos ⟨rfl,rfl⟩] at ha
  rw [if_pos (show b.1=b.1∧b.2.1=b.2.1 from ⟨rfl,rfl⟩)] at hb
  have hk:a.1=b.1∧a.2.1=b.2.1:=by
   by_cases hab:b.1=a.1∧b.2.1=a.2.1
   ·exact ⟨hab.1.symm,hab.2.symm⟩
   ·exfalso
    rw [if_neg hab] at ha
    rw [if_neg (fun hh=>hab ⟨hh.1.symm,hh.2.symm⟩)] at hb
    have p:=b1 _ (uE ha.symm)
    have q:=a1 _ (uE hb)
    unfold lc at p q
    dsimp only at p q
    omega
  have e:a=b:=by
   rw [if_pos ⟨hk.1.symm,hk.2.symm⟩] at ha
   injection ha with ha
   exact Prod.ext hk.1 (Prod.ext hk.2 ha)
  subst e
  rw [EG s1 s2 fun k o=>by
   by_cases hq:a.1=k∧a.2.1=o
   ·rw [xW (fun y hy hz=>by have:=a1 y hy; unfold lc at this; omega),xW (fun y hy hz=>by have:=b1 y hy; unfold lc at this; omega)]
   ·have:=h k o
    unfold bd at this
    rw [if_neg hq,if_neg hq] at this
    exact this]
def tL (L:List bR) (k o:Int):Option Bool:=if L.any (fun a=>decide (a.1=k∧a.2.1=o))=true then some (L.any fun a=>decide (a.1=k∧a.2.1=o)&&a.2.2) else none
theorem Ju {α:Type} {p:α→Bool} {l1 l2:List α} (h:l1.Perm l2):l1.any p=l2.any p:=by
 induction h with
 | nil=>rfl
 | cons x _ ih=>simp only [agF,ih]
 | swap x y l=>simp only [agF,← Bool.or_assoc,Bool.or_comm (p x)]
 | trans _ _ ih1 ih2=>rw [ih1,ih2]
theorem Yx {M:List bR} (h:L.Perm M) (k o:Int):tL L k o=tL M k o:=by
 unfold tL
 rw [Ju h,Ju h]
theorem JU (L:List bR) (x:bR) (k o:Int):tL (L++[x]) k o=if x.1=k∧x.2.1=o then some ((tL L k o).getD false||x.2.2) else tL L k o:=by
 unfold tL
 simp only [List.any_append,agF,List.any_nil,agv]
 by_cases h:x.1=k∧x.2.1=o
 ·rw [if_pos h]
  simp only [h,ajt,YD,afa,afq,We]
  split
  ·rfl
  ·rename_i hn
   simp only [Option.getD_none,adH]
   have:(L.any fun a=>decide (a.1=k∧a.2.1=o)&&a.2.2)=false:=by
    rw [aeI]
    intro y hy hz
    simp only [Vf,YW] at hz
    apply hn
    rw [ac6]
    exact ⟨y,hy,by simpa using hz.1⟩
   rw [this,adH]
 ·rw [if_neg h]
  simp only [h,Yv,agv,afE]
def lP (x:bR):List bR→List bR
 | []=>[x]
 | y::r=>if lc y x then y::lP x r else if lc x y then x::y::r else (y.1,y.2.1,y.2.2||x.2.2)::r
theorem K8 {x z:bR} : ∀ {l:List bR},z∈lP x l→(z.1=x.1∧z.2.1=x.2.1)∨z∈l
 | [],h=>by
  rcases Vt.1 h with rfl
  exact .inl ⟨rfl,rfl⟩
 | y::r,h=>by
  unfold lP at h
  split at h
  ·rcases Wd.1 h with rfl | h
   ·exact .inr (VU ..)
   ·rcases K8 h with h | h
    ·exact .inl h
    ·exact .inr (Vi _ h)
  ·split at h
   ·rcases Wd.1 h with rfl | h
    ·exact .inl ⟨rfl,rfl⟩
    ·exact .inr h
   ·rename_i h1 h2
    rcases Wd.1 h with rfl | h
    ·left
     unfold lc at h1 h2
     dsimp only
     omega
    ·exact .inr (Vi _ h)
theorem zZ (x:bR) : ∀ {l:List bR},qa l→qa (lP x l)
 | [],_=>ajx _ _
 | y::r,h=>by
  obtain ⟨h1,h2⟩:=X0.1 h
  unfold lP
  split
  ·rename_i hyx
   refine X0.2 ⟨fun z hz=>?_,zZ x h2⟩
   rcases K8 hz with hz | hz
   ·unfold lc at hyx ⊢; omega
   ·exact h1 z hz
  ·split
   ·rename_i hyx hxy
    refine X0.2 ⟨fun z hz=>?_,h⟩
    rcases Wd.1 hz with rfl | hz
    ·exact hxy
    ·have:=h1 z hz
     unfold lc at this hxy ⊢
     omega
   ·exact X0.2 ⟨fun z hz=>by have:=h1 z hz; unfold lc at this ⊢; exact this,h2⟩
theorem Ee (x:bR) (k o:Int) : ∀ {l:List bR},qa l→bd (lP x l) k o=if x.1=k∧x.2.1=o then some ((bd l k o).getD false||x.2.2) else bd l k o
 | [],_=>by
  unfold lP bd bd
  split <;> rfl
 | y::r,h=>by
  obtain ⟨h1,h2⟩:=X0.1 h
  unfold lP
  split
  ·rename_i hyx
   unfold bd
   rw [Ee x k o h2]
   by_cases hq:x.1=k∧x.2.1=o
   ·rw [if_pos hq,if_pos hq,if_neg (by unfold lc at hyx; omega),if_neg (by unfold lc at hyx; omega)]
   ·rw [if_neg hq,if_neg hq]
  ·split
   ·rename_i hyx hxy
    conv=>lhs; unfold bd
    by_cases hq:x.1=k∧x.2.1=o
    ·rw [if_pos hq,if_pos hq,xW (l:=y::r) fun z hz hh=>by
      rcases Wd.1 hz with rfl | hz
      ·unfold lc at hxy; omega
      ·have:=h1 z hz
       unfold lc at this hxy
       omega]
     rfl
    ·rw [if_neg hq,if_neg hq]
   ·rename_i hyx hxy
    have he:y.1=x.1∧y.2.1=x.2.1:=by unfold lc at hyx hxy; omega
    unfold bd
    dsimp only
    rw [he.1,he.2]
    by_cases hq:x.1=k∧x.2.1=o
    ·rw [if_pos hq,if_pos hq,if_pos hq]
     rfl
    ·rw [if_neg hq,if_neg hq,if_neg hq]
theorem KA : ∀ (L M:List bR) {l:List bR},qa l→(∀ k o,bd l k o=tL M k o)→qa (L.foldl (fun l x=>lP x l) l)∧∀ k o,bd (L.foldl (fun l x=>lP x l) l) k o=tL (M++L) k o
 | [],M,l,h1,h2=>by rw [Wm]; exact ⟨h1,h2⟩
 | x::L,M,l,h1,h2=>by
  have:=KA L (M++[x]) (l:=lP x l) (zZ x h1) (fun k o=>by rw [Ee x k o h1,JU,h2])
  rw [V8] at this
  exact this
structure MapOk (m:List ((Int×Int×Bool)×Bool)):Prop where
 key : ∀ p∈m,p.1.2.2=false
 ne:m.Pairwise fun p q=>¬ (p.1.1=q.1.1∧p.1.2.1=q.1.2.1)
theorem UK (x:bR) (q:Int×Int×Bool) (hq:q.2.2=false):ae.eqD (x.1,x.2.1,false) q=decide (q.1=x.1∧q.2.1=x.2.1):=by
 obtain ⟨q1,q2,q3⟩:=q
 dsimp only at hq
 subst hq
 simp only [ae,TC.eqD]
 rw [ajz]
 simp only [Vf,YW,aag]
 constructor
 ·rintro ⟨h1,h2,-⟩
  exact ⟨h1.symm,h2.symm⟩
 ·rintro ⟨h1,h2⟩
  exact ⟨h1.symm,h2.symm,trivial⟩
theorem Zd (h : ∀ p∈m,p.1.2.2=false) (x:bR):dh ae (.sc .bool) (x.1,x.2.1,false) m=bd (m.map iR) x.1 x.2.1:=by
 unfold dh
 induction m with
 | nil=>rfl
 | cons p r ih=>
  have hp:=h p (VU ..)
  have ih:=ih fun q hq=>h q (Vi _ hq)
  rw [List.find?_cons,UK x p.1 hp,WD]
  unfold bd
  by_cases hk:p.1.1=x.1∧p.1.2.1=x.2.1
  ·rw [if_pos (show (iR p).1=x.1∧(iR p).2.1=x.2.1 from hk)]
   simp only [hk,ajt,YD]
   rfl
  ·rw [if_neg (show ¬ ((iR p).1=x.1∧(iR p).2.1=x.2.1) from hk)]
   simp only [hk,Yv]
   exact ih
theorem DF {x:bR} {b:Bool} {z:(Int×Int×Bool)×Bool} : ∀ {m:List ((Int×Int×Bool)×Bool)},z∈cO ae (.sc .bool) (x.1,x.2.1,false) b m→z=((x.1,x.2.1,false),b)∨z∈m
 | [],h=>.inl (Vt.1 h)
 | p::r,h=>by
  unfold cO at h
  unfold wI at h
  cases hq:ae.eqD (x.1,x.2.1,false) p.1
  ·rw [hq] at h
   rcases Wd.1 h with h | h
   ·exact .inr (h ▸ VU ..)
   ·rcases DF h with h | h
    ·exact .inl h
    ·exact .inr (Vi _ h)
  ·rw [hq] at h
   rcases Wd.1 h with h | h
   ·exact .inl h
   ·exact .inr (Vi _ h)
theorem NV (x:bR) (b:Bool) : ∀ {m:List ((Int×Int×Bool)×Bool)},MapOk m→MapOk (cO ae (.sc .bool) (x.1,x.2.1,false) b m)∧(∀ k o,bd ((cO ae (.sc .bool) (x.1,x.2.1,false) b m).map iR) k o=if x.1=k∧x.2.1=o then some b else bd (m.map iR) k o)∧(cO ae (.sc .bool) (x.1,x.2.1,false) b m).length≤m.length+1
 | [],_=>⟨⟨fun p hp=>by rcases Vt.1 hp with rfl; rfl,ajx _ _⟩,fun k o=>rfl,Wb _⟩
 | p::r,h=>by
  obtain ⟨h1,h2⟩:=X0.1 h.ne
  have hp:=h.key p (VU ..)
  have ih:=NV x b (m:=r) ⟨fun q hq=>h.key q (Vi _ hq),h2⟩
  have e:cO ae (.sc .bool) (x.1,x.2.1,false) b (p::r)=bif decide (p.1.1=x.1∧p.1.2.1=x.2.1) then ((x.1,x.2.1,false),b)::r else p::cO ae (.sc .bool) (x.1,x.2.1,false) b r:=by
   rw [← UK x p.1 hp]
   rfl
  rw [e]
  by_cases hk:p.1.1=x.1∧p.1.2.1=x.2.1
  ·rw [adU hk]
   refine ⟨⟨fun q hq=>?_,X0.2 ⟨fun q hq=>by have:=h1 q hq; rw [hk.1,hk.2] at this; exact this,h2⟩⟩,fun k o=>?_,by simp⟩
   ·rcases Wd.1 hq with rfl | hq
    ·rfl
    ·exact h.key q (Vi _ hq)
   ·show (if x.1=k∧x.2.1=o then some b else bd (r.map iR) k o)=if x.1=k∧x.2.1=o then some b else if p.1.1=k∧p.1.2.1=o then some p.2 else bd (r.map iR) k o
    rw [hk.1,hk.2]
    split <;> rfl
  ·rw [ajy hk]
   refine ⟨⟨fun q hq=>?_,X0.2 ⟨fun q hq=>?_,ih.1.ne⟩⟩,fun k o=>?_,by have:=ih.2.2; simp only [no,Ws]; omega⟩
   ·rcases Wd.1 hq with rfl | hq
    ·exact hp
    ·exact ih.1.key q hq
   ·rcases DF hq with rfl | hq
    ·exact hk
    ·exact h1 q hq
   ·show (if p.1.1=k∧p.1.2.1=o then some p.2 else bd ((cO ae (.sc .bool) (x.1,x.2.1,false) b r).map iR) k o)=if x.1=k∧x.2.1=o then some b else if p.1.1=k∧p.1.2.1=o then some p.2 else bd (r.map iR) k o
    rw [ih.2.1 k o]
    by_cases hq:p.1.1=k∧p.1.2.1=o
    ·rw [if_pos hq,if_neg (fun hx=>hk ⟨hq.1.trans hx.1.symm,hq.2.trans hx.2.symm⟩),if_pos hq]
    ·rw [if_neg hq,if_neg hq]
theorem Yj (x:bR) (h:MapOk m):MapOk (cv m x)∧(∀ k o,bd ((cv m x).map iR) k o=if x.1=k∧x.2.1=o then some ((bd (m.map iR) k o).getD false||x.2.2) else bd (m.map iR) k o)∧(cv m x).length≤m.length+1:=by
 unfold cv
 rw [Zd h.key x]
 obtain ⟨a,b,c⟩:=NV x (bif (bd (m.map iR) x.1 x.2.1).getD false then true else x.2.2) h
 refine ⟨a,fun k o=>?_,c⟩
 rw [b k o]
 by_cases hq:x.1=k∧x.2.1=o
 ·rw [if_pos hq,if_pos hq,hq.1,hq.2]
  cases (bd (m.map iR) k o).getD false <;> rfl
 ·rw [if_neg hq,if_neg hq]
theorem BG : ∀ (L M:List bR) {m:List ((Int×Int×Bool)×Bool)},MapOk m→m.length≤M.length→(∀ k o,bd (m.map iR) k o=tL M k o)→MapOk (L.foldl cv m)∧(L.foldl cv m).length≤(M++L).length∧∀ k o,bd ((L.foldl cv m).map iR) k o=tL (M++L) k o
 | [],M,m,h1,h3,h2=>by rw [Wm]; exact ⟨h1,h3,h2⟩
 | x::L,M,m,h1,h3,h2=>by
  obtain ⟨a,b,c⟩:=Yj x h1
  have:=BG L (M++[x]) (m:=cv m x) a (by rw [Vs,Vp]; omega) (fun k o=>by rw [b k o,JU,h2])
  rw [V8] at this
  exact this
def jr (x:bR):List bR→Nat
 | []=>0
 | y::r=>if lc y x then jr x r+1 else 0
theorem HD (x:bR) : ∀ l,jr x l≤l.length
 | []=>Wb _
 | y::r=>by
  have:=HD x r
  unfold jr
  split <;> simp only [Ws] <;> omega
theorem TU {x:bR} : ∀ {l:List bR} {a:Nat},a<jr x l→lc (l.getD a (0,0,false)) x
 | [],_,h=>by cases h
 | y::r,a,h=>by
  unfold jr at h
  split at h
  ·cases a with
   | zero=>assumption
   | succ a=>exact TU (l:=r) (a:=a) (by omega)
  ·cases h
theorem Nz {x:bR} : ∀ {l:List bR},jr x l<l.length→¬ lc (l.getD (jr x l) (0,0,false)) x
 | [],h=>by cases h
 | y::r,h=>by
  unfold jr at h ⊢
  split
  ·rename_i hy
   rw [if_pos hy] at h
   exact Nz (l:=r) (by simp only [Ws] at h; omega)
  ·assumption
theorem Tc (x:bR) : ∀ (l:List bR),lP x l=if jr x l<l.length∧¬ lc x (l.getD (jr x l) (0,0,false)) then l.set (jr x l) ((l.getD (jr x l) (0,0,false)).1,(l.getD (jr x l) (0,0,false)).2.1,(l.getD (jr x l) (0,0,false)).2.2||x.2.2) else l.take (jr x l)++[x]++l.drop (jr x l)
 | []=>rfl
 | y::r=>by
  unfold lP jr
  by_cases hy:lc y x
  ·rw [if_pos hy,if_pos hy,Tc x r]
   by_cases h:jr x r<r.length∧¬ lc x (r.getD (jr x r) (0,0,false))
   ·rw [if_pos h,if_pos (show jr x r+1<(y::r).length∧¬ lc x ((y::r).getD (jr x r+1) (0,0,false)) from ⟨by simp only [Ws]; omega,h.2⟩)]
    rfl
   ·rw [if_neg h,if_neg (show ¬ (jr x r+1<(y::r).length∧¬ lc x ((y::r).getD (jr x r+1) (0,0,false))) from fun hh=>h ⟨by have:=hh.1; simp only [Ws] at this; omega,hh.2⟩)]
    rfl
  ·rw [if_neg hy,if_neg hy]
   by_cases h:lc x y
   ·rw [if_pos h,if_neg (fun hh=>hh.2 h)]
    rfl
   ·rw [if_neg h,if_pos ⟨by simp,h⟩]
    rfl
theorem yB (a b:bR):iI a b=some (decide (lc a b)):=by
 unfold iI lc
 by_cases h1:a.1<b.1
 ·simp [h1]
 ·by_cases h2:a.1=b.1
  ·simp [h2]
  ·simp [h1,h2]
theorem W7 {bk:List bR} (hi:i<L.length) (ho:bk.length≤1000):Itr.it (eS L (bk,(i:Int))) 0=some ((jr (L.getD i (0,0,false)) bk:Nat):Int):=
 c9 (f:=eS L (bk,(i:Int))) (fun y=>bk.length - y.toNat) (fun _=>((jr (L.getD i (0,0,false)) bk:Nat):Int)) (fun y=>∃ a:Nat,y=(a:Int)∧a≤jr (L.getD i (0,0,false)) bk)
  (fun y hy=>by
   obtain ⟨a,rfl,ha⟩:=hy
   have hle:=HD (L.getD i (0,0,false)) bk
   have ex:ac L (i:Int)=some (L.getD i (0,0,false)):=aB _ hi
   rcases WG a (jr (L.getD i (0,0,false)) bk) with hlt | hge
   ·right
    refine ⟨((a+1:Nat):Int),?_,⟨a+1,rfl,by omega⟩,by omega,rfl⟩
    unfold eS
    have eo:ac bk (a:Int)=some (bk.getD a (0,0,false)):=aB _ (by omega)
    simp only [aw (show (a:Int)<(bk.length:Int) by omega),f9,eo,ex,f7,ZJ,yB,aw (TU hlt),aZ (x:=(a:Int)+1) (by omega) (by omega)]
    rfl
   ·left
    have:a=jr (L.getD i (0,0,false)) bk:=by omega
    subst this
    unfold eS
    by_cases hl:jr (L.getD i (0,0,false)) bk<bk.length
    ·have eo:ac bk ((jr (L.getD i (0,0,false)) bk:Nat):Int)=some (bk.getD (jr (L.getD i (0,0,false)) bk) (0,0,false)):=aB _ hl
     simp only [aw (show ((jr (L.getD i (0,0,false)) bk:Nat):Int)<(bk.length:Int) by omega),f9,eo,ex,f7,ZJ,yB,aG (Nz hl),no]
    ·simp only [aG (show ¬ ((jr (L.getD i (0,0,false)) bk:Nat):Int)<(bk.length:Int) by omega),no,f7,ZJ])
  (s:=0) ⟨0,rfl,by omega⟩ (by show bk.length - (0:Int).toNat<_; omega)
theorem ah8 {bk:List bR} (hi:i<L.length) (ho:bk.length≤1000):lJ L (bk,(i:Int))=some (lP (L.getD i (0,0,false)) bk):=by
 unfold lJ
 have ex:ac L (i:Int)=some (L.getD i (0,0,false)):=aB _ hi
 rw [W7 hi ho,Tc]
 generalize L.getD i (0,0,false)=x at *
 have hle:=HD x bk
 generalize jr x bk=n at *
 simp only [f7,ZJ]
 have rest : ∀ q:Bool,q=false→(bif q then ((ac bk (n:Int)).bind fun _=>(ac bk (n:Int)).bind fun v17=>(bif !v17.2.2 then ac L (i:Int) else some ((0:Int),(0:Int),false)).bind fun _=>(bif !v17.2.2 then ac L (i:Int) else some ((0:Int),(0:Int),false)).bind fun v19=>(ac bk (n:Int)).bind fun _=>(ac bk (n:Int)).bind fun v21=>some (bk.set (n:Int).toNat (v21.1,(v21.2.1,bif v17.2.2 then true else v19.2.2))))
   else af (decide (0≤(n:Int)∧(n:Int)≤bk.length)) (af (aJ ([]:List bR).length (bk.take (n:Int).toNat).length 24) ((ac L (i:Int)).bind fun _=>(ac L (i:Int)).bind fun v23=>af (aJ (([]:List bR)++(bk.take (n:Int).toNat)).length ([v23]:List bR).length 24) (af (decide (0≤(n:Int)∧(n:Int)≤(bk.length:Int)∧(bk.length:Int)≤bk.length)) (af (aJ ((([]:List bR)++(bk.take (n:Int).toNat))++([v23]:List bR)).length ((bk.take (bk.length:Int).toNat).drop (n:Int).toNat).length 24) (some (((([]:List bR)++(bk.take (n:Int).toNat))++([v23]:List bR))++((bk.take (bk.length:Int).toNat).drop (n:Int).toNat))))))))=some (bk.take n++[x]++bk.drop n):=by
  rintro _ rfl
  have hlen:(bk.take n).length=n:=by rw [V7]; omega
  have hdr:(bk.drop n).length=bk.length - n:=XZ
  have a1:aJ 0 n 24=true:=aY (by omega) (by omega)
  have a2:aJ n 1 24=true:=aY (by omega) (by omega)
  have a3:aJ (n+1) (bk.length - n) 24=true:=aY (by omega) (by omega)
  simp only [no,aw (show 0≤(n:Int)∧(n:Int)≤bk.length by omega),aw (show 0≤(n:Int)∧(n:Int)≤(bk.length:Int)∧(bk.length:Int)≤bk.length by omega),af,f9,VY,List.length_nil,XI,adT,Vs,Vp,hlen,hdr,a1,a2,a3,ex,f7,ZJ]
 by_cases hl:n<bk.length
 ·have eo:ac bk (n:Int)=some (bk.getD n (0,0,false)):=aB _ hl
  rw [aw (show (n:Int)<(bk.length:Int) by omega)]
  simp only [f9,ex,eo,f7,ZJ,yB]
  by_cases hx:lc x (bk.getD n (0,0,false))
  ·rw [if_neg (fun h=>h.2 hx),aw hx]
   have:=rest (!true) rfl
   simp only [eo,ex,f7,ZJ] at this
   exact this
  ·rw [if_pos ⟨hl,hx⟩,aG hx]
   simp only [Wn,f9,VY]
   generalize bk.getD n (0,0,false)=y
   obtain ⟨y1,y2,y3⟩:=y
   cases y3 <;> rfl
 ·rw [aG (show ¬ (n:Int)<(bk.length:Int) by omega),if_neg (fun h=>hl h.1)]
  simp only [no,f7,ZJ]
  exact rest false rfl
theorem MZ (x:bR) : ∀ l:List bR,(lP x l).length≤l.length+1
 | []=>Wb _
 | y::r=>by
  have:=MZ x r
  unfold lP
  split
  ·simp only [Ws]; omega
  ·split <;> simp only [Ws] <;> omega
def rP (L:List bR):List bR:=L.foldl (fun l x=>lP x l) []
theorem QR (L:List bR) (x:bR):rP (L++[x])=lP x (rP L):=by
 unfold rP
 rw [ahM]
 rfl
theorem KR : ∀ (L l:List bR),(L.foldl (fun l x=>lP x l) l).length≤l.length+L.length
 | [],l=>Wb _
 | x::L,l=>by
  have:=KR L (lP x l)
  have:=MZ x l
  simp only [aeY,Ws]
  omega
theorem Ey (L:List bR):(rP L).length≤L.length:=by
 have:=KR L []
 simpa [rP] using this
theorem Lu (hn:L.length≤1000):eN L=some (rP L):=by
 unfold eN
 rw [c9 (f:=gA L) (fun y=>L.length - y.2.toNat) (fun _=>rP L) (fun y=>∃ i:Nat,y=(rP (L.take i),(i:Int))∧i≤L.length)
  (fun y hy=>by
   obtain ⟨i,rfl,hi⟩:=hy
   rcases WG i L.length with hlt | hge
   ·right
    refine ⟨(rP (L.take (i+1)),((i+1:Nat):Int)),?_,⟨i+1,rfl,by omega⟩,by dsimp only; omega,rfl⟩
    have hl:=Ey (L.take i)
    rw [V7] at hl
    unfold gA
    simp only [aw (show (i:Int)<(L.length:Int) by omega),f9,ah8 hlt (show (rP (L.take i)).length≤1000 by omega),f7,ZJ,eF (0,0,false) hlt,QR,aZ (x:=(i:Int)+1) (by omega) (by omega)]
    rfl
   ·left
    have:i=L.length:=by omega
    subst this
    unfold gA
    simp only [aG (show ¬ (L.length:Int)<(L.length:Int) by omega),no,adT]) (s:=([],0)) ⟨0,rfl,by omega⟩ (by show L.length - (0:Int).toNat<_; omega)]
 rfl
theorem AE {k o:Int} {b:Bool} : ∀ {l:List bR},l.Pairwise (fun p q=>¬ (p.1=q.1∧p.2.1=q.2.1))→(k,o,b)∈l→bd l k o=some b
 | [],_,h=>by cases h
 | y::r,hp,h=>by
  obtain ⟨h1,h2⟩:=X0.1 hp
  unfold bd
  rcases Wd.1 h with rfl | h
  ·rw [if_pos ⟨rfl,rfl⟩]
  ·rw [if_neg (h1 _ h)]
   exact AE h2 h
theorem DU {l1 l2:List bR} (h:l1.Perm l2) (hp:l2.Pairwise (fun p q=>¬ (p.1=q.1∧p.2.1=q.2.1))):l1.Pairwise (fun p q=>¬ (p.1=q.1∧p.2.1=q.2.1)):=
 (h.pairwise_iff (fun {a b} hab hh=>hab ⟨hh.1.symm,hh.2.symm⟩)).2 hp
theorem UN {l1 l2:List bR} (h:l1.Perm l2) (hp:l2.Pairwise (fun p q=>¬ (p.1=q.1∧p.2.1=q.2.1))) (k o:Int):bd l1 k o=bd l2 k o:=by
 have hp1:=DU h hp
 cases h1:bd l1 k o with
 | some b=>exact (AE hp (h.mem_iff.1 (uE h1))).symm
 | none=>
  cases h2:bd l2 k o with
  | none=>rfl
  | some b=>
   rw [AE hp1 (h.mem_iff.2 (uE h2))] at h1
   cases h1
theorem TT (h:MapOk m):qa (su m)∧∀ k o,bd (su m) k o=bd (m.map iR) k o:=by
 have hd:(m.map iR).Pairwise (fun p q=>¬ (p.1=q.1∧p.2.1=q.2.1)):=by
  rw [List.pairwise_map]
  exact h.ne
 have hp:=tN (m.map iR)
 have hs:=rl (m.map iR)
 refine ⟨?_,UN hp hd⟩
 refine (hs.and (DU hp hd)).imp fun {a b} hab=>?_
 obtain ⟨h1,h2⟩:=hab
 unfold kg at h1
 simp only [Ys,YH,ZU,WW] at h1
 unfold lc
 omega
theorem Er (P:Int→Int→Prop) : ∀ (L:List bR) {m:List ((Int×Int×Bool)×Bool)},(∀ p∈m,P p.1.1 p.1.2.1)→(∀ a∈L,P a.1 a.2.1)→∀ p∈L.foldl cv m,P p.1.1 p.1.2.1
 | [],m,h1,_=>h1
 | x::L,m,h1,h2=>Er P L (m:=cv m x) (fun p hp=>by
   rcases DF hp with rfl | hp
   ·exact h2 x (VU ..)
   ·exact h1 p hp) fun a ha=>h2 a (Vi _ ha)
theorem EF : ∀ {m:List ((Int×Int×Bool)×Bool)},MapOk m→(∀ p∈m,0≤p.1.1∧p.1.1<1099511627776∧0≤p.1.2.1∧p.1.2.1<1099511627776)→rU m=true
 | [],_,_=>rfl
 | p::r,h,hk=>by
  obtain ⟨h1,h2⟩:=X0.1 h.ne
  unfold rU
  rw [adU (hk p (VU ..)),EF ⟨fun q hq=>h.key q (Vi _ hq),h2⟩ fun q hq=>hk q (Vi _ hq)]
  have:BZ p.1 r=true:=by
   unfold BZ
   rw [Vx]
   intro q hq
   have:=h1 q hq
   by_cases e1:q.1.1=p.1.1 <;> by_cases e2:q.1.2.1=p.1.2.1 <;> simp_all
  rw [this]
  rfl
theorem Ap {M:List bR} (h:L.Perm M) (hk : ∀ a∈L,kB a) (hn:L.length≤12):qr (L.foldl cv [])=true∧eN M=some (su (L.foldl cv [])):=by
 obtain ⟨m1,m2,m3⟩:=BG L [] (m:=[]) ⟨fun p hp=>(by cases hp),List.Pairwise.nil⟩ (Wb _) (fun k o=>rfl)
 obtain ⟨a1,a2⟩:=TT m1
 obtain ⟨i1,i2⟩:=KA M [] (l:=[]) List.Pairwise.nil (fun k o=>rfl)
 have hl:=h.length_eq
 refine ⟨?_,?_⟩
 ·unfold qr
  rw [EF m1 (Er (fun a b=>0≤a∧a<1099511627776∧0≤b∧b<1099511627776) L (fun p hp=>by cases hp) hk),aeu]
  rw [XI] at m2
  exact Wo (by omega)
 ·rw [Lu (by omega)]
  congr 1
  refine EG i1 a1 fun k o=>?_
  rw [a2,m3]
  show bd (M.foldl (fun l x=>lP x l) []) k o=_
  rw [i2]
  exact (Yx h k o).symm
structure GoodS (c:CC) (s:aO):Prop where
 ok:StOk c s
 sm:cT s
 lo : -1≤cD s
 hi:cD s≤4
theorem acb (hc:bj c)  (hs:StOk c s) : ∀ l∈s.2.2.1,l.length≤1048575:=by
 intro l hl
 obtain ⟨j,hj,rfl⟩:=List.getElem_of_mem hl
 have h1:=hs.cap j (by rw [← hs.fit.qs]; exact hj)
 rw [WT,XY hj,adN] at h1
 have h2:=hc.2.1.2.2.2
 have:=(h2 j (by rw [← hs.fit.qs]; exact hj)).2
 omega
theorem tB (hc:bj c) {q:aO} (hs:GoodS c s)  (hi:i<s.1.length)     (h1:q.1=s.1.set i (fs++[f],st,w,false)) (hr:Run1 c fs f st)
  (h2:q.2.1.length=s.2.1.length) (h3:q.2.2.1.length=s.2.2.1.length) (h4:q.2.2.2.1.length=s.2.2.2.1.length) (h5:q.2.2.2.2.1.length=s.2.2.2.2.1.length) (h6:cD q=cD s)
  (hcap : ∀ j,j<c.2.2.2.2.1.length→((q.2.2.1.getD j []).length:Int)≤(c.2.2.2.2.1.getD j ([],0)).2):GoodS c q∧pw c q i:=by
 obtain ⟨hs,hsm,o1,o2⟩:=hs
 have hq:StOk c q:=⟨by rw [h1]; simpa using hs.n,fun t ht=>by
  rw [h1] at ht
  rcases ZH ht with ht | rfl
  ·exact hs.th t ht
  ·exact .inr ⟨rfl,fs,f,rfl,hr⟩,⟨by rw [h2]; exact hs.fit.1,by rw [h3]; exact hs.fit.2,by rw [h4]; exact hs.fit.3,by rw [h5]; exact hs.fit.4⟩,hcap⟩
 refine ⟨⟨hq,?_,by rw [h6]; exact o1,by rw [h6]; exact o2⟩,fs,f,st,w,by rw [h1]; exact W5 hi,hr⟩
 obtain ⟨h1',h2',h3',h4',h5',h6',h7'⟩:=hsm
 refine ⟨by rw [h1]; simpa using h1',fun t ht=>?_,by rw [h2]; exact h3',by rw [h3]; exact h4',fun l hl=>by have:=acb hc hq l hl; omega,by rw [h4]; exact h6',by rw [h5]; exact h7'⟩
 rw [h1] at ht
 rcases ZH ht with ht | rfl
 ·exact h2' t ht
 ·have:=hr.n
  have:=hr.m
  exact ⟨by simp only [Vs,Vp]; omega,by dsimp only; omega,fun g hg=>by have:=xL hc (hr.fr g hg); omega⟩
theorem XW (q:List (List Int)) (a j:Nat):((q.set a ((q.getD a []).drop 1)).getD j []).length≤(q.getD j []).length:=by
 simp only [WT]
 by_cases h:a=j
 ·subst h
  by_cases hl:a<q.length
  ·rw [W5 hl]
   simp
  ·rw [List.set_eq_of_length_le (by omega)]
   exact Wb _
 ·rw [Yr h]
  exact Wb _
structure EffOk (f:Fr) (x:bI) (r:JR) (q:List bR×Bool×List Int×List Int×JR):Prop where
 lo:q.2.2.1.length=f.2.length
 st:q.2.2.2.1.length≤16
 v:q.2.2.2.2.1.length=r.1.length
 qn:q.2.2.2.2.2.1.length=r.2.1.length
 qj : ∀ j,(q.2.2.2.2.2.1.getD j []).length≤(r.2.1.getD j []).length
 ow:q.2.2.2.2.2.2.1.length=r.2.2.1.length
 fi:q.2.2.2.2.2.2.2.1.length=r.2.2.2.1.length
 bk:q.2.2.2.2.2.2.2.2.2.2.2.2.1=r.2.2.2.2.2.2.2.2.1
 an:q.1.length≤1
 ak : ∀ a∈q.1,0≤a.1∧a.1<5∧(a.2.1=x.2.1∧(x.1≠23∧x.1≠24∧x.1≠25)∨a.2.1=0)
theorem ads {x:bI}  {r:JR} (hop:jx x.1) (hm:st.length≤16):EffOk f x r (nI i f st x k r):=by
 obtain ⟨op,a,b⟩:=x
 have ht:(st.take (st.length - 1)).length≤16:=by rw [V7]; omega
 unfold nI
 dsimp only
 rcases hop with h | h | h | h | h | h | h | h | h | h
 ·dsimp only at h
  subst h
  simp only [We]
  split
  ·exact ⟨rfl,hm,rfl,rfl,fun j=>Wb _,rfl,rfl,rfl,Wb _,fun z hz=>by rcases Vt.1 hz with rfl; dsimp only; omega⟩
  ·exact ⟨rfl,by simp only [Vs,Vp]; omega,rfl,rfl,fun j=>Wb _,rfl,rfl,rfl,Wb _,fun z hz=>by rcases Vt.1 hz with rfl; dsimp only; omega⟩
 ·dsimp only at h
  subst h
  simp only [Int.reduceEq,WE,We]
  split
  ·exact ⟨rfl,hm,rfl,rfl,fun j=>Wb _,rfl,rfl,rfl,Wb _,fun z hz=>by rcases Vt.1 hz with rfl; dsimp only; omega⟩
  ·exact ⟨rfl,ht,XE,rfl,fun j=>Wb _,rfl,rfl,rfl,Wb _,fun z hz=>by rcases Vt.1 hz with rfl; dsimp only; omega⟩
 ·dsimp only at h
  subst h
  simp only [Int.reduceEq,WE,We]
  exact ⟨XE,hm,rfl,XE,fun j=>XW _ _ _,rfl,rfl,rfl,Wb _,fun z hz=>by rcases Vt.1 hz with rfl; dsimp only; omega⟩
 ·dsimp only at h
  subst h
  simp only [Int.reduceEq,WE,We]
  exact ⟨rfl,hm,rfl,rfl,fun j=>Wb _,XE,rfl,rfl,Wb _,fun z hz=>by rcases Vt.1 hz with rfl; dsimp only; omega⟩
 ·dsimp only at h
  subst h
  simp only [Int.reduceEq,WE,We]
  exact ⟨rfl,hm,rfl,rfl,fun j=>Wb _,XE,rfl,rfl,Wb _,fun z hz=>by rcases Vt.1 hz with rfl; dsimp only; omega⟩
 ·dsimp only at h
  subst h
  simp only [Int.reduceEq,WE,We]
  exact ⟨XE,hm,rfl,rfl,fun j=>Wb _,rfl,rfl,rfl,adq _,fun z hz=>by cases hz⟩
 ·dsimp only at h
  subst h
  simp only [Int.reduceEq,WE,We]
  exact ⟨XE,hm,rfl,rfl,fun j=>Wb _,rfl,rfl,rfl,Wb _,fun z hz=>by rcases Vt.1 hz with rfl; dsimp only; omega⟩
 ·dsimp only at h
  subst h
  simp only [Int.reduceEq,WE,We]
  exact ⟨rfl,hm,rfl,rfl,fun j=>Wb _,rfl,rfl,rfl,Wb _,fun z hz=>by rcases Vt.1 hz with rfl; dsimp only; omega⟩
 ·dsimp only at h
  subst h
  simp only [Int.reduceEq,WE,We]
  split
  ·exact ⟨rfl,hm,rfl,rfl,fun j=>Wb _,rfl,rfl,rfl,Wb _,fun z hz=>by rcases Vt.1 hz with rfl; dsimp only; omega⟩
  ·split
   ·exact ⟨rfl,ht,rfl,rfl,fun j=>Wb _,rfl,XE,rfl,Wb _,fun z hz=>by rcases Vt.1 hz with rfl; dsimp only; omega⟩
   ·exact ⟨rfl,ht,rfl,rfl,fun j=>Wb _,rfl,rfl,rfl,Wb _,fun z hz=>by rcases Vt.1 hz with rfl; dsimp only; omega⟩
 ·dsimp only at h
  subst h
  simp only [Int.reduceEq,WE,We]
  exact ⟨XE,hm,rfl,rfl,fun j=>Wb _,rfl,rfl,rfl,Wb _,fun z hz=>by rcases Vt.1 hz with rfl; dsimp only; omega⟩
structure Left (c:CC) (s:aO) (q:vF):Prop where
 g:GoodS c q.2.2.2
 n:q.2.2.2.1.length≤s.1.length+1
 run : ∀ z∈q.1,∃ n:Nat,z=(n:Int)∧pw c q.2.2.2 n
 nd:q.1.Nodup
 two:q.1.length≤2
structure Does (c:CC) (s:aO) (q:vF):Prop where
 an:q.2.1.length≤2
 ak : ∀ a∈q.2.1,kB a
 left:q.2.2.1=true→Left c s q
theorem wC (hc:bj c)       {x:bI} {k:Nat} (h:AtP c s i fs f st w x k pc) (hr:Run1 c fs f st) (h13:x.1≠13) (h28:x.1≠28) {l st' : List Int} (hl:l.length=f.2.length) (hm:st'.length≤16):Run1 c fs (ad (f.1+1),l) st' :=
 ⟨hr.n,hm,fun g hg=>by
  rcases Wc.1 hg with hg | hg
  ·exact hr.fr g (Wc.2 (.inl hg))
  ·rcases Vt.1 hg with rfl
   rw [h.pc1]
   exact MR hc h.pc2 h.pr (by rw [h.x]; exact h13) (by rw [h.x]; exact h28) (by rw [hl]; exact h.lo)⟩
theorem lK {b:Bool} (h1:0≤k) (h2:k<10) (h3:0≤o) (h4:o≤1048577):kB (k,o,b):=⟨h1,(by dsimp only; omega),h3,(by dsimp only; omega)⟩
theorem ZR {op:Int} (h:jx op):op≠13∧op≠28:=by
 unfold jx at h
 omega
theorem Qv (hc:bj c)  (hs:GoodS c s)      {x:bI}  {k:Nat} (hA:AtP c s i fs f st w x k pc) (hr:Run1 c fs f st) (hp:jx x.1):Does c s (vM s i fs f st w x j):=by
 have hE:=ads (i:=i) (f:=f) (k:=j) (r:=s.2) hp hr.m
 unfold vM qk
 dsimp only
 generalize nI i f st x j s.2=q at *
 obtain ⟨e1,e2,e3,e4,e5,e6,e7,e8,e9,e10⟩:=hE
 obtain ⟨q1,q2,q3,q4,q5⟩:=q
 dsimp only at *
 have hF:=hc.2.2.1 k pc hA.pc2 hA.pr
 rw [hA.x] at hF
 obtain ⟨⟨h0,_⟩,_,o1,o2,o3,o4,o5,o6,o7,o8,o9,o10,o11,o12⟩:=hF
 obtain ⟨z1,z2,z3,z4,z5,z6,z7⟩:=hc.2.2.2
 refine ⟨(by dsimp only; omega),fun a ha=>?_,fun hg=>?_⟩
 ·obtain ⟨a1,a2,a3⟩:=e10 a ha
  have hb:0≤a.2.1∧a.2.1≤1048577:=by
   rcases a3 with ⟨a3,n23,n24,n25⟩ | a3
   ·rw [a3]
    rcases hp with h | h | h | h | h | h | h | h | h | h
    ·obtain ⟨g1,g2⟩:=o6 (.inl h); omega
    ·obtain ⟨g1,g2⟩:=o6 (.inr h); omega
    ·obtain ⟨g1,g2⟩:=o7 (.inr h); omega
    ·obtain ⟨g1,g2⟩:=o8 (.inl h); omega
    ·obtain ⟨g1,g2⟩:=o8 (.inr h); omega
    ·exact absurd h n23
    ·exact absurd h n24
    ·exact absurd h n25
    ·obtain ⟨g1,g2⟩:=o11 (.inl h); omega
    ·obtain ⟨g1,g2⟩:=o11 (.inr h); omega
   ·rw [a3]; omega
  exact ⟨a1,(by omega),hb.1,(by omega)⟩
 ·have hi:=dt hA.t
  have h13:=ZR hp
  have hn:=wC hc hA hr h13.1 h13.2 e1 e2
  rw [if_pos hg]
  obtain ⟨g1,g2⟩:=tB hc hs (q:=(s.1.set i (fs++[(ad (f.1+1),q3)],q4,w,false),q5)) hi rfl hn e3 e4 e6 e7 e8 (fun y hy=>by
   have:=e5 y
   have h2:=hs.ok.cap y hy
   dsimp only
   omega)
  have hp:bV (s.1.set i (fs++[(f.1,q3)],q4,w,false),q5) i (fs++[(ad (f.1+1),q3)],q4,w,false)=(s.1.set i (fs++[(ad (f.1+1),q3)],q4,w,false),q5):=by unfold bV; dsimp only; rw [ae5]
  rw [hp]
  exact ⟨g1,by dsimp only; rw [XE]; omega,fun z hz=>by rcases Vt.1 hz with rfl; exact ⟨i,rfl,g2⟩,by simp,by simp⟩
theorem aeG (hc:bj c)  (hs:GoodS c s) (hn65:s.1.length≤70)      {x:bI} {k:Nat} (hA:AtP c s i fs f st w x k pc) (hr:Run1 c fs f st) (h18:x.1=18):Does c s (oN c s i fs f st w x.2.1):=by
 have hF:=hc.2.2.1 k pc hA.pc2 hA.pr
 rw [hA.x] at hF
 obtain ⟨⟨h0,_⟩,_,o1,o2,o3,o4,o5,o6,o7,o8,o9,o10,o11,o12⟩:=hF
 obtain ⟨p1,p2⟩:=o3 (.inr h18)
 have hi:=dt hA.t
 unfold oN
 by_cases h5:5≤dD s s.1.length
 ·rw [if_pos h5]
  exact ⟨by simp,fun a ha=>by rcases Vt.1 ha with rfl; exact lK (by omega) (by omega) (by omega) (by omega),fun h=>by cases h⟩
 rw [if_neg h5]
 refine ⟨by simp,fun a ha=>?_,fun _=>?_⟩
 ·rcases Wd.1 ha with rfl | ha
  ·exact lK (by omega) (by omega) (by omega) (by omega)
  ·rcases Vt.1 ha with rfl
   exact lK (by omega) (by omega) (by omega) (by omega)
 ·have hn:=wC hc hA hr (by omega) (by omega) (l:=f.2) rfl hr.m
  obtain ⟨g1,fs',f',st',w',g2,g3⟩:=tB hc hs (q:=uD s i fs f st w) hi rfl hn rfl rfl rfl rfl rfl hs.ok.cap
  have hl:(uD s i fs f st w).1.length=s.1.length:=fZ
  have hfc:=CQ hc (a:=x.2.1.toNat) (by omega)
  have hnew:Run1 c [] (c.2.1.getD x.2.1.toNat 0,List.replicate (c.2.2.1.getD x.2.1.toNat 0).toNat 0) []:=⟨by simp,by simp,fun g hg=>by rcases Vt.1 hg with rfl; exact hfc⟩
  have hss:GoodS c ((uD s i fs f st w).1++[A0 c x.2.1],(uD s i fs f st w).2):=by
   obtain ⟨⟨q1,q2,q3,q4⟩,⟨u1,u2,u3⟩,u4,u5⟩:=g1
   refine ⟨⟨by simp only [Vs,Vp]; omega,fun t ht=>?_,⟨q3.1,q3.2,q3.3,q3.4⟩,q4⟩,⟨by simp only [Vs,Vp]; omega,fun t ht=>?_,u3⟩,u4,u5⟩
   ·rcases Wc.1 ht with ht | ht
    ·exact q2 t ht
    ·rcases Vt.1 ht with rfl
     exact .inr ⟨rfl,[],_,rfl,hnew⟩
   ·rcases Wc.1 ht with ht | ht
    ·exact u2 t ht
    ·rcases Vt.1 ht with rfl
     refine ⟨by simp [A0],by simp [A0],fun g hg=>?_⟩
     rcases Vt.1 hg with rfl
     have:=xL hc hfc
     dsimp only at this ⊢
     omega
  refine ⟨hss,by simp only [Vs,Vp]; omega,fun z hz=>?_,?_,by simp⟩
  ·rcases Wd.1 hz with rfl | hz
   ·refine ⟨s.1.length,rfl,[],_,[],0,?_,hnew⟩
    show ((uD s i fs f st w).1++[A0 c x.2.1])[s.1.length]? = _
    rw [← hl]
    simp [A0]
   ·rcases Vt.1 hz with rfl
    refine ⟨i,rfl,fs',f',st',w',?_,g3⟩
    show ((uD s i fs f st w).1++[A0 c x.2.1])[i]? = _
    rw [Yq (by omega)]
    exact g2
  ·refine afr.2 ⟨fun h=>?_,by simp⟩
   have:=Vt.1 h
   omega
theorem S3 (hc:bj c)  (hs:GoodS c s)      {x:bI} {k:Nat}  (hA:AtP c s i fs f st w x k pc) (hr:Run1 c fs f st) (h19:x.1=19)
  (hj : ¬ 0<(c.2.2.2.2.1.getD x.2.1.toNat ([],0)).2→0≤j∧j<(dY c s x.2.1).length) (hq:0<(c.2.2.2.2.1.getD x.2.1.toNat ([],0)).2→((s.2.2.1.getD x.2.1.toNat []).length:Int)<(c.2.2.2.2.1.getD x.2.1.toNat ([],0)).2):Does c s (iB c s i fs f st w x.2.1 j):=by
 have hF:=hc.2.2.1 k pc hA.pc2 hA.pr
 rw [hA.x] at hF
 obtain ⟨⟨h0,_⟩,_,o1,o2,o3,o4,o5,o6,o7,o8,o9,o10,o11,o12⟩:=hF
 obtain ⟨p1,p2⟩:=o7 (.inl h19)
 obtain ⟨z1,z2,z3,z4,z5,z6,z7⟩:=hc.2.2.2
 have hi:=dt hA.t
 have h1a:kB (1,x.2.1,true):=lK (by omega) (by omega) (by omega) (by omega)
 unfold iB
 by_cases hv:st.length=0
 ·rw [if_pos hv]
  exact ⟨by simp,fun a ha=>by rcases Vt.1 ha with rfl; exact h1a,fun h=>by cases h⟩
 rw [if_neg hv]
 have hn:=wC hc hA hr (by omega) (by omega) (l:=f.2) (st' := st.take (st.length - 1)) rfl (by rw [V7]; have:=hr.m; omega)
 dsimp only
 by_cases hcap:0<(c.2.2.2.2.1.getD x.2.1.toNat ([],0)).2
 ·rw [if_pos hcap]
  refine ⟨by simp,fun a ha=>by rcases Vt.1 ha with rfl; exact h1a,fun _=>?_⟩
  have hqq:=hq hcap
  obtain ⟨g1,g2⟩:=tB hc hs (q:=((bV s i (fs++[(ad (f.1+1),f.2)],st.take (st.length - 1),w,false)).1,s.2.1,s.2.2.1.set x.2.1.toNat (s.2.2.1.getD x.2.1.toNat []++[st.getD (st.length - 1) 0]),s.2.2.2)) hi rfl hn rfl XE rfl rfl rfl (fun y hy=>by
   have h2:=hs.ok.cap y hy
   simp only [WT] at *
   by_cases he:x.2.1.toNat=y
   ·subst he
    rw [W5 (by have:=hs.ok.fit.qs; omega)]
    simp only [adN,Vs,Vp]
    omega
   ·rw [Yr he]
    exact h2)
  exact ⟨g1,by show (bV s i _).1.length≤_; rw [fZ]; omega,fun z hz=>by rcases Vt.1 hz with rfl; exact ⟨i,rfl,g2⟩,by simp,by simp⟩
 ·rw [if_neg hcap]
  obtain ⟨q,gs,g,tt,tw,y,w1,w2,w3⟩:=AQ hc hs.ok hA h19 (hj hcap)
  have hle:=hs.ok.n
  rw [w1]
  simp only [VY]
  refine ⟨by simp,fun a ha=>?_,fun _=>?_⟩
  ·rcases Wd.1 ha with rfl | ha
   ·exact h1a
   ·rcases Vt.1 ha with rfl
    exact lK (by omega) (by omega) (by omega) (by omega)
  ·obtain ⟨g1,fs',f',st',w',g2,g3⟩:=tB hc hs (q:=bV s i (fs++[(ad (f.1+1),f.2)],st.take (st.length - 1),w,false)) hi rfl hn rfl rfl rfl rfl rfl hs.ok.cap
   obtain ⟨k',pc',hB⟩:=w3.at_
   have hop:=w3.op
   have eq0:bL s q=(gs++[g],tt,tw,false):=jN w3.t
   obtain ⟨n,hn3⟩ : ∃ n,n=(eA c (bL s q)).2.2.toNat:=⟨_,rfl⟩
   rw [← hn3,eq0,ef,aeW]
   have hn2:=wC hc hB w3.run (by omega) (by omega) (l:=g.2.set n (st.getD (st.length - 1) 0)) XE w3.run.m
   obtain ⟨g4,g5⟩:=tB hc g1 (i:=q) (q:=bV (bV s i (fs++[(ad (f.1+1),f.2)],st.take (st.length - 1),w,false)) q (gs++[(ad (g.1+1),g.2.set n (st.getD (st.length - 1) 0))],tt,tw,false)) (by rw [fZ]; exact w2) rfl hn2 rfl rfl rfl rfl rfl g1.ok.cap
   refine ⟨g4,by dsimp only; rw [fZ,fZ]; omega,fun z hz=>?_,?_,by simp⟩
   ·rcases Wd.1 hz with rfl | hz
    ·exact ⟨q,rfl,g5⟩
    ·rcases Vt.1 hz with rfl
     refine ⟨i,rfl,fs',f',st',w',?_,g3⟩
     unfold bV
     dsimp only
     rw [Yr w3.ne]
     exact g2
   ·refine afr.2 ⟨fun h=>?_,by simp⟩
    have:=Vt.1 h
    have:=w3.ne
    omega
theorem W0 (hs:GoodS c s) :Does c s (qP s i):=by
 have hb:GoodS c (bV s i ([],[],0,true)):=by
  obtain ⟨q1,⟨u1,u2,u3⟩,q3,q4⟩:=hs
  refine ⟨IE q1 (.inl ⟨rfl,rfl⟩),⟨by rw [fZ]; exact u1,fun t ht=>?_,u3⟩,q3,q4⟩
  rcases ZH ht with ht | rfl
  ·exact u2 t ht
  ·exact ⟨by simp,by simp,fun g hg=>by cases hg⟩
 unfold qP
 refine ⟨by simp,fun a ha=>by rcases Vt.1 ha with rfl; exact lK (by omega) (by omega) (by omega) (by omega),fun _=>?_⟩
 by_cases h0:i=0
 ·rw [if_pos h0]
  obtain ⟨⟨q1,q2,q3,q4⟩,q5,q6,q7⟩:=hb
  exact ⟨⟨⟨q1,q2,⟨q3.1,q3.2,q3.3,q3.4⟩,q4⟩,q5,by show (-1:Int)≤0; omega,by show (0:Int)≤4; omega⟩,by show (bV s i _).1.length≤_; rw [fZ]; omega,fun z hz=>(by cases hz),by simp,by simp⟩
 ·rw [if_neg h0]
  exact ⟨hb,by show (bV s i _).1.length≤_; rw [fZ]; omega,fun z hz=>(by cases hz),by simp,by simp⟩
theorem Bh (hc:bj c)  (hs:GoodS c s) (hn65:s.1.length≤70)      {x:bI}  (h:CanDo c s i fs f st w x j) (hr:Run1 c fs f st)
  (hq:x.1=19→0<(c.2.2.2.2.1.getD x.2.1.toNat ([],0)).2→((s.2.2.1.getD x.2.1.toNat []).length:Int)<(c.2.2.2.2.1.getD x.2.1.toNat ([],0)).2):Does c s (mX c s i fs f st w x j):=by
 obtain ⟨k,pc,hA⟩:=h.at_
 unfold mX
 by_cases h18:x.1=18
 ·rw [if_pos h18]
  exact aeG hc hs hn65 hA hr h18
 rw [if_neg h18]
 by_cases h19:x.1=19
 ·rw [if_pos h19]
  exact S3 hc hs hA hr h19 (h.to h19) (hq h19)
 rw [if_neg h19]
 by_cases hp:jx x.1
 ·rw [if_pos hp]
  exact Qv hc hs hA hr hp
 ·rw [if_neg hp]
  exact W0 hs
theorem adY {kind:Int} {s':aO}      {x:bI} (he:jA c kind s i fs f st w x=some s'):cD s' = cD s∨cD s' = 1:=by
 unfold jA at he
 dsimp only at he
 by_cases n0:x.1=0
 ·rw [if_pos n0] at he
  split at he <;> cases he
  exact .inl rfl
 rw [if_neg n0] at he
 by_cases n1:x.1=1
 ·rw [if_pos n1] at he
  split at he <;> cases he
  exact .inl rfl
 rw [if_neg n1] at he
 by_cases n3:x.1=3
 ·rw [if_pos n3] at he
  split at he <;> cases he
  exact .inl rfl
 rw [if_neg n3] at he
 by_cases n2:x.1=2
 ·rw [if_pos n2] at he
  split at he <;> cases he
  exact .inl rfl
 rw [if_neg n2] at he
 by_cases n10:x.1=10
 ·rw [if_pos n10] at he
  cases he
  exact .inl rfl
 rw [if_neg n10] at he
 by_cases n11:x.1=11
 ·rw [if_pos n11] at he
  split at he <;> cases he
  exact .inl rfl
 rw [if_neg n11] at he
 by_cases n12:x.1=12
 ·rw [if_pos n12] at he
  split at he <;> cases he
  exact .inl rfl
 rw [if_neg n12] at he
 by_cases n13:x.1=13
 ·rw [if_pos n13] at he
  cases he
  exact .inl rfl
 rw [if_neg n13] at he
 by_cases n14:x.1=14
 ·rw [if_pos n14] at he
  split at he <;> cases he
  split
  ·exact .inr rfl
  ·exact .inl rfl
 rw [if_neg n14] at he
 by_cases n15:x.1=15
 ·rw [if_pos n15] at he
  cases he
  exact .inl rfl
 rw [if_neg n15] at he
 split at he <;> cases he
 exact .inl rfl
theorem um (c:CC) (s:aO) (i:Nat) (o:Int):cD (iy c s i o)=o:=by
 unfold iy
 dsimp only
 split <;> rfl
theorem QG (c:CC) (kind:Int) (i:Nat) : ∀ (m:Nat) (s:aO),-1≤cD s∧cD s≤4→-1≤cD (dH c kind i m s).2∧cD (dH c kind i m s).2≤4:=by
 intro m
 induction m with
 | zero=>
  intro s h
  unfold dH
  split
  ·exact h
  split
  ·exact h
  ·dsimp only
   rw [um]
   omega
 | succ m ih=>
  intro s h
  unfold dH
  split
  ·exact h
  split
  ·exact h
  ·dsimp only
   split
   ·dsimp only
    rw [um]
    omega
   ·rename_i s' he
    refine ih s' ?_
    rcases adY he with h1 | h1
    ·rw [h1]; exact h
    ·rw [h1]; omega
theorem Ui (c:CC) (s:aO) (i:Nat):cD (qU c s i).1=cD s:=by
 unfold qU
 dsimp only
 split
 ·rfl
 split
 ·dsimp only
  split <;> rfl
 split <;> rfl
theorem sW (hc:bj c) (kind:Int)   (hs:GoodS c s) (hr:pw c s i) :
  GoodS c (cK c kind i s).1∧(cK c kind i s).1.1.length=s.1.length∧(∀ q,q≠i→(cK c kind i s).1.1[q]? = s.1[q]?)∧(cK c kind i s).2.length≤1∧∀ a∈(cK c kind i s).2,kB a:=by
 obtain ⟨b1,b2,b3⟩:=Iw hc kind hs.ok hr hs.sm
 have hout:=QG c kind i 64 s ⟨hs.lo,hs.hi⟩
 obtain ⟨fs,f,st,w,ht,hr⟩:=hr
 obtain ⟨fs',f',st',g1,g2,g3,g4⟩:=ya hc kind 64 ht hr
 have ho : -1≤cD (cK c kind i s).1∧cD (cK c kind i s).1≤4:=by
  unfold cK
  split
  ·rw [Ui]; exact hout
  ·exact hout
 refine ⟨⟨b1,b2,ho.1,ho.2⟩,b3,?_⟩
 unfold cK
 generalize dH c kind i 64 s=q at *
 obtain ⟨b,q⟩:=q
 dsimp only at *
 have ht' : q.1[i]? = some (fs' ++ [f'],st',w,false):=by rw [g1]; exact W5 (dt ht)
 have hbase : ∀ j,j≠i→q.1[j]? = s.1[j]? := fun j hj=>by rw [g1,Yr (ahZ hj)]
 obtain ⟨k,pc,hA⟩:=iK ht' g2
 have hF:=hc.2.2.1 k pc hA.pc2 hA.pr
 rw [hA.x] at hF
 have hx:eA c (bL q i)=cH c f'.1.toNat:=by rw [jN ht']; unfold eA; rw [ef]
 obtain ⟨z1,z2,z3,z4,z5,z6,z7⟩:=hc.2.2.2
 split
 ·unfold qU
  dsimp only
  rw [hx]
  obtain ⟨_,_,o1,o2,o3,o4,o5,o6,o7,o8,o9,o10,o11,o12⟩:=hF
  split
  ·refine ⟨fun j hj=>?_,by simp,fun a ha=>by rcases Vt.1 ha with rfl; exact lK (by omega) (by omega) (by omega) (by omega)⟩
   show (q.1.set i _)[j]? = _
   rw [Yr (ahZ hj)]
   exact hbase j hj
  split
  ·rename_i h21
   obtain ⟨p1,p2⟩:=o8 (.inl h21)
   refine ⟨fun j hj=>?_,by simp,fun a ha=>by rcases Vt.1 ha with rfl; exact lK (by omega) (by omega) (by omega) (by omega)⟩
   dsimp only
   split <;> exact hbase j hj
  split
  ·rename_i h20
   obtain ⟨p1,p2⟩:=o7 (.inr h20)
   refine ⟨hbase,?_,fun a ha=>?_⟩
   ·dsimp only; split <;> simp
   ·dsimp only at ha
    split at ha
    ·rcases Vt.1 ha with rfl; exact lK (by omega) (by omega) (by omega) (by omega)
    ·cases ha
  ·exact ⟨hbase,by simp,fun a ha=>by cases ha⟩
 ·exact ⟨hbase,by simp,fun a ha=>by cases ha⟩
def bN (c:CC) (kind:Int):List Int→aO→aO×List bR
 | [],s=>(s,[])
 | z::r,s=>((bN c kind r (cK c kind z.toNat s).1).1,(cK c kind z.toNat s).2++(bN c kind r (cK c kind z.toNat s).1).2)
structure CanRun (c:CC) (l:List Int) (s:aO):Prop where
 g:GoodS c s
 run : ∀ z∈l,∃ n:Nat,z=(n:Int)∧pw c s n
 nd:l.Nodup
theorem AW (hc:bj c) (kind:Int) {z:Int} {l:List Int}  (h:CanRun c (z::l) s):CanRun c l (cK c kind z.toNat s).1:=by
 obtain ⟨n,rfl,hr⟩:=h.run z (VU ..)
 obtain ⟨q1,q2,q3,q4,q5⟩:=sW hc kind h.g hr
 obtain ⟨d1,d2⟩:=afr.1 h.nd
 refine ⟨q1,fun y hy=>?_,d2⟩
 obtain ⟨m,rfl,fs,f,st,w,h1,h2⟩:=h.run y (Vi _ hy)
 refine ⟨m,rfl,fs,f,st,w,?_,h2⟩
 rw [VY,q3 m (by rintro rfl; exact d1 hy)]
 exact h1
theorem wO {c:CC} (hc:bj c) (kind:Int) : ∀ {l:List Int} {s:aO},CanRun c l s→GoodS c (bN c kind l s).1∧(bN c kind l s).1.1.length=s.1.length∧(bN c kind l s).2.length≤l.length∧∀ a∈(bN c kind l s).2,kB a
 | [],s,h=>⟨h.g,rfl,Wb _,fun a ha=>by cases ha⟩
 | z::l,s,h=>by
  obtain ⟨n,hz,hr⟩:=h.run z (VU ..)
  obtain ⟨q1,q2,q3,q4,q5⟩:=sW hc kind h.g hr
  obtain ⟨b1,b2,b3,b4⟩:=wO hc kind (AW hc kind h)
  have hz' : z.toNat=n:=by omega
  unfold bN
  dsimp only
  rw [hz'] at b1 b2 b3 b4 ⊢
  refine ⟨b1,by rw [b2,q2],by rw [Vs,Ws]; omega,fun a ha=>?_⟩
  rcases Wc.1 ha with ha | ha
  ·exact q5 a ha
  ·exact b4 a ha
theorem Xt (hc:bj c) (e:bI) (acc:List ((Int×Int×Bool)×Bool)) (who:List Int) (ok:Bool) (r0:aR)  (hw:who.length≤1000) (h:CanRun c who s) :
  Itr.it (mW (who,ok,r0)) (fl 0 (c,e,s,acc))=some (fl 0 (c,e,(bN c e.1 who s).1,(bN c e.1 who s).2.foldl cv acc)).2:=by
 obtain ⟨r,h1,h2⟩:=fw (f:=mW (who,ok,r0)) (fun y=>who.length - y.1.toNat) (fun y=>∃ (n:Nat) (t:aO) (a:List ((Int×Int×Bool)×Bool)),y=fl (n:Int) (c,e,t,a)∧n≤who.length∧CanRun c (who.drop n) t∧(bN c e.1 (who.drop n) t).1=(bN c e.1 who s).1∧(bN c e.1 (who.drop n) t).2.foldl cv a=(bN c e.1 who s).2.foldl cv acc)
  (fun r=>r=(fl 0 (c,e,(bN c e.1 who s).1,(bN c e.1 who s).2.foldl cv acc)).2)
  (fun y hy=>by
   obtain ⟨n,t,a,rfl,hn,hc1,e1,e2⟩:=hy
   unfold mW
   rcases WG n who.length with hlt | hge
   ·right
    have hd:who.drop n=who.getD n 0::who.drop (n+1):=by
     rw [aef hlt]
     simp [hlt]
    rw [hd] at hc1 e1 e2
    obtain ⟨m,hz,hr⟩:=hc1.run _ (VU ..)
    have hq:=Nq hc e a hr hc1.g.ok.fit
    have hx:=AW hc e.1 hc1
    have e1:(bN c e.1 (who.drop (n+1)) (cK c e.1 (who.getD n 0).toNat t).1).1=(bN c e.1 who s).1:=e1
    have e2:((cK c e.1 (who.getD n 0).toNat t).2++(bN c e.1 (who.drop (n+1)) (cK c e.1 (who.getD n 0).toNat t).1).2).foldl cv a=(bN c e.1 who s).2.foldl cv acc:=e2
    have hm:(who.getD n 0).toNat=m:=by omega
    rw [hm] at hx e1 e2
    rw [ahM] at e2
    refine ⟨fl ((n+1:Nat):Int) (c,e,(cK c e.1 m t).1,(cK c e.1 m t).2.foldl cv a),?_,⟨n+1,_,_,rfl,hlt,hx,e1,e2⟩,by show who.length - ((n+1:Nat):Int).toNat<who.length - ((n:Nat):Int).toNat; omega⟩
    have ew:ac who (n:Int)=some ((m:Nat):Int):=by rw [aB 0 hlt,hz]
    have ed:(n:Int)<(who.length:Int):=by omega
    simp only [fl,ed,YD,f9,ew,f7,ZJ]
    rw [aZ (x:=(n:Int)+1) (by omega) (by omega)]
    refine (Xw (fun o:Option aR=>o.bind _) hq).trans ?_
    rfl
   ·left
    have hnn:n=who.length:=by omega
    subst hnn
    rw [adM] at e1 e2
    have e1:t=(bN c e.1 who s).1:=e1
    have e2:a=(bN c e.1 who s).2.foldl cv acc:=e2
    refine ⟨_,?_,rfl⟩
    have ed : ¬ (who.length:Int)<(who.length:Int):=by omega
    rw [← e1,← e2]
    simp only [fl,ed,Yv,no])
  (s:=fl 0 (c,e,s,acc)) ⟨0,s,acc,rfl,by omega,h,rfl,rfl⟩ (by show who.length - (0:Int).toNat<_; omega)
 rw [h1,h2]
theorem Vy (hc:bj c) (e:bI) (who:List Int) (r0:(List (Int×Int×Bool))×Bool×ay) (sd:List bR) (hsd:sd.length≤1000)  (hw:who.length≤1000) (h:CanRun c who s) :
  Itr.it (jn (who,r0)) (gw 0 (c,e,s,sd))=some (gw 0 (c,e,(bN c e.1 who s).1,sd++(bN c e.1 who s).2)).2:=by
 obtain ⟨r,h1,h2⟩:=fw (f:=jn (who,r0)) (fun y=>who.length - y.1.toNat) (fun y=>∃ (n:Nat) (t:aO) (a:List bR),y=gw (n:Int) (c,e,t,a)∧n≤who.length∧a.length≤1000+n∧CanRun c (who.drop n) t∧(bN c e.1 (who.drop n) t).1=(bN c e.1 who s).1∧a++(bN c e.1 (who.drop n) t).2=sd++(bN c e.1 who s).2)
  (fun r=>r=(gw 0 (c,e,(bN c e.1 who s).1,sd++(bN c e.1 who s).2)).2)
  (fun y hy=>by
   obtain ⟨n,t,a,rfl,hn,ha,hc1,e1,e2⟩:=hy
   unfold jn
   rcases WG n who.length with hlt | hge
   ·right
    have hd:who.drop n=who.getD n 0::who.drop (n+1):=by
     rw [aef hlt]
     simp [hlt]
    rw [hd] at hc1 e1 e2
    obtain ⟨m,hz,hr⟩:=hc1.run _ (VU ..)
    have hq:=N8 hc e a (by omega) hr hc1.g.ok.fit hc1.g.sm
    have hx:=AW hc e.1 hc1
    obtain ⟨_,_,_,hl1,_⟩:=sW hc e.1 hc1.g hr
    have e1:(bN c e.1 (who.drop (n+1)) (cK c e.1 (who.getD n 0).toNat t).1).1=(bN c e.1 who s).1:=e1
    have e2:a++((cK c e.1 (who.getD n 0).toNat t).2++(bN c e.1 (who.drop (n+1)) (cK c e.1 (who.getD n 0).toNat t).1).2)=sd++(bN c e.1 who s).2:=e2
    have hm:(who.getD n 0).toNat=m:=by omega
    rw [hm] at hx e1 e2
    rw [← V8] at e2
    refine ⟨gw ((n+1:Nat):Int) (c,e,(cK c e.1 m t).1,a++(cK c e.1 m t).2),?_,⟨n+1,_,_,rfl,hlt,by rw [Vs]; omega,hx,e1,e2⟩,by show who.length - ((n+1:Nat):Int).toNat<who.length - ((n:Nat):Int).toNat; omega⟩
    have ew:ac who (n:Int)=some ((m:Nat):Int):=by rw [aB 0 hlt,hz]
    have ed:(n:Int)<(who.length:Int):=by omega
    simp only [gw,ed,YD,f9,ew,f7,ZJ]
    rw [aZ (x:=(n:Int)+1) (by omega) (by omega)]
    refine (Xw (fun o:Option ay=>o.bind _) hq).trans ?_
    rfl
   ·left
    have hnn:n=who.length:=by omega
    subst hnn
    rw [adM] at e1 e2
    have e1:t=(bN c e.1 who s).1:=e1
    have e2:a++[]=sd++(bN c e.1 who s).2:=e2
    rw [Wm] at e2
    refine ⟨_,?_,rfl⟩
    have ed : ¬ (who.length:Int)<(who.length:Int):=by omega
    rw [← e1,← e2]
    simp only [gw,ed,Yv,no])
  (s:=gw 0 (c,e,s,sd)) ⟨0,s,sd,rfl,by omega,by omega,h,rfl,rfl⟩ (by show who.length - (0:Int).toNat<_; omega)
 rw [h1,h2]
def iN (s:aO) (p:Int):aO:=(s.1,s.2.1,s.2.2.1,s.2.2.2.1,s.2.2.2.2.1,s.2.2.2.2.2.1,s.2.2.2.2.2.2.1,s.2.2.2.2.2.2.2.1,p,s.2.2.2.2.2.2.2.2.2)
theorem nW (h:GoodS c s) (p:Int):GoodS c (iN s p):=
 ⟨⟨h.ok.n,h.ok.th,⟨h.ok.fit.1,h.ok.fit.2,h.ok.fit.3,h.ok.fit.4⟩,h.ok.cap⟩,h.sm,h.lo,h.hi⟩
def rN (s:aO):aO:=(s.1,s.2.1,s.2.2.1,s.2.2.2.1,s.2.2.2.2.1,ad (s.2.2.2.2.2.1+1),ad (s.2.2.2.2.2.2.1 - 1),(ad (s.2.2.2.2.2.2.2.1.1+1),s.2.2.2.2.2.2.2.1.2),s.2.2.2.2.2.2.2.2)
theorem yt (h:GoodS c s):GoodS c (rN s):=
 ⟨⟨h.ok.n,h.ok.th,⟨h.ok.fit.1,h.ok.fit.2,h.ok.fit.3,h.ok.fit.4⟩,h.ok.cap⟩,h.sm,h.lo,h.hi⟩
theorem zO (h:GoodS c s):GoodS c (ko c s):=by
 obtain ⟨a,b⟩:=DV h.ok h.sm
 have ho : -1≤cD (ko c s)∧cD (ko c s)≤4:=by
  unfold ko
  split
  ·exact ⟨h.lo,h.hi⟩
  split
  ·rw [um]; omega
  split
  ·exact ⟨h.lo,h.hi⟩
  split
  ·exact ⟨h.lo,h.hi⟩
  ·rw [um]; omega
 exact ⟨a,b,ho.1,ho.2⟩
theorem UP (h:GoodS c s) (i:Nat) (o:Int) (h1:0≤o) (h2:o≤4):GoodS c (iy c s i o):=by
 have ho:=um c s i o
 unfold iy at *
 dsimp only at *
 split at ho
 ·rename_i hh
  rw [if_pos hh]
  exact ⟨⟨h.ok.n,h.ok.th,⟨h.ok.fit.1,h.ok.fit.2,h.ok.fit.3,h.ok.fit.4⟩,h.ok.cap⟩,h.sm,by rw [ho]; omega,by rw [ho]; omega⟩
 ·rename_i hh
  rw [if_neg hh]
  exact ⟨⟨h.ok.n,h.ok.th,⟨h.ok.fit.1,h.ok.fit.2,h.ok.fit.3,h.ok.fit.4⟩,h.ok.cap⟩,h.sm,by rw [ho]; omega,by rw [ho]; omega⟩
theorem Nb {x:bI}  (h:0<s.1.length):0<(mX c s i fs f st w x j).2.2.2.1.length:=by
 unfold mX
 split
 ·unfold oN
  split
  ·exact h
  ·simp only [Vs,Vp]; omega
 split
 ·unfold iB
  split
  ·exact h
  ·dsimp only
   split
   ·show 0<(bV s i _).1.length
    rw [fZ]; exact h
   ·dsimp only
    rw [fZ,fZ]; exact h
 split
 ·unfold vM qk
  dsimp only
  split
  ·rw [fZ]; simp only [XE]; exact h
  ·simp only [XE]; exact h
 ·unfold qP
  dsimp only
  split
  ·show 0<(bV s i _).1.length
   rw [fZ]; exact h
  ·rw [fZ]; exact h
def yJ (c:CC) (e:bI) (s:aO) (i:Nat) (q:vF):aO×List bR:=
 if q.2.2.1=true then (ko c (bN c e.1 q.1 (rN q.2.2.2)).1,((5,(i:Int)+1,true)::q.2.1)++(bN c e.1 q.1 (rN q.2.2.2)).2)
 else (iy c (iN s (-1)) i 4,(5,(i:Int)+1,true)::q.2.1)
structure Moves (c:CC) (e:bI) (s:aO) (j:Int) (i:Nat) (fs:List Fr) (f:Fr) (st:List Int) (w:Int) (x:bI):Prop where
 gs:GoodS c s
 n:s.1.length≤65
 r1:jI c e s=some 0
 r2:fS c e s=some 0
 pt : ∃ p:Tf,ii (c,e,s,[])=some p∧eI (c,e,s,[])=some p∧p.2.1=(i:Int)∧0≤j∧j<(p.2.2.2.length:Int)
 t:s.1[i]? = some (fs++[f],st,w,false)
 run:Run1 c fs f st
 can:CanDo c (iN s (-1)) i fs f st w x j
 hq:x.1=19→0<(c.2.2.2.2.1.getD x.2.1.toNat ([],0)).2→((s.2.2.1.getD x.2.1.toNat []).length:Int)<(c.2.2.2.2.1.getD x.2.1.toNat ([],0)).2
theorem ajJ (hc:bj c) (e:bI)        {x:bI} (h:Moves c e s j i fs f st w x) (q:vF) (hq:q=mX c (iN s (-1)) i fs f st w x j)
  (hok:qr ((yJ c e s i q).2.foldl cv [])=true):gX c e s j=some ((yJ c e s i q).1,su ((yJ c e s i q).2.foldl cv []),0):=by
 obtain ⟨p,p1,p2,p3,p4,p5⟩:=h.pt
 have hd:=Bh hc (nW h.gs (-1)) (show (iN s (-1)).1.length≤70 by have:=h.n; show s.1.length≤70; omega) h.can h.run h.hq
 have hln:0<(mX c (iN s (-1)) i fs f st w x j).2.2.2.1.length:=Nb (show 0<s.1.length by have:=dt h.t; omega)
 have hi:=dt h.t
 have hn:=h.n
 unfold gX
 rw [h.r1]
 simp only [f7,ZJ,Yy,no,rj s h.gs.sm,p1,p3]
 have d1 : ¬ j<0:=by omega
 have d2 : ¬ (p.2.2.2.length:Int)≤j:=by omega
 have d3 : ¬ (i:Int)<0:=by omega
 have ewm:ad (1+(i:Int))=(i:Int)+1:=by rw [aZ (by omega) (by omega)]; omega
 simp only [d1,d2,d3,Yv,no,ewm]
 have he:=Wt hc (e:=e) (acc:=cv [] (5,(i:Int)+1,true)) h.can
 rw [← hq] at he hd hln
 refine (Xw (fun o:Option ((List Int)×Bool×aR)=>o.bind _) he).trans ?_
 have hfo:q.2.1.foldl cv (cv [] (5,(i:Int)+1,true))=((5,(i:Int)+1,true)::q.2.1).foldl cv []:=rfl
 simp only [f7,ZJ,hfo]
 unfold yJ at hok ⊢
 cases hg:q.2.2.1
 ·rw [hg] at hok
  simp only [XV,WE] at hok
  simp only [Wn,f9,XV,WE]
  obtain ⟨k,pc,hA⟩:=iK (s:=iN s (-1)) (i:=i) h.t h.run
  have et:=bC h.t
  obtain ⟨q1,q2,q3,q4⟩:=vS hc hA
  rw [qe hc hA]
  simp only [et,f7,ZJ,Wn,f9,mP fs f (by have:=h.run.n; omega),q1,q2,q3,q4,hok,af]
  rfl
 ·rw [hg] at hok
  simp only [We] at hok
  simp only [WM,no,We]
  have hl:=hd.left hg
  have hcan:CanRun c q.1 (rN q.2.2.2):=⟨yt hl.g,fun z hz=>by
   obtain ⟨n,rfl,fs',f',st',w',h1,h2⟩:=hl.run z hz
   exact ⟨n,rfl,fs',f',st',w',h1,h2⟩,hl.nd⟩
  have hqs:=Xt hc e (((5,(i:Int)+1,true)::q.2.1).foldl cv []) q.1 true (c,e,q.2.2.2,((5,(i:Int)+1,true)::q.2.1).foldl cv []) (by have:=hl.two; omega) hcan
  refine (Xw (fun o:Option pT=>o.bind _) hqs).trans ?_
  obtain ⟨g1,g2,g3,g4⟩:=wO hc e.1 hcan
  have hset:=HV hc (e:=e) (acc:=(bN c e.1 q.1 (rN q.2.2.2)).2.foldl cv (((5,(i:Int)+1,true)::q.2.1).foldl cv [])) g1.ok (by rw [g2]; exact hln)
  simp only [f7,ZJ]
  refine (Xw (fun o:Option aR=>o.bind _) hset).trans ?_
  rw [ahM] at hok ⊢
  simp only [f7,ZJ,hok,af,f9]
theorem ajR (hc:bj c) (e:bI)        {x:bI} (h:Moves c e s j i fs f st w x) (q:vF) (hq:q=mX c (iN s (-1)) i fs f st w x j) (v:List bR)
  (hv : ∀ M:List bR,(yJ c e s i q).2.Perm M→eN M=some v):d6 c e s j=some ((yJ c e s i q).1,v,0):=by
 obtain ⟨p,p1,p2,p3,p4,p5⟩:=h.pt
 have hd:=Bh hc (nW h.gs (-1)) (show (iN s (-1)).1.length≤70 by have:=h.n; show s.1.length≤70; omega) h.can h.run h.hq
 have hln:0<(mX c (iN s (-1)) i fs f st w x j).2.2.2.1.length:=Nb (show 0<s.1.length by have:=dt h.t; omega)
 have hi:=dt h.t
 have hn:=h.n
 unfold d6
 rw [h.r2]
 simp only [f7,ZJ,Yy,no,wg s h.gs.sm,p2,p3]
 have d1 : ¬ j<0:=by omega
 have d2 : ¬ (p.2.2.2.length:Int)≤j:=by omega
 have d3 : ¬ (i:Int)<0:=by omega
 simp only [d1,d2,d3,Yv,no,Ak (show i≤1048576 by omega)]
 have he:=Wi hc (e:=e) (sd:=[]) h.can
 rw [← hq] at he hd hln
 refine (Xw (fun o:Option ((List Int)×(List (Int×Int×Bool))×Bool×ay)=>o.bind _) he).trans ?_
 have a1:aJ q.2.1.length 1 24=true:=aY (by have:=hd.an; omega) (by omega)
 simp only [f7,ZJ,Vp,a1,af,f9]
 unfold yJ at hv ⊢
 have hp1 : ∀ l:List bR,(((5,(i:Int)+1,true)::q.2.1)++l).Perm ((q.2.1++[(5,(i:Int)+1,true)])++l):=fun l=>List.Perm.append_right l (List.perm_append_singleton _ _).symm
 cases hg:q.2.2.1
 ·rw [hg] at hv
  simp only [XV,WE] at hv
  simp only [Wn,f9,XV,WE]
  obtain ⟨k,pc,hA⟩:=iK (s:=iN s (-1)) (i:=i) h.t h.run
  have hs:=hv (q.2.1++[(5,(i:Int)+1,true)]) (by have:=hp1 []; simpa using this)
  have ho:=Jo hc (e:=e) (a:=[]) hA 4
  refine (Xw (fun o:Option ay=>o.bind _) ho).trans ?_
  simp only [f7,ZJ]
  refine (Xw (fun o:Option (List bR)=>o.bind _) hs).trans ?_
  rfl
 ·rw [hg] at hv
  simp only [We] at hv
  simp only [WM,no,We]
  have hl:=hd.left hg
  have hcan:CanRun c q.1 (rN q.2.2.2):=⟨yt hl.g,fun z hz=>by
   obtain ⟨n,rfl,fs',f',st',w',h1,h2⟩:=hl.run z hz
   exact ⟨n,rfl,fs',f',st',w',h1,h2⟩,hl.nd⟩
  have hqs:=Vy hc e q.1 (q.2.1,true,(c,e,q.2.2.2,[])) [] (by simp) (by have:=hl.two; omega) hcan
  refine (Xw (fun o:Option oL=>o.bind _) hqs).trans ?_
  obtain ⟨g1,g2,g3,g4⟩:=wO hc e.1 hcan
  have hset:=HT hc (e:=e) (a:=[]++(bN c e.1 q.1 (rN q.2.2.2)).2) g1.ok (by rw [g2]; exact hln)
  simp only [f7,ZJ]
  refine (Xw (fun o:Option ay=>o.bind _) hset).trans ?_
  have hs:=hv ((q.2.1++[(5,(i:Int)+1,true)])++(bN c e.1 q.1 (rN q.2.2.2)).2) (hp1 _)
  have a2:aJ (q.2.1.length+1) (bN c e.1 q.1 (rN q.2.2.2)).2.length 24=true:=aY (by have:=hd.an; have:=hl.two; omega) (by omega)
  simp only [f7,ZJ,XI,Vs,Vp,a2,f9]
  refine (Xw (fun o:Option (List bR)=>o.bind _) hs).trans ?_
  rfl
theorem aeX (hc:bj c) (e:bI)        {x:bI} (h:Moves c e s j i fs f st w x) :
  ∃ t v,gX c e s j=some (t,v,0)∧d6 c e s j=some (t,v,0)∧GoodS c t∧v.length≤12:=by
 have hd:=Bh hc (nW h.gs (-1)) (show (iN s (-1)).1.length≤70 by have:=h.n; show s.1.length≤70; omega) h.can h.run h.hq
 obtain ⟨q,hq⟩ : ∃ q,q=mX c (iN s (-1)) i fs f st w x j:=⟨_,rfl⟩
 have hn:=h.n
 have hi:=dt h.t
 have h5:kB (5,(i:Int)+1,true):=lK (by omega) (by omega) (by omega) (by omega)
 have hall:GoodS c (yJ c e s i q).1∧(yJ c e s i q).2.length≤12∧∀ a∈(yJ c e s i q).2,kB a:=by
  rw [← hq] at hd
  unfold yJ
  cases hg:q.2.2.1
  ·simp only [XV,WE]
   refine ⟨UP (nW h.gs (-1)) i 4 (by omega) (by omega),by have:=hd.an; simp only [Ws]; omega,fun a ha=>?_⟩
   rcases Wd.1 ha with rfl | ha
   ·exact h5
   ·exact hd.ak a ha
  ·simp only [We]
   have hl:=hd.left hg
   have hcan:CanRun c q.1 (rN q.2.2.2):=⟨yt hl.g,fun z hz=>by
    obtain ⟨n,rfl,fs',f',st',w',h1,h2⟩:=hl.run z hz
    exact ⟨n,rfl,fs',f',st',w',h1,h2⟩,hl.nd⟩
   obtain ⟨g1,g2,g3,g4⟩:=wO hc e.1 hcan
   refine ⟨zO g1,by have:=hd.an; have:=hl.two; simp only [Vs,Ws]; omega,fun a ha=>?_⟩
   rcases Wc.1 ha with ha | ha
   ·rcases Wd.1 ha with rfl | ha
    ·exact h5
    ·exact hd.ak a ha
   ·exact g4 a ha
 obtain ⟨b1,b2,b3⟩:=hall
 obtain ⟨c1,_⟩:=Ap (adz _) b3 b2
 refine ⟨_,_,ajJ hc e h q hq c1,ajR hc e h q hq _ (fun M hM=>(Ap hM b3 b2).2),b1,?_⟩
 have:=(Ap (adz _) b3 b2).2
 rw [Lu (by omega)] at this
 injection this with this
 rw [← this]
 exact aeM (Ey _) b2
theorem B2:cT lS:=⟨by simp [lS],fun t ht=>by simp [lS] at ht,by simp [lS],by simp [lS],fun q hq=>by simp [lS] at hq,by simp [lS],by simp [lS]⟩
theorem EP (c:CC) (e:bI) (s:aO) (k:Nat):(lG c e s k).2.1=(k:Int):=by
 unfold lG
 dsimp only
 repeat' split
 all_goals rfl
theorem Xu (hc:bj c) (e:bI)  (hs:GoodS c s)  (h1:jI c e s=some 0) (h2:fS c e s=some 0) (hg:GoOn c s) (hp : ¬ (s.2.2.2.2.2.2.2.2.1<0∧1<(fO c s).length)) (hj:0≤j∧j<((nu c e s).2.2.2.length:Int)) :
  ∃ i fs f st w x,Moves c e s j i fs f st w x:=by
 obtain ⟨k,w1,w2,w3⟩:=B6 hg
 obtain ⟨fs,f,st,w,ht,hr⟩:=Bp hg.ok w2 w3
 have hP:nu c e s=lG c e s k:=by
  unfold nu
  rw [if_neg hp,w1,VY]
 have htk:s.1[k]? = some (fs++[f],st,w,false):=by rw [fJ w2,ht]
 obtain ⟨k',pc,hA⟩:=iK (s:=iN s (-1)) (i:=k) htk hr
 have hF:=hc.2.2.1 k' pc hA.pc2 hA.pr
 rw [hA.x] at hF
 obtain ⟨⟨h0,_⟩,_,o1,o2,o3,o4,o5,o6,o7,o8,o9,o10,o11,o12⟩:=hF
 have hx:eA c (bL s k)=cH c f.1.toNat:=by rw [ht]; unfold eA; rw [ef]
 have hat:kG c (bL s k)=cH c f.1.toNat:=by
  unfold kG
  rw [if_neg (by rw [ht]; simp),hx]
 have hen:=w3
 unfold vZ at hen
 dsimp only at hen
 rw [hat,if_neg (by rw [ht]; simp)] at hen
 have hpt:nu c e s=lG c e s k:=hP
 rw [hP] at hj
 unfold lG at hj
 dsimp only at hj
 rw [hx] at hj
 have hn:=hg.n
 generalize cH c f.1.toNat=x at *
 refine ⟨k,fs,f,st,w,x,⟨hs,hn,h1,h2,⟨_,zy hc e [] hg,zx hc e [] hg,by rw [hpt]; exact EP c e s k,hj.1,?_⟩,htk,hr,⟨⟨k',pc,hA⟩,(nW hs (-1)).ok,by show s.1.length≤1048575; omega,acb hc (nW hs (-1)).ok,fun h20=>?_,fun h19 hcap=>?_⟩,fun h19 hcap=>?_⟩⟩
 ·rw [hpt]
  unfold lG
  dsimp only
  rw [hx]
  exact hj.2
 ·rw [if_neg (by omega),if_neg (by omega),if_pos h20] at hen
  exact Xg hen
 ·obtain ⟨p1,p2⟩:=o7 (.inl h19)
  have hc0:(c.2.2.2.2.1.getD x.2.1.toNat ([],0)).2=0:=by
   have:=(hc.2.1.2.2.2 x.2.1.toNat (by omega)).1
   omega
  rw [if_neg (by omega),if_pos h19,if_pos hc0] at hen
  have hrl:0<(dY c s x.2.1).length:=by simpa using hen
  refine ⟨hj.1,?_⟩
  have h2:=hj.2
  show j<((dY c s x.2.1).length:Int)
  rw [if_neg (by omega)] at h2
  by_cases h1r:1<(dY c s x.2.1).length
  ·rw [if_pos ⟨h19,hc0,h1r⟩] at h2
   simpa using h2
  ·rw [if_neg (fun h=>h1r h.2.2),if_neg (by omega),if_neg (by omega)] at h2
   simp only [Vp] at h2
   omega
 ·rw [if_neg (by omega),if_pos h19,if_neg (by omega)] at hen
  simpa using hen
theorem NO (hc:bj c) (e:bI)  (hs:GoodS c s) (j:Int) : ∃ t v y,gX c e s j=some (t,v,y)∧d6 c e s j=some (t,v,y)∧(y=0→GoodS c t)∧cT t∧v.length≤12:=by
 obtain ⟨v,v1,v2,v3⟩:=B9 hc e hs.ok hs.sm ⟨hs.lo,hs.hi⟩
 by_cases hv:v=0
 rotate_left
 ·refine ⟨lS,[],v,?_,?_,fun h=>absurd h hv,B2,by simp⟩
  ·unfold gX
   rw [v1]
   simp only [f7,ZJ]
   rw [nt hv]
   rfl
  ·unfold d6
   rw [v2]
   simp only [f7,ZJ]
   rw [nt hv]
   rfl
 subst hv
 obtain ⟨h1,hg,h3⟩:=v3 rfl
 by_cases hj:0≤j∧j<((nu c e s).2.2.2.length:Int)
 rotate_left
 ·refine ⟨lS,[],5,?_,?_,fun h=>(by cases h),B2,by simp⟩
  ·unfold gX
   rw [v1]
   simp only [f7,ZJ,Yy,no,rj s hs.sm,zy hc e [] hg]
   rw [mU,aw (by omega)]
   rfl
  ·unfold d6
   rw [v2]
   simp only [f7,ZJ,Yy,no,wg s hs.sm,zx hc e [] hg]
   rw [mU,aw (by omega)]
   rfl
 by_cases hp:s.2.2.2.2.2.2.2.2.1<0∧1<(fO c s).length
 ·have hP:nu c e s=(0,-1,-1,List.replicate (fO c s).length 1):=by unfold nu; rw [if_pos hp]
  rw [hP] at hj
  dsimp only at hj
  rw [Zi] at hj
  have hx:ac (fO c s) j=some ((fO c s).getD j.toNat 0):=aT 0 hj.1 hj.2
  have hgp:=nW hs ((fO c s).getD j.toNat 0)
  refine ⟨iN s ((fO c s).getD j.toNat 0),[],0,?_,?_,fun _=>hgp,hgp.sm,by simp⟩
  ·unfold gX
   rw [v1]
   simp only [f7,ZJ,Yy,no,rj s hs.sm,zy hc e [] hg,hP,Zi]
   rw [mU,aG (by omega),aw (show (-1:Int)<0 by omega)]
   simp only [no,f9,uA hc hs.ok,f7,ZJ,hx]
   rfl
  ·unfold d6
   rw [v2]
   simp only [f7,ZJ,Yy,no,wg s hs.sm,zx hc e [] hg,hP,Zi]
   rw [mU,aG (by omega),aw (show (-1:Int)<0 by omega)]
   simp only [no,f9,FJ hc hs.ok,f7,ZJ,hx]
   rfl
 ·obtain ⟨i,fs,f,st,w,x,hm⟩:=Xu hc e hs v1 v2 hg hp hj
  obtain ⟨t,z,t1,t2,t3,t4⟩:=aeX hc e hm
  exact ⟨t,z,0,t1,t2,fun _=>t3,t3.sm,t4⟩
theorem ajT (s:aO) (hs:cT s) (hi:i<s.1.length) (z:ld):Itr.it (iZ s ((i:Int),z)) (0,([]:List Fr),(s.1.getD i ([],[],0,false)).2)=some (s.1.getD i ([],[],0,false)):=by
 obtain ⟨h1,h2,h3⟩:=hs.2.1 _ (de ([],[],0,false) hi)
 have et:=aB (([],[],0,false):Th) hi
 generalize s.1.getD i ([],[],0,false)=t at *
 exact c9 (f:=iZ s ((i:Int),z)) (fun y=>t.1.length - y.1.toNat) (fun _=>t) (fun y=>∃ k:Nat,y=((k:Int),t.1.take k,t.2)∧k≤t.1.length)
  (fun y hy=>by
   obtain ⟨k,rfl,hk⟩:=hy
   unfold iZ
   rcases WG k t.1.length with hlt | hge
   ·right
    refine ⟨(((k+1:Nat):Int),t.1.take (k+1),t.2),?_,⟨k+1,rfl,by omega⟩,by dsimp only; omega,rfl⟩
    simp only [et,f7,ZJ,aw (show (k:Int)<(t.1.length:Int) by omega),f9,aB (0,[]) hlt,aW (n:=t.1.length) (by omega) hlt,eF (0,[]) hlt]
    rw [jv (aY (by simp only [V7,Vp]; omega) (by omega))]
    rfl
   ·left
    have:k=t.1.length:=by omega
    subst this
    simp [et]) (s:=(0,[],t.2)) ⟨0,rfl,by omega⟩ (by show t.1.length - (0:Int).toNat<_; omega)
theorem ajV (s:aO) (hs:cT s) (z:ld) (hz:z.1=[]):Itr.it (i6 s) (0,z)=some (s.1,z.2):=by
 have h1:=hs.1
 refine c9 (f:=i6 s) (fun y=>s.1.length - y.1.toNat) (fun _=>(s.1,z.2)) (fun y=>∃ i:Nat,y=((i:Int),s.1.take i,z.2)∧i≤s.1.length)
  (fun y hy=>by
   obtain ⟨i,rfl,hi⟩:=hy
   unfold i6
   rcases WG i s.1.length with hlt | hge
   ·right
    refine ⟨(((i+1:Nat):Int),s.1.take (i+1),z.2),?_,⟨i+1,rfl,by omega⟩,by dsimp only; omega,rfl⟩
    have e2:aJ (s.1.take i).length ([s.1.getD i ([],[],0,false)]:List Th).length 64=true:=aY (by simp only [V7,Vp]; omega) (by omega)
    have e3:=ajT s hs hlt (s.1.take i,z.2)
    simp only [aw (show (i:Int)<(s.1.length:Int) by omega),f9,aB ([],[],0,false) hlt,f7]
    refine (Xw (fun o:Option Th=>(o.bind fun s10=>af (aJ (s.1.take i).length ([s10]:List Th).length 64) (some (s.1.take i++([s10]:List Th),z.2))).bind fun s3=>(some (Sum.inl (ad ((i:Int)+1),s3)):Option (pZ⊕ld))) e3).trans ?_
    simp only [f7,ZJ,af,e2,f9,aW (n:=s.1.length) (by omega) hlt,eF ([],[],0,false) hlt]
    rfl
   ·left
    have:i=s.1.length:=by omega
    subst this
    simp) ⟨0,?_,by omega⟩ (by show s.1.length - (0:Int).toNat<_; omega)
 obtain ⟨z1,z2⟩:=z
 dsimp only at hz
 subst hz
 rfl
theorem Ur (s:aO) (hs:cT s):kw s=some s:=by
 unfold kw
 rw [wg s hs]
 simp only [f7,ZJ]
 rw [ajV s hs _ rfl]
 rfl
theorem agC (l:List bR) (h:l.length≤1000):jf l=some l:=by
 unfold jf
 rw [c9 (f:=i7 l) (fun y=>l.length - y.2.toNat) (fun _=>l) (fun y=>∃ i:Nat,y=(l.take i,(i:Int))∧i≤l.length)
  (fun y hy=>by
   obtain ⟨i,rfl,hi⟩:=hy
   unfold i7
   rcases WG i l.length with hlt | hge
   ·right
    refine ⟨(l.take (i+1),((i+1:Nat):Int)),?_,⟨i+1,rfl,by omega⟩,by dsimp only; omega,rfl⟩
    have e2:aJ (l.take i).length 1 24=true:=aY (by simp only [V7]; omega) (by omega)
    simp only [aw (show (i:Int)<(l.length:Int) by omega),f9,aB (0,0,false) hlt,f7,ZJ,af,Vp,e2,aW (n:=l.length) (by omega) hlt,eF (0,0,false) hlt]
    rfl
   ·left
    have:i=l.length:=by omega
    subst this
    simp) (s:=([],0)) ⟨0,rfl,by omega⟩ (by show l.length - (0:Int).toNat<_; omega)]
 rfl
theorem XO (l:List bR) (h:l.length≤1000):gC l l=some true:=by
 unfold gC
 rw [Yy]
 simp only [no]
 rcases cE (f:=eE l l) l.length (by omega) (fun _=>True) (fun _=>false)
  (fun i hi _=>by
   left
   refine ⟨trivial,?_⟩
   unfold eE
   simp only [aw (show (i:Int)<(l.length:Int) by omega),f9,aB (0,0,false) hi,f7,ZJ,V9,ada,WM,no,aW (n:=l.length) (by omega) hi])
  (fun _=>by unfold eE; rw [aG (by omega)]; rfl) with ⟨_,he⟩ | ⟨i,_,_,hP,_⟩
 ·rw [he]
  rfl
 ·exact absurd trivial hP
theorem P9 (p:Tf) (h:p.2.2.2.length≤1000):iX p p=some true:=by
 unfold iX
 simp only [V9,f9,od p.2.2.2 (by omega),f7,ZJ]
def oS (f i:Int) (s:aO):yI:=(f,i,s.1,s.2.1,s.2.2.1,s.2.2.2.1,s.2.2.2.2.1,s.2.2.2.2.2.1,s.2.2.2.2.2.2.1,s.2.2.2.2.2.2.2.1.1,s.2.2.2.2.2.2.2.1.2.1,s.2.2.2.2.2.2.2.1.2.2,s.2.2.2.2.2.2.2.2)
theorem UT (hc:bj c) (e:bI)  (hs:GoodS c s) (f i:Int) (l:List Int) (hl:l.length≤1000):Itr.it (dx c e (oS f i s) l) 0=some (.inl ()):=by
 rcases cE (f:=dx c e (oS f i s) l) l.length (by omega) (fun _=>True) (fun _=>.inr (.inr (.inr false)))
  (fun k hk _=>by
   left
   refine ⟨trivial,?_⟩
   obtain ⟨t,v,y,t1,t2,t3,t4,t5⟩:=NO hc e hs (l.getD k 0)
   have ho:=Ur s hs.sm
   have hm:=ZP t t4
   have hr:=T3 t t4
   have ha:=agC v (by omega)
   have hb:=XO v (by omega)
   obtain ⟨a1,a2,a3,a4,a5,a6,a7,⟨b1,b2,b3⟩,a9⟩:=s
   unfold dx oS
   simp only [aw (show (k:Int)<(l.length:Int) by omega),f9,fG,ho,aB 0 hk,f7,ZJ,t1,t2,Yy,Wn,hm,hr,WM,no,ha,hb,aW (n:=l.length) (by omega) hk])
  (fun _=>by unfold dx; rw [aG (by omega)]; rfl) with ⟨_,he⟩ | ⟨k,_,_,hP,_⟩
 ·exact he
 ·exact absurd trivial hP
theorem ZL (hc:bj c) (e:bI)  (hs:GoodS c s) (f i:Int) (x3:List Int) (h3 : ∀ x∈x3,rk x) (x4:Int) :
  ∃ t y,iO c (oS f i s) e x3 x4=some (.inl (y,(oS 0 0 t).2.2))∧(y=0→GoodS c t):=by
 obtain ⟨p,v,n1,n2,n3⟩:=SY hc e hs.ok hs.sm ⟨hs.lo,hs.hi⟩
 have hpt:=P9 p (by omega)
 obtain ⟨r,r1,r2,r3⟩:=at_ok h3 i (n:=if (1:Int) > (p.2.2.2.length:Int) then (1:Int) else (p.2.2.2.length:Int)) (by split <;> omega) (by split <;> omega)
 obtain ⟨t,v',y,t1,t2,t3,t4,t5⟩:=NO hc e hs r
 have ho:=Ur s hs.sm
 obtain ⟨l,hl1,hl2⟩ : ∃ l:List Int,(af (!((8:Int)==0)) (bif decide ((0:Int)<(Int.tmod i (8:Int))) then af (decide (0≤(1:Int)∧(1:Int)≤([r,x4,(p.2.2.2.length:Int),-1]:List Int).length)) (some (([r,x4,(p.2.2.2.length:Int),-1]:List Int).take (1:Int).toNat)) else some ([r,x4,(p.2.2.2.length:Int),-1]:List Int)):Option (List Int))=some l∧l.length≤1000:=by
  cases decide ((0:Int)<(Int.tmod i (8:Int)))
  ·exact ⟨_,rfl,by simp⟩
  ·exact ⟨_,rfl,by simp⟩
 have hloop:=UT hc e hs f i l hl2
 refine ⟨t,y,?_,t3⟩
 obtain ⟨a1,a2,a3,a4,a5,a6,a7,⟨b1,b2,b3⟩,a9⟩:=s
 unfold iO
 unfold oS at hloop ⊢
 dsimp only at hloop ⊢
 simp only [fG,om,ho,f7,ZJ,n1,n2,Yy,Wn,f9,hpt,WM,no,r1]
 refine (Xw (fun o:Option (List Int)=>o.bind _) hl1).trans ?_
 simp only [f7,ZJ]
 refine (Xw (fun o:Option (Unit⊕(pZ⊕(yI⊕(ld⊕Bool))))=>o.bind _) hloop).trans ?_
 simp only [f7,ZJ,t2]
theorem RA (hc:bj c) (e:bI) (l:List mq):GoodS c (Hk c e l):=by
 obtain ⟨r1,r2,r3⟩:=KD hc l
 have hg:GoodS c (pU c l):=⟨acZ hc l,r3,(by show (-1:Int)≤-1; omega),(by show (-1:Int)≤4; omega)⟩
 exact zO (sW hc e.1 hg r1).1
theorem Pu (x0 x1:List Int) (x2:Int) (x3:List Int) (x4:Int) (h0 : ∀ x∈x0,rk x) (h1 : ∀ x∈x1,rk x) (h2:rk x2) (h3 : ∀ x∈x3,rk x):jV x0 x1 x2 x3 x4=some true:=by
 unfold jV
 obtain ⟨c,hcc,hc1,hc2⟩:=Lz x0 h0
 obtain ⟨e,he⟩:=agL h2
 have hsc:=Rx hc1
 obtain ⟨cl,hcl,hcl2⟩:=W8 hsc h1
 obtain ⟨s,f,w1,w2,w3,w4⟩:=RV c hsc e cl (by omega)
 simp only [hcc,he,hcl,w2,f7,ZJ]
 obtain ⟨r,hr1,q,hr2⟩:=fw (f:=gJ x3 x4 c e) (fun y=>130 - y.2.1.toNat) (fun y=>∃ (g:Int) (n:Nat) (t:aO),y=oS g (n:Int) t∧n≤130∧(g=0→bj c∧GoodS c t)) (fun r=>∃ q,r = .inl q)
  (fun y hy=>by
   obtain ⟨g,n,t,rfl,hn,hg⟩:=hy
   unfold gJ
   by_cases hcond:n<130∧g=0
   ·obtain ⟨hlt,rfl⟩:=hcond
    right
    obtain ⟨hv,hgt⟩:=hg rfl
    obtain ⟨t',y',e1,e2⟩:=ZL hv e hgt 0 (n:Int) x3 h3 x4
    refine ⟨oS y' ((n+1:Nat):Int) t',?_,⟨y',n+1,t',rfl,by omega,fun h=>⟨hv,e2 h⟩⟩,by show 130 - ((n+1:Nat):Int).toNat<130 - ((n:Nat):Int).toNat; omega⟩
    have ed:((oS 0 (n:Int) t).2.1<(130:Int)):=by show (n:Int)<130; omega
    simp only [ed,YD,f9]
    rw [show ((oS 0 (n:Int) t).1==(0:Int))=true from rfl,f9]
    refine (Xw (fun o:Option (pZ⊕(yI⊕(ld⊕Bool)))=>o.bind _) e1).trans ?_
    simp only [f7,ZJ]
    rw [show ad ((oS 0 (n:Int) t).2.1+1)=((n+1:Nat):Int) by show ad ((n:Int)+1)=_; rw [aZ (by omega) (by omega)]; omega]
    rfl
   ·left
    refine ⟨.inl (oS g (n:Int) t).2.2,?_,_,rfl⟩
    by_cases hlt:n<130
    ·have ed:((oS g (n:Int) t).2.1<(130:Int)):=by show (n:Int)<130; omega
     have hz:((oS g (n:Int) t).1==(0:Int))=false:=by show (g==0)=false; simp only [WW]; exact fun h=>hcond ⟨hlt,h⟩
     simp only [ed,YD,f9,hz,no]
    ·have ed : ¬ ((oS g (n:Int) t).2.1<(130:Int)):=by show ¬ (n:Int)<130; omega
     simp only [ed,Yv,no])
  (s:=oS f 0 s) ⟨f,0,s,rfl,by omega,fun h=>⟨(w4 h).1,by rw [(w4 h).2.2.1]; exact RA (w4 h).1 e cl⟩⟩ (by show 130 - (0:Int).toNat<_; omega)
 subst hr2
 refine (Xw (fun o:Option (ld⊕Bool)=>o.bind _) hr1).trans ?_
 simp only [f7,ZJ,St]
end Go.Proofs.YtfhhiajfciblbaaGreatDoor
