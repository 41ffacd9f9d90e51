/- Laws for the row. No condition. -/
import Derived.Test.YtfhhiajfciblbaaGreatDoorLawG1
import Derived.Test.YtfhhiajfciblbaaGreatDoorExtT
import Derived.Test.YtfhhiajfciblbaaGreatDoorLawS8
import Derived.Test.YtfhhiajfciblbaaGreatDoorLawS7
import Derived.Laws.BitsAllLaws
namespace Go.Proofs.YtfhhiajfciblbaaGreatDoor
open Go.Sm
variable {s t:aF} {c:CC} {i k pc n:Nat} {f:Fr} {st L b:List Int} {fs:List Fr} {w j K A N o:Int} {e:ce} {m:List ((Int×Int×Bool)×Bool)} {α:Type}
abbrev A3:Type:=Int×Int×Bool
def lk(a:A3):Prop:=0<=a.1/\a.1<1099511627776/\0<=a.2.1/\a.2.1<1099511627776
def kW(a b:A3):Bool:=decide (a.1<b.1)||(a.1==b.1&&decide (a.2.1<b.2.1))
theorem api{a b:A3}(ha:lk a)(hb:lk b):∃n:Int,dV a b=some n/\decide (n<0)=kW a b:=by
 obtain⟨h1,h2,h3,h4⟩:=ha;obtain⟨g1,g2,g3,g4⟩:=hb;by_cases h:a.1=b.1
 ·have e:dV a b=some (ae (a.2.1-b.2.1)):=by
   unfold dV;grind
  grind[kW,aM]
 ·have e:dV a b=some (ae (a.1-b.1)):=by
   unfold dV;grind
  grind[kW,aM]
def lh(x:A3):List A3->List A3
 |[]=>[x]
 |y::r=>if kW x y then y::lh x r else x::y::r
theorem Gj(pre:List A3)(x:A3)(rest:List A3){i:Int}(h:i=(pre.length:Int)):ac (pre++x::rest) i=some x:=by subst h;unfold ac;simp
theorem aaP{d0:List A3}{pre rest:List A3}{x:A3}(hs:∀a∈pre++x::rest,lk a)(hn:(pre++x::rest).length=n)(h12:n<=12) :
  ∃r,Itr.it (dC (d0,0,(n:Int)) 0) ((pre.length:Int),pre++x::rest)=some r/\r=(lh x pre.reverse).reverse++rest:=by
 obtain⟨R,hR⟩:∃R,R=(lh x pre.reverse).reverse++rest:=⟨_,rfl⟩
 rw[<-hR];refine gz (λs=>s.1.toNat) (λs=>∃pre x rest,s=((pre.length:Int),pre++x::rest)/\R=(lh x pre.reverse).reverse++rest/\(∀a∈pre++x::rest,lk a)/\(pre++x::rest).length=n) (λr=>r=R) ?_ ⟨pre,x,rest,rfl,hR,hs,hn⟩ (by grind);rintro s ⟨pre,x,rest,rfl,hR,hs,hn⟩;rcases akw pre with rfl|⟨pre',y,rfl⟩
 ·left;refine⟨x::rest,rfl,?_⟩;rw[hR];rfl
 ·rw[akz]at *;have hlen:pre'.length+rest.length+2=n:=by grind
  have hj:(((pre'++[y]).length:Nat):Int)=(pre'.length:Int)+1:=by simp
  have hw:ae ((pre'.length:Int)+1-1)=(pre'.length:Int):=by rw[aM (by omega) (by omega)];omega
  have e0:ac ((pre'++[y])++x::rest) (0+((pre'.length:Int)+1))=some x:=Gj _ _ _ (by simp);have e1:ac ((pre'++[y])++x::rest) (0+(pre'.length:Int))=some y:=by grind[List.append_assoc,Gj]
  obtain⟨m,hm,hlt⟩:=api (hs x (by simp)) (hs y (by simp));have c1:decide ((0:Int)<(pre'.length:Int)+1)=true:=afz (by omega);have c2:decide ((0:Int)<=(pre'.length:Int)+1/\(pre'.length:Int)+1<(n:Int)-0)=true:=afz (by omega);have c3:decide ((0:Int)<=(pre'.length:Int)/\(pre'.length:Int)<(n:Int)-0)=true:=afz (by omega);rw[hj];have hR':R=(lh x (y::pre'.reverse)).reverse++rest:=by rw[hR];simp
  unfold dC;simp only[c1,c2,c3,hw,e0,e1,hm,hlt,af,f9,acd,Bool.or_true,f7,Qz2];cases hxy:kW x y
  ·left;grind[lh]
  ·right;have s1:((pre'++[y])++x::rest).set (0+((pre'.length:Int)+1)).toNat y=pre'++y::y::rest:=by
    grind
   have e2:ac (pre'++y::y::rest) (0+(pre'.length:Int))=some y:=Gj _ _ _ (by simp);have s2:(pre'++y::y::rest).set (0+(pre'.length:Int)).toNat x=pre'++x::y::rest:=by simp_all
   refine⟨((pre'.length:Int),pre'++x::y::rest),?_,⟨pre',x,y::rest,rfl,?_,?_,by simp;omega⟩,by simp⟩
   ·grind
   ·rw[hR',lh,if_pos hxy];simp
   grind
theorem tD(x:A3):∀l:List A3,(lh x l).Perm (x::l)
 |[]=>aiy _
 |y::r=>by
  unfold lh;split
  ·exact(List.Perm.cons y (tD x r)).trans (List.Perm.swap ..)
  grind
theorem G2{x y:A3}(h:kW x y=true):kW y x=false:=by unfold kW at h|-;grind
theorem Ep{x y z:A3}(h:kW x y=false)(k:kW y z=false):kW x z=false:=by unfold kW at h k|-;grind
theorem zF(x:A3):∀l:List A3,l.Pairwise (λa b=>kW a b=false)->(lh x l).Pairwise (λa b=>kW a b=false)
 |[],_=>by simp[lh]
 | y::r,h=>by
  obtain⟨h1,h2⟩:=acl.1 h;unfold lh;split
  ·rename_i hxy;refine acl.2 ⟨λz hz=>?_,zF x r h2⟩;rcases aaK.1 ((tD x r).mem_iff.1 hz)with rfl|hz
   ·exact G2 hxy
   grind
  ·rename_i hxy;have hxy:kW x y=false:=by grind
   refine acl.2 ⟨λz hz=>?_,h⟩;rcases aaK.1 hz with rfl|hz
   ·exact hxy
   ·exact Ep hxy (h1 z hz)
theorem aky{d:List A3}(hs:∀a∈d,lk a)(hn:d.length=n)(h12:n<=12) :
  ∃r,dn (d,0,(n:Int)) 0 n=some r/\r.Perm d/\r.reverse.Pairwise (λa b=>kW a b=false):=by
 unfold dn;refine gz (λs:Int×List A3=>(n+1-s.1.toNat)) (λs:Int×List A3=>s.2.Perm d/\(∃S rest:List A3,s.2=S++rest/\S.reverse.Pairwise (λa b=>kW a b=false)/\((s.1=(S.length:Int))\/(s.1=1/\n=0)))) (λr:List A3=>r.Perm d/\r.reverse.Pairwise (λa b=>kW a b=false)) ?_ ⟨aiy _,?_⟩ (by grind)
 ·rintro⟨i,data⟩ ⟨hp,S,rest,hd,hS,hi⟩;simp only at hp hd hi;subst hd;have hl:=hp.length_eq;simp only[aaL]at hl;unfold fS;cases rest with
  |nil=>
   grind
  |cons x rest=>
   right;simp only[acn]at hl;have hi':i=(S.length:Int):=by omega
   subst hi';obtain⟨r,hr,rfl⟩:=aaP (n:=n) (d0:=d) (pre:=S) (x:=x) (rest:=rest) (λa ha=>hs a (hp.mem_iff.1 ha)) (by grind) h12;refine⟨((S.length:Int)+1,(lh x S.reverse).reverse++rest),?_,⟨?_,(lh x S.reverse).reverse,rest,rfl,by simpa using zF x _ hS,.inl ?_⟩,?_⟩
   ·grind[decide,decide_eq_true,aM]
   ·grind[lh,trans,List.reverse_perm,tD]
   ·have:=(tD x S.reverse).length_eq;grind
   grind
 ·cases d with
  |nil=>exact⟨[],[],rfl,List.Pairwise.nil,.inr ⟨(by rfl),by grind⟩⟩
  |cons x r=>exact⟨[x],r,rfl,by simp,.inl (by rfl)⟩
theorem zP:∀{l1 l2:List A3},l1.Perm l2->l1.Pairwise (λa b=>kW b a=false)->l2.Pairwise (λa b=>kW b a=false)->(∀a∈l1,∀b∈l1,kW a b=false->kW b a=false->a=b)->l1=l2
 |[],l2,hp,_,_,_=>(List.Perm.nil_eq hp)
 |a::r1,[],hp,_,_,_=>by simp_all
 |a::r1,b::r2,hp,h1,h2,hd=>by
  obtain⟨p1,q1⟩:=acl.1 h1;obtain⟨p2,q2⟩:=acl.1 h2;have hab:a=b:=by have hb:b∈a::r1:=hp.mem_iff.2 (by simp);grind
  subst hab;rw[zP ((List.perm_cons a).1 hp) q1 q2 λx hx y hy=>hd x (aaw _ hx) y (aaw _ hy)]
theorem ae6:∀k:Fin 13,(qw (IntKind.u64.wrap ((k.val:Int)-0))).isSome=true:=by decide
theorem agc{d:List A3}(hs:∀a∈d,lk a)(h12:d.length<=12) :
  ∃r,cA (d,0,(d.length:Int))=some r/\r.Perm d/\r.reverse.Pairwise (λa b=>kW a b=false):=by
 obtain⟨r,hr,hp,hq⟩:=aky hs rfl h12;have hb:=ae6 ⟨d.length,by omega⟩;obtain⟨m,hm⟩:=afd.1 hb;refine⟨r,?_,hp,hq⟩;have hm':qw (IntKind.u64.wrap ((d.length:Int)-0))=some m:=hm;have hpdq:dR (d,0,(d.length:Int)) 0 ((d.length:Int)-0) m=some r:=by unfold dR;obtain⟨r',h1,rfl⟩:=gz (f:=ey (d,0,(d.length:Int))) (λ_=>0) (λs=>s=((0:Int),(d.length:Int)-0,m,true,true)) (λx=>x=r) (λs hs=>.inl (by grind[ey,decide,decide_eq_true,aM])) rfl (by decide);exact h1
 unfold cA;grind
theorem Lg(a b:A3):D4 a b = !(kW b a):=by unfold D4 kW;grind
theorem w9(x:A3):∀l:List A3,(vM x l).Perm (x::l)
 |[]=>aiy _
 |y::r=>by
  unfold vM;cases D4 x y
  ·exact(List.Perm.cons y (w9 x r)).trans (List.Perm.swap ..)
  grind
theorem vG:∀l:List A3,(BN l).Perm l
 |[]=>aiy _
 |x::r=>(w9 x _).trans (List.Perm.cons x (vG r))
theorem zC(x:A3):∀l:List A3,l.Pairwise (λa b=>kW b a=false)->(vM x l).Pairwise (λa b=>kW b a=false)
 |[],_=>by simp[vM]
 | y::r,h=>by
  obtain⟨h1,h2⟩:=acl.1 h;unfold vM;cases hxy:D4 x y
  ·rw[Lg]at hxy;refine acl.2 ⟨λz hz=>?_,zC x r h2⟩;rcases aaK.1 ((w9 x r).mem_iff.1 hz)with rfl|hz
   ·exact G2 (by grind)
   grind
  ·rw[Lg]at hxy;have hxy:kW y x=false:=by grind
   refine acl.2 ⟨λz hz=>?_,h⟩;rcases aaK.1 hz with rfl|hz
   ·exact hxy
   ·exact Ep (h1 z hz) hxy
theorem sH:∀l:List A3,(BN l).Pairwise (λa b=>kW b a=false)
 |[]=>List.Pairwise.nil
 |x::r=>zC x _ (sH r)
abbrev o0(p:A3×Bool):A3:=(p.1.1,p.1.2.1,p.2)
theorem AZ:∀{es:List (A3×Bool)},tR es=true->∀a∈es.map o0,lk a
 |[],_,a,h=>by cases h
 |p::r,ho,a,h=>by
  simp only[tR,aas,aeM]at ho;rcases aaK.1 h with rfl|h
  ·exact ho.1.1
  ·exact AZ ho.2 a h
theorem HT{x:A3}{l:List (A3×Bool)}(h:Fb x l=true):∀a∈l.map o0,¬(a.1=x.1/\a.2.1=x.2.1):=λa ha=>by obtain⟨p,hp,rfl⟩:=aaG.1 ha;have:=aaB.1 h p hp;grind
theorem CH:∀{es:List (A3×Bool)},tR es=true->∀a∈es.map o0,∀b∈es.map o0,a.1=b.1->a.2.1=b.2.1->a=b
 |[],_,a,h=>by cases h
 | p::r,ho,a,ha=>by
  intro b hb h1 h2;simp only[tR,aas,aeM]at ho;rcases aaK.1 ha with rfl|ha
  ·rcases aaK.1 hb with rfl|hb
   ·rfl
   ·exact absurd ⟨h1.symm,h2.symm⟩ (HT ho.1.2 b hb)
  ·rcases aaK.1 hb with rfl|hb
   ·exact absurd ⟨h1,h2⟩ (HT ho.1.2 a ha)
   ·exact CH ho.2 a ha b hb h1 h2
instance instSortLaw:SortLaw:=⟨λes d ho hp=>by
 unfold tC at ho
 obtain⟨h12,ho⟩:=Bool.and_eq_true_iff.1 ho
 have h12:=aaA h12
 have hl:d.length<=12:=by have:=hp.length_eq;simp at this;omega
 obtain⟨r,hr,hrp,hrs⟩:=agc (λa ha=>AZ ho a (hp.mem_iff.1 ha)) hl
 rw[hr]
 congr 1
 have hpp:r.Perm (es.map o0):=hrp.trans hp
 refine zP (hpp.trans (vG _).symm) (by simpa[List.pairwise_reverse]using hrs) (sH _) λa ha b hb h1 h2=>?_
 refine CH ho a (hpp.mem_iff.1 ha) b (hpp.mem_iff.1 hb) ?_ ?_
 ·unfold kW at h1 h2
  simp only[acV,agn,agh,aeQ]at h1 h2
  omega
 ·unfold kW at h1 h2
  simp only[acV,agn,agh,aeQ]at h1 h2
  omega⟩
set_option linter.unusedVariables false
set_option maxRecDepth 4000
def bc:List bW->Int->Int->Option Bool
 |[],_,_=>none
 |y::r,k,o=>if y.1=k/\y.2.1=o then some y.2.2 else bc r k o
def nq(a b:bW):Prop:=a.1<b.1\/(a.1=b.1/\a.2.1<b.2.1)
instance (a b:bW):Decidable (nq a b):=by unfold nq;infer_instance
def ro(l:List bW):Prop:=l.Pairwise nq
theorem Bt{l:List bW}{k:Int}(h:∀y∈l,¬(y.1=k/\y.2.1=o)):bc l k o=none:=by
 induction l with
 |nil=>rfl
 |cons y r ih=>
  unfold bc;grind
theorem wU{l:List bW}{k:Int}{b:Bool}(h:bc l k o=some b):(k,o,b)∈l:=by
 induction l with
 |nil=>cases h
 |cons y r ih=>
  unfold bc at h;grind
theorem GZ:∀{l1 l2:List bW},ro l1->ro l2->(∀k o,bc l1 k o=bc l2 k o)->l1=l2
 |[],[],_,_,_=>rfl
 |[],b::r,_,_,h=>by have:=h b.1 b.2.1;unfold bc at this;grind
 |a::r,[],_,_,h=>by have:=h a.1 a.2.1;unfold bc at this;grind
 | a::r1,b::r2,h1,h2,h=>by
  obtain⟨a1,s1⟩:=acl.1 h1;obtain⟨b1,s2⟩:=acl.1 h2;have ha:=h a.1 a.2.1;have hb:=h b.1 b.2.1;unfold bc at ha hb;rw[if_pos ⟨rfl,rfl⟩]at ha;rw[if_pos (show b.1=b.1/\b.2.1=b.2.1 from⟨rfl,rfl⟩)]at hb;have hk:a.1=b.1/\a.2.1=b.2.1:=by
   by_cases hab:b.1=a.1/\b.2.1=a.2.1
   ·grind
   ·exfalso;rw[if_neg hab]at ha;rw[if_neg (λhh=>hab ⟨hh.1.symm,hh.2.symm⟩)]at hb;have p:=b1 _ (wU ha.symm);have q:=a1 _ (wU hb);unfold nq at p q;grind
  have e:a=b:=by grind
  subst e;rw[GZ s1 s2 λk o=>by
   by_cases hq:a.1=k/\a.2.1=o
   ·rw[Bt (λy hy hz=>by have:=a1 y hy;unfold nq at this;omega),Bt (λy hy hz=>by have:=b1 y hy;unfold nq at this;omega)]
   ·have:=h k o;unfold bc at this;grind]
def vA(L:List bW)(k o:Int):Option Bool:=if L.any (λa=>decide (a.1=k/\a.2.1=o))=true then some (L.any λa=>decide (a.1=k/\a.2.1=o)&&a.2.2)else none
theorem ach{L M:List bW}(h:L.Perm M)(k o:Int):vA L k o=vA M k o:=by unfold vA;grind
theorem NB(L:List bW)(x:bW)(k o:Int):vA (L++[x]) k o=if x.1=k/\x.2.1=o then some ((vA L k o).getD false||x.2.2)else vA L k o:=by unfold vA;grind
def mR(x:bW):List bW->List bW
 |[]=>[x]
 |y::r=>if nq y x then y::mR x r else if nq x y then x::y::r else(y.1,y.2.1,y.2.2||x.2.2)::r
theorem N2{x z:bW}:∀{l:List bW},z∈mR x l->(z.1=x.1/\z.2.1=x.2.1)\/z∈l
 |[],h=>by rcases aaH.1 h with rfl;grind
 | y::r,h=>by
  unfold mR at h;split at h
  ·rcases aaK.1 h with rfl|h
   ·grind
   ·rcases N2 h with h|h
    ·exact .inl h
    grind
  ·split at h
   ·grind
   ·rename_i h1 h2;rcases aaK.1 h with rfl|h
    ·left;unfold nq at h1 h2;grind
    grind
theorem Ci(x:bW):∀{l:List bW},ro l->ro (mR x l)
 |[],_=>alO _ _
 | y::r,h=>by
  obtain⟨h1,h2⟩:=acl.1 h;unfold mR;split
  ·rename_i hyx;refine acl.2 ⟨λz hz=>?_,Ci x h2⟩;rcases N2 hz with hz|hz
   ·unfold nq at hyx|-;omega
   grind
  ·split
   ·rename_i hyx hxy;refine acl.2 ⟨λz hz=>?_,h⟩;rcases aaK.1 hz with rfl|hz
    ·exact hxy
    ·have:=h1 z hz;unfold nq at this hxy|-;omega
   ·exact acl.2 ⟨λz hz=>by have:=h1 z hz;unfold nq at this|-;exact this,h2⟩
theorem HJ(x:bW)(k o:Int):∀{l:List bW},ro l->bc (mR x l) k o=if x.1=k/\x.2.1=o then some ((bc l k o).getD false||x.2.2)else bc l k o
 |[],_=>by rfl
 | y::r,h=>by
  obtain⟨h1,h2⟩:=acl.1 h;unfold mR;split
  ·rename_i hyx;unfold bc;rw[HJ x k o h2];by_cases hq:x.1=k/\x.2.1=o
   ·rw[if_pos hq,if_pos hq,if_neg (by unfold nq at hyx;omega),if_neg (by unfold nq at hyx;omega)]
   grind
  ·split
   ·rename_i hyx hxy;conv=>lhs;unfold bc
    by_cases hq:x.1=k/\x.2.1=o
    ·rw[if_pos hq,if_pos hq,Bt (l:=y::r) λz hz hh=>by
      rcases aaK.1 hz with rfl|hz
      ·unfold nq at hxy;omega
      ·have:=h1 z hz;unfold nq at this hxy;omega]
     rfl
    grind
   ·rename_i hyx hxy;have he:y.1=x.1/\y.2.1=x.2.1:=by unfold nq at hyx hxy;omega
    unfold bc;grind
theorem LX:∀(L M:List bW) {l:List bW},ro l->(∀k o,bc l k o=vA M k o)->ro (L.foldl (λl x=>mR x l) l)/\∀k o,bc (L.foldl (λl x=>mR x l) l) k o=vA (M++L) k o
 |[],M,l,h1,h2=>by grind
 |x::L,M,l,h1,h2=>by have:=LX L (M++[x]) (l:=mR x l) (Ci x h1) (λk o=>by rw[HJ x k o h1,NB,h2]);grind
structure MapOk(m:List ((Int×Int×Bool)×Bool)):Prop where
 key:∀p∈m,p.1.2.2=false
 ne:m.Pairwise λp q=>¬(p.1.1=q.1.1/\p.1.2.1=q.1.2.1)
theorem Zn(x:bW)(q:Int×Int×Bool)(hq:q.2.2=false):ah.eqD (x.1,x.2.1,false) q=decide (q.1=x.1/\q.2.1=x.2.1):=by grind[TC.eqD]
theorem af7(h:∀p∈m,p.1.2.2=false)(x:bW):dF ah (.sc .bool) (x.1,x.2.1,false) m=bc (m.map o0) x.1 x.2.1:=by
 unfold dF;induction m with
 |nil=>rfl
 |cons p r ih=>
  grind[bc,List.mem_cons_self,List.mem_cons_of_mem,Zn]
theorem GC{x:bW}{b:Bool}{z:(Int×Int×Bool)×Bool}:∀{m:List ((Int×Int×Bool)×Bool)},z∈dl ah (.sc .bool) (x.1,x.2.1,false) b m->z=((x.1,x.2.1,false),b)\/z∈m
 |[],h=>.inl (aaH.1 h)
 | p::r,h=>by
  unfold dl at h;unfold yL at h;cases hq:ah.eqD (x.1,x.2.1,false) p.1
  ·rw[hq]at h;rcases aaK.1 h with h|h
   ·grind
   ·rcases GC h with h|h
    ·exact .inl h
    grind
  grind
theorem QM(x:bW)(b:Bool):∀{m:List ((Int×Int×Bool)×Bool)},MapOk m->MapOk (dl ah (.sc .bool) (x.1,x.2.1,false) b m)/\(∀k o,bc ((dl ah (.sc .bool) (x.1,x.2.1,false) b m).map o0) k o=if x.1=k/\x.2.1=o then some b else bc (m.map o0) k o)/\(dl ah (.sc .bool) (x.1,x.2.1,false) b m).length<=m.length+1
 |[],_=>⟨⟨λp hp=>by rcases aaH.1 hp with rfl;rfl,alO _ _⟩,λk o=>rfl,aaT _⟩
 | p::r,h=>by
  obtain⟨h1,h2⟩:=acl.1 h.ne;have hp:=h.key p (aaQ ..);have ih:=QM x b (m:=r) ⟨λq hq=>h.key q (aaw _ hq),h2⟩;have e:dl ah (.sc .bool) (x.1,x.2.1,false) b (p::r)=bif decide (p.1.1=x.1/\p.1.2.1=x.2.1)then((x.1,x.2.1,false),b)::r else p::dl ah (.sc .bool) (x.1,x.2.1,false) b r:=by rw[<-Zn x p.1 hp];rfl
  rw[e];by_cases hk:p.1.1=x.1/\p.1.2.1=x.2.1
  ·rw[afz hk];refine⟨⟨λq hq=>?_,acl.2 ⟨λq hq=>by grind,h2⟩⟩,λk o=>?_,by simp⟩
   ·rcases aaK.1 hq with rfl|hq
    ·rfl
    ·exact h.key q (aaw _ hq)
   grind[bc]
  ·rw[decide_eq_false hk];refine⟨⟨λq hq=>?_,acl.2 ⟨λq hq=>?_,ih.1.ne⟩⟩,λk o=>?_,by grind⟩
   ·rcases aaK.1 hq with rfl|hq
    ·exact hp
    ·exact ih.1.key q hq
   ·rcases GC hq with rfl|hq
    ·exact hk
    grind
   grind[bc,dl,bool]
theorem aen(x:bW)(h:MapOk m):MapOk (oa m x)/\(∀k o,bc ((oa m x).map o0) k o=if x.1=k/\x.2.1=o then some ((bc (m.map o0) k o).getD false||x.2.2)else bc (m.map o0) k o)/\(oa m x).length<=m.length+1:=by unfold oa;rw[af7 h.key x];grind[bc,QM]
theorem EK:∀(L M:List bW) {m:List ((Int×Int×Bool)×Bool)},MapOk m->m.length<=M.length->(∀k o,bc (m.map o0) k o=vA M k o)->MapOk (L.foldl oa m)/\(L.foldl oa m).length<=(M++L).length/\∀k o,bc ((L.foldl oa m).map o0) k o=vA (M++L) k o
 |[],M,m,h1,h3,h2=>by grind
 |x::L,M,m,h1,h3,h2=>by obtain⟨a,b,c⟩:=aen x h1;have:=EK L (M++[x]) (m:=oa m x) a (by grind) (λk o=>by rw[b k o,NB,h2]);grind
set_option linter.unusedSimpArgs false
def mW(x:bW):List bW->Nat
 |[]=>0
 |y::r=>if nq y x then mW x r+1 else 0
theorem O8(x:bW):∀l,mW x l<=l.length
 |[]=>aaT _
 |y::r=>by have:=O8 x r;unfold mW;grind
theorem Yz{x:bW}:∀{l:List bW} {a:Nat},a<mW x l->nq (l.getD a (0,0,false)) x
 |[],_,h=>by cases h
 | y::r,a,h=>by
  unfold mW at h;split at h
  ·cases a with
   |zero=>assumption
   |succ a=>exact Yz (l:=r) (a:=a) (by omega)
  ·cases h
theorem QF{x:bW}:∀{l:List bW},mW x l<l.length->¬nq (l.getD (mW x l) (0,0,false)) x
 |[],h=>by cases h
 |y::r,h=>by
  unfold mW at h|-;split
  ·rename_i hy;rw[if_pos hy]at h;exact QF (l:=r) (by grind)
  ·assumption
theorem X0(x:bW):∀(l:List bW),mR x l=if mW x l<l.length/\¬nq x (l.getD (mW x l) (0,0,false))then l.set (mW x l) ((l.getD (mW x l) (0,0,false)).1,(l.getD (mW x l) (0,0,false)).2.1,(l.getD (mW x l) (0,0,false)).2.2||x.2.2)else l.take (mW x l)++[x]++l.drop (mW x l)
 |[]=>rfl
 |y::r=>by
  unfold mR mW;by_cases hy:nq y x
  ·rw[if_pos hy,if_pos hy,X0 x r];grind
  grind
theorem At(a b:bW):jd a b=some (decide (nq a b)):=by unfold jd nq;grind
theorem acf{L bE:List bW}(hi:i<L.length)(ho:bE.length<=1000):Itr.it (fj L (bE,(i:Int))) 0=some ((mW (L.getD i (0,0,false)) bE:Nat):Int):=
 eC (f:=fj L (bE,(i:Int))) (λy=>bE.length-y.toNat) (λ_=>((mW (L.getD i (0,0,false)) bE:Nat):Int)) (λy=>∃a:Nat,y=(a:Int)/\a<=mW (L.getD i (0,0,false)) bE)
  (λy hy=>by
   obtain⟨a,rfl,ha⟩:=hy;have hle:=O8 (L.getD i (0,0,false)) bE;have ex:ac L (i:Int)=some (L.getD i (0,0,false)):=aO _ hi;rcases abL a (mW (L.getD i (0,0,false)) bE)with hlt|hge
   ·right;refine⟨((a+1:Nat):Int),?_,⟨a+1,rfl,by omega⟩,by omega,rfl⟩;unfold fj;have eo:ac bE (a:Int)=some (bE.getD a (0,0,false)):=aO _ (by omega);grind[az,At,Yz,aM]
   ·left;have:a=mW (L.getD i (0,0,false)) bE:=by omega
    subst this;unfold fj;by_cases hl:mW (L.getD i (0,0,false)) bE<bE.length
    ·have eo:ac bE ((mW (L.getD i (0,0,false)) bE:Nat):Int)=some (bE.getD (mW (L.getD i (0,0,false)) bE) (0,0,false)):=aO _ hl;grind[mW,bE,az,At,bN,QF]
    grind)
  (s:=0) ⟨0,rfl,by omega⟩ (by grind)
theorem apG{L bE:List bW}(hi:i<L.length)(ho:bE.length<=1000):mq L (bE,(i:Int))=some (mR (L.getD i (0,0,false)) bE):=by
 unfold mq;have ex:ac L (i:Int)=some (L.getD i (0,0,false)):=aO _ hi;rw[acf hi ho,X0];generalize L.getD i (0,0,false)=x at *;have hle:=O8 x bE;generalize mW x bE=n at *;simp only[f7,Qz2];have rest:∀q:Bool,q=false->(bif q then((ac bE (n:Int)).bind λ_=>(ac bE (n:Int)).bind λv17=>(bif !v17.2.2 then ac L (i:Int)else some ((0:Int),(0:Int),false)).bind λ_=>(bif !v17.2.2 then ac L (i:Int)else some ((0:Int),(0:Int),false)).bind λv19=>(ac bE (n:Int)).bind λ_=>(ac bE (n:Int)).bind λv21=>some (bE.set (n:Int).toNat (v21.1,(v21.2.1,bif v17.2.2 then true else v19.2.2))))
   else af (decide (0<=(n:Int)/\(n:Int)<=bE.length)) (af (aH ([]:List bW).length (bE.take (n:Int).toNat).length 24) ((ac L (i:Int)).bind λ_=>(ac L (i:Int)).bind λv23=>af (aH (([]:List bW)++(bE.take (n:Int).toNat)).length ([v23]:List bW).length 24) (af (decide (0<=(n:Int)/\(n:Int)<=(bE.length:Int)/\(bE.length:Int)<=bE.length)) (af (aH ((([]:List bW)++(bE.take (n:Int).toNat))++([v23]:List bW)).length ((bE.take (bE.length:Int).toNat).drop (n:Int).toNat).length 24) (some (((([]:List bW)++(bE.take (n:Int).toNat))++([v23]:List bW))++((bE.take (bE.length:Int).toNat).drop (n:Int).toNat))))))))=some (bE.take n++[x]++bE.drop n):=by
  rintro _ rfl;have hlen:(bE.take n).length=n:=by grind
  have hdr:(bE.drop n).length=bE.length-n:=af3;have a1:aH 0 n 24=true:=aT (by omega) (by omega);have a2:aH n 1 24=true:=aT (by omega) (by omega);have a3:aH (n+1) (bE.length-n) 24=true:=aT (by omega) (by omega);grind[af]
 by_cases hl:n<bE.length
 ·have eo:ac bE (n:Int)=some (bE.getD n (0,0,false)):=aO _ hl;rw[az (show(n:Int)<(bE.length:Int)by omega)];simp only[f9,ex,eo,f7,Qz2,At];by_cases hx:nq x (bE.getD n (0,0,false))
  ·grind
  ·rw[if_pos ⟨hl,hx⟩,bN hx];simp only[abR,f9,aaR];generalize bE.getD n (0,0,false)=y;grind
 grind
theorem Sh(x:bW):∀l:List bW,(mR x l).length<=l.length+1
 |[]=>aaT _
 |y::r=>by have:=Sh x r;unfold mR;grind
def qA(L:List bW):List bW:=L.foldl (λl x=>mR x l) []
theorem T5(L:List bW)(x:bW):qA (L++[x])=mR x (qA L):=by unfold qA;grind
theorem Pu:∀(L l:List bW),(L.foldl (λl x=>mR x l) l).length<=l.length+L.length
 |[],l=>aaT _
 |x::L,l=>by have:=Pu L (mR x l);have:=Sh x l;grind
theorem HE(L:List bW):(qA L).length<=L.length:=by have:=Pu L [];simpa[qA]using this
theorem Nc{L:List bW}(hn:L.length<=1000):fe L=some (qA L):=by
 unfold fe;rw[eC (f:=gY L) (λy=>L.length-y.2.toNat) (λ_=>qA L) (λy=>∃i:Nat,y=(qA (L.take i),(i:Int))/\i<=L.length)
  (λy hy=>by
   obtain⟨i,rfl,hi⟩:=hy;rcases abL i L.length with hlt|hge
   ·right;refine⟨(qA (L.take (i+1)),((i+1:Nat):Int)),?_,⟨i+1,rfl,by omega⟩,by grind,rfl⟩;have hl:=HE (L.take i);rw[adx]at hl;grind[gY,qA,az,apG,jh,T5,aM]
   grind[gY]) (s:=([],0)) ⟨0,rfl,by omega⟩ (by grind)]
 rfl
theorem DS{k o:Int}{b:Bool}:∀{l:List bW},l.Pairwise (λp q=>¬(p.1=q.1/\p.2.1=q.2.1))->(k,o,b)∈l->bc l k o=some b
 |[],_,h=>by cases h
 |y::r,hp,h=>by
  obtain⟨h1,h2⟩:=acl.1 hp;unfold bc;rcases aaK.1 h with rfl|h
  ·grind
  ·rw[if_neg (h1 _ h)];exact DS h2 h
theorem HS{l1 l2:List bW}(h:l1.Perm l2)(hp:l2.Pairwise (λp q=>¬(p.1=q.1/\p.2.1=q.2.1))):l1.Pairwise (λp q=>¬(p.1=q.1/\p.2.1=q.2.1)):=
 (h.pairwise_iff (λ{a b} hab hh=>hab ⟨hh.1.symm,hh.2.symm⟩)).2 hp
theorem aak{l1 l2:List bW}(h:l1.Perm l2)(hp:l2.Pairwise (λp q=>¬(p.1=q.1/\p.2.1=q.2.1)))(k o:Int):bc l1 k o=bc l2 k o:=by
 have hp1:=HS h hp;cases h1:bc l1 k o with
 |some b=>exact(DS hp (h.mem_iff.1 (wU h1))).symm
 | none=>
  cases h2:bc l2 k o with
  |none=>rfl
  |some b=>
   rw[DS hp1 (h.mem_iff.2 (wU h2))]at h1;cases h1
theorem Yr(h:MapOk m):ro (vr m)/\∀k o,bc (vr m) k o=bc (m.map o0) k o:=by
 have hd:(m.map o0).Pairwise (λp q=>¬(p.1=q.1/\p.2.1=q.2.1)):=by rw[List.pairwise_map];exact h.ne
 have hp:=vG (m.map o0);have hs:=sH (m.map o0);refine⟨?_,aak hp hd⟩;refine(hs.and (HS hp hd)).imp λ{a b} hab=>?_;obtain⟨h1,h2⟩:=hab;unfold kW at h1;simp only[acV,agh,agn,aeQ]at h1;unfold nq;omega
theorem Hq(P:Int->Int->Prop):∀(L:List bW) {m:List ((Int×Int×Bool)×Bool)},(∀p∈m,P p.1.1 p.1.2.1)->(∀a∈L,P a.1 a.2.1)->∀p∈L.foldl oa m,P p.1.1 p.1.2.1
 |[],m,h1,_=>h1
 | x::L,m,h1,h2=>Hq P L (m:=oa m x) (λp hp=>by
   rcases GC hp with rfl|hp
   ·grind
   grind) λa ha=>h2 a (aaw _ ha)
theorem HK:∀{m:List ((Int×Int×Bool)×Bool)},MapOk m->(∀p∈m,0<=p.1.1/\p.1.1<1099511627776/\0<=p.1.2.1/\p.1.2.1<1099511627776)->tR m=true
 |[],_,_=>rfl
 |p::r,h,hk=>by
  obtain⟨h1,h2⟩:=acl.1 h.ne;unfold tR;rw[afz (hk p (aaQ ..)),HK ⟨λq hq=>h.key q (aaw _ hq),h2⟩ λq hq=>hk q (aaw _ hq)];have:Fb p.1 r=true:=by unfold Fb;grind
  grind
theorem N1{L M:List bW}(h:L.Perm M)(hk:∀a∈L,lk a)(hn:L.length<=12):tC (L.foldl oa [])=true/\fe M=some (vr (L.foldl oa [])):=by
 obtain⟨m1,m2,m3⟩:=EK L [] (m:=[]) ⟨λp hp=>(by cases hp),List.Pairwise.nil⟩ (aaT _) (λk o=>rfl);obtain⟨a1,a2⟩:=Yr m1;obtain⟨i1,i2⟩:=LX M [] (l:=[]) List.Pairwise.nil (λk o=>rfl);have hl:=h.length_eq;refine⟨?_,?_⟩
 ·unfold tC;rw[HK m1 (Hq (λa b=>0<=a/\a<1099511627776/\0<=b/\b<1099511627776) L (λp hp=>by cases hp) hk),akW];rw[acG]at m2;exact abu (by omega)
 ·rw[Nc (by omega)];congr 1;refine GZ i1 a1 λk o=>?_;rw[a2,m3];show bc (M.foldl (λl x=>mR x l) []) k o=_;rw[i2];exact(ach h k o).symm
structure GoodS(c:CC)(s:aF):Prop where
 ok:StOk c s
 sm:dN s
 lo : -1<=bO s
 hi:bO s<=4
theorem aiT(hc:bi c)(hs:StOk c s):∀l∈s.2.2.1,l.length<=1048575:=by intro l hl;obtain⟨j,hj,rfl⟩:=ahT hl;have h1:=hs.cap j (by rw[<-hs.fit.qs];exact hj);rw[abq,abB hj,afy]at h1;have h2:=hc.2.1.2.2.2;have:=(h2 j (by rw[<-hs.fit.qs];exact hj)).2;omega
theorem vq(hc:bi c){q:aF}(hs:GoodS c s)(hi:i<s.1.length)(h1:q.1=s.1.set i (fs++[f],st,w,false))(hr:Run1 c fs f st)
  (h2:q.2.1.length=s.2.1.length) (h3:q.2.2.1.length=s.2.2.1.length) (h4:q.2.2.2.1.length=s.2.2.2.1.length) (h5:q.2.2.2.2.1.length=s.2.2.2.2.1.length) (h6:bO q=bO s)
  (hcap:∀j,j<c.2.2.2.2.1.length->((q.2.2.1.getD j []).length:Int)<=(c.2.2.2.2.1.getD j ([],0)).2):GoodS c q/\tB c q i:=by
 obtain⟨hs,hsm,o1,o2⟩:=hs;have hq:StOk c q:=⟨by rw[h1];simpa using hs.n,λt ht=>by
  rw[h1]at ht;rcases aci ht with ht|rfl
  ·exact hs.th t ht
  ·exact .inr ⟨rfl,fs,f,rfl,hr⟩,⟨by rw[h2];exact hs.fit.1,by rw[h3];exact hs.fit.2,by rw[h4];exact hs.fit.3,by rw[h5];exact hs.fit.4⟩,hcap⟩
 refine⟨⟨hq,?_,by grind,by grind⟩,fs,f,st,w,by grind,hr⟩;obtain⟨h1',h2',h3',h4',h5',h6',h7'⟩:=hsm;refine⟨by grind,λt ht=>?_,by grind,by grind,λl hl=>by have:=aiT hc hq l hl;omega,by grind,by grind⟩;rw[h1]at ht;rcases aci ht with ht|rfl
 ·exact h2' t ht
 ·have:=hr.n;have:=hr.m;exact⟨by grind,by grind,λg hg=>by have:=yj hc (hr.fr g hg);omega⟩
theorem agw(q:List (List Int))(a j:Nat):((q.set a ((q.getD a []).drop 1)).getD j []).length<=(q.getD j []).length:=by grind
structure EffOk(f:Fr)(x:ce)(r:yS)(q:List bW×Bool×List Int×List Int×yS):Prop where
 lo:q.2.2.1.length=f.2.length
 st:q.2.2.2.1.length<=16
 v:q.2.2.2.2.1.length=r.1.length
 qn:q.2.2.2.2.2.1.length=r.2.1.length
 qj:∀j,(q.2.2.2.2.2.1.getD j []).length<=(r.2.1.getD j []).length
 ow:q.2.2.2.2.2.2.1.length=r.2.2.1.length
 fi:q.2.2.2.2.2.2.2.1.length=r.2.2.2.1.length
 bE:q.2.2.2.2.2.2.2.2.2.2.2.2.1=r.2.2.2.2.2.2.2.2.1
 an:q.1.length<=1
 ak:∀a∈q.1,0<=a.1/\a.1<5/\(a.2.1=x.2.1/\(x.1≠23/\x.1≠24/\x.1≠25)\/a.2.1=0)
theorem akl{x:ce}{k:Int}{r:yS}(hop:jl x.1)(hm:st.length<=16):EffOk f x r (fF i f st x k r):=by
 obtain⟨op,a,b⟩:=x;have ht:(st.take (st.length-1)).length<=16:=by grind
 unfold fF;dsimp only;rcases hop with h|h|h|h|h|h|h|h|h|h
 ·dsimp only at h;subst h;simp only[ace];split
  ·exact⟨rfl,hm,rfl,rfl,λj=>aaT _,rfl,rfl,rfl,aaT _,λz hz=>by grind⟩
  ·exact⟨rfl,by grind,rfl,rfl,λj=>aaT _,rfl,rfl,rfl,aaT _,λz hz=>by grind⟩
 ·dsimp only at h;subst h;simp only[Int.reduceEq,aca,ace];split
  ·exact⟨rfl,hm,rfl,rfl,λj=>aaT _,rfl,rfl,rfl,aaT _,λz hz=>by grind⟩
  ·exact⟨rfl,ht,acQ,rfl,λj=>aaT _,rfl,rfl,rfl,aaT _,λz hz=>by grind⟩
 ·dsimp only at h;subst h;simp only[Int.reduceEq,aca,ace];exact⟨acQ,hm,rfl,acQ,λj=>agw _ _ _,rfl,rfl,rfl,aaT _,λz hz=>by grind⟩
 ·dsimp only at h;subst h;simp only[Int.reduceEq,aca,ace];exact⟨rfl,hm,rfl,rfl,λj=>aaT _,acQ,rfl,rfl,aaT _,λz hz=>by grind⟩
 ·dsimp only at h;subst h;simp only[Int.reduceEq,aca,ace];exact⟨rfl,hm,rfl,rfl,λj=>aaT _,acQ,rfl,rfl,aaT _,λz hz=>by grind⟩
 ·dsimp only at h;subst h;simp only[Int.reduceEq,aca,ace];exact⟨acQ,hm,rfl,rfl,λj=>aaT _,rfl,rfl,rfl,afX _,λz hz=>by cases hz⟩
 ·dsimp only at h;subst h;simp only[Int.reduceEq,aca,ace];exact⟨acQ,hm,rfl,rfl,λj=>aaT _,rfl,rfl,rfl,aaT _,λz hz=>by grind⟩
 ·dsimp only at h;subst h;simp only[Int.reduceEq,aca,ace];exact⟨rfl,hm,rfl,rfl,λj=>aaT _,rfl,rfl,rfl,aaT _,λz hz=>by grind⟩
 ·dsimp only at h;subst h;simp only[Int.reduceEq,aca,ace];split
  ·exact⟨rfl,hm,rfl,rfl,λj=>aaT _,rfl,rfl,rfl,aaT _,λz hz=>by grind⟩
  ·split
   ·exact⟨rfl,ht,rfl,rfl,λj=>aaT _,rfl,acQ,rfl,aaT _,λz hz=>by grind⟩
   ·exact⟨rfl,ht,rfl,rfl,λj=>aaT _,rfl,rfl,rfl,aaT _,λz hz=>by grind⟩
 ·dsimp only at h;subst h;simp only[Int.reduceEq,aca,ace];exact⟨acQ,hm,rfl,rfl,λj=>aaT _,rfl,rfl,rfl,aaT _,λz hz=>by grind⟩
structure Left(c:CC)(s:aF)(q:xr):Prop where
 g:GoodS c q.2.2.2
 n:q.2.2.2.1.length<=s.1.length+1
 run:∀z∈q.1,∃n:Nat,z=(n:Int)/\tB c q.2.2.2 n
 nd:q.1.Nodup
 two:q.1.length<=2
structure Does(c:CC)(s:aF)(q:xr):Prop where
 an:q.2.1.length<=2
 ak:∀a∈q.2.1,lk a
 left:q.2.2.1=true->Left c s q
theorem zx(hc:bi c){x:ce}(h:AtP c s i fs f st w x k pc)(hr:Run1 c fs f st)(h13:x.1≠13)(h28:x.1≠28){l st':List Int}(hl:l.length=f.2.length)(hm:st'.length<=16):Run1 c fs (ae (f.1+1),l) st' :=
 ⟨hr.n,hm,λg hg=>by
  rcases aa1.1 hg with hg|hg
  ·exact hr.fr g (aa1.2 (.inl hg))
  ·rcases aaH.1 hg with rfl;rw[h.pc1];exact QZ hc h.pc2 h.pr (by rw[h.x];exact h13) (by rw[h.x];exact h28) (by rw[hl];exact h.lo)⟩
theorem mA{k:Int}{b:Bool}(h1:0<=k)(h2:k<10)(h3:0<=o)(h4:o<=1048577):lk (k,o,b):=⟨h1,(by grind),h3,(by grind)⟩
theorem acm{op:Int}(h:jl op):op≠13/\op≠28:=by unfold jl at h;omega
theorem Wg(hc:bi c)(hs:GoodS c s){x:ce}(hA:AtP c s i fs f st w x k pc)(hr:Run1 c fs f st)(hp:jl x.1):Does c s (pn s i fs f st w x j):=by
 have hE:=akl (i:=i) (f:=f) (k:=j) (r:=s.2) hp hr.m;unfold pn sS;dsimp only;generalize fF i f st x j s.2=q at *;obtain⟨e1,e2,e3,e4,e5,e6,e7,e8,e9,e10⟩:=hE;obtain⟨q1,q2,q3,q4,q5⟩:=q;dsimp only at *;have hF:=hc.2.2.1 k pc hA.pc2 hA.pr;rw[hA.x]at hF;obtain⟨⟨h0,_⟩,_,o1,o2,o3,o4,o5,o6,o7,o8,o9,o10,o11,o12⟩:=hF;obtain⟨z1,z2,z3,z4,z5,z6,z7⟩:=hc.2.2.2;refine⟨(by grind),λa ha=>?_,λhg=>?_⟩
 ·obtain⟨a1,a2,a3⟩:=e10 a ha;have hb:0<=a.2.1/\a.2.1<=1048577:=by
   rcases a3 with⟨a3,n23,n24,n25⟩|a3
   ·rw[a3];rcases hp with h|h|h|h|h|h|h|h|h|h
    ·obtain⟨g1,g2⟩:=o6 (.inl h);omega
    ·obtain⟨g1,g2⟩:=o6 (.inr h);omega
    ·obtain⟨g1,g2⟩:=o7 (.inr h);omega
    ·obtain⟨g1,g2⟩:=o8 (.inl h);omega
    ·obtain⟨g1,g2⟩:=o8 (.inr h);omega
    ·grind
    ·grind
    ·grind
    ·obtain⟨g1,g2⟩:=o11 (.inl h);omega
    ·obtain⟨g1,g2⟩:=o11 (.inr h);omega
   grind
  exact⟨a1,(by omega),hb.1,(by omega)⟩
 ·have hi:=fc hA.t;have h13:=acm hp;have hn:=zx hc hA hr h13.1 h13.2 e1 e2;rw[if_pos hg];obtain⟨g1,g2⟩:=vq hc hs (q:=(s.1.set i (fs++[(ae (f.1+1),q3)],q4,w,false),q5)) hi rfl hn e3 e4 e6 e7 e8 (λy hy=>by
   have:=e5 y;have h2:=hs.ok.cap y hy;grind)
  have hp:bA (s.1.set i (fs++[(f.1,q3)],q4,w,false),q5) i (fs++[(ae (f.1+1),q3)],q4,w,false)=(s.1.set i (fs++[(ae (f.1+1),q3)],q4,w,false),q5):=by unfold bA;simp_all
  rw[hp];exact⟨g1,by grind,λz hz=>by grind,by simp,by simp⟩
theorem alm(hc:bi c)(hs:GoodS c s)(hn65:s.1.length<=70){x:ce}(hA:AtP c s i fs f st w x k pc)(hr:Run1 c fs f st)(h18:x.1=18):Does c s (uE c s i fs f st w x.2.1):=by
 have hF:=hc.2.2.1 k pc hA.pc2 hA.pr;rw[hA.x]at hF;obtain⟨⟨h0,_⟩,_,o1,o2,o3,o4,o5,o6,o7,o8,o9,o10,o11,o12⟩:=hF;obtain⟨p1,p2⟩:=o3 (.inr h18);have hi:=fc hA.t;unfold uE;by_cases h5:5<=dP s s.1.length
 ·rw[if_pos h5];exact⟨by simp,λa ha=>by grind[List.mem_singleton,mA],λh=>by cases h⟩
 rw[if_neg h5];refine⟨by simp,λa ha=>?_,λ_=>?_⟩
 ·rcases aaK.1 ha with rfl|ha
  ·exact mA (by omega) (by omega) (by omega) (by omega)
  grind[List.mem_singleton,mA]
 ·have hn:=zx hc hA hr (by omega) (by omega) (l:=f.2) rfl hr.m;obtain⟨g1,fs',f',st',w',g2,g3⟩:=vq hc hs (q:=oK s i fs f st w) hi rfl hn rfl rfl rfl rfl rfl hs.ok.cap;have hl:(oK s i fs f st w).1.length=s.1.length:=cT;have hfc:=Gm hc (a:=x.2.1.toNat) (by omega);have hnew:Run1 c [] (c.2.1.getD x.2.1.toNat 0,List.replicate (c.2.2.1.getD x.2.1.toNat 0).toNat 0) []:=⟨by simp,by simp,λg hg=>by grind⟩
  have hss:GoodS c ((oK s i fs f st w).1++[uw c x.2.1],(oK s i fs f st w).2):=by
   obtain⟨⟨q1,q2,q3,q4⟩,⟨u1,u2,u3⟩,u4,u5⟩:=g1;refine⟨⟨by grind,λt ht=>?_,⟨q3.1,q3.2,q3.3,q3.4⟩,q4⟩,⟨by grind,λt ht=>?_,u3⟩,u4,u5⟩
   ·rcases aa1.1 ht with ht|ht
    ·exact q2 t ht
    ·rcases aaH.1 ht with rfl;exact .inr ⟨rfl,[],_,rfl,hnew⟩
   ·rcases aa1.1 ht with ht|ht
    ·exact u2 t ht
    ·rcases aaH.1 ht with rfl;refine⟨by simp[uw],by simp[uw],λg hg=>?_⟩;rcases aaH.1 hg with rfl;have:=yj hc hfc;grind
  refine⟨hss,by grind,λz hz=>?_,?_,by simp⟩
  ·rcases aaK.1 hz with rfl|hz
   ·refine⟨s.1.length,rfl,[],_,[],0,?_,hnew⟩;show((oK s i fs f st w).1++[uw c x.2.1])[s.1.length]?=_;rw[<-hl];simp[uw]
   ·rcases aaH.1 hz with rfl;refine⟨i,rfl,fs',f',st',w',?_,g3⟩;grind
  grind
theorem Yu(hc:bi c)(hs:GoodS c s){x:ce}(hA:AtP c s i fs f st w x k pc)(hr:Run1 c fs f st)(h19:x.1=19)
  (hj:¬0<(c.2.2.2.2.1.getD x.2.1.toNat ([],0)).2->0<=j/\j<(gt c s x.2.1).length) (hq:0<(c.2.2.2.2.1.getD x.2.1.toNat ([],0)).2->((s.2.2.1.getD x.2.1.toNat []).length:Int)<(c.2.2.2.2.1.getD x.2.1.toNat ([],0)).2):Does c s (mJ c s i fs f st w x.2.1 j):=by
 have hF:=hc.2.2.1 k pc hA.pc2 hA.pr;rw[hA.x]at hF;obtain⟨⟨h0,_⟩,_,o1,o2,o3,o4,o5,o6,o7,o8,o9,o10,o11,o12⟩:=hF;obtain⟨p1,p2⟩:=o7 (.inl h19);obtain⟨z1,z2,z3,z4,z5,z6,z7⟩:=hc.2.2.2;have hi:=fc hA.t;have h1a:lk (1,x.2.1,true):=mA (by omega) (by omega) (by omega) (by omega);unfold mJ;by_cases hv:st.length=0
 ·rw[if_pos hv];exact⟨by simp,λa ha=>by grind,λh=>by cases h⟩
 rw[if_neg hv];have hn:=zx hc hA hr (by omega) (by omega) (l:=f.2) (st':=st.take (st.length-1)) rfl (by rw[adx];have:=hr.m;omega);dsimp only;by_cases hcap:0<(c.2.2.2.2.1.getD x.2.1.toNat ([],0)).2
 ·rw[if_pos hcap];refine⟨by simp,λa ha=>by grind,λ_=>?_⟩;have hqq:=hq hcap;obtain⟨g1,g2⟩:=vq hc hs (q:=((bA s i (fs++[(ae (f.1+1),f.2)],st.take (st.length-1),w,false)).1,s.2.1,s.2.2.1.set x.2.1.toNat (s.2.2.1.getD x.2.1.toNat []++[st.getD (st.length-1) 0]),s.2.2.2)) hi rfl hn rfl acQ rfl rfl rfl (λy hy=>by
   have h2:=hs.ok.cap y hy;simp only[abq]at *;by_cases he:x.2.1.toNat=y
   ·subst he;rw[adu (by have:=hs.ok.fit.qs;omega)];grind
   grind)
  exact⟨g1,by show(bA s i _).1.length<=_;rw[cT];omega,λz hz=>by rcases aaH.1 hz with rfl;exact⟨i,rfl,g2⟩,by simp,by simp⟩
 ·rw[if_neg hcap];obtain⟨q,gs,g,tt,tw,y,w1,w2,w3⟩:=C6 hc hs.ok hA h19 (hj hcap);have hle:=hs.ok.n;rw[w1];simp only[aaR];refine⟨by simp,λa ha=>?_,λ_=>?_⟩
  ·rcases aaK.1 ha with rfl|ha
   ·exact h1a
   grind[List.mem_singleton,mA]
  ·obtain⟨g1,fs',f',st',w',g2,g3⟩:=vq hc hs (q:=bA s i (fs++[(ae (f.1+1),f.2)],st.take (st.length-1),w,false)) hi rfl hn rfl rfl rfl rfl rfl hs.ok.cap;obtain⟨k',pc',hB⟩:=w3.at_;have hop:=w3.op;have eq0:bK s q=(gs++[g],tt,tw,false):=fK w3.t;obtain⟨n,hn3⟩:∃n,n=(fE c (bK s q)).2.2.toNat:=⟨_,rfl⟩
   rw[<-hn3,eq0,fH,akK];have hn2:=zx hc hB w3.run (by omega) (by omega) (l:=g.2.set n (st.getD (st.length-1) 0)) acQ w3.run.m;obtain⟨g4,g5⟩:=vq hc g1 (i:=q) (q:=bA (bA s i (fs++[(ae (f.1+1),f.2)],st.take (st.length-1),w,false)) q (gs++[(ae (g.1+1),g.2.set n (st.getD (st.length-1) 0))],tt,tw,false)) (by rw[cT];exact w2) rfl hn2 rfl rfl rfl rfl rfl g1.ok.cap;refine⟨g4,by dsimp only;rw[cT,cT];omega,λz hz=>?_,?_,by simp⟩
   ·rcases aaK.1 hz with rfl|hz
    ·grind
    ·rcases aaH.1 hz with rfl;refine⟨i,rfl,fs',f',st',w',?_,g3⟩;unfold bA;dsimp only;rw[ae9 w3.ne];exact g2
   ·refine alT.2 ⟨λh=>?_,by simp⟩;have:=aaH.1 h;have:=w3.ne;omega
theorem acT(hs:GoodS c s) :Does c s (ul s i):=by
 have hb:GoodS c (bA s i ([],[],0,true)):=by
  obtain⟨q1,⟨u1,u2,u3⟩,q3,q4⟩:=hs;refine⟨XW q1 (.inl ⟨rfl,rfl⟩),⟨by rw[cT];exact u1,λt ht=>?_,u3⟩,q3,q4⟩;rcases aci ht with ht|rfl
  ·exact u2 t ht
  ·exact⟨by simp,by simp,λg hg=>by cases hg⟩
 unfold ul;refine⟨by simp,λa ha=>by grind[List.mem_singleton,mA],λ_=>?_⟩;by_cases h0:i=0
 ·rw[if_pos h0];obtain⟨⟨q1,q2,q3,q4⟩,q5,q6,q7⟩:=hb;exact⟨⟨⟨q1,q2,⟨q3.1,q3.2,q3.3,q3.4⟩,q4⟩,q5,by show(-1:Int)<=0;omega,by show(0:Int)<=4;omega⟩,by show(bA s i _).1.length<=_;rw[cT];omega,λz hz=>(by cases hz),by simp,by simp⟩
 ·rw[if_neg h0];exact⟨hb,by show(bA s i _).1.length<=_;rw[cT];omega,λz hz=>(by cases hz),by simp,by simp⟩
theorem yT(hc:bi c)(hs:GoodS c s)(hn65:s.1.length<=70){x:ce}(h:CanDo c s i fs f st w x j)(hr:Run1 c fs f st)
  (hq:x.1=19->0<(c.2.2.2.2.1.getD x.2.1.toNat ([],0)).2->((s.2.2.1.getD x.2.1.toNat []).length:Int)<(c.2.2.2.2.1.getD x.2.1.toNat ([],0)).2):Does c s (gE c s i fs f st w x j):=by
 obtain⟨k,pc,hA⟩:=h.at_;unfold gE;by_cases h18:x.1=18
 ·rw[if_pos h18];exact alm hc hs hn65 hA hr h18
 rw[if_neg h18];by_cases h19:x.1=19
 ·rw[if_pos h19];exact Yu hc hs hA hr h19 (h.to h19) (hq h19)
 grind[jl,Wg,acT]
theorem am7{kind:Int}{s':aF}{x:ce}(he:nv c kind s i fs f st w x=some s'):bO s'=bO s\/bO s'=1:=by
 unfold nv at he;dsimp only at he;by_cases n0:x.1=0
 ·rw[if_pos n0]at he;split at he<;>cases he;exact .inl rfl
 rw[if_neg n0]at he;by_cases n1:x.1=1
 ·rw[if_pos n1]at he;split at he<;>cases he;exact .inl rfl
 rw[if_neg n1]at he;by_cases n3:x.1=3
 ·rw[if_pos n3]at he;split at he<;>cases he;exact .inl rfl
 rw[if_neg n3]at he;by_cases n2:x.1=2
 ·rw[if_pos n2]at he;split at he<;>cases he;exact .inl rfl
 rw[if_neg n2]at he;by_cases n10:x.1=10
 ·rw[if_pos n10]at he;cases he;exact .inl rfl
 rw[if_neg n10]at he;by_cases n11:x.1=11
 ·rw[if_pos n11]at he;split at he<;>cases he;exact .inl rfl
 rw[if_neg n11]at he;by_cases n12:x.1=12
 ·rw[if_pos n12]at he;split at he<;>cases he;exact .inl rfl
 rw[if_neg n12]at he;by_cases n13:x.1=13
 ·rw[if_pos n13]at he;cases he;exact .inl rfl
 rw[if_neg n13]at he;by_cases n14:x.1=14
 ·rw[if_pos n14]at he;split at he<;>cases he;split
  ·exact .inr rfl
  ·exact .inl rfl
 rw[if_neg n14]at he;by_cases n15:x.1=15
 ·rw[if_pos n15]at he;cases he;exact .inl rfl
 rw[if_neg n15]at he;split at he<;>cases he;exact .inl rfl
theorem mF(c:CC)(s:aF)(i:Nat)(o:Int):bO (gc c s i o)=o:=by unfold gc;dsimp only;split<;>rfl
theorem Vc(c:CC)(kind:Int)(i:Nat):∀(m:Nat) (s:aF),-1<=bO s/\bO s<=4->-1<=bO (db c kind i m s).2/\bO (db c kind i m s).2<=4:=by
 intro m;induction m with
 |zero=>
  grind[db,mF]
 | succ m ih=>
  intro s h;unfold db;split
  ·exact h
  split
  ·exact h
  ·dsimp only;split
   ·dsimp only;rw[mF];omega
   ·rename_i s' he;refine ih s' ?_;grind[am7]
theorem Zl(c:CC)(s:aF)(i:Nat):bO (oh c s i).1=bO s:=by
 unfold oh;dsimp only;split
 ·rfl
 split
 ·dsimp only;split<;>rfl
 split<;>rfl
theorem rz(hc:bi c)(kind:Int)(hs:GoodS c s)(hr:tB c s i) :
  GoodS c (bR c kind i s).1/\(bR c kind i s).1.1.length=s.1.length/\(∀q,q≠i->(bR c kind i s).1.1[q]?=s.1[q]?)/\(bR c kind i s).2.length<=1/\∀a∈(bR c kind i s).2,lk a:=by
 obtain⟨b1,b2,b3⟩:=Dx hc kind hs.ok hr hs.sm;have hout:=Vc c kind i 64 s ⟨hs.lo,hs.hi⟩;obtain⟨fs,f,st,w,ht,hr⟩:=hr;obtain⟨fs',f',st',g1,g2,g3,g4⟩:=AW hc kind 64 ht hr;have ho : -1<=bO (bR c kind i s).1/\bO (bR c kind i s).1<=4:=by grind[bR,Zl]
 refine⟨⟨b1,b2,ho.1,ho.2⟩,b3,?_⟩;unfold bR;generalize db c kind i 64 s=q at *;obtain⟨b,q⟩:=q;dsimp only at *;have ht':q.1[i]?=some (fs'++[f'],st',w,false):=by grind
 have hbase:∀j,j≠i->q.1[j]?=s.1[j]?:=λj hj=>by grind
 obtain⟨k,pc,hA⟩:=mh ht' g2;have hF:=hc.2.2.1 k pc hA.pc2 hA.pr;rw[hA.x]at hF;have hx:fE c (bK q i)=eF c f'.1.toNat:=by rw[fK ht'];unfold fE;rw[fH]
 obtain⟨z1,z2,z3,z4,z5,z6,z7⟩:=hc.2.2.2;split
 ·unfold oh;dsimp only;rw[hx];obtain⟨_,_,o1,o2,o3,o4,o5,o6,o7,o8,o9,o10,o11,o12⟩:=hF;split
  ·refine⟨λj hj=>?_,by simp,λa ha=>by grind[List.mem_singleton,mA]⟩;show(q.1.set i _)[j]?=_;grind
  split
  ·rename_i h21;obtain⟨p1,p2⟩:=o8 (.inl h21);refine⟨λj hj=>?_,by simp,λa ha=>by grind[List.mem_singleton,mA]⟩;dsimp only;split<;>exact hbase j hj
  split
  ·rename_i h20;obtain⟨p1,p2⟩:=o7 (.inr h20);grind[List.mem_singleton,mA]
  grind
 grind
def cu(c:CC)(kind:Int):List Int->aF->aF×List bW
 |[],s=>(s,[])
 |z::r,s=>((cu c kind r (bR c kind z.toNat s).1).1,(bR c kind z.toNat s).2++(cu c kind r (bR c kind z.toNat s).1).2)
structure CanRun(c:CC)(l:List Int)(s:aF):Prop where
 g:GoodS c s
 run:∀z∈l,∃n:Nat,z=(n:Int)/\tB c s n
 nd:l.Nodup
theorem C2(hc:bi c)(kind:Int){z:Int}{l:List Int}(h:CanRun c (z::l) s):CanRun c l (bR c kind z.toNat s).1:=by obtain⟨n,rfl,hr⟩:=h.run z (aaQ ..);obtain⟨q1,q2,q3,q4,q5⟩:=rz hc kind h.g hr;obtain⟨d1,d2⟩:=alT.1 h.nd;refine⟨q1,λy hy=>?_,d2⟩;obtain⟨m,rfl,fs,f,st,w,h1,h2⟩:=h.run y (aaw _ hy);refine⟨m,rfl,fs,f,st,w,?_,h2⟩;grind
theorem yI{c:CC}(hc:bi c)(kind:Int):∀{l:List Int} {s:aF},CanRun c l s->GoodS c (cu c kind l s).1/\(cu c kind l s).1.1.length=s.1.length/\(cu c kind l s).2.length<=l.length/\∀a∈(cu c kind l s).2,lk a
 |[],s,h=>⟨h.g,rfl,aaT _,λa ha=>by cases ha⟩
 |z::l,s,h=>by
  obtain⟨n,hz,hr⟩:=h.run z (aaQ ..);obtain⟨q1,q2,q3,q4,q5⟩:=rz hc kind h.g hr;obtain⟨b1,b2,b3,b4⟩:=yI hc kind (C2 hc kind h);have hz':z.toNat=n:=by omega
  unfold cu;grind
theorem adm(hc:bi c)(e:ce)(who:List Int)(r0:(List (Int×Int×Bool))×Bool×aA)(sd:List bW)(hsd:sd.length<=1000)(hw:who.length<=1000)(h:CanRun c who s) :
  Itr.it (jW (who,r0)) (ic 0 (c,e,s,sd))=some (ic 0 (c,e,(cu c e.1 who s).1,sd++(cu c e.1 who s).2)).2:=by
 obtain⟨r,h1,h2⟩:=gz (f:=jW (who,r0)) (λy=>who.length-y.1.toNat) (λy=>∃(n:Nat) (t:aF) (a:List bW),y=ic (n:Int) (c,e,t,a)/\n<=who.length/\a.length<=1000+n/\CanRun c (who.drop n) t/\(cu c e.1 (who.drop n) t).1=(cu c e.1 who s).1/\a++(cu c e.1 (who.drop n) t).2=sd++(cu c e.1 who s).2)
  (λr=>r=(ic 0 (c,e,(cu c e.1 who s).1,sd++(cu c e.1 who s).2)).2)
  (λy hy=>by
   obtain⟨n,t,a,rfl,hn,ha,hc1,e1,e2⟩:=hy;unfold jW;rcases abL n who.length with hlt|hge
   ·right;have hd:who.drop n=who.getD n 0::who.drop (n+1):=by
     simp_all
    rw[hd]at hc1 e1 e2;obtain⟨m,hz,hr⟩:=hc1.run _ (aaQ ..);have hq:=Rv hc e a (by omega) hr hc1.g.ok.fit hc1.g.sm;have hx:=C2 hc e.1 hc1;obtain⟨_,_,_,hl1,_⟩:=rz hc e.1 hc1.g hr;have e1:(cu c e.1 (who.drop (n+1)) (bR c e.1 (who.getD n 0).toNat t).1).1=(cu c e.1 who s).1:=e1;have e2:a++((bR c e.1 (who.getD n 0).toNat t).2++(cu c e.1 (who.drop (n+1)) (bR c e.1 (who.getD n 0).toNat t).1).2)=sd++(cu c e.1 who s).2:=e2;have hm:(who.getD n 0).toNat=m:=by omega
    rw[hm]at hx e1 e2;rw[<-aaW]at e2;refine⟨ic ((n+1:Nat):Int) (c,e,(bR c e.1 m t).1,a++(bR c e.1 m t).2),?_,⟨n+1,_,_,rfl,hlt,by grind,hx,e1,e2⟩,by show who.length-((n+1:Nat):Int).toNat<who.length-((n:Nat):Int).toNat;omega⟩;have ew:ac who (n:Int)=some ((m:Nat):Int):=by rw[aO 0 hlt,hz]
    have ed:(n:Int)<(who.length:Int):=by omega
    simp only[ic,ed,af1,f9,ew,f7,Qz2];grind[aM]
   ·left;have hnn:n=who.length:=by omega
    subst hnn;rw[afw]at e1 e2;grind[cu,ic])
  (s:=ic 0 (c,e,s,sd)) ⟨0,s,sd,rfl,by omega,by omega,h,rfl,rfl⟩ (by grind)
 rw[h1,h2]
def cX(s:aF)(p:Int):aF:=(s.1,s.2.1,s.2.2.1,s.2.2.2.1,s.2.2.2.2.1,s.2.2.2.2.2.1,s.2.2.2.2.2.2.1,s.2.2.2.2.2.2.2.1,p,s.2.2.2.2.2.2.2.2.2)
theorem nu(h:GoodS c s)(p:Int):GoodS c (cX s p):=
 ⟨⟨h.ok.n,h.ok.th,⟨h.ok.fit.1,h.ok.fit.2,h.ok.fit.3,h.ok.fit.4⟩,h.ok.cap⟩,h.sm,h.lo,h.hi⟩
def lB(s:aF):aF:=(s.1,s.2.1,s.2.2.1,s.2.2.2.1,s.2.2.2.2.1,ae (s.2.2.2.2.2.1+1),ae (s.2.2.2.2.2.2.1-1),(ae (s.2.2.2.2.2.2.2.1.1+1),s.2.2.2.2.2.2.2.1.2),s.2.2.2.2.2.2.2.2)
theorem wG(h:GoodS c s):GoodS c (lB s):=
 ⟨⟨h.ok.n,h.ok.th,⟨h.ok.fit.1,h.ok.fit.2,h.ok.fit.3,h.ok.fit.4⟩,h.ok.cap⟩,h.sm,h.lo,h.hi⟩
theorem CG(h:GoodS c s):GoodS c (dZ c s):=by
 obtain⟨a,b⟩:=HD h.ok h.sm;have ho : -1<=bO (dZ c s)/\bO (dZ c s)<=4:=by
  unfold dZ;split
  ·exact⟨h.lo,h.hi⟩
  split
  ·rw[mF];omega
  split
  ·exact⟨h.lo,h.hi⟩
  split
  ·exact⟨h.lo,h.hi⟩
  ·rw[mF];omega
 exact⟨a,b,ho.1,ho.2⟩
theorem Zw(h:GoodS c s)(i:Nat)(o:Int)(h1:0<=o)(h2:o<=4):GoodS c (gc c s i o):=by
 have ho:=mF c s i o;unfold gc at *;dsimp only at *;split at ho
 ·rename_i hh;rw[if_pos hh];exact⟨⟨h.ok.n,h.ok.th,⟨h.ok.fit.1,h.ok.fit.2,h.ok.fit.3,h.ok.fit.4⟩,h.ok.cap⟩,h.sm,by rw[ho];omega,by rw[ho];omega⟩
 ·rename_i hh;rw[if_neg hh];exact⟨⟨h.ok.n,h.ok.th,⟨h.ok.fit.1,h.ok.fit.2,h.ok.fit.3,h.ok.fit.4⟩,h.ok.cap⟩,h.sm,by rw[ho];omega,by rw[ho];omega⟩
theorem aks{x:ce}(h:0<s.1.length):0<(gE c s i fs f st w x j).2.2.2.1.length:=by
 unfold gE;split
 ·unfold uE;grind
 split
 ·unfold mJ;split
  ·exact h
  ·dsimp only;split
   ·show 0<(bA s i _).1.length;rw[cT];exact h
   ·dsimp only;rw[cT,cT];exact h
 split
 ·unfold pn sS;dsimp only;split
  ·rw[cT];grind
  grind
 ·unfold ul;dsimp only;split
  ·show 0<(bA s i _).1.length;rw[cT];exact h
  ·rw[cT];exact h
def ud(c:CC)(e:ce)(s:aF)(i:Nat)(q:xr):aF×List bW:=
 if q.2.2.1=true then(dZ c (cu c e.1 q.1 (lB q.2.2.2)).1,((5,(i:Int)+1,true)::q.2.1)++(cu c e.1 q.1 (lB q.2.2.2)).2)
 else(gc c (cX s (-1)) i 4,(5,(i:Int)+1,true)::q.2.1)
structure Moves(c:CC)(e:ce)(s:aF)(j:Int)(i:Nat)(fs:List Fr)(f:Fr)(st:List Int)(w:Int)(x:ce):Prop where
 gs:GoodS c s
 n:s.1.length<=65
 r2:dG c e s=some 0
 pt:∃p:Pt4,eU (c,e,s,[])=some p/\p.2.1=(i:Int)/\0<=j/\j<(p.2.2.2.length:Int)
 t:s.1[i]?=some (fs++[f],st,w,false)
 run:Run1 c fs f st
 can:CanDo c (cX s (-1)) i fs f st w x j
 hq:x.1=19->0<(c.2.2.2.2.1.getD x.2.1.toNat ([],0)).2->((s.2.2.1.getD x.2.1.toNat []).length:Int)<(c.2.2.2.2.1.getD x.2.1.toNat ([],0)).2
theorem asi(hc:bi c)(e:ce){x:ce}(h:Moves c e s j i fs f st w x)(q:xr)(hq:q=gE c (cX s (-1)) i fs f st w x j)(v:List bW)
  (hv:∀M:List bW,(ud c e s i q).2.Perm M->fe M=some v):eG c e s j=some ((ud c e s i q).1,v,0):=by
 obtain⟨p,p2,p3,p4,p5⟩:=h.pt;have hd:=yT hc (nu h.gs (-1)) (show(cX s (-1)).1.length<=70 by have:=h.n;show s.1.length<=70;omega) h.can h.run h.hq;have hln:0<(gE c (cX s (-1)) i fs f st w x j).2.2.2.1.length:=aks (show 0<s.1.length by have:=fc h.t;omega);have hi:=fc h.t;have hn:=h.n;unfold eG;rw[h.r2];simp only[f7,Qz2,adj,aax,uX s h.gs.sm,p2,p3];have d1:¬j<0:=by omega
 have d2:¬(p.2.2.2.length:Int)<=j:=by omega
 have d3:¬(i:Int)<0:=by omega
 simp only[d1,d2,d3,afj,aax,DC (show i<=1048576 by omega)];have he:=ade hc (e:=e) (sd:=[]) h.can;rw[<-hq]at he hd hln;refine(aba (λo:Option ((List Int)×(List (Int×Int×Bool))×Bool×aA)=>o.bind _) he).trans ?_;have a1:aH q.2.1.length 1 24=true:=aT (by have:=hd.an;omega) (by omega);simp only[f7,Qz2,acg,a1,af,f9];unfold ud at hv|-;have hp1:∀l:List bW,(((5,(i:Int)+1,true)::q.2.1)++l).Perm ((q.2.1++[(5,(i:Int)+1,true)])++l):=λl=>List.Perm.append_right l (List.perm_append_singleton _ _).symm;cases hg:q.2.2.1
 ·rw[hg]at hv;simp only[ady,aca]at hv;simp only[abR,f9,ady,aca];obtain⟨k,pc,hA⟩:=mh (s:=cX s (-1)) (i:=i) h.t h.run;have hs:=hv (q.2.1++[(5,(i:Int)+1,true)]) (by grind);have ho:=OR hc (e:=e) (a:=[]) hA 4;refine(aba (λo:Option aA=>o.bind _) ho).trans ?_;grind
 ·rw[hg]at hv;simp only[ace]at hv;simp only[acd,aax,ace];have hl:=hd.left hg;have hcan:CanRun c q.1 (lB q.2.2.2):=⟨wG hl.g,λz hz=>by
   obtain⟨n,rfl,fs',f',st',w',h1,h2⟩:=hl.run z hz;exact⟨n,rfl,fs',f',st',w',h1,h2⟩,hl.nd⟩
  have hqs:=adm hc e q.1 (q.2.1,true,(c,e,q.2.2.2,[])) [] (by simp) (by have:=hl.two;omega) hcan;refine(aba (λo:Option pZ=>o.bind _) hqs).trans ?_;obtain⟨g1,g2,g3,g4⟩:=yI hc e.1 hcan;have hset:=Lm hc (e:=e) (a:=[]++(cu c e.1 q.1 (lB q.2.2.2)).2) g1.ok (by rw[g2];exact hln);simp only[f7,Qz2];refine(aba (λo:Option aA=>o.bind _) hset).trans ?_;have hs:=hv ((q.2.1++[(5,(i:Int)+1,true)])++(cu c e.1 q.1 (lB q.2.2.2)).2) (hp1 _);have a2:aH (q.2.1.length+1) (cu c e.1 q.1 (lB q.2.2.2)).2.length 24=true:=aT (by have:=hd.an;have:=hl.two;omega) (by omega);grind
theorem Gp(hc:bi c)(e:ce){x:ce}(h:Moves c e s j i fs f st w x) :
  eG c e s j=some ((ud c e s i (gE c (cX s (-1)) i fs f st w x j)).1,qA (ud c e s i (gE c (cX s (-1)) i fs f st w x j)).2,0) /\
   GoodS c (ud c e s i (gE c (cX s (-1)) i fs f st w x j)).1/\(qA (ud c e s i (gE c (cX s (-1)) i fs f st w x j)).2).length<=12:=by
 have hd:=yT hc (nu h.gs (-1)) (show(cX s (-1)).1.length<=70 by have:=h.n;show s.1.length<=70;omega) h.can h.run h.hq;obtain⟨q,hq⟩:∃q,q=gE c (cX s (-1)) i fs f st w x j:=⟨_,rfl⟩
 have hn:=h.n;have hi:=fc h.t;have h5:lk (5,(i:Int)+1,true):=mA (by omega) (by omega) (by omega) (by omega);have hall:GoodS c (ud c e s i q).1/\(ud c e s i q).2.length<=12/\∀a∈(ud c e s i q).2,lk a:=by
  rw[<-hq]at hd;unfold ud;cases hg:q.2.2.1
  ·simp only[ady,aca];refine⟨Zw (nu h.gs (-1)) i 4 (by omega) (by omega),by have:=hd.an;grind,λa ha=>?_⟩;rcases aaK.1 ha with rfl|ha
   ·exact h5
   ·exact hd.ak a ha
  ·simp only[ace];have hl:=hd.left hg;have hcan:CanRun c q.1 (lB q.2.2.2):=⟨wG hl.g,λz hz=>by
    obtain⟨n,rfl,fs',f',st',w',h1,h2⟩:=hl.run z hz;exact⟨n,rfl,fs',f',st',w',h1,h2⟩,hl.nd⟩
   obtain⟨g1,g2,g3,g4⟩:=yI hc e.1 hcan;refine⟨CG g1,by have:=hd.an;have:=hl.two;grind,λa ha=>?_⟩;rcases aa1.1 ha with ha|ha
   ·rcases aaK.1 ha with rfl|ha
    ·exact h5
    ·exact hd.ak a ha
   grind
 obtain⟨b1,b2,b3⟩:=hall;obtain⟨c1,c2⟩:=N1 (aiy _) b3 b2;rw[Nc (by omega)]at c2;injection c2 with c2;rw[<-hq,c2];exact⟨asi hc e h q hq _ (λM hM=>(N1 hM b3 b2).2),b1,by rw[<-c2];exact akB (HE _) b2⟩
theorem zL(c:CC)(e:ce)(s:aF)(k:Nat):(kB c e s k).2.1=(k:Int):=by unfold kB;grind
theorem LW(hc:bi c)(e:ce)(hs:GoodS c s)(h2:dG c e s=some 0)(hg:GoOn c s)(hp:¬(s.2.2.2.2.2.2.2.2.1<0/\1<(eP c s).length))(hj:0<=j/\j<((gQ c e s).2.2.2.length:Int)) :
  ∃i fs f st w x,Moves c e s j i fs f st w x:=by
 obtain⟨k,w1,w2,w3⟩:=EM hg;obtain⟨fs,f,st,w,ht,hr⟩:=ET hg.ok w2 w3;have hP:gQ c e s=kB c e s k:=by unfold gQ;grind
 have htk:s.1[k]?=some (fs++[f],st,w,false):=by rw[mN w2,ht]
 obtain⟨k',pc,hA⟩:=mh (s:=cX s (-1)) (i:=k) htk hr;have hF:=hc.2.2.1 k' pc hA.pc2 hA.pr;rw[hA.x]at hF;obtain⟨⟨h0,_⟩,_,o1,o2,o3,o4,o5,o6,o7,o8,o9,o10,o11,o12⟩:=hF;have hx:fE c (bK s k)=eF c f.1.toNat:=by rw[ht];unfold fE;rw[fH]
 have hat:q8 c (bK s k)=eF c f.1.toNat:=by unfold q8;grind
 have hen:=w3;unfold AC at hen;dsimp only at hen;rw[hat,if_neg (by rw[ht];simp)]at hen;have hpt:gQ c e s=kB c e s k:=hP;rw[hP]at hj;unfold kB at hj;dsimp only at hj;rw[hx]at hj;have hn:=hg.n;generalize eF c f.1.toNat=x at *;refine⟨k,fs,f,st,w,x,⟨hs,hn,h2,⟨_,uZ hc e [] hg,by rw[hpt];exact zL c e s k,hj.1,?_⟩,htk,hr,⟨⟨k',pc,hA⟩,(nu hs (-1)).ok,by show s.1.length<=1048575;omega,aiT hc (nu hs (-1)).ok,λh20=>?_,λh19 hcap=>?_⟩,λh19 hcap=>?_⟩⟩
 ·rw[hpt];unfold kB;grind
 ·rw[if_neg (by omega),if_neg (by omega),if_pos h20]at hen;exact abh hen
 ·obtain⟨p1,p2⟩:=o7 (.inl h19);have hc0:(c.2.2.2.2.1.getD x.2.1.toNat ([],0)).2=0:=by
   grind
  rw[if_neg (by omega),if_pos h19,if_pos hc0]at hen;have hrl:0<(gt c s x.2.1).length:=by grind
  refine⟨hj.1,?_⟩;have h2:=hj.2;show j<((gt c s x.2.1).length:Int);rw[if_neg (by omega)]at h2;by_cases h1r:1<(gt c s x.2.1).length
  ·grind
  grind
 grind
def Fo{α:Type}(Q:α->Prop)(o:Option α):Prop:=∀x,o=some x->Q x
theorem ab0{Q:α->Prop}{p:Prop}[Decidable p]{a b:Option α}(h1:p->Fo Q a)(h2:¬p->Fo Q b):Fo Q (if p then a else b):=by
 split
 ·exact h1 ‹_›
 ·exact h2 ‹_›
theorem XV{Q:α->Prop}:Fo Q (none:Option α):=λx h=>by cases h
theorem wv{Q:α->Prop}{x:α}(h:Q x):Fo Q (some x):=λy hy=>by cases hy;exact h
def aqc(s:aF)(x:ce)(s':aF):Prop:=
 ut s s'/\(s'.2.2.2.2.2.2.2.2.2=s.2.2.2.2.2.2.2.2.2\/bO s'=1)/\(s'.2.2.2.2.2.2.2.1.2.1=s.2.2.2.2.2.2.2.1.2.1\/x.1=15/\s'.2.2.2.2.2.2.2.1.2.1=ae (s.2.2.2.2.2.2.2.1.2.1+x.2.1))
theorem OJ{x:ce}{t:Th}:aqc s x (bA s i t):=⟨mE,.inl rfl,.inl rfl⟩
theorem MJ{kind:Int}{x:ce}:Fo (aqc s x) (nv c kind s i fs f st w x):=by
 unfold nv;dsimp only;repeat' (first|exact XV|exact wv OJ|refine ab0 (λh=>?_) (λh=>?_))
 ·split
  ·exact wv ⟨DO _ _ _ _,.inr rfl,.inl rfl⟩
  ·exact wv OJ
 ·exact wv ⟨mE,.inl rfl,.inr ⟨h,rfl⟩⟩
def E9(s t:aF):Prop:=t.2.1=s.2.1/\t.2.2.1=s.2.2.1/\t.2.2.2.1=s.2.2.2.1/\t.2.2.2.2.1=s.2.2.2.2.1
theorem T4(s:aF):E9 s s:=⟨rfl,rfl,rfl,rfl⟩
theorem P7{u:aF}(h:E9 s t)(h':E9 t u):E9 s u:=⟨h'.1.trans h.1,h'.2.1.trans h.2.1,h'.2.2.1.trans h.2.2.1,h'.2.2.2.trans h.2.2.2⟩
def wO(s t:aF):Prop:=E9 s t/\t.2.2.2.2.2.2.1=s.2.2.2.2.2.2.1/\t.2.2.2.2.2.2.2.2.1=s.2.2.2.2.2.2.2.2.1
theorem kN(s:aF):wO s s:=⟨T4 s,rfl,rfl⟩
theorem xm{u:aF}(h:wO s t)(h':wO t u):wO s u:=⟨P7 h.1 h'.1,h'.2.1.trans h.2.1,h'.2.2.trans h.2.2⟩
theorem Eu(c:CC)(s:aF)(i:Nat)(o:Int):wO s (gc c s i o):=by unfold gc;dsimp only;split<;>exact⟨⟨rfl,rfl,rfl,rfl⟩,rfl,rfl⟩
theorem L8(c:CC)(kind:Int)(i:Nat):∀(m:Nat) (s:aF),wO s (db c kind i m s).2:=by
 intro m;induction m with
 |zero=>
  intro s;unfold db;split
  ·exact kN s
  split
  ·exact kN s
  ·exact Eu c s i 3
 |succ m ih=>
  intro s;unfold db;split
  ·exact kN s
  split
  ·exact kN s
  dsimp only;split
  ·exact Eu c s i 4
  ·rename_i s' he;obtain⟨⟨a1,a2,a3,a4,_,a6,_,_,a9⟩,_⟩:=MJ _ he;exact xm ⟨⟨a1,a2,a3,a4⟩,a6,a9⟩ (ih s')
theorem Cs(c:CC)(kind:Int)(i:Nat)(s:aF):wO s (bR c kind i s).1:=by
 unfold bR;refine xm (L8 c kind i 64 s) ?_;split
 ·unfold oh;dsimp only;split
  ·exact kN _
  split
  ·dsimp only;split<;>exact kN _
  split<;>exact kN _
 ·exact kN _
theorem G4(c:CC)(kind:Int):∀(l:List Int) (s:aF),wO s (cu c kind l s).1
 |[],s=>kN s
 |z::r,s=>xm (Cs c kind z.toNat s) (G4 c kind r _)
def Nm{α:Type}(d:α)(L:List bW)(kind:Int)(a b:List α):Prop:=a.length=b.length/\∀k:Nat,a.getD k d≠b.getD k d->(kind,(k:Int),true)∈L
structure NmS(L:List bW)(s t:aF):Prop where
 v:Nm 0 L 0 s.2.1 t.2.1
 q:Nm [] L 1 s.2.2.1 t.2.2.1
 o:Nm 0 L 2 s.2.2.2.1 t.2.2.2.1
 f:Nm 0 L 3 s.2.2.2.2.1 t.2.2.2.2.1
theorem PW(hc:bi c)(kind:Int)  : ∀(m:Nat) {s:aF} {fs:List Fr} {f:Fr} {st:List Int} {w:Int},s.1[i]?=some (fs++[f],st,w,false)->Run1 c fs f st ->
  0<=s.2.2.2.2.2.2.2.1.2.1->s.2.2.2.2.2.2.2.1.2.1+100*m<=2000000000->bO (db c kind i m s).2<0 ->
  (db c kind i m s).2.2.2.2.2.2.2.2.2.2=s.2.2.2.2.2.2.2.2.2/\s.2.2.2.2.2.2.2.1.2.1<=(db c kind i m s).2.2.2.2.2.2.2.2.1.2.1/\(db c kind i m s).2.2.2.2.2.2.2.2.1.2.1<=s.2.2.2.2.2.2.2.1.2.1+100*m:=by
 intro m;induction m with
 |zero=>
  intro s fs f st w ht hr h1 h2;obtain⟨k,pc,hA⟩:=mh ht hr;rw[tN c kind 0 hA];split
  ·grind
  split
  ·grind
  ·dsimp only;rw[mF];grind
 | succ m ih=>
  intro s fs f st w ht hr h1 h2;obtain⟨k,pc,hA⟩:=mh ht hr;rw[tN c kind (m+1) hA];split
  ·exactλ_=>⟨rfl,by dsimp only;omega,by dsimp only;omega⟩
  split
  ·exactλ_=>⟨rfl,by dsimp only;omega,by dsimp only;omega⟩
  rename_i n1 n2;obtain⟨hop,hb⟩:=wM hc hA (by simpa using n2);dsimp only;cases hsil:nv c kind s i fs f st w (eF c f.1.toNat)with
  |none=>
   dsimp only;rw[mF];omega
  | some s' =>
   dsimp only;obtain⟨fs1,f1,st1,g1,g2,g3⟩:=D3 hc hA hr hop hb hsil;obtain⟨_,m1,m2⟩:=MJ _ hsil;have hF:=hc.2.2.1 k pc hA.pc2 hA.pr;rw[hA.x]at hF;obtain⟨_,_,_,_,_,_,o5,_⟩:=hF;have ha:0<=s'.2.2.2.2.2.2.2.1.2.1/\s.2.2.2.2.2.2.2.1.2.1<=s'.2.2.2.2.2.2.2.1.2.1/\s'.2.2.2.2.2.2.2.1.2.1<=s.2.2.2.2.2.2.2.1.2.1+100:=by
    rcases m2 with m2|⟨m2,m3⟩
    ·omega
    ·obtain⟨o1,o2⟩:=o5 m2;rw[m3,aM (by omega) (by omega)];omega
   rcases m1 with m1|m1
   ·intro hq;obtain⟨j1,j2,j3⟩:=ih (s:=s') (w:=w) (by rw[g1];exact adu (fc ht)) g2 (by omega) (by omega) hq;exact⟨j1.trans m1,by omega,by omega⟩
   ·have:(db c kind i m s').2=s':=by
     unfold db;rw[if_pos (by omega)]
    rw[this];omega
structure RunV(c:CC)(s:aF)(L:List Int)(K A N:Int):Prop where
 n1:1<=s.1.length
 n:(s.1.length:Int)+s.2.2.2.2.2.2.1<=N
 fu:0<=s.2.2.2.2.2.2.1
 own:∀k,k<s.2.2.2.1.length->nC s k
 so:∀k,k<s.1.length->(k:Int)∉L->mc c s k=true
 wk:∀k,k<s.1.length->0<=(bK s k).2.2.1/\(bK s k).2.2.1<=K+10
 live:dP s s.1.length<=5
 cl:0<=s.2.2.2.2.2.1/\s.2.2.2.2.2.1<=K
 st:0<=s.2.2.2.2.2.2.2.1.1/\s.2.2.2.2.2.2.2.1.1<=A
 al:0<=s.2.2.2.2.2.2.2.1.2.1/\s.2.2.2.2.2.2.2.1.2.1<=A
 wa:0<=s.2.2.2.2.2.2.2.1.2.2/\s.2.2.2.2.2.2.2.1.2.2<=A
 wh:s.2.2.2.2.2.2.2.2.2.2=(0,[])
 t0:(bK s 0).2.2.2=false
theorem pQ:∀n:Nat,(∀k,k<n->(bK s k).2.2.2=true->(bK t k).2.2.2=true)->dP t n<=dP s n:=by
 intro n;induction n with
 |zero=>exactλ_=>afY _
 |succ n ih=>
  intro h;have:=ih λk hk=>h k (by omega);have:=h n (by omega);unfold dP;grind
theorem Yl(h:t.1[k]?=s.1[k]?):bK t k=bK s k:=by unfold bK;grind
theorem vQ(h:bK t k=bK s k)(ho:bO t=bO s):mc c t k=mc c s k:=by unfold mc;rw[h,ho]
theorem Hk(hc:bi c)(kind:Int)(hg:GoodS c s)(hr:tB c s i)(h:RunV c s ((i:Int)::L) K A N)(hK:K<=10000)(hA:A<=1000000000)
  (ho:bO (bR c kind i s).1<0):RunV c (bR c kind i s).1 L K (A+6401) N:=by
 obtain⟨q1,q2,q3,_⟩:=rz hc kind hg hr;obtain⟨fs,f,st,w,ht,hr⟩:=hr;have hi:=fc ht;obtain⟨fs',f',st',g1,g2,g3,g4⟩:=AW hc kind 64 ht hr;have hm:=PW hc kind 64 ht hr h.al.1 (by have:=h.al.2;omega);obtain⟨k1,k2,k3,k4,k5,k6,k7,k8,k9⟩:=g3;have hw:=h.wk i hi;rw[fK ht]at hw;have key:∃w',bK (bR c kind i s).1 i=(fs'++[f'],st',w',false)/\jR (eF c f'.1.toNat) (fs'.length+1)=true/\0<=w'/\w'<=K+10/\(bR c kind i s).1.2.2.2.2.2.2.2.2.2=s.2.2.2.2.2.2.2.2.2 /\
   (bR c kind i s).1.2.2.2.1=s.2.2.2.1/\(bR c kind i s).1.2.2.2.2.2.1=s.2.2.2.2.2.1/\(bR c kind i s).1.2.2.2.2.2.2.1=s.2.2.2.2.2.2.1/\(bR c kind i s).1.2.2.2.2.2.2.2.1.1=s.2.2.2.2.2.2.2.1.1 /\
   (0<=(bR c kind i s).1.2.2.2.2.2.2.2.1.2.1/\(bR c kind i s).1.2.2.2.2.2.2.2.1.2.1<=A+6401)/\(0<=(bR c kind i s).1.2.2.2.2.2.2.2.1.2.2/\(bR c kind i s).1.2.2.2.2.2.2.2.1.2.2<=A+6401):=by
  have ho':bO (db c kind i 64 s).2<0:=by unfold bR at ho;grind
  obtain⟨b1,b2⟩:=g4 ho';obtain⟨m1,m2,m3⟩:=hm ho';have hal:=h.al;have hwa:=h.wa;have hcl:=h.cl;unfold bR;rw[if_pos ⟨b1,ho'⟩];generalize db c kind i 64 s=q at *;obtain⟨b,q⟩:=q;dsimp only at *;have hq:q.1[i]?=some (fs'++[f'],st',w,false):=by grind
  obtain⟨k,pc,hAt⟩:=mh hq g2;have hF:=hc.2.2.1 k pc hAt.pc2 hAt.pr;rw[hAt.x]at hF;obtain⟨_,_,_,_,_,_,_,_,_,_,_,o10,_⟩:=hF;have hx:fE c (bK q i)=eF c f'.1.toNat:=by rw[fK hq];unfold fE;rw[fH]
  have hl:i<q.1.length:=fc hq;unfold oh;dsimp only;rw[hx];split
  ·rename_i h25;obtain⟨o1,o2⟩:=o10 h25;have ew:ae (q.2.2.2.2.2.1+(eF c f'.1.toNat).2.1)=q.2.2.2.2.2.1+(eF c f'.1.toNat).2.1:=aM (by omega) (by omega);exact⟨_,by rw[vb hl,fK hq],b2,by rw[ew];omega,by rw[ew];omega,m1,k3,k5,k6,k7,⟨by dsimp only[bA];omega,by dsimp only[bA];omega⟩,⟨by dsimp only[bA];omega,by dsimp only[bA];omega⟩⟩
  split
  ·dsimp only;split
   ·have ew:ae (q.2.2.2.2.2.2.2.1.2.2+1)=q.2.2.2.2.2.2.2.1.2.2+1:=aM (by omega) (by omega);exact⟨w,fK hq,b2,hw.1,hw.2,m1,k3,k5,k6,k7,⟨by dsimp only[yR];omega,by dsimp only[yR];omega⟩,⟨by dsimp only[yR];omega,by dsimp only[yR];omega⟩⟩
   ·exact⟨w,fK hq,b2,hw.1,hw.2,m1,k3,k5,k6,k7,⟨by omega,by omega⟩,⟨by omega,by omega⟩⟩
  split
  ·exact⟨w,fK hq,b2,hw.1,hw.2,m1,k3,k5,k6,k7,⟨by grind,by grind⟩,⟨by grind,by grind⟩⟩
  ·exact⟨w,fK hq,b2,hw.1,hw.2,m1,k3,k5,k6,k7,⟨by grind,by grind⟩,⟨by grind,by grind⟩⟩
 generalize(bR c kind i s).1=t at *;obtain⟨w',t1,t2,t3,t4,t5,t6,t7,t8,t9,t10,t11⟩:=key;have hth:∀k,k≠i->bK t k=bK s k:=λk hk=>Yl (q3 k hk)
 have hio:bO t=bO s:=by unfold bO;rw[t5]
 have hlv:∀k,(bK s k).2.2.2=true->(bK t k).2.2.2=true:=λk hk=>by
  by_cases e:k=i
  ·subst e;rw[fK ht]at hk;cases hk
  grind
 exact⟨by grind,by rw[q2,t8];exact h.n,by rw[t8];exact h.fu,λk hk=>by
   have:=h.own k (by grind);unfold nC at this|-;grind,λk hk hL=>by
   by_cases e:k=i
   ·subst e;unfold mc;rw[t1];dsimp only;rw[if_neg (by simp)];refine az ⟨t3,by omega,.inr ?_⟩;unfold fE;rw[fH,aaL,acg];exact t2
   ·rw[vQ (hth k e) hio];exact h.so k (by omega) (by grind),λk hk=>by
   by_cases e:k=i
   ·grind
   ·rw[hth k e];exact h.wk k (by omega),by
   have:=pQ (s:=s) (t:=t) t.1.length λk _=>hlv k;rw[q2]at this|-;have:=h.live;omega,by rw[t7];exact h.cl,by rw[t9];exact⟨h.st.1,by have:=h.st.2;omega⟩,t10,t11,by rw[t5];exact h.wh,by
   by_cases e:(0:Nat)=i
   ·rw[e,t1]
   ·rw[hth 0 e];exact h.t0⟩
theorem mz{K' A' N':Int}(h:RunV c s L K A N)(h1:K<=K')(h2:A<=A')(h3:N<=N'):RunV c s L K' A' N':=by obtain⟨a1,a2,a3,a4,a5,a6,a7,a8,a9,a10,a11,a12,a13⟩:=h;exact⟨a1,by omega,a3,a4,a5,λk hk=>by grind,a7,by omega,by omega,by omega,by omega,a12,a13⟩
theorem Du{K':Int}(h:RunV c s L K A N)(h1:t.1=s.1)(h2:∀k,k<t.2.2.2.1.length->nC t k)(h3:0<=t.2.2.2.2.2.1/\t.2.2.2.2.2.1<=K')(h4:K<=K')(h5:t.2.2.2.2.2.2=s.2.2.2.2.2.2):RunV c t L K' A N:=by
 have hth:∀k,bK t k=bK s k:=λk=>by unfold bK;rw[h1]
 have ho:bO t=bO s:=by unfold bO;rw[h5]
 obtain⟨a1,a2,a3,a4,a5,a6,a7,a8,a9,a10,a11,a12,a13⟩:=h;refine⟨by grind,by grind,by grind,h2,λk hk hL=>?_,λk hk=>?_,?_,h3,by grind,by grind,by grind,by grind,by grind⟩
 ·rw[vQ (hth k) ho];grind
 ·grind
 ·have:=pQ (s:=s) (t:=t) t.1.length λk _ hk=>by grind
  grind
theorem FY(h:RunV c s L K A N){t:Th}(hi:i<s.1.length)(ht:t.2.2=(bK s i).2.2):RunV c (bA s i t) ((i:Int)::L) K A N:=by
 obtain⟨a1,a2,a3,a4,a5,a6,a7,a8,a9,a10,a11,a12,a13⟩:=h;have hf:∀k,(bK (bA s i t) k).2.2=(bK s k).2.2:=λk=>by
  by_cases e:k=i
  ·rw[e,vb hi,ht]
  ·rw[nV e]
 refine⟨by rw[cT];exact a1,by rw[cT];exact a2,a3,λk hk=>?_,λk hk hL=>?_,λk hk=>?_,?_,a8,a9,a10,a11,a12,by grind⟩
 ·have:=a4 k hk;unfold nC at this|-;rw[cT];exact this
 ·simp only[aaK,not_or]at hL;rw[vQ (nV (by omega)) rfl];exact a5 k (by rw[<-cT];exact hk) hL.2
 ·rw[hf];exact a6 k (by rw[<-cT];exact hk)
 ·have:=pQ (s:=s) (t:=bA s i t) s.1.length λk _ hk=>by grind
  rw[cT];omega
theorem amc(h:RunV c s L K A N)(hl:dP s s.1.length<5)(p:Int):RunV c (s.1++[uw c p],s.2) ((s.1.length:Int)::L) K A (N+1):=by
 obtain⟨a1,a2,a3,a4,a5,a6,a7,a8,a9,a10,a11,a12,a13⟩:=h;have hlen:(s.1++[uw c p]).length=s.1.length+1:=by simp
 have hth:∀k,k<s.1.length->bK (s.1++[uw c p],s.2) k=bK s k:=λk hk=>Yl (by grind);have hn:bK (s.1++[uw c p],s.2) s.1.length=uw c p:=by unfold bK;simp
 refine⟨by grind,by grind,a3,λk hk=>?_,λk hk hL=>?_,λk hk=>?_,?_,a8,a9,a10,a11,a12,by grind⟩
 ·have:=a4 k hk;unfold nC at this|-;grind
 ·simp only[aaK,not_or]at hL;dsimp only at hk;rw[vQ (hth k (by omega)) rfl];grind
 ·dsimp only at hk;by_cases e:k<s.1.length
  ·grind
  ·rw[show k=s.1.length by omega,hn];exact⟨afY _,by show(0:Int)<=K+10;omega⟩
 ·dsimp only;rw[hlen];unfold dP;have:=pQ (s:=s) (t:=(s.1++[uw c p],s.2)) s.1.length λk hk hk2=>by grind
  grind
theorem am4(h:RunV c s L K A N)(hi:i<s.1.length)(h0:i≠0):RunV c (bA s i ([],[],0,true)) L K A N:=by
 obtain⟨a1,a2,a3,a4,a5,a6,a7,a8,a9,a10,a11,a12,a13⟩:=h;refine⟨by rw[cT];exact a1,by rw[cT];exact a2,a3,λk hk=>?_,λk hk hL=>?_,λk hk=>?_,?_,a8,a9,a10,a11,a12,by rw[nV (Ne.symm h0)];exact a13⟩
 ·have:=a4 k hk;unfold nC at this|-;rw[cT];exact this
 ·by_cases e:k=i
  ·unfold mc;rw[e,vb hi];rfl
  ·rw[vQ (nV e) rfl];exact a5 k (by rw[<-cT];exact hk) hL
 ·by_cases e:k=i
  ·rw[e,vb hi];grind
  ·rw[nV e];exact a6 k (by rw[<-cT];exact hk)
 ·have:=pQ (s:=s) (t:=bA s i ([],[],0,true)) s.1.length λk _ hk=>by
   by_cases e:k=i
   ·rw[e,vb hi]
   ·rw[nV e];exact hk
  rw[cT];omega
theorem alz(c:CC)(s:aF):∀n,0<=lL c s n->∃k,k<n/\(q8 c (bK s k)).1=25/\(bK s k).2.2.1=lL c s n:=by
 intro n;induction n with
 |zero=>intro h;unfold lL at h;omega
 |succ n ih=>
  unfold lL;grind
theorem EB(h:RunV c s [] K A N)(ho:bO (dZ c s)<0) :
  RunV c (dZ c s) [] (K+10) A N/\1<=(dZ c s).2.2.2.2.2.2.1/\0<(eP c (dZ c s)).length/\(dZ c s).2.2.2.2.2.2=s.2.2.2.2.2.2:=by
 have hfu:=h.fu;unfold dZ at *;split at ho
 ·omega
 rename_i h0;rw[if_neg h0];split at ho
 ·rw[mF]at ho;omega
 rename_i h1;rw[if_neg h1];split at ho
 ·rename_i h2;rw[if_pos h2];exact⟨mz h (by omega) (by omega) (by omega),by omega,h2,rfl⟩
 rename_i h2;rw[if_neg h2];split at ho
 ·rename_i h3;rw[if_pos h3];obtain⟨k,k1,k2,k3⟩:=alz c s _ h3;have hk:=h.wk k k1;refine⟨Du h rfl h.own ⟨h3,by show lL c s s.1.length<=K+10;omega⟩ (by omega) rfl,by show 1<=s.2.2.2.2.2.2.1;omega,?_,rfl⟩;refine List.length_pos_of_mem (a:=(k:Int)) (DM.2 ⟨k,k1,?_,rfl⟩);unfold AC;dsimp only;rw[show bK (Ng s (lL c s s.1.length)) k=bK s k from rfl,k2];rw[if_neg (by intro h;unfold q8 at k2;grind)];simp only[Int.reduceEq,ace,aca];exact az (by show(bK s k).2.2.1<=lL c s s.1.length;omega)
 ·rw[mF]at ho;omega
theorem ae4(h:RunV c s L K A N)(hf:1<=s.2.2.2.2.2.2.1)(hf2:s.2.2.2.2.2.2.1<=64)(hK:K<=10000)(hA:A<=1000000000):RunV c (lB s) L (K+1) (A+1) (N-1):=by
 obtain⟨a1,a2,a3,a4,a5,a6,a7,a8,a9,a10,a11,a12,a13⟩:=h;have e1:ae (s.2.2.2.2.2.1+1)=s.2.2.2.2.2.1+1:=aM (by omega) (by omega);have e2:ae (s.2.2.2.2.2.2.1-1)=s.2.2.2.2.2.2.1-1:=aM (by omega) (by omega);have e3:ae (s.2.2.2.2.2.2.2.1.1+1)=s.2.2.2.2.2.2.2.1.1+1:=aM (by omega) (by omega);refine⟨a1,?_,?_,a4,a5,λk hk=>?_,?_,?_,?_,?_,?_,a12,a13⟩
 ·show(s.1.length:Int)+ae (s.2.2.2.2.2.2.1-1)<=N-1;omega
 ·show 0<=ae (s.2.2.2.2.2.2.1-1);omega
 ·have:=a6 k hk;exact⟨this.1,by show(bK s k).2.2.1<=_;omega⟩
 ·exact akI (pQ (s:=s) (t:=lB s) s.1.length λk _ h=>h) a7
 ·show 0<=ae (s.2.2.2.2.2.1+1)/\ae (s.2.2.2.2.2.1+1)<=K+1;omega
 ·show 0<=ae (s.2.2.2.2.2.2.2.1.1+1)/\ae (s.2.2.2.2.2.2.2.1.1+1)<=A+1;omega
 ·exact⟨a10.1,by show s.2.2.2.2.2.2.2.1.2.1<=A+1;omega⟩
 ·exact⟨a11.1,by show s.2.2.2.2.2.2.2.1.2.2<=A+1;omega⟩
theorem amH{x:Int}{a:Nat}(h:∀k,k<s.2.2.2.1.length->nC s k)(hl:t.1.length=s.1.length)(h1:t.2.2.2.1=s.2.2.2.1.set a x)(hx : -1<=x/\x<s.1.length):∀k,k<t.2.2.2.1.length->nC t k:=by intro k hk;rw[h1,acQ]at hk;have:=h k hk;unfold nC at this|-;grind
theorem HP{x:ce}{k:Int}{r:yS}(hp:jl x.1):(fF i f st x k r).2.2.2.2.2.2.2.2.2=r.2.2.2.2.2:=by
 obtain⟨op,a,b⟩:=x;dsimp only at hp;unfold fF;dsimp only;rcases hp with rfl|rfl|rfl|rfl|rfl|rfl|rfl|rfl|rfl|rfl<;>simp only[Int.reduceEq,ace,aca]
 ·split<;>rfl
 ·split<;>rfl
 grind
structure EffFine(s:aF)(K:Int)(r:yS):Prop where
 own:(∃x' a,r.2.2.1=s.2.2.2.1.set a x' /\ -1<=x'/\x'<s.1.length)\/r.2.2.1=s.2.2.2.1
 ck:0<=r.2.2.2.2.1/\r.2.2.2.2.1<=K+1
theorem aai(h:RunV c s [] K A N){x:ce}(hK:K<=10000)(ht:s.1[i]?=some (fs++[f],st,w,false))(hp:jl x.1)(hj:x.1=24->0<=j/\j<=1)(hg:(pn s i fs f st w x j).2.2.1=true) :
  RunV c (pn s i fs f st w x j).2.2.2 (pn s i fs f st w x j).1 (K+1) A N:=by
 have hi:=fc ht;have hcl:=h.cl;unfold pn at *;dsimp only at hg|-;rw[if_pos hg];have e0:bA (sS s i fs f st w x j) i (fs++[(ae (f.1+1),(fF i f st x j s.2).2.2.1)],(fF i f st x j s.2).2.2.2.1,w,false)=(s.1.set i (fs++[(ae (f.1+1),(fF i f st x j s.2).2.2.1)],(fF i f st x j s.2).2.2.2.1,w,false),(fF i f st x j s.2).2.2.2.2):=by unfold bA sS;simp_all
 rw[e0];have hput:=FY h (t:=(fs++[(ae (f.1+1),(fF i f st x j s.2).2.2.1)],(fF i f st x j s.2).2.2.2.1,w,false)) hi (by rw[fK ht]);generalize hr:(fF i f st x j s.2).2.2.2.2=r;have hst:(bA s i (fs++[(ae (f.1+1),(fF i f st x j s.2).2.2.1)],(fF i f st x j s.2).2.2.2.1,w,false)).1.length=s.1.length:=cT;have hall:EffFine s K r:=by
  rw[<-hr];clear hr hput hst e0 hg;obtain⟨op,a,b⟩:=x;dsimp only at hp hj;unfold fF;dsimp only;have keep:(0<=s.2.2.2.2.2.1/\s.2.2.2.2.2.1<=K+1):=by omega
  rcases hp with rfl|rfl|rfl|rfl|rfl|rfl|rfl|rfl|rfl|rfl<;>simp only[Int.reduceEq,ace,aca]
  ·split<;>exact⟨.inr rfl,keep⟩
  ·split<;>exact⟨.inr rfl,keep⟩
  ·exact⟨.inr rfl,keep⟩
  ·exact⟨.inl ⟨_,_,rfl,by omega,by omega⟩,keep⟩
  ·exact⟨.inl ⟨_,_,rfl,by omega,by omega⟩,keep⟩
  ·exact⟨.inr rfl,keep⟩
  ·obtain⟨j1,j2⟩:=hj rfl;rw[aM (by omega) (by omega)];exact⟨.inr rfl,by grind⟩
  ·exact⟨.inr rfl,keep⟩
  ·split
   ·exact⟨.inr rfl,keep⟩
   split<;>exact⟨.inr rfl,keep⟩
  ·exact⟨.inr rfl,keep⟩
 obtain⟨ho,hc1⟩:=hall;refine Du hput rfl (λk hk=>?_) hc1 (by omega) (by rw[<-hr];exact HP hp);rcases ho with⟨x',a,h1,h2⟩|h1
 ·exact amH (t:=(s.1.set i (fs++[(ae (f.1+1),(fF i f st x j s.2).2.2.1)],(fF i f st x j s.2).2.2.2.1,w,false),r)) hput.own rfl h1 (by grind) k hk
 ·have:=hput.own k (by show k<s.2.2.2.1.length;grind);unfold nC at this|-;dsimp only;rw[h1];exact this
theorem akY(hc:bi c)(h:RunV c s [] K A N)(hs:StOk c s){x:ce}(hK:K<=10000)(hA:AtP c s i fs f st w x k pc)
  (hj:x.1=24->0<=j/\j<=1) (hto:x.1=19->¬0<(c.2.2.2.2.1.getD x.2.1.toNat ([],0)).2->0<=j/\j<(gt c s x.2.1).length) (hok:(gE c s i fs f st w x j).2.2.1=true) (ho:bO (gE c s i fs f st w x j).2.2.2<0) :
  RunV c (gE c s i fs f st w x j).2.2.2 (gE c s i fs f st w x j).1 (K+1) A (N+1):=by
 have hi:=fc hA.t;have hcl:=h.cl;have hput:∀(fr:List Fr) (st':List Int),RunV c (bA s i (fr,st',w,false)) [(i:Int)] K A N:=λfr st'=>FY h hi (by rw[fK hA.t]);unfold gE at *;by_cases h18:x.1=18
 ·rw[if_pos h18]at *;unfold uE at *;by_cases h5:5<=dP s s.1.length
  ·rw[if_pos h5]at hok;cases hok
  rw[if_neg h5];have hq:=hput (fs++[(ae (f.1+1),f.2)]) st;have hl:dP (oK s i fs f st w) (oK s i fs f st w).1.length<=dP s s.1.length:=by
   rw[show(oK s i fs f st w).1.length=s.1.length from cT];refine pQ _ λk _ hk=>?_;by_cases e:k=i
   ·rw[e,fK hA.t]at hk;cases hk
   ·unfold oK;rw[nV e];exact hk
  have hn:=amc (s:=oK s i fs f st w) hq (by omega) x.2.1;rw[show(oK s i fs f st w).1.length=s.1.length from cT]at hn;exact mz hn (by omega) (by omega) (by omega)
 rw[if_neg h18]at *;by_cases h19:x.1=19
 ·rw[if_pos h19]at *;unfold mJ at *;by_cases hz:st.length=0
  ·rw[if_pos hz]at hok;cases hok
  rw[if_neg hz]at *;dsimp only at *;by_cases hcap:0<(c.2.2.2.2.1.getD x.2.1.toNat ([],0)).2
  ·rw[if_pos hcap]at *;exact mz (Du (hput (fs++[(ae (f.1+1),f.2)]) (st.take (st.length-1))) rfl (hput (fs++[(ae (f.1+1),f.2)]) (st.take (st.length-1))).own hcl (by omega) rfl) (by omega) (by omega) (by omega)
  ·rw[if_neg hcap]at *;obtain⟨q,gs,g,tt,tw,y,q1,q2,hq⟩:=C6 hc hs hA h19 (hto h19 hcap);rw[q1,aaR];refine mz (FY (hput (fs++[(ae (f.1+1),f.2)]) (st.take (st.length-1))) (by rw[cT];exact q2) ?_) (by omega) (by omega) (by omega);rw[nV hq.ne]
 rw[if_neg h19]at *;by_cases hp:jl x.1
 ·rw[if_pos hp]at *;exact mz (aai h hK hA.t hp hj hok) (by omega) (by omega) (by omega)
 ·rw[if_neg hp]at *;unfold ul at *;dsimp only at *;by_cases h0:i=0
  ·rw[if_pos h0]at ho;exact absurd ho (by show¬(0:Int)<0;omega)
  ·rw[if_neg h0];exact mz (am4 h hi h0) (by omega) (by omega) (by omega)
theorem UL(c:CC)(kind:Int)(i:Nat)(h:0<=bO s):(bR c kind i s).1=s:=by
 have e:db c kind i 64 s=(true,s):=by unfold db;rw[if_pos h]
 unfold bR;rw[e,if_neg (λhh=>absurd hh.2 (by show¬bO s<0;omega))]
theorem Ds(c:CC)(kind:Int):∀(l:List Int) {s:aF},0<=bO s->(cu c kind l s).1=s
 |[],s,h=>rfl
 |z::l,s,h=>by show(cu c kind l (bR c kind z.toNat s).1).1=s;rw[UL c kind _ h];exact Ds c kind l h
theorem Rr{c:CC}(hc:bi c)(kind:Int):∀{l:List Int} {s:aF} {K A N:Int},CanRun c l s->RunV c s l K A N->K<=10000->A+6401*l.length<=1000000000->bO (cu c kind l s).1<0 ->
  RunV c (cu c kind l s).1 [] K (A+6401*l.length) N
 |[],s,K,A,N,hcan,h,hK,hA,ho=>mz h (by omega) (by simp) (by omega)
 | z::l,s,K,A,N,hcan,h,hK,hA,ho=>by
  obtain⟨n,rfl,hr⟩:=hcan.run z (aaQ ..);have hnx:=C2 hc kind hcan;rw[aaR]at hnx;have ho':bO (cu c kind l (bR c kind n s).1).1<0:=ho;have ho2:bO (bR c kind n s).1<0:=by
   rcases alJ (bO (bR c kind n s).1) 0 with h1|h1
   ·exact h1
   ·rw[Ds c kind l h1]at ho';exact ho'
  rw[acn]at hA|-;have:=Rr hc kind hnx (Hk hc kind hcan.g hr h hK (by omega) ho2) hK (by omega) ho';exact mz this (by omega) (by omega) (by omega)
structure Idle(c:CC)(s:aF):Prop where
 g:GoodS c s
 v:bO s<0->RunV c s [] (20*(65-s.2.2.2.2.2.2.1)) (20000*(65-s.2.2.2.2.2.2.1)) 65/\1<=s.2.2.2.2.2.2.1/\0<(eP c s).length/\(s.2.2.2.2.2.2.2.2.1 = -1\/s.2.2.2.2.2.2.2.2.1∈eP c s)
theorem adQ(hc:bi c)(h:Idle c s)(ho:bO s<0):gO c s=some 0:=by
 obtain⟨hg,hv⟩:=h;obtain⟨v,f1,l1,hp⟩:=hv ho;obtain⟨k,err,v1,v3⟩:=zi c hc.2.2.2;have herr:err=0:=by
  rcases v3 with⟨h,_⟩|⟨_,h,_⟩|⟨_,_,h,_⟩|⟨_,_,_,h⟩
  ·have:=hc.1;omega
  ·exact absurd hc.2.1 h
  ·exact absurd hc.2.2.1 h
  ·exact h
 subst herr;have n1:=v.n1;have n2:=v.n;have hsh:uY c s:=⟨⟨n1,by omega⟩,v.own,λk hk=>v.so k hk (by simp),v.live⟩
 obtain⟨b1,p1,p2⟩:=Mo hc hg.ok hg.sm;have hb:b1=true:=p2.2 hsh;subst hb;have hlo:=hg.lo;unfold bO at ho hlo;have hcl:=v.cl;have hst:=v.st;have hal:=v.al;have hwa:=v.wa;have hwh:=v.wh;have hel:(eP c s).length<=1048576:=akB (qH _ _) hg.ok.n;have h0:ac s.1 0=some (bK s 0):=cL (mN n1);unfold gO;dsimp only;rw[v1];simp only[f7,Qz2,adj,aax,p1,acd,abR,f9,yX,zr];rw[hwh,bN (show¬(((s.2.2.2.2.2.1<0\/1048576<s.2.2.2.2.2.1)\/s.2.2.2.2.2.2.1<0)\/64<s.2.2.2.2.2.2.1)by omega),bN (show¬(((((s.2.2.2.2.2.2.2.1.1<0\/s.2.2.2.2.2.2.2.1.2.1<0)\/s.2.2.2.2.2.2.2.1.2.2<0)\/(0:Int)<0)\/s.2.2.2.2.2.2.2.2.2.1 < -1)\/4<s.2.2.2.2.2.2.2.2.2.1)by omega),bN (show¬(0:Int)<=s.2.2.2.2.2.2.2.2.2.1 by omega),bf (show¬s.2.2.2.2.2.2.1=0 by omega)];have hl1:(((eP c s).length:Int)==0)=false:=bf (by omega);simp only[hl1,acM,adj,acd,abR,f9,aax,f7,Qz2,BC hc hg.ok,h0,v.t0];rcases hp with hp|hp
 ·rw[nf hp];rfl
 ·by_cases hq:s.2.2.2.2.2.2.2.2.1 = -1
  ·rw[nf hq];rfl
  ·rw[nt hq];simp only[f9,aax,aqp _ hel,f7,Qz2,az hp];rfl
theorem y7(hc:bi c)(he:pT e)(h:Idle c s)(ho:bO s<0):dG c e s=some 0/\GoOn c s:=by
 obtain⟨v,v2,v3⟩:=D6 hc e h.g.ok h.g.sm ⟨h.g.lo,h.g.hi⟩;have hv:dG c e s=some 0:=by unfold dG;obtain⟨b,b2,b3⟩:=Dr e;rw[adQ hc h ho,b2,b3.2 he];unfold bO at ho;simp only[f7,Qz2,adj,aax,acd,bN (show¬(0:Int)<=s.2.2.2.2.2.2.2.2.2.1 by omega)]
 rw[hv]at v2;injection v2 with v2;subst v2;exact⟨hv,(v3 rfl).2.1⟩
theorem akr(hc:bi c)(he:pT e)(h:Idle c s)(ho:bO s<0):iH c e s=some (gQ c e s,0):=by obtain⟨r2,hg⟩:=y7 hc he h ho;unfold iH;rw[r2];simp only[f7,Qz2,adj,aax,uZ hc e [] hg]
theorem aad(hc:bi c)(e:ce)(h:GoOn c s):0<(gQ c e s).2.2.2.length:=by
 unfold gQ;split
 ·rename_i h1;simp only[adk];omega
 ·obtain⟨k,w1,w2,w3⟩:=EM h;obtain⟨fs,f,st,w,ht,hr⟩:=ET h.ok w2 w3;obtain⟨p,hpn,hO,hx⟩:=D0 hc h.ok w2 (by rw[ht]);rw[hx]at hO;rw[w1,aaR];unfold kB;dsimp only;split
  ·rename_i h23;obtain⟨g1,g2⟩:=hO.2.2.2.2.2.2.2.2.1 h23;simp only[adk];omega
  split
  ·rename_i h1;simp only[adk];omega
  split
  ·simp
  split<;>simp
theorem PK(h24:(fE c (bK s k)).1=24)(hj:0<=j/\j<((kB c e s k).2.2.2.length:Int)):0<=j/\j<=1:=by
 unfold kB at hj;dsimp only at hj;rw[if_neg (by omega),if_neg (by omega)]at hj;split at hj
 ·simp at hj;omega
 rw[if_neg (by omega)]at hj;simp at hj;omega
theorem XY(hc:bi c)(e:ce)(h:Idle c s)(ho:bO s<0){x:ce}(hm:Moves c e s j i fs f st w x)(hj:x.1=24->0<=j/\j<=1) :
  Idle c (ud c e s i (gE c (cX s (-1)) i fs f st w x j)).1:=by
 obtain⟨v,f1,l1,hp⟩:=h.v ho;refine⟨(Gp hc e hm).2.1,λho2=>?_⟩;have hd:=yT hc (nu hm.gs (-1)) (show(cX s (-1)).1.length<=70 by have:=hm.n;show s.1.length<=70;omega) hm.can hm.run hm.hq;obtain⟨k,pc,hA⟩:=hm.can.at_;have v':RunV c (cX s (-1)) [] (20*(65-s.2.2.2.2.2.2.1)) (20000*(65-s.2.2.2.2.2.2.1)) 65:=⟨v.n1,v.n,v.fu,v.own,v.so,v.wk,akI (pQ (s:=s) (t:=cX s (-1)) s.1.length λk _ h=>h) v.live,v.cl,v.st,v.al,v.wa,v.wh,v.t0⟩
 have n1:=v.n1;have n2:=v.n;have hrun:=akY hc v' hm.can.ok (by omega) hA hj hm.can.to;have hfu:(gE c (cX s (-1)) i fs f st w x j).2.2.2.2.2.2.2.2.2.1=s.2.2.2.2.2.2.1/\(gE c (cX s (-1)) i fs f st w x j).2.2.2.2.2.2.2.2.2.2.2.1 = -1:=by
  unfold gE;split
  ·unfold uE;split<;>exact⟨rfl,rfl⟩
  split
  ·unfold mJ;dsimp only;split
   ·exact⟨rfl,rfl⟩
   split<;>exact⟨rfl,rfl⟩
  split
  ·rename_i hpl;have e1:=HP (i:=i) (f:=f) (st:=st) (k:=j) (r:=(cX s (-1)).2) hpl;unfold pn sS;dsimp only;split<;>exact⟨aba (λr=>r.1) e1,aba (λr=>r.2.2.1) e1⟩
  ·unfold ul;dsimp only;split<;>exact⟨rfl,rfl⟩
 generalize gE c (cX s (-1)) i fs f st w x j=q at *;unfold ud at *;cases hok:q.2.2.1
 ·rw[hok]at ho2;simp only[ady,aca]at ho2;rw[mF]at ho2;omega
 rw[hok]at ho2;simp only[ace]at ho2|-;have hl:=hd.left hok;have hcan:CanRun c q.1 (lB q.2.2.2):=⟨wG hl.g,λz hz=>by obtain⟨n,rfl,fs',f',st',w',h1,h2⟩:=hl.run z hz;exact⟨n,rfl,fs',f',st',w',h1,h2⟩,hl.nd⟩
 have ho3:bO (cu c e.1 q.1 (lB q.2.2.2)).1<0:=by
  rcases alJ (bO (cu c e.1 q.1 (lB q.2.2.2)).1) 0 with h1|h1
  ·exact h1
  ·unfold dZ at ho2;rw[if_pos h1]at ho2;exact ho2
 have ho4:bO q.2.2.2<0:=by
  rcases alJ (bO q.2.2.2) 0 with h1|h1
  ·exact h1
  ·rw[Ds c e.1 q.1 (s:=lB q.2.2.2) h1]at ho3;exact ho3
 have ht:=ae4 (hrun hok ho4) (by rw[hfu.1];exact f1) (by rw[hfu.1];omega) (by omega) (by omega);have htwo:=hl.two;have ha:=Rr hc e.1 hcan ht (by omega) (by omega) ho3;obtain⟨s1,s2,s3,s4⟩:=EB ha ho2;have hk:=(G4 c e.1 q.1 (lB q.2.2.2)).2;have ef:(dZ c (cu c e.1 q.1 (lB q.2.2.2)).1).2.2.2.2.2.2.1=s.2.2.2.2.2.2.1-1:=by rw[s4,hk.1];show ae (q.2.2.2.2.2.2.2.2.2.1-1)=_;rw[hfu.1];exact aM (by omega) (by omega)
 refine⟨mz s1 (by omega) (by omega) (by omega),s2,s3,.inl ?_⟩;rw[s4,hk.2];exact hfu.2
structure Steps1(c:CC)(e:ce)(s:aF)(j:Int)(t:aF)(v:List bW):Prop where
 r:eG c e s j=some (t,v,0)
 i:Idle c t
theorem aq9(hc:bi c)(he:pT e)(h:Idle c s)(ho:bO s<0)(hj:0<=j/\j<((gQ c e s).2.2.2.length:Int)):∃t v,Steps1 c e s j t v:=by
 obtain⟨r2,hg⟩:=y7 hc he h ho;by_cases hp:s.2.2.2.2.2.2.2.2.1<0/\1<(eP c s).length
 ·have hP:gQ c e s=(0,-1,-1,List.replicate (eP c s).length 1):=by unfold gQ;rw[if_pos hp]
  rw[hP]at hj;dsimp only at hj;rw[adk]at hj;have hx:ac (eP c s) j=some ((eP c s).getD j.toNat 0):=bH 0 hj.1 hj.2;have hm:(eP c s).getD j.toNat 0∈eP c s:=eE 0 (by omega);have hI:Idle c (cX s ((eP c s).getD j.toNat 0)):=⟨nu h.g _,λ_=>by obtain⟨v,f1,l1,_⟩:=h.v ho;exact⟨⟨v.n1,v.n,v.fu,v.own,v.so,v.wk,akI (pQ (s:=s) (t:=cX s ((eP c s).getD j.toNat 0)) s.1.length λk _ h=>h) v.live,v.cl,v.st,v.al,v.wa,v.wh,v.t0⟩,f1,l1,.inr hm⟩⟩
  refine⟨cX s ((eP c s).getD j.toNat 0),[],?_,hI⟩;unfold eG;rw[r2];simp only[f7,Qz2,adj,aax,uX s h.g.sm,uZ hc e [] hg,hP,adk];rw[zr,bN (by omega),az (show(-1:Int)<0 by omega)];simp only[aax,f9,BC hc h.g.ok,f7,Qz2,hx];rfl
 ·obtain⟨i,fs,f,st,w,x,hm⟩:=LW hc e h.g r2 hg hp hj;obtain⟨d2,d3,d4⟩:=Gp hc e hm;obtain⟨k,pc,hA⟩:=hm.can.at_;have h24:x.1=24->0<=j/\j<=1:=λhx=>by
   obtain⟨p,p1,p3,p4,p5⟩:=hm.pt;rw[uZ hc e [] hg]at p1;injection p1 with p1;subst p1;have hwho:gQ c e s=kB c e s i:=by
    have:gQ c e s=kB c e s (AP c s).toNat:=by unfold gQ;rw[if_neg hp]
    rw[this,zL]at p3;rw[this];congr 1;omega
   rw[hwho]at p5;refine PK (k:=i) ?_ ⟨p4,p5⟩;rw[fK hm.t];have:=hA.x;unfold fE;rw[fH,show f.1.toNat=pc by have:=hA.pc1;omega,this];exact hx
  exact⟨_,_,d2,XY hc e h ho hm h24⟩
theorem asc(s:aF)(hs:dN s)(hi:i<s.1.length)(z:py):Itr.it (jx s ((i:Int),z)) (0,([]:List Fr),(s.1.getD i ([],[],0,false)).2)=some (s.1.getD i ([],[],0,false)):=by
 obtain⟨h1,h2,h3⟩:=hs.2.1 _ (eE ([],[],0,false) hi);have et:=aO (([],[],0,false):Th) hi;generalize s.1.getD i ([],[],0,false)=t at *;exact eC (f:=jx s ((i:Int),z)) (λy=>t.1.length-y.1.toNat) (λ_=>t) (λy=>∃k:Nat,y=((k:Int),t.1.take k,t.2)/\k<=t.1.length)
  (λy hy=>by
   obtain⟨k,rfl,hk⟩:=hy;unfold jx;rcases abL k t.1.length with hlt|hge
   ·right;refine⟨(((k+1:Nat):Int),t.1.take (k+1),t.2),?_,⟨k+1,rfl,by omega⟩,by grind,rfl⟩;simp only[et,f7,Qz2,az (show(k:Int)<(t.1.length:Int)by omega),f9,aO (0,[]) hlt,bM (n:=t.1.length) (by omega) hlt,jh (0,[]) hlt];rw[dz (aT (by grind) (by omega))];rfl
   ·left;grind) (s:=(0,[],t.2)) ⟨0,rfl,by omega⟩ (by grind)
theorem ase(s:aF)(hs:dN s)(z:py)(hz:z.1=[]):Itr.it (jA s) (0,z)=some (s.1,z.2):=by
 have h1:=hs.1;refine eC (f:=jA s) (λy=>s.1.length-y.1.toNat) (λ_=>(s.1,z.2)) (λy=>∃i:Nat,y=((i:Int),s.1.take i,z.2)/\i<=s.1.length)
  (λy hy=>by
   obtain⟨i,rfl,hi⟩:=hy;unfold jA;rcases abL i s.1.length with hlt|hge
   ·right;refine⟨(((i+1:Nat):Int),s.1.take (i+1),z.2),?_,⟨i+1,rfl,by omega⟩,by grind,rfl⟩;have e2:aH (s.1.take i).length ([s.1.getD i ([],[],0,false)]:List Th).length 64=true:=aT (by grind) (by omega);have e3:=asc s hs hlt (s.1.take i,z.2);simp only[az (show(i:Int)<(s.1.length:Int)by omega),f9,aO ([],[],0,false) hlt,f7];refine(aba (λo:Option Th=>(o.bind λs10=>af (aH (s.1.take i).length ([s10]:List Th).length 64) (some (s.1.take i++([s10]:List Th),z.2))).bind λs3=>(some (Sum.inl (ae ((i:Int)+1),s3)):Option (xQ⊕py))) e3).trans ?_;simp only[f7,Qz2,af,e2,f9,bM (n:=s.1.length) (by omega) hlt,jh ([],[],0,false) hlt];rfl
   grind) ⟨0,?_,by omega⟩ (by grind)
 grind
theorem anR(s:aF)(hs:dN s):dS s=some s:=by unfold dS;rw[uX s hs];simp only[f7,Qz2];rw[ase s hs _ rfl];rfl
theorem T2(hc:bi c)(e:ce)(l:List qc):GoodS c (pF c e l):=by
 obtain⟨r1,r2,r3⟩:=Aw hc l;have hg:GoodS c (hZ c l):=⟨Ju hc l,r3,(by show(-1:Int)<=-1;omega),(by show(-1:Int)<=4;omega)⟩
 exact CG (rz hc e.1 hg r1).1
def C0(i:Int)(s:aF):xQ:=(i,s.1,s.2.1,s.2.2.1,s.2.2.2.1,s.2.2.2.2.1,s.2.2.2.2.2.1,s.2.2.2.2.2.2.1,s.2.2.2.2.2.2.2.1.1,s.2.2.2.2.2.2.2.1.2.1,s.2.2.2.2.2.2.2.1.2.2,s.2.2.2.2.2.2.2.2)
theorem Wd(hc:bi c)(e:ce)(l:List qc):Idle c (pF c e l):=by
 obtain⟨r1,r2,r3⟩:=Aw hc l;have hg:GoodS c (hZ c l):=⟨Ju hc l,r3,(by show(-1:Int)<=-1;omega),(by show(-1:Int)<=4;omega)⟩
 refine⟨T2 hc e l,λho=>?_⟩;have h0:RunV c (hZ c l) [((0:Nat):Int)] 0 0 65:=by
  refine⟨by simp[hZ],by simp[hZ],by simp[hZ],λk hk=>?_,λk hk hL=>?_,λk hk=>?_,by simp[hZ,dP,bK],by simp[hZ],by simp[hZ],by simp[hZ],by simp[hZ],rfl,rfl⟩
  ·have:(hZ c l).2.2.2.1.getD k 0 = -1:=by
    have hk':k<c.2.2.2.2.2.1.length:=by simpa[hZ]using hk
    simp[hZ,abq,hk']
   unfold nC;rw[this];simp[hZ]
  ·have:k=0:=by simpa[hZ]using hk
   subst this;exact absurd (aaH.2 rfl) hL
  ·have:k=0:=by simpa[hZ]using hk
   subst this;exact⟨afY _,by show(0:Int)<=0+10;omega⟩
 have ho1:bO (bR c e.1 0 (hZ c l)).1<0:=by
  rcases alJ (bO (bR c e.1 0 (hZ c l)).1) 0 with h1|h1
  ·exact h1
  ·unfold pF dZ at ho;rw[if_pos h1]at ho;exact ho
 have hq:=Hk hc e.1 hg r1 h0 (by omega) (by omega) ho1;obtain⟨s1,s2,s3,s4⟩:=EB hq ho;have h6:=(Cs c e.1 0 (hZ c l)).2;have ef:(pF c e l).2.2.2.2.2.2.1=64:=by unfold pF;rw[s4,h6.1];rfl
 refine⟨?_,s2,s3,.inl ?_⟩
 ·rw[ef];exact mz s1 (by omega) (by omega) (by omega)
 ·unfold pF;rw[s4,h6.2];rfl
theorem amM(a b:Int):bj .or .u32 a b=bj .or .u32 b a:=by unfold bj;grind
theorem xor_comm(a b:Int):bj .xor .u32 a b=bj .xor .u32 b a:=by unfold bj;grind
def qf(x k:Int):Int:=bj .or .u32 (d9 .u32 x k) (oz .u32 x (32-k))
theorem xu{x k r:Int}(h:bj .and .u64 (IntKind.u64.wrap (-k)) 31=r)(h0:0<=r)(h1:r<=32)(hk:k=32-r):bV x (-k)=some (qf x k):=by
 unfold bV qf;have e:IntKind.u64.wrap (32-r)=32-r:=by rw[IntKind.wrap_u64];omega
 rw[h,e,az h0,az (show 0<=32-r by omega),amM,hk,show(32:Int)-(32-r)=r by omega];rfl
theorem LY{x k:Int}(h0:0<=k)(h1:k<=32):cH x k=some (qf x k):=by unfold cH qf;rw[aM (x:=32-k) (by omega) (by omega),az h0,az (show 0<=32-k by omega)];rfl
def VL(x i j k:Int):Int:=bj .xor .u32 (bj .xor .u32 (qf x i) (qf x j)) (qf x k)
theorem asg(x:Int):qU x 6 11 25=some (VL x 6 11 25):=by unfold qU;rw[show ae (0-6) = -6 from aM (by omega) (by omega),show ae (0-11) = -11 from aM (by omega) (by omega),show ae (0-25) = -25 from aM (by omega) (by omega),xu (k:=6) (r:=26) (by decide +kernel) (by omega) (by omega) rfl,xu (k:=11) (r:=21) (by decide +kernel) (by omega) (by omega) rfl,xu (k:=25) (r:=7) (by decide +kernel) (by omega) (by omega) rfl];rfl
theorem asw(x:Int):qU x 2 13 22=some (VL x 2 13 22):=by unfold qU;rw[show ae (0-2) = -2 from aM (by omega) (by omega),show ae (0-13) = -13 from aM (by omega) (by omega),show ae (0-22) = -22 from aM (by omega) (by omega),xu (k:=2) (r:=30) (by decide +kernel) (by omega) (by omega) rfl,xu (k:=13) (r:=19) (by decide +kernel) (by omega) (by omega) rfl,xu (k:=22) (r:=10) (by decide +kernel) (by omega) (by omega) rfl];rfl
theorem mP{A R S:Type}{f:S->Option (S⊕R)}(mk:Int->A->S)(a n:Nat)(g:A->Nat->A)(h:A->R)(I:Nat->A->Prop)(ha:a<=n)(hn:n<9223372036854775808)
  (hstep:∀(i:Nat) (x:A),a<=i->i<n->I i x->f (mk i x)=some (.inl (mk ((i:Int)+1) (g x i)))/\I (i+1) (g x i)) (hend:∀x,I n x->f (mk n x)=some (.inr (h x))) {x:A} (hx:I a x) :
  Itr.it f (mk a x)=some (h ((List.range' a (n-a)).foldl g x))/\I n ((List.range' a (n-a)).foldl g x):=by
 have gen:∀(j:Nat) (i:Nat) (x:A),a<=i->i+j=n->I i x->I n ((List.range' i j).foldl g x):=by
  intro j;induction j with
  |zero=>grind
  |succ j ih=>intro i x hai hi hI;exact ih (i+1) _ (by omega) (by omega) (hstep i x hai (by omega) hI).2
 refine⟨?_,gen (n-a) a x (by omega) (by omega) hx⟩;have key:=Ql (f:=f) (λi x=>mk (i+a) x) (List.range' a (n-a)) g h (λi x=>I (a+i) x) (by grind)
  (λi k x hk hI=>by
   grind)
  (λx hI=>by
   grind) (a:=x) hx
 grind
theorem BG{a b:Int}(ha:0<=a)(hb:0<=b)(hb2:b<2 ^ k)(h:a*2 ^ k+b<4294967296):bj .or .u32 (a*2 ^ k) b=a*2 ^ k+b:=by
 obtain⟨A,rfl⟩:=alQ ha;obtain⟨B,rfl⟩:=alQ hb;have hB:B<2 ^ k:=by grind
 have hc:((A:Int)*2 ^ k)=((A*2 ^ k:Nat):Int):=by push_cast;rfl
 have hn:A*2 ^ k+B<4294967296:=by grind
 rw[hc];have:=Go.u32_or ((A*2 ^ k:Nat):Int) (B:Int) (by omega) (by omega) (by omega) (by omega);refine Eq.trans this ?_;rw[aaR,aaR,<-Nat.shiftLeft_eq,<-Nat.shiftLeft_add_eq_or_of_lt hB];grind
theorem Vt{x:Int}(hk:k<=32)(h0:0<=x)(h:x*2 ^ k<4294967296):oz .u32 x (k:Int)=x*2 ^ k:=by
 have h2:0<=x*2 ^ k:=Int.mul_nonneg h0 (Int.le_of_lt (Int.pow_pos (by omega)));have e:min (k:Int).toNat 32=k:=by grind
 show IntKind.u32.wrap (x*2 ^ (min (k:Int).toNat 32))=_;rw[e,IntKind.wrap_u32'];grind
def jM(b:List Int)(n:Nat):Prop:=b.length=n/\∀x∈b,0<=x/\x<256
theorem va(h:jM b n)(hi:i<n):0<=b.getD i 0/\b.getD i 0<256:=h.2 _ (by rw[abq,abB (by rw[h.1];exact hi)];grind)
def aa5(b:List Int)(t:Nat):Int:=((b.getD (4*t) 0*256+b.getD (4*t+1) 0)*256+b.getD (4*t+2) 0)*256+b.getD (4*t+3) 0
def arB(w:List Int)(t:Nat):Int:=
 IntKind.u32.wrap (IntKind.u32.wrap (IntKind.u32.wrap (w.getD (t-16) 0+bj .xor .u32 (bj .xor .u32 (qf (w.getD (t-15) 0) 7) (qf (w.getD (t-15) 0) 18)) (d9 .u32 (w.getD (t-15) 0) 3))+w.getD (t-7) 0)+bj .xor .u32 (bj .xor .u32 (qf (w.getD (t-2) 0) 17) (qf (w.getD (t-2) 0) 19)) (d9 .u32 (w.getD (t-2) 0) 10))
def pG(b w:List Int)(t:Nat):List Int:=cz 64 0 w t (if t<16 then aa5 b t else arB w t)
def E8(b:List Int):List Int:=(List.range' 0 64).foldl (pG b) []
theorem adN{b0 b1 b2 b3:Int}(h0:0<=b0/\b0<256)(h1:0<=b1/\b1<256)(h2:0<=b2/\b2<256)(h3:0<=b3/\b3<256) :
  bj .or .u32 (bj .or .u32 (bj .or .u32 (oz .u32 (IntKind.u32.wrap b0) 24) (oz .u32 (IntKind.u32.wrap b1) 16)) (oz .u32 (IntKind.u32.wrap b2) 8)) (IntKind.u32.wrap b3)=((b0*256+b1)*256+b2)*256+b3:=by
 have w:∀x:Int,0<=x/\x<256->IntKind.u32.wrap x=x:=λx hx=>by rw[IntKind.wrap_u32'];omega
 rw[w b0 h0,w b1 h1,w b2 h2,w b3 h3];have e0:oz .u32 b0 24=b0*2 ^ 24:=Vt (k:=24) (by omega) h0.1 (by omega);have e1:oz .u32 b1 16=b1*2 ^ 16:=Vt (k:=16) (by omega) h1.1 (by omega);have e2:oz .u32 b2 8=b2*2 ^ 8:=Vt (k:=8) (by omega) h2.1 (by omega);rw[e0,e1,e2,BG (k:=24) h0.1 (by omega) (by omega) (by omega),show b0*2 ^ 24+b1*2 ^ 16=(b0*256+b1)*2 ^ 16 by omega,BG (k:=16) (by omega) (by omega) (by omega) (by omega),
  show(b0*256+b1)*2 ^ 16+b2*2 ^ 8=((b0*256+b1)*256+b2)*2 ^ 8 by omega,BG (k:=8) (by omega) (by omega) (by omega) (by omega)]
 rfl
theorem Zf{x b:Int}(h0:0<=x)(hx:x<16777216)(h1:0<=b/\b<256):bj .or .u32 (oz .u32 x 8) (IntKind.u32.wrap b)=x*256+b:=by rw[show IntKind.u32.wrap b=b by rw[IntKind.wrap_u32'];omega,show oz .u32 x 8=x*2 ^ 8 from Vt (k:=8) (by omega) h0 (by omega),BG (k:=8) h0 h1.1 (by omega) (by omega)];rfl
theorem aoK(hb:jM b 64){t:Nat}(ht:t<16)(w:List Int):ib b ((t:Int),w)=some (.inl ((t:Int)+1,pG b w t)):=by
 have hl:=hb.1;have ix:∀j:Nat,j<4->ac b ((4*t+j:Nat):Int)=some (b.getD (4*t+j) 0):=λj hj=>aO 0 (by omega);have e4:ae (4*(t:Int))=((4*t:Nat):Int):=by rw[aM (by omega) (by omega)];omega
 have e41:ae (((4*t:Nat):Int)+1)=((4*t+1:Nat):Int):=by rw[aM (by omega) (by omega)];omega
 have e42:ae (((4*t:Nat):Int)+2)=((4*t+2:Nat):Int):=by rw[aM (by omega) (by omega)];omega
 have e43:ae (((4*t:Nat):Int)+3)=((4*t+3:Nat):Int):=by rw[aM (by omega) (by omega)];omega
 have i0:ac b ((4*t:Nat):Int)=some (b.getD (4*t) 0):=aO 0 (by omega);unfold ib pG;simp only[az (show(t:Int)<16 by omega),f9,e4,e41,e42,e43,i0,ix 1 (by omega),ix 2 (by omega),ix 3 (by omega),f7,Qz2,af,az (show(0:Int)<=24 by omega),az (show(0:Int)<=16 by omega),az (show(0:Int)<=8 by omega),az (show 0<=(t:Int)/\(t:Int)<64 by omega),
  adN (va hb (show 4*t<64 by omega)) (va hb (show 4*t+1<64 by omega)) (va hb (show 4*t+2<64 by omega)) (va hb (show 4*t+3<64 by omega)),aM (x:=(t:Int)+1) (by omega) (by omega),aaR,if_pos ht]
 rfl
theorem an8{t:Nat}(h16:16<=t)(ht:t<64)(b w:List Int):ij ((t:Int),w)=some (.inl ((t:Int)+1,pG b w t)):=by
 have e:∀j:Nat,j<=16->ae ((t:Int)-(j:Int))=((t-j:Nat):Int):=λj hj=>by rw[aM (by omega) (by omega)];omega
 have d:∀j:Nat,j<=16->0<j->(0<=((t-j:Nat):Int)/\((t-j:Nat):Int)<64):=λj hj _=>by omega
 have e15:=e 15 (by omega);have e2:=e 2 (by omega);have e16:=e 16 (by omega);have e7:=e 7 (by omega);unfold ij pG;simp only[az (show(t:Int)<64 by omega),f9,show ae ((t:Int)-15)=((t-15:Nat):Int)from e15,show ae ((t:Int)-2)=((t-2:Nat):Int)from e2,show ae ((t:Int)-16)=((t-16:Nat):Int)from e16,show ae ((t:Int)-7)=((t-7:Nat):Int)from e7,
  af,az (d 15 (by omega) (by omega)),az (d 2 (by omega) (by omega)),az (d 16 (by omega) (by omega)),az (d 7 (by omega) (by omega)),az (show(0:Int)<=3 by omega),az (show(0:Int)<=10 by omega),az (show 0<=(t:Int)/\(t:Int)<64 by omega),
  LY (k:=7) (by omega) (by omega),LY (k:=18) (by omega) (by omega),LY (k:=17) (by omega) (by omega),LY (k:=19) (by omega) (by omega),f7,Qz2,aM (x:=(t:Int)+1) (by omega) (by omega),aaR,if_neg (show¬t<16 by omega)]
 rfl
theorem aby(hb:jM b 64):jD b=some (E8 b):=by unfold jD;have h1:=(mP (f:=ib b) (λi x=>(i,x)) 0 16 (λw t=>pG b w t) (λx=>x) (λ_ _=>True) (by omega) (by omega) (λi x _ hi _=>⟨aoK hb hi x,trivial⟩) (λx _=>by rfl) (x:=[]) trivial).1;have h2:=λw=>(mP (f:=ij) (λi x=>(i,x)) 16 64 (λw t=>pG b w t) (λx=>x) (λ_ _=>True) (by omega) (by omega) (λi x hi hi2 _=>⟨an8 hi hi2 b x,trivial⟩) (λx _=>by rfl) (x:=w) trivial).1;refine(aba (λo:Option (List Int)=>o.bind _) h1).trans ?_;simp only[f7,Qz2];refine(aba (λo:Option (List Int)=>o.bind _) (h2 _)).trans ?_;simp only[f7,Qz2];rw[<-alf];rfl
end Go.Proofs.YtfhhiajfciblbaaGreatDoor
