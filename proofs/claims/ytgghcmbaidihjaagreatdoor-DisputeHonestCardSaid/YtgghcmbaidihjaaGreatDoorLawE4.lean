/- Laws for the row. No condition. -/
import Derived.Test.YtgghcmbaidihjaaGreatDoorLawS3
import Derived.Test.YtgghcmbaidihjaaGreatDoorExtT
import Derived.Test.YtgghcmbaidihjaaGreatDoorLawS8
import Derived.Laws.BitsAllLaws
namespace Go.Proofs.YtgghcmbaidihjaaGreatDoor
open Go.Sm
abbrev A3:Type:=Int×Int×Bool
def jo(a:A3):Prop:=0<=a.1/\a.1<1099511627776/\0<=a.2.1/\a.2.1<1099511627776
def jp(a b:A3):Bool:=decide (a.1<b.1)||(a.1==b.1&&decide (a.2.1<b.2.1))
theorem aok{a b:A3}(ha:jo a)(hb:jo b):∃n:Int,dM a b=some n/\decide (n<0)=jp a b:=by
 obtain⟨h1,h2,h3,h4⟩:=ha;obtain⟨g1,g2,g3,g4⟩:=hb;by_cases h:a.1=b.1
 ·have e:dM a b=some (ac (a.2.1-b.2.1)):=by
   unfold dM;grind
  grind[jp,aD]
 ·have e:dM a b=some (ac (a.1-b.1)):=by
   unfold dM;grind
  grind[jp,aD]
def jq(x:A3):List A3->List A3
 |[]=>[x]
 |y::r=>if jp x y then y::jq x r else x::y::r
theorem EZ(pre:List A3)(x:A3)(rest:List A3){i:Int}(h:i=(pre.length:Int)):ae (pre++x::rest) i=some x:=by subst h;unfold ae;simp
theorem Zn{n:Nat}{d0:List A3}{pre rest:List A3}{x:A3}(hs:∀a∈pre++x::rest,jo a)(hn:(pre++x::rest).length=n)(h12:n<=12) :
  ∃r,Itr.it (dr (d0,0,(n:Int)) 0) ((pre.length:Int),pre++x::rest)=some r/\r=(jq x pre.reverse).reverse++rest:=by
 obtain⟨R,hR⟩:∃R,R=(jq x pre.reverse).reverse++rest:=⟨_,rfl⟩
 rw[<-hR];refine fj (λs=>s.1.toNat) (λs=>∃pre x rest,s=((pre.length:Int),pre++x::rest)/\R=(jq x pre.reverse).reverse++rest/\(∀a∈pre++x::rest,jo a)/\(pre++x::rest).length=n) (λr=>r=R) ?_ ⟨pre,x,rest,rfl,hR,hs,hn⟩ (by grind);rintro s ⟨pre,x,rest,rfl,hR,hs,hn⟩;rcases akJ pre with rfl|⟨pre',y,rfl⟩
 ·left;refine⟨x::rest,rfl,?_⟩;rw[hR];rfl
 ·rw[akQ]at *;have hlen:pre'.length+rest.length+2=n:=by grind
  have hj:(((pre'++[y]).length:Nat):Int)=(pre'.length:Int)+1:=by simp
  have hw:ac ((pre'.length:Int)+1-1)=(pre'.length:Int):=by rw[aD (by omega) (by omega)];omega
  have e0:ae ((pre'++[y])++x::rest) (0+((pre'.length:Int)+1))=some x:=EZ _ _ _ (by simp);have e1:ae ((pre'++[y])++x::rest) (0+(pre'.length:Int))=some y:=by grind[List.append_assoc,EZ]
  obtain⟨m,hm,hlt⟩:=aok (hs x (by simp)) (hs y (by simp));have c1:decide ((0:Int)<(pre'.length:Int)+1)=true:=ad1 (by omega);have c2:decide ((0:Int)<=(pre'.length:Int)+1/\(pre'.length:Int)+1<(n:Int)-0)=true:=ad1 (by omega);have c3:decide ((0:Int)<=(pre'.length:Int)/\(pre'.length:Int)<(n:Int)-0)=true:=ad1 (by omega);rw[hj];have hR':R=(jq x (y::pre'.reverse)).reverse++rest:=by rw[hR];simp
  unfold dr;simp only[c1,c2,c3,hw,e0,e1,hm,hlt,ah,Ze,acF,Bool.or_true,f8];cases hxy:jp x y
  ·left;grind[jq]
  ·right;have s1:((pre'++[y])++x::rest).set (0+((pre'.length:Int)+1)).toNat y=pre'++y::y::rest:=by
    grind
   have e2:ae (pre'++y::y::rest) (0+(pre'.length:Int))=some y:=EZ _ _ _ (by simp);have s2:(pre'++y::y::rest).set (0+(pre'.length:Int)).toNat x=pre'++x::y::rest:=by simp_all
   refine⟨((pre'.length:Int),pre'++x::y::rest),?_,⟨pre',x,y::rest,rfl,?_,?_,by simp;omega⟩,by simp⟩
   ·grind
   ·rw[hR',jq,if_pos hxy];simp
   grind
theorem rF(x:A3):∀l:List A3,(jq x l).Perm (x::l)
 |[]=>ali _
 |y::r=>by
  unfold jq;split
  ·exact(List.Perm.cons y (rF x r)).trans (List.Perm.swap ..)
  grind
theorem Gf{x y:A3}(h:jp x y=true):jp y x=false:=by unfold jp at h|-;grind
theorem Dl{x y z:A3}(h:jp x y=false)(k:jp y z=false):jp x z=false:=by unfold jp at h k|-;grind
theorem y8(x:A3):∀l:List A3,l.Pairwise (λa b=>jp a b=false)->(jq x l).Pairwise (λa b=>jp a b=false)
 |[],_=>by simp[jq]
 | y::r,h=>by
  obtain⟨h1,h2⟩:=acB.1 h;unfold jq;split
  ·rename_i hxy;refine acB.2 ⟨λz hz=>?_,y8 x r h2⟩;rcases aaa.1 ((rF x r).mem_iff.1 hz)with rfl|hz
   ·exact Gf hxy
   grind
  ·rename_i hxy;have hxy:jp x y=false:=by grind
   refine acB.2 ⟨λz hz=>?_,h⟩;rcases aaa.1 hz with rfl|hz
   ·exact hxy
   ·exact Dl hxy (h1 z hz)
theorem akM{n:Nat}{d:List A3}(hs:∀a∈d,jo a)(hn:d.length=n)(h12:n<=12) :
  ∃r,cP (d,0,(n:Int)) 0 n=some r/\r.Perm d/\r.reverse.Pairwise (λa b=>jp a b=false):=by
 unfold cP;refine fj (λs:Int×List A3=>(n+1-s.1.toNat)) (λs:Int×List A3=>s.2.Perm d/\(∃S rest:List A3,s.2=S++rest/\S.reverse.Pairwise (λa b=>jp a b=false)/\((s.1=(S.length:Int))\/(s.1=1/\n=0)))) (λr:List A3=>r.Perm d/\r.reverse.Pairwise (λa b=>jp a b=false)) ?_ ⟨ali _,?_⟩ (by grind)
 ·rintro⟨i,data⟩ ⟨hp,S,rest,hd,hS,hi⟩;simp only at hp hd hi;subst hd;have hl:=hp.length_eq;simp only[ZD]at hl;unfold fg;cases rest with
  |nil=>
   grind
  |cons x rest=>
   right;simp only[aaG]at hl;have hi':i=(S.length:Int):=by omega
   subst hi';obtain⟨r,hr,rfl⟩:=Zn (n:=n) (d0:=d) (pre:=S) (x:=x) (rest:=rest) (λa ha=>hs a (hp.mem_iff.1 ha)) (by grind) h12;refine⟨((S.length:Int)+1,(jq x S.reverse).reverse++rest),?_,⟨?_,(jq x S.reverse).reverse,rest,rfl,by simpa using y8 x _ hS,.inl ?_⟩,?_⟩
   ·grind[decide,decide_eq_true,aD]
   ·grind[jq,trans,List.reverse_perm,rF]
   ·have:=(rF x S.reverse).length_eq;grind
   grind
 ·cases d with
  |nil=>exact⟨[],[],rfl,List.Pairwise.nil,.inr ⟨(by rfl),by grind⟩⟩
  |cons x r=>exact⟨[x],r,rfl,by simp,.inl (by rfl)⟩
theorem yW:∀{l1 l2:List A3},l1.Perm l2->l1.Pairwise (λa b=>jp b a=false)->l2.Pairwise (λa b=>jp b a=false)->(∀a∈l1,∀b∈l1,jp a b=false->jp b a=false->a=b)->l1=l2
 |[],l2,hp,_,_,_=>(List.Perm.nil_eq hp)
 |a::r1,[],hp,_,_,_=>by simp_all
 |a::r1,b::r2,hp,h1,h2,hd=>by
  obtain⟨p1,q1⟩:=acB.1 h1;obtain⟨p2,q2⟩:=acB.1 h2;have hab:a=b:=by have hb:b∈a::r1:=hp.mem_iff.2 (by simp);grind
  subst hab;rw[yW ((List.perm_cons a).1 hp) q1 q2 λx hx y hy=>hd x (Zf _ hx) y (Zf _ hy)]
theorem aeo:∀k:Fin 13,(oK (IntKind.u64.wrap ((k.val:Int)-0))).isSome=true:=by decide
theorem ach{d:List A3}(hs:∀a∈d,jo a)(h12:d.length<=12) :
  ∃r,bZ (d,0,(d.length:Int))=some r/\r.Perm d/\r.reverse.Pairwise (λa b=>jp a b=false):=by
 obtain⟨r,hr,hp,hq⟩:=akM hs rfl h12;have hb:=aeo ⟨d.length,by omega⟩;obtain⟨m,hm⟩:=ad6.1 hb;refine⟨r,?_,hp,hq⟩;have hm':oK (IntKind.u64.wrap ((d.length:Int)-0))=some m:=hm;have hpdq:dI (d,0,(d.length:Int)) 0 ((d.length:Int)-0) m=some r:=by unfold dI;obtain⟨r',h1,rfl⟩:=fj (f:=dZ (d,0,(d.length:Int))) (λ_=>0) (λs=>s=((0:Int),(d.length:Int)-0,m,true,true)) (λx=>x=r) (λs hs=>.inl (by grind[dZ,decide,decide_eq_true,aD])) rfl (by decide);exact h1
 unfold bZ;grind
theorem Mn(a b:A3):Ds a b = !(jp b a):=by unfold Ds jp;grind
theorem wH(x:A3):∀l:List A3,(vc x l).Perm (x::l)
 |[]=>ali _
 |y::r=>by
  unfold vc;cases Ds x y
  ·exact(List.Perm.cons y (wH x r)).trans (List.Perm.swap ..)
  grind
theorem zB:∀l:List A3,(BC l).Perm l
 |[]=>ali _
 |x::r=>(wH x _).trans (List.Perm.cons x (zB r))
theorem zb(x:A3):∀l:List A3,l.Pairwise (λa b=>jp b a=false)->(vc x l).Pairwise (λa b=>jp b a=false)
 |[],_=>by simp[vc]
 | y::r,h=>by
  obtain⟨h1,h2⟩:=acB.1 h;unfold vc;cases hxy:Ds x y
  ·rw[Mn]at hxy;refine acB.2 ⟨λz hz=>?_,zb x r h2⟩;rcases aaa.1 ((wH x r).mem_iff.1 hz)with rfl|hz
   ·exact Gf (by grind)
   grind
  ·rw[Mn]at hxy;have hxy:jp y x=false:=by grind
   refine acB.2 ⟨λz hz=>?_,h⟩;rcases aaa.1 hz with rfl|hz
   ·exact hxy
   ·exact Dl (h1 z hz) hxy
theorem xu:∀l:List A3,(BC l).Pairwise (λa b=>jp b a=false)
 |[]=>List.Pairwise.nil
 |x::r=>zb x _ (xu r)
abbrev rh(p:A3×Bool):A3:=(p.1.1,p.1.2.1,p.2)
theorem Ar:∀{es:List (A3×Bool)},sE es=true->∀a∈es.map rh,jo a
 |[],_,a,h=>by cases h
 |p::r,ho,a,h=>by
  simp only[sE,Y5,acK]at ho;rcases aaa.1 h with rfl|h
  ·exact ho.1.1
  ·exact Ar ho.2 a h
theorem F4{x:A3}{l:List (A3×Bool)}(h:D9 x l=true):∀a∈l.map rh,¬(a.1=x.1/\a.2.1=x.2.1):=λa ha=>by obtain⟨p,hp,rfl⟩:=ZA.1 ha;have:=Zy.1 h p hp;grind
theorem BZ:∀{es:List (A3×Bool)},sE es=true->∀a∈es.map rh,∀b∈es.map rh,a.1=b.1->a.2.1=b.2.1->a=b
 |[],_,a,h=>by cases h
 | p::r,ho,a,ha=>by
  intro b hb h1 h2;simp only[sE,Y5,acK]at ho;rcases aaa.1 ha with rfl|ha
  ·rcases aaa.1 hb with rfl|hb
   ·rfl
   ·exact absurd ⟨h1.symm,h2.symm⟩ (F4 ho.1.2 b hb)
  ·rcases aaa.1 hb with rfl|hb
   ·exact absurd ⟨h1,h2⟩ (F4 ho.1.2 a ha)
   ·exact BZ ho.2 a ha b hb h1 h2
instance instSortLaw:SortLaw:=⟨λes d ho hp=>by
 unfold qu at ho
 obtain⟨h12,ho⟩:=Bool.and_eq_true_iff.1 ho
 have h12:=Zh h12
 have hl:d.length<=12:=by have:=hp.length_eq;simp at this;omega
 obtain⟨r,hr,hrp,hrs⟩:=ach (λa ha=>Ar ho a (hp.mem_iff.1 ha)) hl
 rw[hr]
 congr 1
 have hpp:r.Perm (es.map rh):=hrp.trans hp
 refine yW (hpp.trans (zB _).symm) (by simpa[List.pairwise_reverse]using hrs) (xu _) λa ha b hb h1 h2=>?_
 refine BZ ho a (hpp.mem_iff.1 ha) b (hpp.mem_iff.1 hb) ?_ ?_
 ·unfold jp at h1 h2
  simp only[abW,akC,akg,aej]at h1 h2
  omega
 ·unfold jp at h1 h2
  simp only[abW,akC,akg,aej]at h1 h2
  omega⟩
set_option linter.unusedVariables false
set_option maxRecDepth 4000
def bN:List lu->Int->Int->Option Bool
 |[],_,_=>none
 |y::r,k,o=>if y.1=k/\y.2.1=o then some y.2.2 else bN r k o
def ltK(a b:lu):Prop:=a.1<b.1\/(a.1=b.1/\a.2.1<b.2.1)
instance (a b:lu):Decidable (ltK a b):=by unfold ltK;infer_instance
def Fb(L:List lu)(k o:Int):Option Bool:=if L.any (λa=>decide (a.1=k/\a.2.1=o))=true then some (L.any λa=>decide (a.1=k/\a.2.1=o)&&a.2.2)else none
theorem acP(L:List lu)(x:lu)(k o:Int):Fb (L++[x]) k o=if x.1=k/\x.2.1=o then some ((Fb L k o).getD false||x.2.2)else Fb L k o:=by unfold Fb;grind
structure MapOk(m:List ((Int×Int×Bool)×Bool)):Prop where
 key:∀p∈m,p.1.2.2=false
 ne:m.Pairwise λp q=>¬(p.1.1=q.1.1/\p.1.2.1=q.1.2.1)
theorem WT(x:lu)(q:Int×Int×Bool)(hq:q.2.2=false):af.eqD (x.1,x.2.1,false) q=decide (q.1=x.1/\q.2.1=x.2.1):=by grind[TC.eqD]
theorem acv{m:List ((Int×Int×Bool)×Bool)}(h:∀p∈m,p.1.2.2=false)(x:lu):cZ af (.sc .bool) (x.1,x.2.1,false) m=bN (m.map rh) x.1 x.2.1:=by
 unfold cZ;induction m with
 |nil=>rfl
 |cons p r ih=>
  grind[bN,List.mem_cons_self,List.mem_cons_of_mem,WT]
theorem Fw{x:lu}{b:Bool}{z:(Int×Int×Bool)×Bool}:∀{m:List ((Int×Int×Bool)×Bool)},z∈cF af (.sc .bool) (x.1,x.2.1,false) b m->z=((x.1,x.2.1,false),b)\/z∈m
 |[],h=>.inl (ZK.1 h)
 | p::r,h=>by
  unfold cF at h;unfold yR at h;cases hq:af.eqD (x.1,x.2.1,false) p.1
  ·rw[hq]at h;rcases aaa.1 h with h|h
   ·grind
   ·rcases Fw h with h|h
    ·exact .inl h
    grind
  grind
theorem Qu(x:lu)(b:Bool):∀{m:List ((Int×Int×Bool)×Bool)},MapOk m->MapOk (cF af (.sc .bool) (x.1,x.2.1,false) b m)/\(∀k o,bN ((cF af (.sc .bool) (x.1,x.2.1,false) b m).map rh) k o=if x.1=k/\x.2.1=o then some b else bN (m.map rh) k o)/\(cF af (.sc .bool) (x.1,x.2.1,false) b m).length<=m.length+1
 |[],_=>⟨⟨λp hp=>by rcases ZK.1 hp with rfl;rfl,List.pairwise_singleton _ _⟩,λk o=>rfl,Z0 _⟩
 | p::r,h=>by
  obtain⟨h1,h2⟩:=acB.1 h.ne;have hp:=h.key p (ZO ..);have ih:=Qu x b (m:=r) ⟨λq hq=>h.key q (Zf _ hq),h2⟩;have e:cF af (.sc .bool) (x.1,x.2.1,false) b (p::r)=bif decide (p.1.1=x.1/\p.1.2.1=x.2.1)then((x.1,x.2.1,false),b)::r else p::cF af (.sc .bool) (x.1,x.2.1,false) b r:=by rw[<-WT x p.1 hp];rfl
  rw[e];by_cases hk:p.1.1=x.1/\p.1.2.1=x.2.1
  ·rw[ad1 hk];refine⟨⟨λq hq=>?_,acB.2 ⟨λq hq=>by grind,h2⟩⟩,λk o=>?_,by simp⟩
   ·rcases aaa.1 hq with rfl|hq
    ·rfl
    ·exact h.key q (Zf _ hq)
   grind[bN]
  ·rw[decide_eq_false hk];refine⟨⟨λq hq=>?_,acB.2 ⟨λq hq=>?_,ih.1.ne⟩⟩,λk o=>?_,by grind⟩
   ·rcases aaa.1 hq with rfl|hq
    ·exact hp
    ·exact ih.1.key q hq
   ·rcases Fw hq with rfl|hq
    ·exact hk
    grind
   grind[bN,cF,bool]
theorem acp(x:lu){m:List ((Int×Int×Bool)×Bool)}(h:MapOk m):MapOk (cv m x)/\(∀k o,bN ((cv m x).map rh) k o=if x.1=k/\x.2.1=o then some ((bN (m.map rh) k o).getD false||x.2.2)else bN (m.map rh) k o)/\(cv m x).length<=m.length+1:=by unfold cv;rw[acv h.key x];grind[bN,Qu]
theorem Es:∀(L M:List lu) {m:List ((Int×Int×Bool)×Bool)},MapOk m->m.length<=M.length->(∀k o,bN (m.map rh) k o=Fb M k o)->MapOk (L.foldl cv m)/\(L.foldl cv m).length<=(M++L).length/\∀k o,bN ((L.foldl cv m).map rh) k o=Fb (M++L) k o
 |[],M,m,h1,h3,h2=>by grind
 |x::L,M,m,h1,h3,h2=>by obtain⟨a,b,c⟩:=acp x h1;have:=Es L (M++[x]) (m:=cv m x) a (by grind) (λk o=>by rw[b k o,acP,h2]);grind
set_option linter.unusedSimpArgs false
theorem GG(P:Int->Int->Prop):∀(L:List lu) {m:List ((Int×Int×Bool)×Bool)},(∀p∈m,P p.1.1 p.1.2.1)->(∀a∈L,P a.1 a.2.1)->∀p∈L.foldl cv m,P p.1.1 p.1.2.1
 |[],m,h1,_=>h1
 | x::L,m,h1,h2=>GG P L (m:=cv m x) (λp hp=>by
   rcases Fw hp with rfl|hp
   ·grind
   grind) λa ha=>h2 a (Zf _ ha)
theorem Gj:∀{m:List ((Int×Int×Bool)×Bool)},MapOk m->(∀p∈m,0<=p.1.1/\p.1.1<1099511627776/\0<=p.1.2.1/\p.1.2.1<1099511627776)->sE m=true
 |[],_,_=>rfl
 |p::r,h,hk=>by
  obtain⟨h1,h2⟩:=acB.1 h.ne;unfold sE;rw[ad1 (hk p (ZO ..)),Gj ⟨λq hq=>h.key q (Zf _ hq),h2⟩ λq hq=>hk q (Zf _ hq)];have:D9 p.1 r=true:=by unfold D9;grind
  grind
theorem apx{L:List lu}(hk:∀a∈L,jo a)(hn:L.length<=12):qu (L.foldl cv [])=true:=by obtain⟨m1,m2,m3⟩:=Es L [] (m:=[]) ⟨λp hp=>(by cases hp),List.Pairwise.nil⟩ (Z0 _) (λk o=>rfl);unfold qu;rw[Gj m1 (GG (λa b=>0<=a/\a<1099511627776/\0<=b/\b<1099511627776) L (λp hp=>by cases hp) hk),ahn];rw[abx]at m2;exact aah (by omega)
structure GoodS(c:CC)(s:aB):Prop where
 ok:StOk c s
 sm:ly s
 lo : -1<=aU s
 hi:aU s<=4
theorem agL{c:CC}(hc:bw c){s:aB}(hs:StOk c s):∀l∈s.2.2.1,l.length<=1048575:=by intro l hl;obtain⟨j,hj,rfl⟩:=afL hl;have h1:=hs.cap j (by rw[<-hs.fit.qs];exact hj);rw[aav,ZB hj,aeQ]at h1;have h2:=hc.2.1.2.2.2;have:=(h2 j (by rw[<-hs.fit.qs];exact hj)).2;omega
theorem uN{c:CC}(hc:bw c){s q:aB}(hs:GoodS c s){i:Nat}(hi:i<s.1.length){fs:List Fr}{f:Fr}{st:List Int}{w:Int}(h1:q.1=s.1.set i (fs++[f],st,w,false))(hr:Run1 c fs f st)
  (h2:q.2.1.length=s.2.1.length) (h3:q.2.2.1.length=s.2.2.1.length) (h4:q.2.2.2.1.length=s.2.2.2.1.length) (h5:q.2.2.2.2.1.length=s.2.2.2.2.1.length) (h6:aU q=aU s)
  (hcap:∀j,j<c.2.2.2.2.1.length->((q.2.2.1.getD j []).length:Int)<=(c.2.2.2.2.1.getD j ([],0)).2):GoodS c q/\oM c q i:=by
 obtain⟨hs,hsm,o1,o2⟩:=hs;have hq:StOk c q:=⟨by rw[h1];simpa using hs.n,λt ht=>by
  rw[h1]at ht;rcases ab2 ht with ht|rfl
  ·exact hs.th t ht
  ·exact .inr ⟨rfl,fs,f,rfl,hr⟩,⟨by rw[h2];exact hs.fit.1,by rw[h3];exact hs.fit.2,by rw[h4];exact hs.fit.3,by rw[h5];exact hs.fit.4⟩,hcap⟩
 refine⟨⟨hq,?_,by grind,by grind⟩,fs,f,st,w,by grind,hr⟩;obtain⟨h1',h2',h3',h4',h5',h6',h7'⟩:=hsm;refine⟨by grind,λt ht=>?_,by grind,by grind,λl hl=>by have:=agL hc hq l hl;omega,by grind,by grind⟩;rw[h1]at ht;rcases ab2 ht with ht|rfl
 ·exact h2' t ht
 ·have:=hr.n;have:=hr.m;exact⟨by grind,by grind,λg hg=>by have:=zR hc (hr.fr g hg);omega⟩
theorem aaV(q:List (List Int))(a j:Nat):((q.set a ((q.getD a []).drop 1)).getD j []).length<=(q.getD j []).length:=by grind
structure EffOk(f:Fr)(x:bM)(r:yP)(q:List lu×Bool×List Int×List Int×yP):Prop where
 lo:q.2.2.1.length=f.2.length
 st:q.2.2.2.1.length<=16
 v:q.2.2.2.2.1.length=r.1.length
 qn:q.2.2.2.2.2.1.length=r.2.1.length
 qj:∀j,(q.2.2.2.2.2.1.getD j []).length<=(r.2.1.getD j []).length
 ow:q.2.2.2.2.2.2.1.length=r.2.2.1.length
 fi:q.2.2.2.2.2.2.2.1.length=r.2.2.2.1.length
 out:q.2.2.2.2.2.2.2.2.2.2.2.2.1=r.2.2.2.2.2.2.2.2.1
 an:q.1.length<=1
 ak:∀a∈q.1,0<=a.1/\a.1<5/\(a.2.1=x.2.1/\(x.1≠23/\x.1≠24/\x.1≠25)\/a.2.1=0)
theorem ajM{i:Nat}{f:Fr}{st:List Int}{x:bM}{k:Int}{r:yP}(hop:ia x.1)(hm:st.length<=16):EffOk f x r (gn i f st x k r):=by
 obtain⟨op,a,b⟩:=x;have ht:(st.take (st.length-1)).length<=16:=by grind
 unfold gn;dsimp only;rcases hop with h|h|h|h|h|h|h|h|h|h
 ·dsimp only at h;subst h;simp only[aaL];split
  ·exact⟨rfl,hm,rfl,rfl,λj=>Z0 _,rfl,rfl,rfl,Z0 _,λz hz=>by grind⟩
  ·exact⟨rfl,by grind,rfl,rfl,λj=>Z0 _,rfl,rfl,rfl,Z0 _,λz hz=>by grind⟩
 ·dsimp only at h;subst h;simp only[Int.reduceEq,aaS,aaL];split
  ·exact⟨rfl,hm,rfl,rfl,λj=>Z0 _,rfl,rfl,rfl,Z0 _,λz hz=>by grind⟩
  ·exact⟨rfl,ht,aa1,rfl,λj=>Z0 _,rfl,rfl,rfl,Z0 _,λz hz=>by grind⟩
 ·dsimp only at h;subst h;simp only[Int.reduceEq,aaS,aaL];exact⟨aa1,hm,rfl,aa1,λj=>aaV _ _ _,rfl,rfl,rfl,Z0 _,λz hz=>by grind⟩
 ·dsimp only at h;subst h;simp only[Int.reduceEq,aaS,aaL];exact⟨rfl,hm,rfl,rfl,λj=>Z0 _,aa1,rfl,rfl,Z0 _,λz hz=>by grind⟩
 ·dsimp only at h;subst h;simp only[Int.reduceEq,aaS,aaL];exact⟨rfl,hm,rfl,rfl,λj=>Z0 _,aa1,rfl,rfl,Z0 _,λz hz=>by grind⟩
 ·dsimp only at h;subst h;simp only[Int.reduceEq,aaS,aaL];exact⟨aa1,hm,rfl,rfl,λj=>Z0 _,rfl,rfl,rfl,aen _,λz hz=>by cases hz⟩
 ·dsimp only at h;subst h;simp only[Int.reduceEq,aaS,aaL];exact⟨aa1,hm,rfl,rfl,λj=>Z0 _,rfl,rfl,rfl,Z0 _,λz hz=>by grind⟩
 ·dsimp only at h;subst h;simp only[Int.reduceEq,aaS,aaL];exact⟨rfl,hm,rfl,rfl,λj=>Z0 _,rfl,rfl,rfl,Z0 _,λz hz=>by grind⟩
 ·dsimp only at h;subst h;simp only[Int.reduceEq,aaS,aaL];split
  ·exact⟨rfl,hm,rfl,rfl,λj=>Z0 _,rfl,rfl,rfl,Z0 _,λz hz=>by grind⟩
  ·split
   ·exact⟨rfl,ht,rfl,rfl,λj=>Z0 _,rfl,aa1,rfl,Z0 _,λz hz=>by grind⟩
   ·exact⟨rfl,ht,rfl,rfl,λj=>Z0 _,rfl,rfl,rfl,Z0 _,λz hz=>by grind⟩
 ·dsimp only at h;subst h;simp only[Int.reduceEq,aaS,aaL];exact⟨aa1,hm,rfl,rfl,λj=>Z0 _,rfl,rfl,rfl,Z0 _,λz hz=>by grind⟩
structure Left(c:CC)(s:aB)(q:wV):Prop where
 g:GoodS c q.2.2.2
 n:q.2.2.2.1.length<=s.1.length+1
 run:∀z∈q.1,∃n:Nat,z=(n:Int)/\oM c q.2.2.2 n
 nd:q.1.Nodup
 two:q.1.length<=2
structure Does(c:CC)(s:aB)(q:wV):Prop where
 an:q.2.1.length<=2
 ak:∀a∈q.2.1,jo a
 left:q.2.2.1=true->Left c s q
theorem yJ{c:CC}(hc:bw c){s:aB}{i:Nat}{fs:List Fr}{f:Fr}{st:List Int}{w:Int}{x:bM}{k pc:Nat}(h:AtP c s i fs f st w x k pc)(hr:Run1 c fs f st)(h13:x.1≠13)(h28:x.1≠28){l st':List Int}(hl:l.length=f.2.length)(hm:st'.length<=16):Run1 c fs (ac (f.1+1),l) st' :=
 ⟨hr.n,hm,λg hg=>by
  rcases aad.1 hg with hg|hg
  ·exact hr.fr g (aad.2 (.inl hg))
  ·rcases ZK.1 hg with rfl;rw[h.pc1];exact QL hc h.pc2 h.pr (by rw[h.x];exact h13) (by rw[h.x];exact h28) (by rw[hl];exact h.lo)⟩
theorem kH{k o:Int}{b:Bool}(h1:0<=k)(h2:k<10)(h3:0<=o)(h4:o<=1048577):jo (k,o,b):=⟨h1,(by grind),h3,(by grind)⟩
theorem ad4{op:Int}(h:ia op):op≠13/\op≠28:=by unfold ia at h;omega
theorem Ug{c:CC}(hc:bw c){s:aB}(hs:GoodS c s){i:Nat}{fs:List Fr}{f:Fr}{st:List Int}{w:Int}{x:bM}{j:Int}{k pc:Nat}(hA:AtP c s i fs f st w x k pc)(hr:Run1 c fs f st)(hp:ia x.1):Does c s (mw s i fs f st w x j):=by
 have hE:=ajM (i:=i) (f:=f) (k:=j) (r:=s.2) hp hr.m;unfold mw tj;dsimp only;generalize gn i f st x j s.2=q at *;obtain⟨e1,e2,e3,e4,e5,e6,e7,e8,e9,e10⟩:=hE;obtain⟨q1,q2,q3,q4,q5⟩:=q;dsimp only at *;have hF:=hc.2.2.1 k pc hA.pc2 hA.pr;rw[hA.x]at hF;obtain⟨⟨h0,_⟩,_,o1,o2,o3,o4,o5,o6,o7,o8,o9,o10,o11,o12⟩:=hF;obtain⟨z1,z2,z3,z4,z5,z6,z7⟩:=hc.2.2.2;refine⟨(by grind),λa ha=>?_,λhg=>?_⟩
 ·obtain⟨a1,a2,a3⟩:=e10 a ha;have hb:0<=a.2.1/\a.2.1<=1048577:=by
   rcases a3 with⟨a3,n23,n24,n25⟩|a3
   ·rw[a3];rcases hp with h|h|h|h|h|h|h|h|h|h
    ·obtain⟨g1,g2⟩:=o6 (.inl h);omega
    ·obtain⟨g1,g2⟩:=o6 (.inr h);omega
    ·obtain⟨g1,g2⟩:=o7 (.inr h);omega
    ·obtain⟨g1,g2⟩:=o8 (.inl h);omega
    ·obtain⟨g1,g2⟩:=o8 (.inr h);omega
    ·grind
    ·grind
    ·grind
    ·obtain⟨g1,g2⟩:=o11 (.inl h);omega
    ·obtain⟨g1,g2⟩:=o11 (.inr h);omega
   grind
  exact⟨a1,(by omega),hb.1,(by omega)⟩
 ·have hi:=dl hA.t;have h13:=ad4 hp;have hn:=yJ hc hA hr h13.1 h13.2 e1 e2;rw[if_pos hg];obtain⟨g1,g2⟩:=uN hc hs (q:=(s.1.set i (fs++[(ac (f.1+1),q3)],q4,w,false),q5)) hi rfl hn e3 e4 e6 e7 e8 (λy hy=>by
   have:=e5 y;have h2:=hs.ok.cap y hy;grind)
  have hp:cg (s.1.set i (fs++[(f.1,q3)],q4,w,false),q5) i (fs++[(ac (f.1+1),q3)],q4,w,false)=(s.1.set i (fs++[(ac (f.1+1),q3)],q4,w,false),q5):=by unfold cg;simp_all
  rw[hp];exact⟨g1,by grind,λz hz=>by grind,by simp,by simp⟩
theorem ajs{c:CC}(hc:bw c){s:aB}(hs:GoodS c s)(hn65:s.1.length<=70){i:Nat}{fs:List Fr}{f:Fr}{st:List Int}{w:Int}{x:bM}{k pc:Nat}(hA:AtP c s i fs f st w x k pc)(hr:Run1 c fs f st)(h18:x.1=18):Does c s (sN c s i fs f st w x.2.1):=by
 have hF:=hc.2.2.1 k pc hA.pc2 hA.pr;rw[hA.x]at hF;obtain⟨⟨h0,_⟩,_,o1,o2,o3,o4,o5,o6,o7,o8,o9,o10,o11,o12⟩:=hF;obtain⟨p1,p2⟩:=o3 (.inr h18);have hi:=dl hA.t;unfold sN;by_cases h5:5<=eA s s.1.length
 ·rw[if_pos h5];exact⟨by simp,λa ha=>by grind[List.mem_singleton,kH],λh=>by cases h⟩
 rw[if_neg h5];refine⟨by simp,λa ha=>?_,λ_=>?_⟩
 ·rcases aaa.1 ha with rfl|ha
  ·exact kH (by omega) (by omega) (by omega) (by omega)
  grind[List.mem_singleton,kH]
 ·have hn:=yJ hc hA hr (by omega) (by omega) (l:=f.2) rfl hr.m;obtain⟨g1,fs',f',st',w',g2,g3⟩:=uN hc hs (q:=mR s i fs f st w) hi rfl hn rfl rfl rfl rfl rfl hs.ok.cap;have hl:(mR s i fs f st w).1.length=s.1.length:=cA;have hfc:=Fz hc (a:=x.2.1.toNat) (by omega);have hnew:Run1 c [] (c.2.1.getD x.2.1.toNat 0,List.replicate (c.2.2.1.getD x.2.1.toNat 0).toNat 0) []:=⟨by simp,by simp,λg hg=>by grind⟩
  have hss:GoodS c ((mR s i fs f st w).1++[ti c x.2.1],(mR s i fs f st w).2):=by
   obtain⟨⟨q1,q2,q3,q4⟩,⟨u1,u2,u3⟩,u4,u5⟩:=g1;refine⟨⟨by grind,λt ht=>?_,⟨q3.1,q3.2,q3.3,q3.4⟩,q4⟩,⟨by grind,λt ht=>?_,u3⟩,u4,u5⟩
   ·rcases aad.1 ht with ht|ht
    ·exact q2 t ht
    ·rcases ZK.1 ht with rfl;exact .inr ⟨rfl,[],_,rfl,hnew⟩
   ·rcases aad.1 ht with ht|ht
    ·exact u2 t ht
    ·rcases ZK.1 ht with rfl;refine⟨by simp[ti],by simp[ti],λg hg=>?_⟩;rcases ZK.1 hg with rfl;have:=zR hc hfc;grind
  refine⟨hss,by grind,λz hz=>?_,?_,by simp⟩
  ·rcases aaa.1 hz with rfl|hz
   ·refine⟨s.1.length,rfl,[],_,[],0,?_,hnew⟩;show((mR s i fs f st w).1++[ti c x.2.1])[s.1.length]?=_;rw[<-hl];simp[ti]
   ·rcases ZK.1 hz with rfl;refine⟨i,rfl,fs',f',st',w',?_,g3⟩;grind
  grind
theorem WQ{c:CC}(hc:bw c){s:aB}(hs:GoodS c s){i:Nat}{fs:List Fr}{f:Fr}{st:List Int}{w:Int}{x:bM}{k pc:Nat}{j:Int}(hA:AtP c s i fs f st w x k pc)(hr:Run1 c fs f st)(h19:x.1=19)
  (hj:¬0<(c.2.2.2.2.1.getD x.2.1.toNat ([],0)).2->0<=j/\j<(hU c s x.2.1).length) (hq:0<(c.2.2.2.2.1.getD x.2.1.toNat ([],0)).2->((s.2.2.1.getD x.2.1.toNat []).length:Int)<(c.2.2.2.2.1.getD x.2.1.toNat ([],0)).2):Does c s (ko c s i fs f st w x.2.1 j):=by
 have hF:=hc.2.2.1 k pc hA.pc2 hA.pr;rw[hA.x]at hF;obtain⟨⟨h0,_⟩,_,o1,o2,o3,o4,o5,o6,o7,o8,o9,o10,o11,o12⟩:=hF;obtain⟨p1,p2⟩:=o7 (.inl h19);obtain⟨z1,z2,z3,z4,z5,z6,z7⟩:=hc.2.2.2;have hi:=dl hA.t;have h1a:jo (1,x.2.1,true):=kH (by omega) (by omega) (by omega) (by omega);unfold ko;by_cases hv:st.length=0
 ·rw[if_pos hv];exact⟨by simp,λa ha=>by grind,λh=>by cases h⟩
 rw[if_neg hv];have hn:=yJ hc hA hr (by omega) (by omega) (l:=f.2) (st':=st.take (st.length-1)) rfl (by rw[acs];have:=hr.m;omega);dsimp only;by_cases hcap:0<(c.2.2.2.2.1.getD x.2.1.toNat ([],0)).2
 ·rw[if_pos hcap];refine⟨by simp,λa ha=>by grind,λ_=>?_⟩;have hqq:=hq hcap;obtain⟨g1,g2⟩:=uN hc hs (q:=((cg s i (fs++[(ac (f.1+1),f.2)],st.take (st.length-1),w,false)).1,s.2.1,s.2.2.1.set x.2.1.toNat (s.2.2.1.getD x.2.1.toNat []++[st.getD (st.length-1) 0]),s.2.2.2)) hi rfl hn rfl aa1 rfl rfl rfl (λy hy=>by
   have h2:=hs.ok.cap y hy;simp only[aav]at *;by_cases he:x.2.1.toNat=y
   ·subst he;rw[abG (by have:=hs.ok.fit.qs;omega)];grind
   grind)
  exact⟨g1,by show(cg s i _).1.length<=_;rw[cA];omega,λz hz=>by rcases ZK.1 hz with rfl;exact⟨i,rfl,g2⟩,by simp,by simp⟩
 ·rw[if_neg hcap];obtain⟨q,gs,g,tt,tw,y,w1,w2,w3⟩:=CM hc hs.ok hA h19 (hj hcap);have hle:=hs.ok.n;rw[w1];simp only[ZH];refine⟨by simp,λa ha=>?_,λ_=>?_⟩
  ·rcases aaa.1 ha with rfl|ha
   ·exact h1a
   grind[List.mem_singleton,kH]
  ·obtain⟨g1,fs',f',st',w',g2,g3⟩:=uN hc hs (q:=cg s i (fs++[(ac (f.1+1),f.2)],st.take (st.length-1),w,false)) hi rfl hn rfl rfl rfl rfl rfl hs.ok.cap;obtain⟨k',pc',hB⟩:=w3.at_;have hop:=w3.op;have eq0:bg s q=(gs++[g],tt,tw,false):=dW w3.t;obtain⟨n,hn3⟩:∃n,n=(fF c (bg s q)).2.2.toNat:=⟨_,rfl⟩
   rw[<-hn3,eq0,fp,ak4];have hn2:=yJ hc hB w3.run (by omega) (by omega) (l:=g.2.set n (st.getD (st.length-1) 0)) aa1 w3.run.m;obtain⟨g4,g5⟩:=uN hc g1 (i:=q) (q:=cg (cg s i (fs++[(ac (f.1+1),f.2)],st.take (st.length-1),w,false)) q (gs++[(ac (g.1+1),g.2.set n (st.getD (st.length-1) 0))],tt,tw,false)) (by rw[cA];exact w2) rfl hn2 rfl rfl rfl rfl rfl g1.ok.cap;refine⟨g4,by dsimp only;rw[cA,cA];omega,λz hz=>?_,?_,by simp⟩
   ·rcases aaa.1 hz with rfl|hz
    ·grind
    ·rcases ZK.1 hz with rfl;refine⟨i,rfl,fs',f',st',w',?_,g3⟩;unfold cg;dsimp only;rw[acN w3.ne];exact g2
   ·refine al4.2 ⟨λh=>?_,by simp⟩;have:=ZK.1 h;have:=w3.ne;omega
theorem adL{c:CC}{s:aB}(hs:GoodS c s){i:Nat}:Does c s (rx s i):=by
 have hb:GoodS c (cg s i ([],[],0,true)):=by
  obtain⟨q1,⟨u1,u2,u3⟩,q3,q4⟩:=hs;refine⟨XH q1 (.inl ⟨rfl,rfl⟩),⟨by rw[cA];exact u1,λt ht=>?_,u3⟩,q3,q4⟩;rcases ab2 ht with ht|rfl
  ·exact u2 t ht
  ·exact⟨by simp,by simp,λg hg=>by cases hg⟩
 unfold rx;refine⟨by simp,λa ha=>by grind[List.mem_singleton,kH],λ_=>?_⟩;by_cases h0:i=0
 ·rw[if_pos h0];obtain⟨⟨q1,q2,q3,q4⟩,q5,q6,q7⟩:=hb;exact⟨⟨⟨q1,q2,⟨q3.1,q3.2,q3.3,q3.4⟩,q4⟩,q5,by show(-1:Int)<=0;omega,by show(0:Int)<=4;omega⟩,by show(cg s i _).1.length<=_;rw[cA];omega,λz hz=>(by cases hz),by simp,by simp⟩
 ·rw[if_neg h0];exact⟨hb,by show(cg s i _).1.length<=_;rw[cA];omega,λz hz=>(by cases hz),by simp,by simp⟩
theorem yB{c:CC}(hc:bw c){s:aB}(hs:GoodS c s)(hn65:s.1.length<=70){i:Nat}{fs:List Fr}{f:Fr}{st:List Int}{w:Int}{x:bM}{j:Int}(h:CanDo c s i fs f st w x j)(hr:Run1 c fs f st)
  (hq:x.1=19->0<(c.2.2.2.2.1.getD x.2.1.toNat ([],0)).2->((s.2.2.1.getD x.2.1.toNat []).length:Int)<(c.2.2.2.2.1.getD x.2.1.toNat ([],0)).2):Does c s (eT c s i fs f st w x j):=by
 obtain⟨k,pc,hA⟩:=h.at_;unfold eT;by_cases h18:x.1=18
 ·rw[if_pos h18];exact ajs hc hs hn65 hA hr h18
 rw[if_neg h18];by_cases h19:x.1=19
 ·rw[if_pos h19];exact WQ hc hs hA hr h19 (h.to h19) (hq h19)
 grind[ia,Ug,adL]
theorem alW{c:CC}{kind:Int}{s s':aB}{i:Nat}{fs:List Fr}{f:Fr}{st:List Int}{w:Int}{x:bM}(he:kh c kind s i fs f st w x=some s'):aU s'=aU s\/aU s'=1:=by
 unfold kh at he;dsimp only at he;by_cases n0:x.1=0
 ·rw[if_pos n0]at he;split at he<;>cases he;exact .inl rfl
 rw[if_neg n0]at he;by_cases n1:x.1=1
 ·rw[if_pos n1]at he;split at he<;>cases he;exact .inl rfl
 rw[if_neg n1]at he;by_cases n3:x.1=3
 ·rw[if_pos n3]at he;split at he<;>cases he;exact .inl rfl
 rw[if_neg n3]at he;by_cases n2:x.1=2
 ·rw[if_pos n2]at he;split at he<;>cases he;exact .inl rfl
 rw[if_neg n2]at he;by_cases n10:x.1=10
 ·rw[if_pos n10]at he;cases he;exact .inl rfl
 rw[if_neg n10]at he;by_cases n11:x.1=11
 ·rw[if_pos n11]at he;split at he<;>cases he;exact .inl rfl
 rw[if_neg n11]at he;by_cases n12:x.1=12
 ·rw[if_pos n12]at he;split at he<;>cases he;exact .inl rfl
 rw[if_neg n12]at he;by_cases n13:x.1=13
 ·rw[if_pos n13]at he;cases he;exact .inl rfl
 rw[if_neg n13]at he;by_cases n14:x.1=14
 ·rw[if_pos n14]at he;split at he<;>cases he;split
  ·exact .inr rfl
  ·exact .inl rfl
 rw[if_neg n14]at he;by_cases n15:x.1=15
 ·rw[if_pos n15]at he;cases he;exact .inl rfl
 rw[if_neg n15]at he;split at he<;>cases he;exact .inl rfl
theorem jE(c:CC)(s:aB)(i:Nat)(o:Int):aU (fA c s i o)=o:=by unfold fA;dsimp only;split<;>rfl
theorem Rx(c:CC)(kind:Int)(i:Nat):∀(m:Nat) (s:aB),-1<=aU s/\aU s<=4->-1<=aU (bT c kind i m s).2/\aU (bT c kind i m s).2<=4:=by
 intro m;induction m with
 |zero=>
  grind[bT,jE]
 | succ m ih=>
  intro s h;unfold bT;split
  ·exact h
  split
  ·exact h
  ·dsimp only;split
   ·dsimp only;rw[jE];omega
   ·rename_i s' he;refine ih s' ?_;grind[alW]
theorem Gl(c:CC)(s:aB)(i:Nat):aU (oE c s i).1=aU s:=by
 unfold oE;dsimp only;split
 ·rfl
 split
 ·dsimp only;split<;>rfl
 split<;>rfl
theorem qG{c:CC}(hc:bw c)(kind:Int){s:aB}{i:Nat}(hs:GoodS c s)(hr:oM c s i) :
  GoodS c (bh c kind i s).1/\(bh c kind i s).1.1.length=s.1.length/\(∀q,q≠i->(bh c kind i s).1.1[q]?=s.1[q]?)/\(bh c kind i s).2.length<=1/\∀a∈(bh c kind i s).2,jo a:=by
 obtain⟨b1,b2,b3⟩:=Ch hc kind hs.ok hr hs.sm;have hout:=Rx c kind i 64 s ⟨hs.lo,hs.hi⟩;obtain⟨fs,f,st,w,ht,hr⟩:=hr;obtain⟨fs',f',st',g1,g2,g3,g4⟩:=sK hc kind 64 ht hr;have ho : -1<=aU (bh c kind i s).1/\aU (bh c kind i s).1<=4:=by grind[bh,Gl]
 refine⟨⟨b1,b2,ho.1,ho.2⟩,b3,?_⟩;unfold bh;generalize bT c kind i 64 s=q at *;obtain⟨b,q⟩:=q;dsimp only at *;have ht':q.1[i]?=some (fs'++[f'],st',w,false):=by grind
 have hbase:∀j,j≠i->q.1[j]?=s.1[j]?:=λj hj=>by grind
 obtain⟨k,pc,hA⟩:=gb ht' g2;have hF:=hc.2.2.1 k pc hA.pc2 hA.pr;rw[hA.x]at hF;have hx:fF c (bg q i)=dt c f'.1.toNat:=by rw[dW ht'];unfold fF;rw[fp]
 obtain⟨z1,z2,z3,z4,z5,z6,z7⟩:=hc.2.2.2;split
 ·unfold oE;dsimp only;rw[hx];obtain⟨_,_,o1,o2,o3,o4,o5,o6,o7,o8,o9,o10,o11,o12⟩:=hF;split
  ·refine⟨λj hj=>?_,by simp,λa ha=>by grind[List.mem_singleton,kH]⟩;show(q.1.set i _)[j]?=_;grind
  split
  ·rename_i h21;obtain⟨p1,p2⟩:=o8 (.inl h21);refine⟨λj hj=>?_,by simp,λa ha=>by grind[List.mem_singleton,kH]⟩;dsimp only;split<;>exact hbase j hj
  split
  ·rename_i h20;obtain⟨p1,p2⟩:=o7 (.inr h20);grind[List.mem_singleton,kH]
  grind
 grind
def bn(c:CC)(kind:Int):List Int->aB->aB×List lu
 |[],s=>(s,[])
 |z::r,s=>((bn c kind r (bh c kind z.toNat s).1).1,(bh c kind z.toNat s).2++(bn c kind r (bh c kind z.toNat s).1).2)
structure CanRun(c:CC)(l:List Int)(s:aB):Prop where
 g:GoodS c s
 run:∀z∈l,∃n:Nat,z=(n:Int)/\oM c s n
 nd:l.Nodup
theorem ya{c:CC}(hc:bw c)(kind:Int){z:Int}{l:List Int}{s:aB}(h:CanRun c (z::l) s):CanRun c l (bh c kind z.toNat s).1:=by obtain⟨n,rfl,hr⟩:=h.run z (ZO ..);obtain⟨q1,q2,q3,q4,q5⟩:=qG hc kind h.g hr;obtain⟨d1,d2⟩:=al4.1 h.nd;refine⟨q1,λy hy=>?_,d2⟩;obtain⟨m,rfl,fs,f,st,w,h1,h2⟩:=h.run y (Zf _ hy);refine⟨m,rfl,fs,f,st,w,?_,h2⟩;grind
theorem xZ{c:CC}(hc:bw c)(kind:Int):∀{l:List Int} {s:aB},CanRun c l s->GoodS c (bn c kind l s).1/\(bn c kind l s).1.1.length=s.1.length/\(bn c kind l s).2.length<=l.length/\∀a∈(bn c kind l s).2,jo a
 |[],s,h=>⟨h.g,rfl,Z0 _,λa ha=>by cases ha⟩
 |z::l,s,h=>by
  obtain⟨n,hz,hr⟩:=h.run z (ZO ..);obtain⟨q1,q2,q3,q4,q5⟩:=qG hc kind h.g hr;obtain⟨b1,b2,b3,b4⟩:=xZ hc kind (ya hc kind h);have hz':z.toNat=n:=by omega
  unfold bn;grind
theorem ack{c:CC}(hc:bw c)(e:bM)(acc:List ((Int×Int×Bool)×Bool))(who:List Int)(ok:Bool)(r0:aO){s:aB}(hw:who.length<=1000)(h:CanRun c who s) :
  Itr.it (lO (who,ok,r0)) (fl 0 (c,e,s,acc))=some (fl 0 (c,e,(bn c e.1 who s).1,(bn c e.1 who s).2.foldl cv acc)).2:=by
 obtain⟨r,h1,h2⟩:=fj (f:=lO (who,ok,r0)) (λy=>who.length-y.1.toNat) (λy=>∃(n:Nat) (t:aB) (a:List ((Int×Int×Bool)×Bool)),y=fl (n:Int) (c,e,t,a)/\n<=who.length/\CanRun c (who.drop n) t/\(bn c e.1 (who.drop n) t).1=(bn c e.1 who s).1/\(bn c e.1 (who.drop n) t).2.foldl cv a=(bn c e.1 who s).2.foldl cv acc)
  (λr=>r=(fl 0 (c,e,(bn c e.1 who s).1,(bn c e.1 who s).2.foldl cv acc)).2)
  (λy hy=>by
   obtain⟨n,t,a,rfl,hn,hc1,e1,e2⟩:=hy;unfold lO;rcases abD n who.length with hlt|hge
   ·right;have hd:who.drop n=who.getD n 0::who.drop (n+1):=by
     simp_all
    rw[hd]at hc1 e1 e2;obtain⟨m,hz,hr⟩:=hc1.run _ (ZO ..);have hq:=QI hc e a hr hc1.g.ok.fit;have hx:=ya hc e.1 hc1;have e1:(bn c e.1 (who.drop (n+1)) (bh c e.1 (who.getD n 0).toNat t).1).1=(bn c e.1 who s).1:=e1;have e2:((bh c e.1 (who.getD n 0).toNat t).2++(bn c e.1 (who.drop (n+1)) (bh c e.1 (who.getD n 0).toNat t).1).2).foldl cv a=(bn c e.1 who s).2.foldl cv acc:=e2;have hm:(who.getD n 0).toNat=m:=by omega
    rw[hm]at hx e1 e2;rw[akx]at e2;refine⟨fl ((n+1:Nat):Int) (c,e,(bh c e.1 m t).1,(bh c e.1 m t).2.foldl cv a),?_,⟨n+1,_,_,rfl,hlt,hx,e1,e2⟩,by show who.length-((n+1:Nat):Int).toNat<who.length-((n:Nat):Int).toNat;omega⟩;have ew:ae who (n:Int)=some ((m:Nat):Int):=by rw[bk 0 hlt,hz]
    have ed:(n:Int)<(who.length:Int):=by omega
    simp only[fl,ed,aeK,Ze,ew,f8];grind[aD]
   ·left;have hnn:n=who.length:=by omega
    subst hnn;rw[aeO]at e1 e2;grind[bn,cv,fl])
  (s:=fl 0 (c,e,s,acc)) ⟨0,s,acc,rfl,by omega,h,rfl,rfl⟩ (by grind)
 rw[h1,h2]
def bP(s:aB)(p:Int):aB:=(s.1,s.2.1,s.2.2.1,s.2.2.2.1,s.2.2.2.2.1,s.2.2.2.2.2.1,s.2.2.2.2.2.2.1,s.2.2.2.2.2.2.2.1,p,s.2.2.2.2.2.2.2.2.2)
theorem lD{c:CC}{s:aB}(h:GoodS c s)(p:Int):GoodS c (bP s p):=
 ⟨⟨h.ok.n,h.ok.th,⟨h.ok.fit.1,h.ok.fit.2,h.ok.fit.3,h.ok.fit.4⟩,h.ok.cap⟩,h.sm,h.lo,h.hi⟩
def dB(s:aB):aB:=(s.1,s.2.1,s.2.2.1,s.2.2.2.1,s.2.2.2.2.1,ac (s.2.2.2.2.2.1+1),ac (s.2.2.2.2.2.2.1-1),(ac (s.2.2.2.2.2.2.2.1.1+1),s.2.2.2.2.2.2.2.1.2),s.2.2.2.2.2.2.2.2)
theorem vL{c:CC}{s:aB}(h:GoodS c s):GoodS c (dB s):=
 ⟨⟨h.ok.n,h.ok.th,⟨h.ok.fit.1,h.ok.fit.2,h.ok.fit.3,h.ok.fit.4⟩,h.ok.cap⟩,h.sm,h.lo,h.hi⟩
theorem B8{c:CC}{s:aB}(h:GoodS c s):GoodS c (cn c s):=by
 obtain⟨a,b⟩:=GT h.ok h.sm;have ho : -1<=aU (cn c s)/\aU (cn c s)<=4:=by
  unfold cn;split
  ·exact⟨h.lo,h.hi⟩
  split
  ·rw[jE];omega
  split
  ·exact⟨h.lo,h.hi⟩
  split
  ·exact⟨h.lo,h.hi⟩
  ·rw[jE];omega
 exact⟨a,b,ho.1,ho.2⟩
theorem Xe{c:CC}{s:aB}(h:GoodS c s)(i:Nat)(o:Int)(h1:0<=o)(h2:o<=4):GoodS c (fA c s i o):=by
 have ho:=jE c s i o;unfold fA at *;dsimp only at *;split at ho
 ·rename_i hh;rw[if_pos hh];exact⟨⟨h.ok.n,h.ok.th,⟨h.ok.fit.1,h.ok.fit.2,h.ok.fit.3,h.ok.fit.4⟩,h.ok.cap⟩,h.sm,by rw[ho];omega,by rw[ho];omega⟩
 ·rename_i hh;rw[if_neg hh];exact⟨⟨h.ok.n,h.ok.th,⟨h.ok.fit.1,h.ok.fit.2,h.ok.fit.3,h.ok.fit.4⟩,h.ok.cap⟩,h.sm,by rw[ho];omega,by rw[ho];omega⟩
theorem akn{c:CC}{s:aB}{i:Nat}{fs:List Fr}{f:Fr}{st:List Int}{w:Int}{x:bM}{j:Int}(h:0<s.1.length):0<(eT c s i fs f st w x j).2.2.2.1.length:=by
 unfold eT;split
 ·unfold sN;grind
 split
 ·unfold ko;split
  ·exact h
  ·dsimp only;split
   ·show 0<(cg s i _).1.length;rw[cA];exact h
   ·dsimp only;rw[cA,cA];exact h
 split
 ·unfold mw tj;dsimp only;split
  ·rw[cA];grind
  grind
 ·unfold rx;dsimp only;split
  ·show 0<(cg s i _).1.length;rw[cA];exact h
  ·rw[cA];exact h
def pW(c:CC)(e:bM)(s:aB)(i:Nat)(q:wV):aB×List lu:=
 if q.2.2.1=true then(cn c (bn c e.1 q.1 (dB q.2.2.2)).1,((5,(i:Int)+1,true)::q.2.1)++(bn c e.1 q.1 (dB q.2.2.2)).2)
 else(fA c (bP s (-1)) i 4,(5,(i:Int)+1,true)::q.2.1)
structure Moves(c:CC)(e:bM)(s:aB)(j:Int)(i:Nat)(fs:List Fr)(f:Fr)(st:List Int)(w:Int)(x:bM):Prop where
 gs:GoodS c s
 n:s.1.length<=65
 r1:fT c e s=some 0
 pt:∃p:Pt4,gG (c,e,s,[])=some p/\p.2.1=(i:Int)/\0<=j/\j<(p.2.2.2.length:Int)
 t:s.1[i]?=some (fs++[f],st,w,false)
 run:Run1 c fs f st
 can:CanDo c (bP s (-1)) i fs f st w x j
 hq:x.1=19->0<(c.2.2.2.2.1.getD x.2.1.toNat ([],0)).2->((s.2.2.1.getD x.2.1.toNat []).length:Int)<(c.2.2.2.2.1.getD x.2.1.toNat ([],0)).2
theorem aq3{c:CC}(hc:bw c)(e:bM){s:aB}{j:Int}{i:Nat}{fs:List Fr}{f:Fr}{st:List Int}{w:Int}{x:bM}(h:Moves c e s j i fs f st w x)(q:wV)(hq:q=eT c (bP s (-1)) i fs f st w x j)
  (hok:qu ((pW c e s i q).2.foldl cv [])=true):fE c e s j=some ((pW c e s i q).1,xV ((pW c e s i q).2.foldl cv []),0):=by
 obtain⟨p,p1,p3,p4,p5⟩:=h.pt;have hd:=yB hc (lD h.gs (-1)) (show(bP s (-1)).1.length<=70 by have:=h.n;show s.1.length<=70;omega) h.can h.run h.hq;have hln:0<(eT c (bP s (-1)) i fs f st w x j).2.2.2.1.length:=akn (show 0<s.1.length by have:=dl h.t;omega);have hi:=dl h.t;have hn:=h.n;unfold fE;rw[h.r1];simp only[f8,aaH,Zr,rD s h.gs.sm,p1,p3];have d1:¬j<0:=by omega
 have d2:¬(p.2.2.2.length:Int)<=j:=by omega
 have d3:¬(i:Int)<0:=by omega
 have ewm:ac (1+(i:Int))=(i:Int)+1:=by rw[aD (by omega) (by omega)];omega
 simp only[d1,d2,d3,aeU,Zr,ewm];have he:=aev hc (e:=e) (acc:=cv [] (5,(i:Int)+1,true)) h.can;rw[<-hq]at he hd hln;refine(aae (λo:Option ((List Int)×Bool×aO)=>o.bind _) he).trans ?_;have hfo:q.2.1.foldl cv (cv [] (5,(i:Int)+1,true))=((5,(i:Int)+1,true)::q.2.1).foldl cv []:=rfl;simp only[f8,hfo];unfold pW at hok|-;cases hg:q.2.2.1
 ·rw[hg]at hok;simp only[acZ,aaS]at hok;simp only[aaX,Ze,acZ,aaS];obtain⟨k,pc,hA⟩:=gb (s:=bP s (-1)) (i:=i) h.t h.run;have et:=aV h.t;obtain⟨q1,q2,q3,q4⟩:=AI hc hA;rw[ru hc hA];simp only[et,f8,aaX,Ze,oZ fs f (by have:=h.run.n;omega),q1,q2,q3,q4,hok,ah];rfl
 ·rw[hg]at hok;simp only[aaL]at hok;simp only[acF,Zr,aaL];have hl:=hd.left hg;have hcan:CanRun c q.1 (dB q.2.2.2):=⟨vL hl.g,λz hz=>by
   obtain⟨n,rfl,fs',f',st',w',h1,h2⟩:=hl.run z hz;exact⟨n,rfl,fs',f',st',w',h1,h2⟩,hl.nd⟩
  have hqs:=ack hc e (((5,(i:Int)+1,true)::q.2.1).foldl cv []) q.1 true (c,e,q.2.2.2,((5,(i:Int)+1,true)::q.2.1).foldl cv []) (by have:=hl.two;omega) hcan;refine(aae (λo:Option pL=>o.bind _) hqs).trans ?_;obtain⟨g1,g2,g3,g4⟩:=xZ hc e.1 hcan;have hset:=KZ hc (e:=e) (acc:=(bn c e.1 q.1 (dB q.2.2.2)).2.foldl cv (((5,(i:Int)+1,true)::q.2.1).foldl cv [])) g1.ok (by rw[g2];exact hln);simp only[f8];refine(aae (λo:Option aO=>o.bind _) hset).trans ?_;rw[akx]at hok|-;simp only[f8,hok,ah,Ze]
theorem ET{c:CC}(hc:bw c)(e:bM){s:aB}{j:Int}{i:Nat}{fs:List Fr}{f:Fr}{st:List Int}{w:Int}{x:bM}(h:Moves c e s j i fs f st w x) :
  ∃v,fE c e s j=some ((pW c e s i (eT c (bP s (-1)) i fs f st w x j)).1,v,0)/\GoodS c (pW c e s i (eT c (bP s (-1)) i fs f st w x j)).1:=by
 have hd:=yB hc (lD h.gs (-1)) (show(bP s (-1)).1.length<=70 by have:=h.n;show s.1.length<=70;omega) h.can h.run h.hq;obtain⟨q,hq⟩:∃q,q=eT c (bP s (-1)) i fs f st w x j:=⟨_,rfl⟩
 have hn:=h.n;have hi:=dl h.t;have h5:jo (5,(i:Int)+1,true):=kH (by omega) (by omega) (by omega) (by omega);have hall:GoodS c (pW c e s i q).1/\(pW c e s i q).2.length<=12/\∀a∈(pW c e s i q).2,jo a:=by
  rw[<-hq]at hd;unfold pW;cases hg:q.2.2.1
  ·simp only[acZ,aaS];refine⟨Xe (lD h.gs (-1)) i 4 (by omega) (by omega),by have:=hd.an;grind,λa ha=>?_⟩;rcases aaa.1 ha with rfl|ha
   ·exact h5
   ·exact hd.ak a ha
  ·simp only[aaL];have hl:=hd.left hg;have hcan:CanRun c q.1 (dB q.2.2.2):=⟨vL hl.g,λz hz=>by
    obtain⟨n,rfl,fs',f',st',w',h1,h2⟩:=hl.run z hz;exact⟨n,rfl,fs',f',st',w',h1,h2⟩,hl.nd⟩
   obtain⟨g1,g2,g3,g4⟩:=xZ hc e.1 hcan;refine⟨B8 g1,by have:=hd.an;have:=hl.two;grind,λa ha=>?_⟩;rcases aad.1 ha with ha|ha
   ·rcases aaa.1 ha with rfl|ha
    ·exact h5
    ·exact hd.ak a ha
   grind
 obtain⟨b1,b2,b3⟩:=hall;have c1:=apx b3 b2;rw[<-hq];exact⟨_,aq3 hc e h q hq c1,b1⟩
theorem y5(c:CC)(e:bM)(s:aB)(k:Nat):(jA c e s k).2.1=(k:Int):=by unfold jA;grind
theorem acj{c:CC}(hc:bw c)(e:bM){s:aB}(hs:GoodS c s){j:Int}(h1:fT c e s=some 0)(hg:GoOn c s)(hp:¬(s.2.2.2.2.2.2.2.2.1<0/\1<(ji c s).length))(hj:0<=j/\j<((gW c e s).2.2.2.length:Int)) :
  ∃i fs f st w x,Moves c e s j i fs f st w x:=by
 obtain⟨k,w1,w2,w3⟩:=MS hg;obtain⟨fs,f,st,w,ht,hr⟩:=KU hg.ok w2 w3;have hP:gW c e s=jA c e s k:=by unfold gW;grind
 have htk:s.1[k]?=some (fs++[f],st,w,false):=by rw[kO w2,ht]
 obtain⟨k',pc,hA⟩:=gb (s:=bP s (-1)) (i:=k) htk hr;have hF:=hc.2.2.1 k' pc hA.pc2 hA.pr;rw[hA.x]at hF;obtain⟨⟨h0,_⟩,_,o1,o2,o3,o4,o5,o6,o7,o8,o9,o10,o11,o12⟩:=hF;have hx:fF c (bg s k)=dt c f.1.toNat:=by rw[ht];unfold fF;rw[fp]
 have hat:oi c (bg s k)=dt c f.1.toNat:=by unfold oi;grind
 have hen:=w3;unfold B9 at hen;dsimp only at hen;rw[hat,if_neg (by rw[ht];simp)]at hen;have hpt:gW c e s=jA c e s k:=hP;rw[hP]at hj;unfold jA at hj;dsimp only at hj;rw[hx]at hj;have hn:=hg.n;generalize dt c f.1.toNat=x at *;refine⟨k,fs,f,st,w,x,⟨hs,hn,h1,⟨_,BM hc e [] hg,by rw[hpt];exact y5 c e s k,hj.1,?_⟩,htk,hr,⟨⟨k',pc,hA⟩,(lD hs (-1)).ok,by show s.1.length<=1048575;omega,agL hc (lD hs (-1)).ok,λh20=>?_,λh19 hcap=>?_⟩,λh19 hcap=>?_⟩⟩
 ·rw[hpt];unfold jA;grind
 ·rw[if_neg (by omega),if_neg (by omega),if_pos h20]at hen;exact aaq hen
 ·obtain⟨p1,p2⟩:=o7 (.inl h19);have hc0:(c.2.2.2.2.1.getD x.2.1.toNat ([],0)).2=0:=by
   grind
  rw[if_neg (by omega),if_pos h19,if_pos hc0]at hen;have hrl:0<(hU c s x.2.1).length:=by grind
  refine⟨hj.1,?_⟩;have h2:=hj.2;show j<((hU c s x.2.1).length:Int);rw[if_neg (by omega)]at h2;by_cases h1r:1<(hU c s x.2.1).length
  ·grind
  grind
 grind
def Co{α:Type}(Q:α->Prop)(o:Option α):Prop:=∀x,o=some x->Q x
theorem Lv{α:Type}{Q:α->Prop}{p:Prop}[Decidable p]{a b:Option α}(h1:p->Co Q a)(h2:¬p->Co Q b):Co Q (if p then a else b):=by
 split
 ·exact h1 ‹_›
 ·exact h2 ‹_›
theorem GX{α:Type}{Q:α->Prop}:Co Q (none:Option α):=λx h=>by cases h
theorem nN{α:Type}{Q:α->Prop}{x:α}(h:Q x):Co Q (some x):=λy hy=>by cases hy;exact h
def amd(s:aB)(x:bM)(s':aB):Prop:=
 tk s s'/\(s'.2.2.2.2.2.2.2.2.2=s.2.2.2.2.2.2.2.2.2\/aU s'=1)/\(s'.2.2.2.2.2.2.2.1.2.1=s.2.2.2.2.2.2.2.1.2.1\/x.1=15/\s'.2.2.2.2.2.2.2.1.2.1=ac (s.2.2.2.2.2.2.2.1.2.1+x.2.1))
theorem Mo{s:aB}{x:bM}{i:Nat}{t:Th}:amd s x (cg s i t):=⟨kM,.inl rfl,.inl rfl⟩
theorem Ci{c:CC}{kind:Int}{s:aB}{i:Nat}{fs:List Fr}{f:Fr}{st:List Int}{w:Int}{x:bM}:Co (amd s x) (kh c kind s i fs f st w x):=by
 unfold kh;dsimp only;repeat' (first|exact GX|exact nN Mo|refine Lv (λh=>?_) (λh=>?_))
 ·split
  ·exact nN ⟨Cw _ _ _ _,.inr rfl,.inl rfl⟩
  ·exact nN Mo
 ·exact nN ⟨kM,.inl rfl,.inr ⟨h,rfl⟩⟩
def D5(s t:aB):Prop:=t.2.1=s.2.1/\t.2.2.1=s.2.2.1/\t.2.2.2.1=s.2.2.2.1/\t.2.2.2.2.1=s.2.2.2.2.1
theorem Vv(s:aB):D5 s s:=⟨rfl,rfl,rfl,rfl⟩
theorem O5{s t u:aB}(h:D5 s t)(h':D5 t u):D5 s u:=⟨h'.1.trans h.1,h'.2.1.trans h.2.1,h'.2.2.1.trans h.2.2.1,h'.2.2.2.trans h.2.2.2⟩
def vP(s t:aB):Prop:=D5 s t/\t.2.2.2.2.2.2.1=s.2.2.2.2.2.2.1/\t.2.2.2.2.2.2.2.2.1=s.2.2.2.2.2.2.2.2.1
theorem je(s:aB):vP s s:=⟨Vv s,rfl,rfl⟩
theorem wF{s t u:aB}(h:vP s t)(h':vP t u):vP s u:=⟨O5 h.1 h'.1,h'.2.1.trans h.2.1,h'.2.2.trans h.2.2⟩
theorem DI(c:CC)(s:aB)(i:Nat)(o:Int):vP s (fA c s i o):=by unfold fA;dsimp only;split<;>exact⟨⟨rfl,rfl,rfl,rfl⟩,rfl,rfl⟩
theorem M9(c:CC)(kind:Int)(i:Nat):∀(m:Nat) (s:aB),vP s (bT c kind i m s).2:=by
 intro m;induction m with
 |zero=>
  intro s;unfold bT;split
  ·exact je s
  split
  ·exact je s
  ·exact DI c s i 3
 |succ m ih=>
  intro s;unfold bT;split
  ·exact je s
  split
  ·exact je s
  dsimp only;split
  ·exact DI c s i 4
  ·rename_i s' he;obtain⟨⟨a1,a2,a3,a4,_,a6,_,_,a9⟩,_⟩:=Ci _ he;exact wF ⟨⟨a1,a2,a3,a4⟩,a6,a9⟩ (ih s')
theorem wn(c:CC)(kind:Int)(i:Nat)(s:aB):vP s (bh c kind i s).1:=by
 unfold bh;refine wF (M9 c kind i 64 s) ?_;split
 ·unfold oE;dsimp only;split
  ·exact je _
  split
  ·dsimp only;split<;>exact je _
  split<;>exact je _
 ·exact je _
theorem vH(c:CC)(kind:Int):∀(l:List Int) (s:aB),vP s (bn c kind l s).1
 |[],s=>je s
 |z::r,s=>wF (wn c kind z.toNat s) (vH c kind r _)
def Nm{α:Type}(d:α)(L:List lu)(kind:Int)(a b:List α):Prop:=a.length=b.length/\∀k:Nat,a.getD k d≠b.getD k d->(kind,(k:Int),true)∈L
structure NmS(L:List lu)(s t:aB):Prop where
 v:Nm 0 L 0 s.2.1 t.2.1
 q:Nm [] L 1 s.2.2.1 t.2.2.1
 o:Nm 0 L 2 s.2.2.2.1 t.2.2.2.1
 f:Nm 0 L 3 s.2.2.2.2.1 t.2.2.2.2.1
theorem O4{c:CC}(hc:bw c)(kind:Int){i:Nat}:∀(m:Nat) {s:aB} {fs:List Fr} {f:Fr} {st:List Int} {w:Int},s.1[i]?=some (fs++[f],st,w,false)->Run1 c fs f st ->
  0<=s.2.2.2.2.2.2.2.1.2.1->s.2.2.2.2.2.2.2.1.2.1+100*m<=2000000000->aU (bT c kind i m s).2<0 ->
  (bT c kind i m s).2.2.2.2.2.2.2.2.2.2=s.2.2.2.2.2.2.2.2.2/\s.2.2.2.2.2.2.2.1.2.1<=(bT c kind i m s).2.2.2.2.2.2.2.2.1.2.1/\(bT c kind i m s).2.2.2.2.2.2.2.2.1.2.1<=s.2.2.2.2.2.2.2.1.2.1+100*m:=by
 intro m;induction m with
 |zero=>
  intro s fs f st w ht hr h1 h2;obtain⟨k,pc,hA⟩:=gb ht hr;rw[mZ c kind 0 hA];split
  ·grind
  split
  ·grind
  ·dsimp only;rw[jE];grind
 | succ m ih=>
  intro s fs f st w ht hr h1 h2;obtain⟨k,pc,hA⟩:=gb ht hr;rw[mZ c kind (m+1) hA];split
  ·exactλ_=>⟨rfl,by dsimp only;omega,by dsimp only;omega⟩
  split
  ·exactλ_=>⟨rfl,by dsimp only;omega,by dsimp only;omega⟩
  rename_i n1 n2;obtain⟨hop,hb⟩:=sJ hc hA (by simpa using n2);dsimp only;cases hsil:kh c kind s i fs f st w (dt c f.1.toNat)with
  |none=>
   dsimp only;rw[jE];omega
  | some s' =>
   dsimp only;obtain⟨fs1,f1,st1,g1,g2,g3⟩:=Dg hc hA hr hop hb hsil;obtain⟨_,m1,m2⟩:=Ci _ hsil;have hF:=hc.2.2.1 k pc hA.pc2 hA.pr;rw[hA.x]at hF;obtain⟨_,_,_,_,_,_,o5,_⟩:=hF;have ha:0<=s'.2.2.2.2.2.2.2.1.2.1/\s.2.2.2.2.2.2.2.1.2.1<=s'.2.2.2.2.2.2.2.1.2.1/\s'.2.2.2.2.2.2.2.1.2.1<=s.2.2.2.2.2.2.2.1.2.1+100:=by
    rcases m2 with m2|⟨m2,m3⟩
    ·omega
    ·obtain⟨o1,o2⟩:=o5 m2;rw[m3,aD (by omega) (by omega)];omega
   rcases m1 with m1|m1
   ·intro hq;obtain⟨j1,j2,j3⟩:=ih (s:=s') (w:=w) (by rw[g1];exact abG (dl ht)) g2 (by omega) (by omega) hq;exact⟨j1.trans m1,by omega,by omega⟩
   ·have:(bT c kind i m s').2=s':=by
     unfold bT;rw[if_pos (by omega)]
    rw[this];omega
structure RunV(c:CC)(s:aB)(L:List Int)(K A N:Int):Prop where
 n1:1<=s.1.length
 n:(s.1.length:Int)+s.2.2.2.2.2.2.1<=N
 fu:0<=s.2.2.2.2.2.2.1
 own:∀k,k<s.2.2.2.1.length->kK s k
 so:∀k,k<s.1.length->(k:Int)∉L->ml c s k=true
 wk:∀k,k<s.1.length->0<=(bg s k).2.2.1/\(bg s k).2.2.1<=K+10
 live:eA s s.1.length<=5
 cl:0<=s.2.2.2.2.2.1/\s.2.2.2.2.2.1<=K
 st:0<=s.2.2.2.2.2.2.2.1.1/\s.2.2.2.2.2.2.2.1.1<=A
 al:0<=s.2.2.2.2.2.2.2.1.2.1/\s.2.2.2.2.2.2.2.1.2.1<=A
 wa:0<=s.2.2.2.2.2.2.2.1.2.2/\s.2.2.2.2.2.2.2.1.2.2<=A
 wh:s.2.2.2.2.2.2.2.2.2.2=(0,[])
 t0:(bg s 0).2.2.2=false
theorem jl{s t:aB}:∀n:Nat,(∀k,k<n->(bg s k).2.2.2=true->(bg t k).2.2.2=true)->eA t n<=eA s n:=by
 intro n;induction n with
 |zero=>exactλ_=>acH _
 |succ n ih=>
  intro h;have:=ih λk hk=>h k (by omega);have:=h n (by omega);unfold eA;grind
theorem D6{s t:aB}{k:Nat}(h:t.1[k]?=s.1[k]?):bg t k=bg s k:=by unfold bg;grind
theorem uy{c:CC}{s t:aB}{k:Nat}(h:bg t k=bg s k)(ho:aU t=aU s):ml c t k=ml c s k:=by unfold ml;rw[h,ho]
theorem vT{c:CC}(hc:bw c)(kind:Int){s:aB}{i:Nat}{L:List Int}{K A N:Int}(hg:GoodS c s)(hr:oM c s i)(h:RunV c s ((i:Int)::L) K A N)(hK:K<=10000)(hA:A<=1000000000)
  (ho:aU (bh c kind i s).1<0):RunV c (bh c kind i s).1 L K (A+6401) N:=by
 obtain⟨q1,q2,q3,_⟩:=qG hc kind hg hr;obtain⟨fs,f,st,w,ht,hr⟩:=hr;have hi:=dl ht;obtain⟨fs',f',st',g1,g2,g3,g4⟩:=sK hc kind 64 ht hr;have hm:=O4 hc kind 64 ht hr h.al.1 (by have:=h.al.2;omega);obtain⟨k1,k2,k3,k4,k5,k6,k7,k8,k9⟩:=g3;have hw:=h.wk i hi;rw[dW ht]at hw;have key:∃w',bg (bh c kind i s).1 i=(fs'++[f'],st',w',false)/\hZ (dt c f'.1.toNat) (fs'.length+1)=true/\0<=w'/\w'<=K+10/\(bh c kind i s).1.2.2.2.2.2.2.2.2.2=s.2.2.2.2.2.2.2.2.2 /\
   (bh c kind i s).1.2.2.2.1=s.2.2.2.1/\(bh c kind i s).1.2.2.2.2.2.1=s.2.2.2.2.2.1/\(bh c kind i s).1.2.2.2.2.2.2.1=s.2.2.2.2.2.2.1/\(bh c kind i s).1.2.2.2.2.2.2.2.1.1=s.2.2.2.2.2.2.2.1.1 /\
   (0<=(bh c kind i s).1.2.2.2.2.2.2.2.1.2.1/\(bh c kind i s).1.2.2.2.2.2.2.2.1.2.1<=A+6401)/\(0<=(bh c kind i s).1.2.2.2.2.2.2.2.1.2.2/\(bh c kind i s).1.2.2.2.2.2.2.2.1.2.2<=A+6401):=by
  have ho':aU (bT c kind i 64 s).2<0:=by unfold bh at ho;grind
  obtain⟨b1,b2⟩:=g4 ho';obtain⟨m1,m2,m3⟩:=hm ho';have hal:=h.al;have hwa:=h.wa;have hcl:=h.cl;unfold bh;rw[if_pos ⟨b1,ho'⟩];generalize bT c kind i 64 s=q at *;obtain⟨b,q⟩:=q;dsimp only at *;have hq:q.1[i]?=some (fs'++[f'],st',w,false):=by grind
  obtain⟨k,pc,hAt⟩:=gb hq g2;have hF:=hc.2.2.1 k pc hAt.pc2 hAt.pr;rw[hAt.x]at hF;obtain⟨_,_,_,_,_,_,_,_,_,_,_,o10,_⟩:=hF;have hx:fF c (bg q i)=dt c f'.1.toNat:=by rw[dW hq];unfold fF;rw[fp]
  have hl:i<q.1.length:=dl hq;unfold oE;dsimp only;rw[hx];split
  ·rename_i h25;obtain⟨o1,o2⟩:=o10 h25;have ew:ac (q.2.2.2.2.2.1+(dt c f'.1.toNat).2.1)=q.2.2.2.2.2.1+(dt c f'.1.toNat).2.1:=aD (by omega) (by omega);exact⟨_,by rw[uj hl,dW hq],b2,by rw[ew];omega,by rw[ew];omega,m1,k3,k5,k6,k7,⟨by dsimp only[cg];omega,by dsimp only[cg];omega⟩,⟨by dsimp only[cg];omega,by dsimp only[cg];omega⟩⟩
  split
  ·dsimp only;split
   ·have ew:ac (q.2.2.2.2.2.2.2.1.2.2+1)=q.2.2.2.2.2.2.2.1.2.2+1:=aD (by omega) (by omega);exact⟨w,dW hq,b2,hw.1,hw.2,m1,k3,k5,k6,k7,⟨by dsimp only[BU];omega,by dsimp only[BU];omega⟩,⟨by dsimp only[BU];omega,by dsimp only[BU];omega⟩⟩
   ·exact⟨w,dW hq,b2,hw.1,hw.2,m1,k3,k5,k6,k7,⟨by omega,by omega⟩,⟨by omega,by omega⟩⟩
  split
  ·exact⟨w,dW hq,b2,hw.1,hw.2,m1,k3,k5,k6,k7,⟨by grind,by grind⟩,⟨by grind,by grind⟩⟩
  ·exact⟨w,dW hq,b2,hw.1,hw.2,m1,k3,k5,k6,k7,⟨by grind,by grind⟩,⟨by grind,by grind⟩⟩
 generalize(bh c kind i s).1=t at *;obtain⟨w',t1,t2,t3,t4,t5,t6,t7,t8,t9,t10,t11⟩:=key;have hth:∀k,k≠i->bg t k=bg s k:=λk hk=>D6 (q3 k hk)
 have hio:aU t=aU s:=by unfold aU;rw[t5]
 have hlv:∀k,(bg s k).2.2.2=true->(bg t k).2.2.2=true:=λk hk=>by
  by_cases e:k=i
  ·subst e;rw[dW ht]at hk;cases hk
  grind
 exact⟨by grind,by rw[q2,t8];exact h.n,by rw[t8];exact h.fu,λk hk=>by
   have:=h.own k (by grind);unfold kK at this|-;grind,λk hk hL=>by
   by_cases e:k=i
   ·subst e;unfold ml;rw[t1];dsimp only;rw[if_neg (by simp)];refine ax ⟨t3,by omega,.inr ?_⟩;unfold fF;rw[fp,ZD,aal];exact t2
   ·rw[uy (hth k e) hio];exact h.so k (by omega) (by grind),λk hk=>by
   by_cases e:k=i
   ·grind
   ·rw[hth k e];exact h.wk k (by omega),by
   have:=jl (s:=s) (t:=t) t.1.length λk _=>hlv k;rw[q2]at this|-;have:=h.live;omega,by rw[t7];exact h.cl,by rw[t9];exact⟨h.st.1,by have:=h.st.2;omega⟩,t10,t11,by rw[t5];exact h.wh,by
   by_cases e:(0:Nat)=i
   ·rw[e,t1]
   ·rw[hth 0 e];exact h.t0⟩
theorem jt{c:CC}{s:aB}{L:List Int}{K A N K' A' N':Int}(h:RunV c s L K A N)(h1:K<=K')(h2:A<=A')(h3:N<=N'):RunV c s L K' A' N':=by obtain⟨a1,a2,a3,a4,a5,a6,a7,a8,a9,a10,a11,a12,a13⟩:=h;exact⟨a1,by omega,a3,a4,a5,λk hk=>by grind,a7,by omega,by omega,by omega,by omega,a12,a13⟩
theorem Cr{c:CC}{s t:aB}{L:List Int}{K A N K':Int}(h:RunV c s L K A N)(h1:t.1=s.1)(h2:∀k,k<t.2.2.2.1.length->kK t k)(h3:0<=t.2.2.2.2.2.1/\t.2.2.2.2.2.1<=K')(h4:K<=K')(h5:t.2.2.2.2.2.2=s.2.2.2.2.2.2):RunV c t L K' A N:=by
 have hth:∀k,bg t k=bg s k:=λk=>by unfold bg;rw[h1]
 have ho:aU t=aU s:=by unfold aU;rw[h5]
 obtain⟨a1,a2,a3,a4,a5,a6,a7,a8,a9,a10,a11,a12,a13⟩:=h;refine⟨by grind,by grind,by grind,h2,λk hk hL=>?_,λk hk=>?_,?_,h3,by grind,by grind,by grind,by grind,by grind⟩
 ·rw[uy (hth k) ho];grind
 ·grind
 ·have:=jl (s:=s) (t:=t) t.1.length λk _ hk=>by grind
  grind
theorem EL{c:CC}{s:aB}{L:List Int}{K A N:Int}(h:RunV c s L K A N){i:Nat}{t:Th}(hi:i<s.1.length)(ht:t.2.2=(bg s i).2.2):RunV c (cg s i t) ((i:Int)::L) K A N:=by
 obtain⟨a1,a2,a3,a4,a5,a6,a7,a8,a9,a10,a11,a12,a13⟩:=h;have hf:∀k,(bg (cg s i t) k).2.2=(bg s k).2.2:=λk=>by
  by_cases e:k=i
  ·rw[e,uj hi,ht]
  ·rw[lU e]
 refine⟨by rw[cA];exact a1,by rw[cA];exact a2,a3,λk hk=>?_,λk hk hL=>?_,λk hk=>?_,?_,a8,a9,a10,a11,a12,by grind⟩
 ·have:=a4 k hk;unfold kK at this|-;rw[cA];exact this
 ·simp only[aaa,not_or]at hL;rw[uy (lU (by omega)) rfl];exact a5 k (by rw[<-cA];exact hk) hL.2
 ·rw[hf];exact a6 k (by rw[<-cA];exact hk)
 ·have:=jl (s:=s) (t:=cg s i t) s.1.length λk _ hk=>by grind
  rw[cA];omega
theorem ajD{c:CC}{s:aB}{L:List Int}{K A N:Int}(h:RunV c s L K A N)(hl:eA s s.1.length<5)(p:Int):RunV c (s.1++[ti c p],s.2) ((s.1.length:Int)::L) K A (N+1):=by
 obtain⟨a1,a2,a3,a4,a5,a6,a7,a8,a9,a10,a11,a12,a13⟩:=h;have hlen:(s.1++[ti c p]).length=s.1.length+1:=by simp
 have hth:∀k,k<s.1.length->bg (s.1++[ti c p],s.2) k=bg s k:=λk hk=>D6 (by grind);have hn:bg (s.1++[ti c p],s.2) s.1.length=ti c p:=by unfold bg;simp
 refine⟨by grind,by grind,a3,λk hk=>?_,λk hk hL=>?_,λk hk=>?_,?_,a8,a9,a10,a11,a12,by grind⟩
 ·have:=a4 k hk;unfold kK at this|-;grind
 ·simp only[aaa,not_or]at hL;dsimp only at hk;rw[uy (hth k (by omega)) rfl];grind
 ·dsimp only at hk;by_cases e:k<s.1.length
  ·grind
  ·rw[show k=s.1.length by omega,hn];exact⟨acH _,by show(0:Int)<=K+10;omega⟩
 ·dsimp only;rw[hlen];unfold eA;have:=jl (s:=s) (t:=(s.1++[ti c p],s.2)) s.1.length λk hk hk2=>by grind
  grind
theorem akw{c:CC}{s:aB}{L:List Int}{K A N:Int}(h:RunV c s L K A N){i:Nat}(hi:i<s.1.length)(h0:i≠0):RunV c (cg s i ([],[],0,true)) L K A N:=by
 obtain⟨a1,a2,a3,a4,a5,a6,a7,a8,a9,a10,a11,a12,a13⟩:=h;refine⟨by rw[cA];exact a1,by rw[cA];exact a2,a3,λk hk=>?_,λk hk hL=>?_,λk hk=>?_,?_,a8,a9,a10,a11,a12,by rw[lU (ami h0)];exact a13⟩
 ·have:=a4 k hk;unfold kK at this|-;rw[cA];exact this
 ·by_cases e:k=i
  ·unfold ml;rw[e,uj hi];rfl
  ·rw[uy (lU e) rfl];exact a5 k (by rw[<-cA];exact hk) hL
 ·by_cases e:k=i
  ·rw[e,uj hi];grind
  ·rw[lU e];exact a6 k (by rw[<-cA];exact hk)
 ·have:=jl (s:=s) (t:=cg s i ([],[],0,true)) s.1.length λk _ hk=>by
   by_cases e:k=i
   ·rw[e,uj hi]
   ·rw[lU e];exact hk
  rw[cA];omega
theorem ajw(c:CC)(s:aB):∀n,0<=jK c s n->∃k,k<n/\(oi c (bg s k)).1=25/\(bg s k).2.2.1=jK c s n:=by
 intro n;induction n with
 |zero=>intro h;unfold jK at h;omega
 |succ n ih=>
  unfold jK;grind
theorem Dp{c:CC}{s:aB}{K A N:Int}(h:RunV c s [] K A N)(ho:aU (cn c s)<0) :
  RunV c (cn c s) [] (K+10) A N/\1<=(cn c s).2.2.2.2.2.2.1/\0<(ji c (cn c s)).length/\(cn c s).2.2.2.2.2.2=s.2.2.2.2.2.2:=by
 have hfu:=h.fu;unfold cn at *;split at ho
 ·omega
 rename_i h0;rw[if_neg h0];split at ho
 ·rw[jE]at ho;omega
 rename_i h1;rw[if_neg h1];split at ho
 ·rename_i h2;rw[if_pos h2];exact⟨jt h (by omega) (by omega) (by omega),by omega,h2,rfl⟩
 rename_i h2;rw[if_neg h2];split at ho
 ·rename_i h3;rw[if_pos h3];obtain⟨k,k1,k2,k3⟩:=ajw c s _ h3;have hk:=h.wk k k1;refine⟨Cr h rfl h.own ⟨h3,by show jK c s s.1.length<=K+10;omega⟩ (by omega) rfl,by show 1<=s.2.2.2.2.2.2.1;omega,?_,rfl⟩;refine List.length_pos_of_mem (a:=(k:Int)) (u6.2 ⟨k,k1,?_,rfl⟩);unfold B9;dsimp only;rw[show bg (LM s (jK c s s.1.length)) k=bg s k from rfl,k2];rw[if_neg (by intro h;unfold oi at k2;grind)];simp only[Int.reduceEq,aaL,aaS];exact ax (by show(bg s k).2.2.1<=jK c s s.1.length;omega)
 ·rw[jE]at ho;omega
theorem LQ{c:CC}{s:aB}{L:List Int}{K A N:Int}(h:RunV c s L K A N)(hf:1<=s.2.2.2.2.2.2.1)(hf2:s.2.2.2.2.2.2.1<=64)(hK:K<=10000)(hA:A<=1000000000):RunV c (dB s) L (K+1) (A+1) (N-1):=by
 obtain⟨a1,a2,a3,a4,a5,a6,a7,a8,a9,a10,a11,a12,a13⟩:=h;have e1:ac (s.2.2.2.2.2.1+1)=s.2.2.2.2.2.1+1:=aD (by omega) (by omega);have e2:ac (s.2.2.2.2.2.2.1-1)=s.2.2.2.2.2.2.1-1:=aD (by omega) (by omega);have e3:ac (s.2.2.2.2.2.2.2.1.1+1)=s.2.2.2.2.2.2.2.1.1+1:=aD (by omega) (by omega);refine⟨a1,?_,?_,a4,a5,λk hk=>?_,?_,?_,?_,?_,?_,a12,a13⟩
 ·show(s.1.length:Int)+ac (s.2.2.2.2.2.2.1-1)<=N-1;omega
 ·show 0<=ac (s.2.2.2.2.2.2.1-1);omega
 ·have:=a6 k hk;exact⟨this.1,by show(bg s k).2.2.1<=_;omega⟩
 ·exact aiv (jl (s:=s) (t:=dB s) s.1.length λk _ h=>h) a7
 ·show 0<=ac (s.2.2.2.2.2.1+1)/\ac (s.2.2.2.2.2.1+1)<=K+1;omega
 ·show 0<=ac (s.2.2.2.2.2.2.2.1.1+1)/\ac (s.2.2.2.2.2.2.2.1.1+1)<=A+1;omega
 ·exact⟨a10.1,by show s.2.2.2.2.2.2.2.1.2.1<=A+1;omega⟩
 ·exact⟨a11.1,by show s.2.2.2.2.2.2.2.1.2.2<=A+1;omega⟩
theorem ajP{s t:aB}{x:Int}{a:Nat}(h:∀k,k<s.2.2.2.1.length->kK s k)(hl:t.1.length=s.1.length)(h1:t.2.2.2.1=s.2.2.2.1.set a x)(hx : -1<=x/\x<s.1.length):∀k,k<t.2.2.2.1.length->kK t k:=by intro k hk;rw[h1,aa1]at hk;have:=h k hk;unfold kK at this|-;grind
theorem Aa{i:Nat}{f:Fr}{st:List Int}{x:bM}{k:Int}{r:yP}(hp:ia x.1):(gn i f st x k r).2.2.2.2.2.2.2.2.2=r.2.2.2.2.2:=by
 obtain⟨op,a,b⟩:=x;dsimp only at hp;unfold gn;dsimp only;rcases hp with rfl|rfl|rfl|rfl|rfl|rfl|rfl|rfl|rfl|rfl<;>simp only[Int.reduceEq,aaL,aaS]
 ·split<;>rfl
 ·split<;>rfl
 grind
structure EffFine(s:aB)(K:Int)(r:yP):Prop where
 own:(∃x' a,r.2.2.1=s.2.2.2.1.set a x' /\ -1<=x'/\x'<s.1.length)\/r.2.2.1=s.2.2.2.1
 ck:0<=r.2.2.2.2.1/\r.2.2.2.2.1<=K+1
theorem XW{c:CC}{s:aB}{K A N:Int}(h:RunV c s [] K A N){i:Nat}{fs:List Fr}{f:Fr}{st:List Int}{w:Int}{x:bM}{j:Int}(hK:K<=10000)(ht:s.1[i]?=some (fs++[f],st,w,false))(hp:ia x.1)(hj:x.1=24->0<=j/\j<=1)(hg:(mw s i fs f st w x j).2.2.1=true) :
  RunV c (mw s i fs f st w x j).2.2.2 (mw s i fs f st w x j).1 (K+1) A N:=by
 have hi:=dl ht;have hcl:=h.cl;unfold mw at *;dsimp only at hg|-;rw[if_pos hg];have e0:cg (tj s i fs f st w x j) i (fs++[(ac (f.1+1),(gn i f st x j s.2).2.2.1)],(gn i f st x j s.2).2.2.2.1,w,false)=(s.1.set i (fs++[(ac (f.1+1),(gn i f st x j s.2).2.2.1)],(gn i f st x j s.2).2.2.2.1,w,false),(gn i f st x j s.2).2.2.2.2):=by unfold cg tj;simp_all
 rw[e0];have hput:=EL h (t:=(fs++[(ac (f.1+1),(gn i f st x j s.2).2.2.1)],(gn i f st x j s.2).2.2.2.1,w,false)) hi (by rw[dW ht]);generalize hr:(gn i f st x j s.2).2.2.2.2=r;have hst:(cg s i (fs++[(ac (f.1+1),(gn i f st x j s.2).2.2.1)],(gn i f st x j s.2).2.2.2.1,w,false)).1.length=s.1.length:=cA;have hall:EffFine s K r:=by
  rw[<-hr];clear hr hput hst e0 hg;obtain⟨op,a,b⟩:=x;dsimp only at hp hj;unfold gn;dsimp only;have keep:(0<=s.2.2.2.2.2.1/\s.2.2.2.2.2.1<=K+1):=by omega
  rcases hp with rfl|rfl|rfl|rfl|rfl|rfl|rfl|rfl|rfl|rfl<;>simp only[Int.reduceEq,aaL,aaS]
  ·split<;>exact⟨.inr rfl,keep⟩
  ·split<;>exact⟨.inr rfl,keep⟩
  ·exact⟨.inr rfl,keep⟩
  ·exact⟨.inl ⟨_,_,rfl,by omega,by omega⟩,keep⟩
  ·exact⟨.inl ⟨_,_,rfl,by omega,by omega⟩,keep⟩
  ·exact⟨.inr rfl,keep⟩
  ·obtain⟨j1,j2⟩:=hj rfl;rw[aD (by omega) (by omega)];exact⟨.inr rfl,by grind⟩
  ·exact⟨.inr rfl,keep⟩
  ·split
   ·exact⟨.inr rfl,keep⟩
   split<;>exact⟨.inr rfl,keep⟩
  ·exact⟨.inr rfl,keep⟩
 obtain⟨ho,hc1⟩:=hall;refine Cr hput rfl (λk hk=>?_) hc1 (by omega) (by rw[<-hr];exact Aa hp);rcases ho with⟨x',a,h1,h2⟩|h1
 ·exact ajP (t:=(s.1.set i (fs++[(ac (f.1+1),(gn i f st x j s.2).2.2.1)],(gn i f st x j s.2).2.2.2.1,w,false),r)) hput.own rfl h1 (by grind) k hk
 ·have:=hput.own k (by show k<s.2.2.2.1.length;grind);unfold kK at this|-;dsimp only;rw[h1];exact this
theorem Rj{c:CC}(hc:bw c){s:aB}{K A N:Int}(h:RunV c s [] K A N)(hs:StOk c s){i:Nat}{fs:List Fr}{f:Fr}{st:List Int}{w:Int}{x:bM}{j:Int}{k pc:Nat}(hK:K<=10000)(hA:AtP c s i fs f st w x k pc)
  (hj:x.1=24->0<=j/\j<=1) (hto:x.1=19->¬0<(c.2.2.2.2.1.getD x.2.1.toNat ([],0)).2->0<=j/\j<(hU c s x.2.1).length) (hok:(eT c s i fs f st w x j).2.2.1=true) (ho:aU (eT c s i fs f st w x j).2.2.2<0) :
  RunV c (eT c s i fs f st w x j).2.2.2 (eT c s i fs f st w x j).1 (K+1) A (N+1):=by
 have hi:=dl hA.t;have hcl:=h.cl;have hput:∀(fr:List Fr) (st':List Int),RunV c (cg s i (fr,st',w,false)) [(i:Int)] K A N:=λfr st'=>EL h hi (by rw[dW hA.t]);unfold eT at *;by_cases h18:x.1=18
 ·rw[if_pos h18]at *;unfold sN at *;by_cases h5:5<=eA s s.1.length
  ·rw[if_pos h5]at hok;cases hok
  rw[if_neg h5];have hq:=hput (fs++[(ac (f.1+1),f.2)]) st;have hl:eA (mR s i fs f st w) (mR s i fs f st w).1.length<=eA s s.1.length:=by
   rw[show(mR s i fs f st w).1.length=s.1.length from cA];refine jl _ λk _ hk=>?_;by_cases e:k=i
   ·rw[e,dW hA.t]at hk;cases hk
   ·unfold mR;rw[lU e];exact hk
  have hn:=ajD (s:=mR s i fs f st w) hq (by omega) x.2.1;rw[show(mR s i fs f st w).1.length=s.1.length from cA]at hn;exact jt hn (by omega) (by omega) (by omega)
 rw[if_neg h18]at *;by_cases h19:x.1=19
 ·rw[if_pos h19]at *;unfold ko at *;by_cases hz:st.length=0
  ·rw[if_pos hz]at hok;cases hok
  rw[if_neg hz]at *;dsimp only at *;by_cases hcap:0<(c.2.2.2.2.1.getD x.2.1.toNat ([],0)).2
  ·rw[if_pos hcap]at *;exact jt (Cr (hput (fs++[(ac (f.1+1),f.2)]) (st.take (st.length-1))) rfl (hput (fs++[(ac (f.1+1),f.2)]) (st.take (st.length-1))).own hcl (by omega) rfl) (by omega) (by omega) (by omega)
  ·rw[if_neg hcap]at *;obtain⟨q,gs,g,tt,tw,y,q1,q2,hq⟩:=CM hc hs hA h19 (hto h19 hcap);rw[q1,ZH];refine jt (EL (hput (fs++[(ac (f.1+1),f.2)]) (st.take (st.length-1))) (by rw[cA];exact q2) ?_) (by omega) (by omega) (by omega);rw[lU hq.ne]
 rw[if_neg h19]at *;by_cases hp:ia x.1
 ·rw[if_pos hp]at *;exact jt (XW h hK hA.t hp hj hok) (by omega) (by omega) (by omega)
 ·rw[if_neg hp]at *;unfold rx at *;dsimp only at *;by_cases h0:i=0
  ·rw[if_pos h0]at ho;exact absurd ho (by show¬(0:Int)<0;omega)
  ·rw[if_neg h0];exact jt (akw h hi h0) (by omega) (by omega) (by omega)
theorem SG(c:CC)(kind:Int)(i:Nat){s:aB}(h:0<=aU s):(bh c kind i s).1=s:=by
 have e:bT c kind i 64 s=(true,s):=by unfold bT;rw[if_pos h]
 unfold bh;rw[e,if_neg (λhh=>absurd hh.2 (by show¬aU s<0;omega))]
theorem uO(c:CC)(kind:Int):∀(l:List Int) {s:aB},0<=aU s->(bn c kind l s).1=s
 |[],s,h=>rfl
 |z::l,s,h=>by show(bn c kind l (bh c kind z.toNat s).1).1=s;rw[SG c kind _ h];exact uO c kind l h
theorem FU{c:CC}(hc:bw c)(kind:Int):∀{l:List Int} {s:aB} {K A N:Int},CanRun c l s->RunV c s l K A N->K<=10000->A+6401*l.length<=1000000000->aU (bn c kind l s).1<0 ->
  RunV c (bn c kind l s).1 [] K (A+6401*l.length) N
 |[],s,K,A,N,hcan,h,hK,hA,ho=>jt h (by omega) (by simp) (by omega)
 | z::l,s,K,A,N,hcan,h,hK,hA,ho=>by
  obtain⟨n,rfl,hr⟩:=hcan.run z (ZO ..);have hnx:=ya hc kind hcan;rw[ZH]at hnx;have ho':aU (bn c kind l (bh c kind n s).1).1<0:=ho;have ho2:aU (bh c kind n s).1<0:=by
   rcases ac5 (aU (bh c kind n s).1) 0 with h1|h1
   ·exact h1
   ·rw[uO c kind l h1]at ho';exact ho'
  rw[aaG]at hA|-;have:=FU hc kind hnx (vT hc kind hcan.g hr h hK (by omega) ho2) hK (by omega) ho';exact jt this (by omega) (by omega) (by omega)
structure Idle(c:CC)(s:aB):Prop where
 g:GoodS c s
 v:aU s<0->RunV c s [] (20*(65-s.2.2.2.2.2.2.1)) (20000*(65-s.2.2.2.2.2.2.1)) 65/\1<=s.2.2.2.2.2.2.1/\0<(ji c s).length/\(s.2.2.2.2.2.2.2.2.1 = -1\/s.2.2.2.2.2.2.2.2.1∈ji c s)
theorem Oh{c:CC}(hk:CodeOk c){s:aB}(h:Idle c s)(ho:aU s<0):fw c s=some 0:=by
 obtain⟨hg,hv⟩:=h;obtain⟨v,f1,l1,hp⟩:=hv ho;have hc:=hk.v;obtain⟨k,v1⟩:=hk.p;have n1:=v.n1;have n2:=v.n;have hsh:xH c s:=⟨⟨n1,by omega⟩,v.own,λk hk=>v.so k hk (by simp),v.live⟩
 obtain⟨b1,p1,p2⟩:=MD hc (0,0,0) [] hg.ok hg.sm;have hb:b1=true:=p2.2 hsh;subst hb;have hlo:=hg.lo;unfold aU at ho hlo;have ew:ac (s.2.2.2.2.2.2.2.2.2.1+1)=s.2.2.2.2.2.2.2.2.2.1+1:=aD (by omega) (by omega);have hcl:=v.cl;have hst:=v.st;have hal:=v.al;have hwa:=v.wa;have hwh:=v.wh;have hel:(ji c s).length<=1048576:=alC (xK _ _) hg.ok.n;have h0:ae s.1 0=some (bg s 0):=aV (kO n1);unfold fw;dsimp only;rw[v1];simp only[f8,aaH,Zr,rD s hg.sm,p1,acF,aaX,Ze,iC,Ep,ew];rw[ax (show 0<=s.2.2.2.2.2.1/\s.2.2.2.2.2.1<=1048576 by omega),ax (show 0<=s.2.2.2.2.2.2.1/\s.2.2.2.2.2.2.1<=64 by omega),hwh,aQ (show¬yE s.2.2.2.2.2.2.2.1.1 s.2.2.2.2.2.2.2.1.2.1 s.2.2.2.2.2.2.2.1.2.2 (0:Int)<0 by rw[Qx];omega),
  ax (show 0<=s.2.2.2.2.2.2.2.2.2.1+1/\s.2.2.2.2.2.2.2.2.2.1+1<=5 by omega),aQ (show¬(0:Int)<=s.2.2.2.2.2.2.2.2.2.1 by omega),bf (show¬s.2.2.2.2.2.2.1=0 by omega)]
 have hl1:(((ji c s).length:Int)==0)=false:=bf (by omega);simp only[hl1,aat,aaH,acF,aaX,Ze,Zr,f8,vB hc hg.ok,h0,v.t0];rcases hp with hp|hp
 ·rw[nf hp];rfl
 ·by_cases hq:s.2.2.2.2.2.2.2.2.1 = -1
  ·rw[nf hq];rfl
  ·rw[nt hq];simp only[Ze,Zr,UK _ hel,f8,ax hp];rfl
theorem CA{c:CC}(hk:CodeOk c){e:bM}(he:iD e){s:aB}(h:Idle c s)(ho:aU s<0):fT c e s=some 0/\GoOn c s:=by obtain⟨v,f1,l1,hp⟩:=h.v ho;have n1:=v.n1;have n2:=v.n;refine⟨?_,⟨h.g.ok,by omega,l1,hp⟩⟩;unfold fT;obtain⟨b,b1,b3⟩:=Db e;rw[Oh hk h ho,b1,b3.2 he];unfold aU at ho;simp only[f8,aaH,Zr,acF,aQ (show¬(0:Int)<=s.2.2.2.2.2.2.2.2.2.1 by omega)]
theorem ajl{c:CC}(hk:CodeOk c){e:bM}(he:iD e){s:aB}(h:Idle c s)(ho:aU s<0):fh c e s=some (gW c e s,0):=by obtain⟨r1,hg⟩:=CA hk he h ho;unfold fh;rw[r1];simp only[f8,aaH,Zr,rD s h.g.sm,BM hk.v e [] hg]
theorem Ws{c:CC}(hc:bw c)(e:bM){s:aB}(h:GoOn c s):0<(gW c e s).2.2.2.length:=by
 unfold gW;split
 ·rename_i h1;simp only[adE];omega
 ·obtain⟨k,w1,w2,w3⟩:=MS h;obtain⟨fs,f,st,w,ht,hr⟩:=KU h.ok w2 w3;obtain⟨p,hpn,hO,hx⟩:=JY hc h.ok w2 (by rw[ht]);rw[hx]at hO;rw[w1,ZH];unfold jA;dsimp only;split
  ·rename_i h23;obtain⟨g1,g2⟩:=hO.2.2.2.2.2.2.2.2.1 h23;simp only[adE];omega
  split
  ·rename_i h1;simp only[adE];omega
  split
  ·simp
  split<;>simp
theorem O2{c:CC}{e:bM}{s:aB}{k:Nat}{j:Int}(h24:(fF c (bg s k)).1=24)(hj:0<=j/\j<((jA c e s k).2.2.2.length:Int)):0<=j/\j<=1:=by
 unfold jA at hj;dsimp only at hj;rw[if_neg (by omega),if_neg (by omega)]at hj;split at hj
 ·simp at hj;omega
 rw[if_neg (by omega)]at hj;simp at hj;omega
theorem Xz{c:CC}(hc:bw c)(e:bM){s:aB}(h:Idle c s)(ho:aU s<0){j:Int}{i:Nat}{fs:List Fr}{f:Fr}{st:List Int}{w:Int}{x:bM}(hm:Moves c e s j i fs f st w x)(hj:x.1=24->0<=j/\j<=1) :
  Idle c (pW c e s i (eT c (bP s (-1)) i fs f st w x j)).1:=by
 obtain⟨v,f1,l1,hp⟩:=h.v ho;refine⟨(ET hc e hm).choose_spec.2,λho2=>?_⟩;have hd:=yB hc (lD hm.gs (-1)) (show(bP s (-1)).1.length<=70 by have:=hm.n;show s.1.length<=70;omega) hm.can hm.run hm.hq;obtain⟨k,pc,hA⟩:=hm.can.at_;have v':RunV c (bP s (-1)) [] (20*(65-s.2.2.2.2.2.2.1)) (20000*(65-s.2.2.2.2.2.2.1)) 65:=⟨v.n1,v.n,v.fu,v.own,v.so,v.wk,aiv (jl (s:=s) (t:=bP s (-1)) s.1.length λk _ h=>h) v.live,v.cl,v.st,v.al,v.wa,v.wh,v.t0⟩
 have n1:=v.n1;have n2:=v.n;have hrun:=Rj hc v' hm.can.ok (by omega) hA hj hm.can.to;have hfu:(eT c (bP s (-1)) i fs f st w x j).2.2.2.2.2.2.2.2.2.1=s.2.2.2.2.2.2.1/\(eT c (bP s (-1)) i fs f st w x j).2.2.2.2.2.2.2.2.2.2.2.1 = -1:=by
  unfold eT;split
  ·unfold sN;split<;>exact⟨rfl,rfl⟩
  split
  ·unfold ko;dsimp only;split
   ·exact⟨rfl,rfl⟩
   split<;>exact⟨rfl,rfl⟩
  split
  ·rename_i hpl;have e1:=Aa (i:=i) (f:=f) (st:=st) (k:=j) (r:=(bP s (-1)).2) hpl;unfold mw tj;dsimp only;split<;>exact⟨aae (λr=>r.1) e1,aae (λr=>r.2.2.1) e1⟩
  ·unfold rx;dsimp only;split<;>exact⟨rfl,rfl⟩
 generalize eT c (bP s (-1)) i fs f st w x j=q at *;unfold pW at *;cases hok:q.2.2.1
 ·rw[hok]at ho2;simp only[acZ,aaS]at ho2;rw[jE]at ho2;omega
 rw[hok]at ho2;simp only[aaL]at ho2|-;have hl:=hd.left hok;have hcan:CanRun c q.1 (dB q.2.2.2):=⟨vL hl.g,λz hz=>by obtain⟨n,rfl,fs',f',st',w',h1,h2⟩:=hl.run z hz;exact⟨n,rfl,fs',f',st',w',h1,h2⟩,hl.nd⟩
 have ho3:aU (bn c e.1 q.1 (dB q.2.2.2)).1<0:=by
  rcases ac5 (aU (bn c e.1 q.1 (dB q.2.2.2)).1) 0 with h1|h1
  ·exact h1
  ·unfold cn at ho2;rw[if_pos h1]at ho2;exact ho2
 have ho4:aU q.2.2.2<0:=by
  rcases ac5 (aU q.2.2.2) 0 with h1|h1
  ·exact h1
  ·rw[uO c e.1 q.1 (s:=dB q.2.2.2) h1]at ho3;exact ho3
 have ht:=LQ (hrun hok ho4) (by rw[hfu.1];exact f1) (by rw[hfu.1];omega) (by omega) (by omega);have htwo:=hl.two;have ha:=FU hc e.1 hcan ht (by omega) (by omega) ho3;obtain⟨s1,s2,s3,s4⟩:=Dp ha ho2;have hk:=(vH c e.1 q.1 (dB q.2.2.2)).2;have ef:(cn c (bn c e.1 q.1 (dB q.2.2.2)).1).2.2.2.2.2.2.1=s.2.2.2.2.2.2.1-1:=by rw[s4,hk.1];show ac (q.2.2.2.2.2.2.2.2.2.1-1)=_;rw[hfu.1];exact aD (by omega) (by omega)
 refine⟨jt s1 (by omega) (by omega) (by omega),s2,s3,.inl ?_⟩;rw[s4,hk.2];exact hfu.2
def br(x:Int):Prop:=-9223372036854775808<=x/\x<=9223372036854775807
instance (x:Int):Decidable (br x):=inferInstanceAs (Decidable (-9223372036854775808<=x/\x<=9223372036854775807))
theorem iq(x:Int):br (ac x):=by unfold ac br;rw[IntKind.wrap_i64];omega
def UW(c:aC):Prop:=c.2.1.length<=100000/\c.2.2.1.length<=100000/\c.2.2.2.1.length<=100000/\c.2.2.2.2.1.length<=100000/\c.2.2.2.2.2.1.length<=100000/\c.2.2.2.2.2.2.1.length<=100000/\c.2.2.2.2.2.2.2.length<=100000
structure NumC(c:aC):Prop where
 i:∀x∈c.1,br x.2.1
 v:∀v∈c.2.2.2.1,br v.2
 n:∀l∈c.2.2.2.2.2.2.2,l.length<=1048576
theorem aj5(a b:Int):bJ .or .u32 a b=bJ .or .u32 b a:=by unfold bJ;grind
theorem xor_comm(a b:Int):bJ .xor .u32 a b=bJ .xor .u32 b a:=by unfold bJ;grind
def ri(x k:Int):Int:=bJ .or .u32 (fm .u32 x k) (tq .u32 x (32-k))
theorem wQ{x k r:Int}(h:bJ .and .u64 (IntKind.u64.wrap (-k)) 31=r)(h0:0<=r)(h1:r<=32)(hk:k=32-r):bK x (-k)=some (ri x k):=by
 unfold bK ri;have e:IntKind.u64.wrap (32-r)=32-r:=by rw[IntKind.wrap_u64];omega
 rw[h,e,ax h0,ax (show 0<=32-r by omega),aj5,hk,show(32:Int)-(32-r)=r by omega];rfl
def Sj(x i j k:Int):Int:=bJ .xor .u32 (bJ .xor .u32 (ri x i) (ri x j)) (ri x k)
theorem aqY(x:Int):oT x 6 11 25=some (Sj x 6 11 25):=by unfold oT;rw[show ac (0-6) = -6 from aD (by omega) (by omega),show ac (0-11) = -11 from aD (by omega) (by omega),show ac (0-25) = -25 from aD (by omega) (by omega),wQ (k:=6) (r:=26) (by decide +kernel) (by omega) (by omega) rfl,wQ (k:=11) (r:=21) (by decide +kernel) (by omega) (by omega) rfl,wQ (k:=25) (r:=7) (by decide +kernel) (by omega) (by omega) rfl];rfl
theorem aqX(x:Int):oT x 2 13 22=some (Sj x 2 13 22):=by unfold oT;rw[show ac (0-2) = -2 from aD (by omega) (by omega),show ac (0-13) = -13 from aD (by omega) (by omega),show ac (0-22) = -22 from aD (by omega) (by omega),wQ (k:=2) (r:=30) (by decide +kernel) (by omega) (by omega) rfl,wQ (k:=13) (r:=19) (by decide +kernel) (by omega) (by omega) rfl,wQ (k:=22) (r:=10) (by decide +kernel) (by omega) (by omega) rfl];rfl
theorem xw{A R S:Type}{f:S->Option (S⊕R)}(mk:Int->A->S)(a n:Nat)(g:A->Nat->A)(h:A->R)(I:Nat->A->Prop)(ha:a<=n)(hn:n<9223372036854775808)
  (hstep:∀(i:Nat) (x:A),a<=i->i<n->I i x->f (mk i x)=some (.inl (mk ((i:Int)+1) (g x i)))/\I (i+1) (g x i)) (hend:∀x,I n x->f (mk n x)=some (.inr (h x))) {x:A} (hx:I a x) :
  Itr.it f (mk a x)=some (h ((List.range' a (n-a)).foldl g x))/\I n ((List.range' a (n-a)).foldl g x):=by
 have gen:∀(j:Nat) (i:Nat) (x:A),a<=i->i+j=n->I i x->I n ((List.range' i j).foldl g x):=by
  intro j;induction j with
  |zero=>grind
  |succ j ih=>intro i x hai hi hI;exact ih (i+1) _ (by omega) (by omega) (hstep i x hai (by omega) hI).2
 refine⟨?_,gen (n-a) a x (by omega) (by omega) hx⟩;have key:=QN (f:=f) (λi x=>mk (i+a) x) (List.range' a (n-a)) g h (λi x=>I (a+i) x) (by grind)
  (λi k x hk hI=>by
   grind)
  (λx hI=>by
   grind) (a:=x) hx
 grind
theorem aj1{a b:Int}{k:Nat}(ha:0<=a)(hb:0<=b)(hb2:b<2 ^ k)(h:a*2 ^ k+b<4294967296):bJ .or .u32 (a*2 ^ k) b=a*2 ^ k+b:=by
 obtain⟨A,rfl⟩:=alM ha;obtain⟨B,rfl⟩:=alM hb;have hB:B<2 ^ k:=by grind
 have hc:((A:Int)*2 ^ k)=((A*2 ^ k:Nat):Int):=by push_cast;rfl
 have hn:A*2 ^ k+B<4294967296:=by grind
 rw[hc];have:=Go.u32_or ((A*2 ^ k:Nat):Int) (B:Int) (by omega) (by omega) (by omega) (by omega);refine Eq.trans this ?_;rw[ZH,ZH,<-Nat.shiftLeft_eq,<-Nat.shiftLeft_add_eq_or_of_lt hB];grind
theorem arb{x:Int}{k:Nat}(hk:k<=32)(h0:0<=x)(h:x*2 ^ k<4294967296):tq .u32 x (k:Int)=x*2 ^ k:=by
 have h2:0<=x*2 ^ k:=Int.mul_nonneg h0 (Int.le_of_lt (Int.pow_pos (by omega)));have e:min (k:Int).toNat 32=k:=by grind
 show IntKind.u32.wrap (x*2 ^ (min (k:Int).toNat 32))=_;rw[e,IntKind.wrap_u32'];grind
def mD(b:List Int)(n:Nat):Prop:=b.length=n/\∀x∈b,0<=x/\x<256
theorem QV{b:List Int}{n i:Nat}(h:mD b n)(hi:i<n):0<=b.getD i 0/\b.getD i 0<256:=h.2 _ (by rw[aav,ZB (by rw[h.1];exact hi)];grind)
def Vt(b:List Int)(t:Nat):Int:=((b.getD (4*t) 0*256+b.getD (4*t+1) 0)*256+b.getD (4*t+2) 0)*256+b.getD (4*t+3) 0
def ap8(w:List Int)(t:Nat):Int:=
 IntKind.u32.wrap (IntKind.u32.wrap (IntKind.u32.wrap (w.getD (t-16) 0+bJ .xor .u32 (bJ .xor .u32 (ri (w.getD (t-15) 0) 7) (ri (w.getD (t-15) 0) 18)) (fm .u32 (w.getD (t-15) 0) 3))+w.getD (t-7) 0)+bJ .xor .u32 (bJ .xor .u32 (ri (w.getD (t-2) 0) 17) (ri (w.getD (t-2) 0) 19)) (fm .u32 (w.getD (t-2) 0) 10))
def zr(b w:List Int)(t:Nat):List Int:=cu 64 0 w t (if t<16 then Vt b t else ap8 w t)
def VH(b:List Int):List Int:=(List.range' 0 64).foldl (zr b) []
theorem Wl{x b:Int}(h0:0<=x)(hx:x<16777216)(h1:0<=b/\b<256):bJ .or .u32 (tq .u32 x 8) (IntKind.u32.wrap b)=x*256+b:=by rw[show IntKind.u32.wrap b=b by rw[IntKind.wrap_u32'];omega,show tq .u32 x 8=x*2 ^ 8 from arb (k:=8) (by omega) h0 (by omega),aj1 (k:=8) h0 h1.1 (by omega) (by omega)];rfl
theorem Xk{α:Type}{n s t:Nat}{d x:α}{w:List α}(h:s<n):(cu n d w t x).getD s d=if s=t then x else w.getD s d:=by unfold cu;grind
theorem Fq{α:Type}{n t:Nat}{d x y:α}{w:List α}:cu n d (cu n d w t x) t y=cu n d w t y:=by unfold cu;simp_all
theorem Yr{b:List Int}{t:Nat}(hb:mD b 64)(ht:t<16):((b.take (4*t+4)).drop (4*t)).length=4:=by have:=hb.1;grind
theorem ab3{b:List Int}{t j:Nat}(hb:mD b 64)(ht:t<16)(hj:j<4):((b.take (4*t+4)).drop (4*t)).getD j 0=b.getD (4*t+j) 0:=by grind
def uB(b:List Int)(t:Nat):Nat->Int
 |0=>0
 |j+1=>uB b t j*256+b.getD (4*t+j) 0
theorem akI{b:List Int}(hb:mD b 64){t:Nat}(ht:t<16):∀j:Nat,j<=4->0<=uB b t j/\uB b t j<256 ^ j:=by
 intro j;induction j with
 |zero=>intro _;exact⟨acH _,Int.zero_lt_one⟩
 |succ j ih=>
  intro hj;have h1:=ih (by omega);have h2:=QV hb (show 4*t+j<64 by omega);rw[Int.pow_succ];show 0<=uB b t j*256+b.getD (4*t+j) 0/\uB b t j*256+b.getD (4*t+j) 0<256 ^ j*256;omega
theorem aao{b:List Int}(hb:mD b 64){t:Nat}(ht:t<16){w:List Int}(hw:w.getD t 0=0){v:Int×List Int}(hv:v=((t:Int),w)){j:Nat}(hj:j<4)(u:List Int)(hu:u.getD t 0=uB b t j) :
  fP b v ((j:Int),u)=some (.inl ((j:Int)+1,cu 64 0 u t (uB b t (j+1)))):=by
 subst hv;have a1:(ac (4*(t:Int)))=((4*t:Nat):Int):=by rw[aD (by omega) (by omega)];omega
 have a2:(ac (((4*t:Nat):Int)+4))=((4*t+4:Nat):Int):=by rw[aD (by omega) (by omega)];omega
 have hl:=Yr hb ht;have ix:ae ((b.take (4*t+4)).drop (4*t)) (j:Int)=some (b.getD (4*t+j) 0):=(bk 0 (by omega)).trans (aae some (ab3 hb ht hj));have hlt:=akI hb ht j (by omega);have hlt2:uB b t j<16777216:=by
  have:(256:Int) ^ j<=256 ^ 3:=by have:=Nat.pow_le_pow_right (n:=256) (by omega) (show j<=3 by omega);grind
  grind
 unfold fP;simp only[a1,a2,ZH,hl,ix,ax (show(j:Int)<((4:Nat):Int)by omega),Ze,f8,ah,ax (show 0<=(t:Int)/\(t:Int)<64 by omega),ax (show(0:Int)<=8 by omega),hu,Wl hlt.1 hlt2 (QV hb (show 4*t+j<64 by omega)),aD (x:=(j:Int)+1) (by omega) (by omega)];rfl
theorem adO{b:List Int}(hb:mD b 64){t:Nat}(ht:t<16){w:List Int}(hw:w.getD t 0=0):Itr.it (fP b ((t:Int),w)) (0,w)=some (cu 64 0 w t (Vt b t)):=by
 have h1:=(xw (f:=fP b ((t:Int),w)) (λi x=>(i,x)) 0 4 (λu j=>cu 64 0 u t (uB b t (j+1))) (λx=>x) (λj u=>u.getD t 0=uB b t j) (by omega) (by omega)
  (λj u _ hj hu=>⟨aao hb ht hw rfl hj u hu,(Xk (by omega)).trans (if_pos rfl)⟩)
  (λu _=>by
   have a1:(ac (4*(t:Int)))=((4*t:Nat):Int):=by rw[aD (by omega) (by omega)];omega
   have a2:(ac (((4*t:Nat):Int)+4))=((4*t+4:Nat):Int):=by rw[aD (by omega) (by omega)];omega
   unfold fP;grind) (x:=w) hw).1
 refine h1.trans (aae some ?_);have e:Vt b t=uB b t 4:=by show((b.getD (4*t) 0*256+b.getD (4*t+1) 0)*256+b.getD (4*t+2) 0)*256+b.getD (4*t+3) 0=(((0*256+b.getD (4*t+0) 0)*256+b.getD (4*t+1) 0)*256+b.getD (4*t+2) 0)*256+b.getD (4*t+3) 0;grind
 rw[e];show cu 64 0 (cu 64 0 (cu 64 0 (cu 64 0 w t _) t _) t _) t _=_;rw[Fq,Fq,Fq]
theorem rl(x:Int):bK x (-7)=some (ri x 7)/\bK x (-18)=some (ri x 18)/\bK x (-17)=some (ri x 17)/\bK x (-19)=some (ri x 19):=
 ⟨wQ (k:=7) (r:=25) (by decide +kernel) (by omega) (by omega) rfl,wQ (k:=18) (r:=14) (by decide +kernel) (by omega) (by omega) rfl,wQ (k:=17) (r:=15) (by decide +kernel) (by omega) (by omega) rfl,wQ (k:=19) (r:=13) (by decide +kernel) (by omega) (by omega) rfl⟩
theorem amI{b:List Int}(hb:mD b 64){t:Nat}(ht:t<64){w:List Int}(hw:w.getD t 0=0):pq ((t:Int),w) b=some (zr b w t):=by
 unfold pq zr;rcases abD t 16 with h|h
 ·have a1:(ac (4*(t:Int)))=((4*t:Nat):Int):=by rw[aD (by omega) (by omega)];omega
  have a2:(ac (((4*t:Nat):Int)+4))=((4*t+4:Nat):Int):=by rw[aD (by omega) (by omega)];omega
  have hl:=hb.1;simp only[ax (show(t:Int)<16 by omega),Ze,a1,a2,ah,ax (show 0<=((4*t:Nat):Int)/\((4*t:Nat):Int)<=((4*t+4:Nat):Int)/\((4*t+4:Nat):Int)<=(b.length:Int)by omega),adO hb h hw,f8,if_pos h]
 ·have e:∀j:Nat,j<=16->ac ((t:Int)-(j:Int))=((t-j:Nat):Int):=λj hj=>by rw[aD (by omega) (by omega)];omega
  have d:∀j:Nat,j<=16->0<j->(0<=((t-j:Nat):Int)/\((t-j:Nat):Int)<64):=λj hj _=>by omega
  simp only[aQ (show¬(t:Int)<16 by omega),Zr,show ac ((t:Int)-15)=((t-15:Nat):Int)from e 15 (by omega),show ac ((t:Int)-2)=((t-2:Nat):Int)from e 2 (by omega),show ac ((t:Int)-16)=((t-16:Nat):Int)from e 16 (by omega),show ac ((t:Int)-7)=((t-7:Nat):Int)from e 7 (by omega),
   ah,ax (d 15 (by omega) (by omega)),ax (d 2 (by omega) (by omega)),ax (d 16 (by omega) (by omega)),ax (d 7 (by omega) (by omega)),ax (show(0:Int)<=3 by omega),ax (show(0:Int)<=10 by omega),ax (show 0<=(t:Int)/\(t:Int)<64 by omega),
   (rl _).1,(rl _).2.1,(rl _).2.2.1,(rl _).2.2.2,f8,ZH,if_neg (show¬t<16 by omega)]
  rfl
theorem ON{b:List Int}(hb:mD b 64):mr b=some (VH b):=by
 unfold mr;have h1:=(xw (f:=mH b) (λi x=>(i,x)) 0 64 (λw t=>zr b w t) (λx=>x) (λi w=>∀t,i<=t->t<64->w.getD t 0=0) (by omega) (by omega)
  (λi x _ hi hI=>⟨by
   unfold mH;simp only[ax (show(i:Int)<64 by omega),Ze,amI hb hi (hI i (by omega) hi),f8,aD (x:=(i:Int)+1) (by omega) (by omega)],
   λt h1 h2=>by unfold zr;rw[Xk h2,if_neg (by omega)];grind⟩)
  (λx _=>by rfl) (x:=[]) (λt _ _=>rfl)).1
 refine(aae (λo:Option (List Int)=>o.bind _) h1).trans ?_;rfl
def chR(e f g:Int):Int:=bJ .xor .u32 (bJ .and .u32 e f) (bJ .and .u32 (bJ .xor .u32 e 4294967295) g)
def aq4(a b c:Int):Int:=bJ .xor .u32 (bJ .xor .u32 (bJ .and .u32 a b) (bJ .and .u32 a c)) (bJ .and .u32 b c)
def anZ(w:List Int)(x:yp)(t:Nat):Int:=IntKind.u32.wrap (IntKind.u32.wrap (IntKind.u32.wrap (IntKind.u32.wrap (x.2.2.2.2.2.2.2+Sj x.2.2.2.2.1 6 11 25)+chR x.2.2.2.2.1 x.2.2.2.2.2.1 x.2.2.2.2.2.2.1)+xh.getD t 0)+w.getD t 0)
def uU(w:List Int)(x:yp)(t:Nat):yp:=
 (IntKind.u32.wrap (anZ w x t+IntKind.u32.wrap (Sj x.1 2 13 22+aq4 x.1 x.2.1 x.2.2.1)),x.1,x.2.1,x.2.2.1,IntKind.u32.wrap (x.2.2.2.1+anZ w x t),x.2.2.2.2.1,x.2.2.2.2.2.1,x.2.2.2.2.2.2.1)
def st8(H:List Int):yp:=(H.getD 0 0,H.getD 1 0,H.getD 2 0,H.getD 3 0,H.getD 4 0,H.getD 5 0,H.getD 6 0,H.getD 7 0)
def anQ(H b:List Int):yp:=(List.range' 0 64).foldl (uU (VH b)) (st8 H)
def V5(H:List Int)(x:yp):List Int:=
 [IntKind.u32.wrap (H.getD 0 0+x.1),IntKind.u32.wrap (H.getD 1 0+x.2.1),IntKind.u32.wrap (H.getD 2 0+x.2.2.1),IntKind.u32.wrap (H.getD 3 0+x.2.2.2.1),IntKind.u32.wrap (H.getD 4 0+x.2.2.2.2.1),
  IntKind.u32.wrap (H.getD 5 0+x.2.2.2.2.2.1),IntKind.u32.wrap (H.getD 6 0+x.2.2.2.2.2.2.1),IntKind.u32.wrap (H.getD 7 0+x.2.2.2.2.2.2.2)]
def comp(H b:List Int):List Int:=V5 H (anQ H b)
theorem aoV{t:Nat}(ht:t<64):ae xh (t:Int)=some (xh.getD t 0)/\ae rC (t:Int)=some (xh.getD t 0):=by have e:rC=xh:=rfl;have l:xh.length=64:=rfl;exact⟨bk 0 (by omega),by rw[e];exact bk 0 (by omega)⟩
theorem Ph(w:List Int)(x:yp):Itr.it (gY w) (0,[x.1,x.2.1,x.2.2.1,x.2.2.2.1],[x.2.2.2.2.1,x.2.2.2.2.2.1,x.2.2.2.2.2.2.1,x.2.2.2.2.2.2.2]) =
  some ([((List.range' 0 64).foldl (uU w) x).1,((List.range' 0 64).foldl (uU w) x).2.1,((List.range' 0 64).foldl (uU w) x).2.2.1,((List.range' 0 64).foldl (uU w) x).2.2.2.1],[((List.range' 0 64).foldl (uU w) x).2.2.2.2.1,((List.range' 0 64).foldl (uU w) x).2.2.2.2.2.1,((List.range' 0 64).foldl (uU w) x).2.2.2.2.2.2.1,((List.range' 0 64).foldl (uU w) x).2.2.2.2.2.2.2]):=by
 have h:=(xw (f:=gY w) (λi x=>((i,[x.1,x.2.1,x.2.2.1,x.2.2.2.1],[x.2.2.2.2.1,x.2.2.2.2.2.1,x.2.2.2.2.2.2.1,x.2.2.2.2.2.2.2]):Y23)) 0 64 (uU w) (λx=>([x.1,x.2.1,x.2.2.1,x.2.2.2.1],[x.2.2.2.2.1,x.2.2.2.2.2.1,x.2.2.2.2.2.2.1,x.2.2.2.2.2.2.2])) (λ_ _=>True) (by omega) (by omega)
  (λi x _ hi _=>⟨by
   unfold gY;have g:∀p q r s:Int,List.getD [p,q,r,s] (0:Int).toNat (0:Int)=p/\List.getD [p,q,r,s] (1:Int).toNat (0:Int)=q/\List.getD [p,q,r,s] (2:Int).toNat (0:Int)=r/\List.getD [p,q,r,s] (3:Int).toNat (0:Int)=s:=λp q r s=>⟨rfl,rfl,rfl,rfl⟩
   have hx:∀y,bJ .xor .u32 (if IntKind.signed .u32 then -1 else IntKind.max .u32) y=bJ .xor .u32 y 4294967295:=λy=>xor_comm _ _;simp only[ax (show(i:Int)<64 by omega),Ze,ah,ax (show 0<=(i:Int)/\(i:Int)<64 by omega),ax (show 0<=(0:Int)/\(0:Int)<4 by omega),ax (show 0<=(1:Int)/\(1:Int)<4 by omega),ax (show 0<=(2:Int)/\(2:Int)<4 by omega),ax (show 0<=(3:Int)/\(3:Int)<4 by omega),(aoV hi).2,f8,(g _ _ _ _).1,(g _ _ _ _).2.1,(g _ _ _ _).2.2.1,(g _ _ _ _).2.2.2,aqY,aqX,hx,ZH,aD (x:=(i:Int)+1) (by omega) (by omega)];rfl,trivial⟩)
  (λx _=>by rfl) (x:=x) trivial).1
 exact h
def aod(s:List Int×List Int)(H:List Int)(i:Nat):List Int:=
 cu 8 0 (cu 8 0 H i (IntKind.u32.wrap (H.getD i 0+s.1.getD i 0))) (i+4) (IntKind.u32.wrap ((cu 8 0 H i (IntKind.u32.wrap (H.getD i 0+s.1.getD i 0))).getD (i+4) 0+s.2.getD i 0))
theorem aac(s:List Int×List Int)(H:List Int):Itr.it (q9 s) (0,H)=some ((List.range' 0 4).foldl (aod s) H):=by rfl
theorem aoD(H:List Int)(x:yp):(List.range' 0 4).foldl (aod ([x.1,x.2.1,x.2.2.1,x.2.2.2.1],[x.2.2.2.2.1,x.2.2.2.2.2.1,x.2.2.2.2.2.2.1,x.2.2.2.2.2.2.2])) H=V5 H x:=rfl
theorem aq9(H:List Int):dJ 8 0 H=[H.getD 0 0,H.getD 1 0,H.getD 2 0,H.getD 3 0,H.getD 4 0,H.getD 5 0,H.getD 6 0,H.getD 7 0]:=rfl
theorem V4{H b w:List Int}{x:yp}(hs:mr b=some w)
  (h:Itr.it (gY w) (0,[H.getD 0 0,H.getD 1 0,H.getD 2 0,H.getD 3 0],[H.getD 4 0,H.getD 5 0,H.getD 6 0,H.getD 7 0])=some ([x.1,x.2.1,x.2.2.1,x.2.2.2.1],[x.2.2.2.2.1,x.2.2.2.2.2.1,x.2.2.2.2.2.2.1,x.2.2.2.2.2.2.2])):jT H b=some (V5 H x):=by
 have e4:(4:Int).toNat=4:=rfl;have e8:(8:Int).toNat=8:=rfl;have e0:(0:Int).toNat=0:=rfl;unfold jT;simp only[hs,f8,aq9,ah,e4,e8,e0,ae5,adX,List.take_nil,ajK,adq,aaG,aer,h,aac,aoD];rfl
theorem WI{H b:List Int}(hb:mD b 64):jT H b=some (comp H b):=V4 (ON hb) (Ph (VH b) (st8 H))
attribute [local irreducible] comp
def yZ(m:List Int):Prop:=∀x∈m,0<=x/\x<256
theorem BX{a b:List Int}(ha:yZ a)(hb:yZ b):yZ (a++b):=λx hx=>(aad.1 hx).elim (ha x) (hb x)
theorem afg(l:List UInt8):yZ (da l):=λx hx=>by obtain⟨b,_,rfl⟩:=ZA.1 hx;have:=b.toNat_lt;omega
theorem DK(l:List UInt8):(da l).length=l.length:=aes ..
theorem O9(l:List UInt8)(n:Nat):da (l.take n)=(da l).take n:=ajI ..
theorem St(a b:List UInt8):da (a++b)=da a++da b:=abz ..
def j5(m:List Int):List UInt8:=List.map (λn=>UInt8.ofNat n.toNat) m
theorem aak{m:List Int}(h:yZ m):da (j5 m)=m:=by unfold da j5;rw[adK];refine(abw λx hx=>?_).trans (akz m);have:=h x hx;show((UInt8.ofNat x.toNat).toNat:Int)=x;rw[UInt8.toNat_ofNat'];omega
theorem ln(m:List Int):(j5 m).length=m.length:=aes ..
def blk(m:List Int)(k:Nat):List Int:=(m.take (64*k+64)).drop (64*k)
def Hs(m H:List Int)(k:Nat):List Int:=(List.range k).foldl (λH i=>comp H (blk m i)) H
theorem ajb{m y:List Int}{k:Nat}(h:64*k+64<=m.length):blk (m++y) k=blk m k:=by unfold blk;grind
theorem ED(m H:List Int)(k:Nat):Hs m H (k+1)=comp (Hs m H k) (blk m k):=by unfold Hs;rw[ak3,akx];rfl
theorem W6{m y H:List Int}:∀{k:Nat},64*k<=m.length->Hs (m++y) H k=Hs m H k:=by
 intro k;induction k with
 |zero=>intro _;simp only[Hs,List.range_zero,List.foldl_nil]
 |succ k ih=>intro h;rw[ED,ED,ih (by omega),ajb (by omega)]
theorem am2{m:List Int}(hm:yZ m){k:Nat}(h:64*k+64<=m.length):mD (blk m k) 64:=
 ⟨by unfold blk;grind,λx hx=>hm x (ajj (akY hx))⟩
theorem EH{α:Type}(n:Nat)(d:α)(xs:List α):(dJ n d xs).length=n:=by unfold dJ;simp
theorem Wy{α:Type}{n:Nat}(d:α){xs:List α}(h:xs.length=n):dJ n d xs=xs:=by refine List.ext_getElem (by rw[EH,h]) λi h1 h2=>?_;unfold dJ;grind
structure Fed(H m:List Int)(S:bY):Prop where
 h:S.1=Hs m H (m.length / 64)
 b:(dJ 64 0 S.2.1).take (m.length%64)=m.drop (64*(m.length / 64))
 n:S.2.2=m.length
 y:yZ m
theorem YP{H m:List Int}{S:bY}(hF:Fed H m S){x:List UInt8}(hx:x≠[])(hl:m.length+x.length<4611686018427387904) :
  ∃(c:Nat) (S':bY),0<c/\c<=x.length/\gk (x,S)=some (.inl (x.drop c,S'))/\Fed H (m++da (x.take c)) S':=by
 obtain⟨h1,h2,h3,h4⟩:=hF;obtain⟨SH,SB,SN⟩:=S;dsimp only at h1 h2 h3;have hq:=Nat.div_add_mod m.length 64;have hk:=aka m.length (show 0<64 by omega);generalize hQ:m.length / 64=q at *;generalize hK:m.length%64=k at *;have hx0:0<x.length:=List.length_pos_iff.2 hx;have etm:ac (Int.tmod SN 64)=(k:Int):=by
  rw[h3,<-hK];have e:Int.tmod (m.length:Int) 64=((m.length%64:Nat):Int):=by grind
  rw[e,aD (by omega) (by omega)]
 have emin:(min ((64:Int)-(k:Int)).toNat x.length:Nat)=min (64-k) x.length:=by grind
 generalize hc:min (64-k) x.length=c at emin;have ec:ac ((k:Int)+(c:Int))=((k+c:Nat):Int):=by rw[aD (by omega) (by omega)];omega
 have en:IntKind.u64.wrap (SN+IntKind.u64.wrap (c:Int))=((m.length+c:Nat):Int):=by rw[h3,IntKind.wrap_u64,IntKind.wrap_u64];omega
 have hxb:((x==[]):Bool)=false:=by grind
 have hpl:=EH 64 (0:Int) SB;have hB:io 64 SB (k:Int) 64 x=m.drop (64*q)++da (x.take c)++(dJ 64 0 SB).drop (k+c):=by unfold io;have e2:(min ((64:Int)-(k:Int)).toNat x.length)=c:=emin;rw[e2,ZH,h2,O9]
 have hBl:(io 64 SB (k:Int) 64 x).length=64:=by rw[hB];simp only[ZD,adT,DK,acs,hpl];omega
 have hml:(m++da (x.take c)).length=m.length+c:=by grind
 have hby:yZ (m++da (x.take c)):=BX h4 (afg _);have hdrop:(m++da (x.take c)).drop (64*q)=m.drop (64*q)++da (x.take c):=by grind
 have hx1:(x.take (x.length:Int).toNat).drop ((c:Nat):Int).toNat=x.drop c:=by simp_all
 by_cases hful:k+c=64
 ·have hblk:blk (m++da (x.take c)) q=io 64 SB (k:Int) 64 x:=by
   unfold blk;rw[aaU (by omega),hdrop,hB,show(dJ 64 0 SB).drop (k+c)=[]from List.drop_of_length_le (by omega),Z2]
  refine⟨c,(comp SH (io 64 SB (k:Int) 64 x),io 64 SB (k:Int) 64 x,((m.length+c:Nat):Int)),by omega,by omega,?_,?_⟩
  ·have hcp:jT SH (((dJ 64 (0:Int) (io 64 SB (k:Int) 64 x)).take (64:Int).toNat).drop (0:Int).toNat)=some (comp SH (io 64 SB (k:Int) 64 x)):=by
    have e:(((dJ 64 (0:Int) (io 64 SB (k:Int) 64 x)).take (64:Int).toNat).drop (0:Int).toNat)=io 64 SB (k:Int) 64 x:=by rw[Wy 0 hBl];grind
    rw[e];refine WI ?_;rw[<-hblk];exact am2 hby (by omega)
   unfold gk;dsimp only;rw[hxb];simp only[aaX,Ze,etm,emin,ec,en,hx1,ah,ax (show 0<=(k:Int)/\(k:Int)<=64/\(64:Int)<=64 by omega),ax (show(k:Int)<=64/\(64:Int)<=64 by omega),ax (show 0<=(c:Int)/\(c:Int)<=(x.length:Int)/\(x.length:Int)<=(x.length:Int)by omega),bt (show((k+c:Nat):Int)=64 by omega),ax (show 0<=(0:Int)/\(0:Int)<=64/\(64:Int)<=64 by omega),hcp,f8];rfl
  ·refine⟨?_,?_,by rw[hml],hby⟩
   ·rw[hml,show(m.length+c) / 64=q+1 by omega,ED,W6 (by omega),hblk,<-h1]
   ·rw[hml,show(m.length+c)%64=0 by omega,show 64*((m.length+c) / 64)=m.length+c by omega,adX,List.drop_of_length_le (by omega)]
 ·refine⟨c,(SH,io 64 SB (k:Int) 64 x,((m.length+c:Nat):Int)),by omega,by omega,?_,?_⟩
  ·unfold gk;dsimp only;rw[hxb];simp only[aaX,Ze,etm,emin,ec,en,hx1,ah,ax (show 0<=(k:Int)/\(k:Int)<=64/\(64:Int)<=64 by omega),ax (show(k:Int)<=64/\(64:Int)<=64 by omega),ax (show 0<=(c:Int)/\(c:Int)<=(x.length:Int)/\(x.length:Int)<=(x.length:Int)by omega),bf (show¬((k+c:Nat):Int)=64 by omega)];rfl
  ·refine⟨?_,?_,by rw[hml],hby⟩
   ·rw[hml,show(m.length+c) / 64=q by omega,W6 (by omega),<-h1]
   ·rw[hml,show(m.length+c)%64=k+c by omega,show(m.length+c) / 64=q by omega,Wy 0 hBl,hdrop,hB];exact List.take_left' (by grind)
theorem EO{H m:List Int}{S:bY}(hF:Fed H m S)(x:List UInt8)(hl:m.length+x.length<4611686018427387904):∃S',gz S x=some S'/\Fed H (m++da x) S':=by
 unfold gz;obtain⟨r,h1,h2⟩:=fj (f:=gk) (λs=>s.1.length) (λs=>∃m',Fed H m' s.2/\m'++da s.1=m++da x) (λr=>Fed H (m++da x) r)
  (λs hs=>by
   obtain⟨y,S⟩:=s;obtain⟨m',h1,h2⟩:=hs;dsimp only at h1 h2|-;have hlen:m'.length+y.length=m.length+x.length:=by have:=aae List.length h2;simpa only[ZD,DK]using this
   by_cases hy:y=[]
   ·left;subst hy;refine⟨S,rfl,?_⟩;rw[<-h2,show da ([]:List UInt8)=[]from rfl,Z2];exact h1
   ·right;obtain⟨c,S',c1,c2,c3,c4⟩:=YP h1 hy (by omega);refine⟨(y.drop c,S'),c3,⟨_,c4,?_⟩,?_⟩
    ·rw[aaf,<-St,adB];exact h2
    grind) (s:=(x,S)) ⟨m,hF,rfl⟩ (by grind)
 grind
theorem Zw{f:List Int->Option (List Int⊕List Int)}{p:List Int}{z:Nat}(hz:z<64)(h1:∀j,j<z->f (p++List.replicate j 0)=some (.inl (p++List.replicate j 0++[0])))(h2:f (p++List.replicate z 0)=some (.inr (p++List.replicate z 0))) :
  Itr.it f p=some (p++List.replicate z 0):=
 eh (f:=f) (λs=>p.length+z-s.length) (λ_=>p++List.replicate z 0) (λs=>∃j,s=p++List.replicate j 0/\j<=z)
  (λs hs=>by
   obtain⟨j,rfl,hj⟩:=hs;by_cases h:j<z
   ·right;refine⟨_,h1 j h,⟨j+1,by rw[ajc,aaf],by omega⟩,?_,rfl⟩;grind
   grind) (s:=p) ⟨0,by simp,by omega⟩ (by grind)
def lb(n:Nat)(i:Nat):Int:=IntKind.u8.wrap (fm .u64 (IntKind.u64.wrap (8*(n:Int))) (ac (56-ac (8*(i:Int)))))
def zs(n:Nat):Nat:=(119-n%64)%64
def tail(n:Nat):List Int:=([128]++List.replicate (zs n) 0)++(List.range' 0 8).map (lb n)
theorem aaJ(g:Nat->Int)(l:List Nat):∀p:List Int,l.foldl (λx i=>x++[g i]) p=p++l.map g:=by
 induction l with
 |nil=>intro p;simp
 |cons a l ih=>grind
theorem w8(x:Int):0<=IntKind.u8.wrap x/\IntKind.u8.wrap x<256:=by rw[IntKind.wrap_u8'];omega
theorem ac4(n:Nat):yZ (tail n):=by
 refine BX (BX (λx hx=>?_) λx hx=>?_) λx hx=>?_
 ·grind
 ·grind
 ·obtain⟨i,_,rfl⟩:=ZA.1 hx;exact w8 _
theorem aaN(n:Nat):(tail n).length=9+zs n:=by unfold tail;grind
theorem akf{f:List Int×Int->Option ((List Int×Int)⊕List Int)}{n:Nat}{p:List Int}(hp:p.length<140737488355000)
  (h1:∀(x:List Int) (i:Nat),i<8->aP x.length 1 1=true->f (x,(i:Int))=some (.inl (x++[lb n i],ac ((i:Int)+1)))) (h2:∀x,f (x,(8:Int))=some (.inr x)):Itr.it f (p,0)=some (p++(List.range' 0 8).map (lb n)):=by
 have h:=(xw (f:=f) (λi x=>(x,i)) 0 8 (λx i=>x++[lb n i]) (λx=>x) (λi x=>x.length=p.length+i) (by omega) (by omega)
  (λi x _ hi hI=>⟨by
   rw[h1 x i hi (bO (by omega) (by omega)),aD (by omega) (by omega)],by grind⟩)
  (λx _=>h2 x) (x:=p) rfl).1
 rw[<-aaJ];exact h
theorem W7{n:Nat}(hn:n<4611686018427387904){S:bY}(hS:S.2.2=n):Itr.it (iJ S) [128]=some ([128]++List.replicate (zs n) 0)/\Itr.it (lC S) ([128]++List.replicate (zs n) 0,0)=some (tail n):=by
 have hz:zs n<64:=aka _ (by omega);have step:∀j,j<=zs n->(Int.tmod (ac ((ac S.2.2)+((([128]:List Int)++List.replicate j 0).length:Int))) 64)=(((n+1+j)%64:Nat):Int):=λj hj=>by rw[hS,aD (x:=(n:Int)) (by omega) (by omega)];simp only[ZD,adE,aaG,aer];rw[aD (by omega) (by omega),ade (by omega)];omega
 refine⟨Zw hz (λj hj=>?_) ?_,akf (by grind) (λx i hi ha=>?_) λx=>?_⟩
 ·unfold iJ;rw[step j (by omega),nt (by unfold zs at hj;omega),bO (by grind) (by omega)];rfl
 ·unfold iJ;rw[step _ (Z0 _),nf (by unfold zs;omega)];rfl
 ·unfold lC;have e:ac (8*(i:Int))=8*(i:Int):=aD (by omega) (by omega);have e2:ac (56-8*(i:Int))=56-8*(i:Int):=aD (by omega) (by omega);have ha':aP x.length ([lb n i]:List Int).length 1=true:=ha;have el:IntKind.u8.wrap (fm .u64 (IntKind.u64.wrap (8*S.2.2)) (56-8*(i:Int)))=lb n i:=by unfold lb;rw[e,e2,hS]
  simp only[ax (show(i:Int)<8 by omega),Ze,e,e2,el,ax (show(0:Int)<=56-8*(i:Int)by omega),ah,ha']
 rfl
def AK:List Int:=[1779033703,3144134277,1013904242,2773480762,1359893119,2600822924,528734635,1541459225]
def ob(H:List Int)(i:Nat):Int:=IntKind.u8.wrap (fm .u32 (H.getD (i / 4) 0) ((24-8*(i%4):Nat):Int))
theorem aaI{α:Type}{n:Nat}{d:α}(g:Nat->α)(w:List α):∀i,i<=n->(List.range' 0 i).foldl (λw i=>cu n d w i (g i)) w=if i=0 then w else(List.range n).map (λj=>if j<i then g j else w.getD j d):=by
 intro i;induction i with
 |zero=>intro _;rfl
 |succ i ih=>
  intro hi;rw[List.range'_concat,akx,ih (by omega),if_neg (show¬i+1=0 by omega)];show cu n d _ (0+1*i) (g (0+1*i))=_;rw[show 0+1*i=i by omega];unfold cu;refine abw λj hj=>?_;grind
theorem aeV(H:List Int){S:bY}(hS:S.1=H):Itr.it (iH S) (0,[])=some ((List.range 32).map (ob H))/\True:=by
 have ef:(List.range' 0 32).foldl (λw i=>cu 32 (0:Int) w i (ob H i)) []=(List.range 32).map (ob H):=by rw[aaI _ _ 32 (by omega),if_neg (by omega)];simp_all
 have a1:∀i:Nat,i<32->ac (Int.tdiv (i:Int) 4)=((i / 4:Nat):Int):=λi hi=>by rw[ajJ (by omega),aD (by omega) (by omega)];omega
 have a2:∀i:Nat,i<32->ac (24-ac (8*Int.tmod (i:Int) 4))=((24-8*(i%4):Nat):Int):=λi hi=>by rw[ade (by omega),aD (x:=8*((i:Int)%4)) (by omega) (by omega),aD (by omega) (by omega)];omega
 constructor
 ·have h:=(xw (f:=iH S) (λi x=>(i,x)) 0 32 (λw i=>cu 32 (0:Int) w i (ob H i)) (λx=>x) (λ_ _=>True) (by omega) (by omega)
   (λi x _ hi _=>⟨by
    unfold iH ob;simp only[a1 i hi,a2 i hi,hS,ZH,ah,ax (show(i:Int)<32 by omega),Ze,ax (show 0<=((i / 4:Nat):Int)/\((i / 4:Nat):Int)<8 by omega),ax (show 0<=((24-8*(i%4):Nat):Int)by omega),ax (show 0<=(i:Int)/\(i:Int)<32 by omega),aD (x:=(i:Int)+1) (by omega) (by omega)];rfl,trivial⟩)
   (λx _=>by rfl) (x:=[]) trivial).1
  grind
 trivial
def aq7(m:List Int):List Int:=(List.range 32).map (ob (Hs (m++tail m.length) AK ((m++tail m.length).length / 64)))
theorem aby{m:List Int}(hl:m.length<140737488354000){S:bY}(hF:Fed AK m S):mP S=some (aq7 m)/\True:=by
 have hz:zs m.length<64:=aka _ (by omega);have ht:=aaN m.length;constructor
 ·obtain⟨h1,h2⟩:=W7 (n:=m.length) (by omega) hF.n;obtain⟨S',h3,h4⟩:=EO hF (j5 (tail m.length)) (by rw[ln,ht];omega);rw[aak (ac4 _)]at h4;unfold mP;refine(aae (λo:Option (List Int)=>o.bind _) h1).trans ?_;rw[f8];refine(aae (λo:Option (List Int)=>o.bind _) h2).trans ?_;rw[f8];refine(aae (λo:Option bY=>o.bind _) h3).trans ?_;rw[f8];exact(aae (λo:Option (List Int)=>o.bind _) (aeV _ h4.h).1).trans rfl
 trivial
end Go.Proofs.YtgghcmbaidihjaaGreatDoor
