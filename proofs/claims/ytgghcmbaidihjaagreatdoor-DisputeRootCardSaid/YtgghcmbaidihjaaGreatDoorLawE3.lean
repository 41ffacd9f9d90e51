/- Laws for the row. No condition. -/
import Derived.Test.YtgghcmbaidihjaaGreatDoorLawS3
import Derived.Test.YtgghcmbaidihjaaGreatDoorExtT
import Derived.Test.YtgghcmbaidihjaaGreatDoorLawS8
import Derived.Laws.BitsAllLaws
namespace Go.Proofs.YtgghcmbaidihjaaGreatDoor
open Go.Sm
variable {s:aG} {c:CC} {i k t n pc:Nat} {f:Fr} {st b L H m:List Int} {fs:List Fr} {w K A N:Int} {α:Type} {e:bO}
abbrev A3:Type:=Int×Int×Bool
def kC(a:A3):Prop:=0<=a.1/\a.1<1099511627776/\0<=a.2.1/\a.2.1<1099511627776
def kQ(a b:A3):Bool:=decide (a.1<b.1)||(a.1==b.1&&decide (a.2.1<b.2.1))
theorem awn{a b:A3}(ha:kC a)(d:kC b):∃n:Int,dY a b=some n/\decide (n<0)=kQ a b:=by
 obtain⟨p,q,r,u⟩:=ha;obtain⟨g,j,l,o⟩:=d;by_cases h:a.1=b.1
 ·have e:dY a b=some (ac (a.2.1-b.2.1)):=by
   unfold dY;grind
  grind[kQ,ay]
 ·have e:dY a b=some (ac (a.1-b.1)):=by
   unfold dY;grind
  grind[kQ,ay]
def kI(x:A3):List A3->List A3
 |[]=>[x]
 |y::r=>if kQ x y then y::kI x r else x::y::r
theorem Hh(pre:List A3)(x:A3)(rest:List A3){i:Int}(h:i=(pre.length:Int)):ae (pre++x::rest) i=some x:=by subst h;unfold ae;simp
theorem agL{d0:List A3}{pre rest:List A3}{x:A3}(hs:∀a∈pre++x::rest,kC a)(p:(pre++x::rest).length=n)(z:n<=12) :
  ∃r,Itr.it (dC (d0,0,(n:Int)) 0) ((pre.length:Int),pre++x::rest)=some r/\r=(kI x pre.reverse).reverse++rest:=by
 obtain⟨R,g⟩:∃R,R=(kI x pre.reverse).reverse++rest:=⟨_,rfl⟩
 rw[<-g];refine fD (λs=>s.1.toNat) (λs=>∃pre x rest,s=((pre.length:Int),pre++x::rest)/\R=(kI x pre.reverse).reverse++rest/\(∀a∈pre++x::rest,kC a)/\(pre++x::rest).length=n) (λr=>r=R) ?_ ⟨pre,x,rest,rfl,g,hs,p⟩ (by grind);rintro s ⟨pre,x,rest,rfl,g,hs,p⟩;rcases akR pre with rfl|⟨d,y,rfl⟩
 ·left;refine⟨x::rest,rfl,?_⟩;rw[g];rfl
 ·rw[akS]at *;have o:d.length+rest.length+2=n:=by grind
  have B:(((d++[y]).length:Nat):Int)=(d.length:Int)+1:=by simp
  have D:ac ((d.length:Int)+1-1)=(d.length:Int):=by rw[ay (by omega) (by omega)];omega
  have u:ae ((d++[y])++x::rest) (0+((d.length:Int)+1))=some x:=Hh _ _ _ (by simp);have v:ae ((d++[y])++x::rest) (0+(d.length:Int))=some y:=by grind[List.append_assoc,Hh]
  obtain⟨m,C,j⟩:=awn (hs x (by simp)) (hs y (by simp));have q:decide ((0:Int)<(d.length:Int)+1)=true:=ahk (by omega);have c2:decide ((0:Int)<=(d.length:Int)+1/\(d.length:Int)+1<(n:Int)-0)=true:=ahk (by omega);have c3:decide ((0:Int)<=(d.length:Int)/\(d.length:Int)<(n:Int)-0)=true:=ahk (by omega);rw[B];have h:R=(kI x (y::d.reverse)).reverse++rest:=by rw[g];simp
  unfold dC;simp only[q,c2,c3,D,u,v,C,j,af,abv,afg,Bool.or_true,f8,Qz2];cases l:kQ x y
  ·left;grind[kI]
  ·right;have F:((d++[y])++x::rest).set (0+((d.length:Int)+1)).toNat y=d++y::y::rest:=by
    grind
   have E:ae (d++y::y::rest) (0+(d.length:Int))=some y:=Hh _ _ _ (by simp);have G:(d++y::y::rest).set (0+(d.length:Int)).toNat x=d++x::y::rest:=by simp_all
   refine⟨((d.length:Int),d++x::y::rest),?_,⟨d,x,y::rest,rfl,?_,?_,by simp;omega⟩,by simp⟩
   ·grind
   ·rw[h,kI,if_pos l];simp
   grind
theorem uq(x:A3):∀l:List A3,(kI x l).Perm (x::l)
 |[]=>aoX _
 |y::r=>by
  unfold kI;split
  ·exact(List.Perm.cons y (uq x r)).trans (List.Perm.swap ..)
  grind
theorem JH{x y:A3}(h:kQ x y=true):kQ y x=false:=by unfold kQ at h|-;grind
theorem GD{x y z:A3}(h:kQ x y=false)(k:kQ y z=false):kQ x z=false:=by unfold kQ at h k|-;grind
theorem Ba(x:A3):∀l:List A3,l.Pairwise (λa b=>kQ a b=false)->(kI x l).Pairwise (λa b=>kQ a b=false)
 |[],_=>by simp[kI]
 | y::r,h=>by
  obtain⟨j,o⟩:=afZ.1 h;unfold kI;split
  ·rename_i d;refine afZ.2 ⟨λz g=>?_,Ba x r o⟩;rcases aen.1 ((uq x r).mem_iff.1 g)with rfl|g
   ·exact JH d
   grind
  ·rename_i d;have d:kQ x y=false:=by grind
   refine afZ.2 ⟨λz g=>?_,h⟩;rcases aen.1 g with rfl|g
   ·exact d
   ·exact GD d (j z g)
theorem aqu{d:List A3}(hs:∀a∈d,kC a)(o:d.length=n)(g:n<=12) :
  ∃r,dc (d,0,(n:Int)) 0 n=some r/\r.Perm d/\r.reverse.Pairwise (λa b=>kQ a b=false):=by
 unfold dc;refine fD (λs:Int×List A3=>(n+1-s.1.toNat)) (λs:Int×List A3=>s.2.Perm d/\(∃S rest:List A3,s.2=S++rest/\S.reverse.Pairwise (λa b=>kQ a b=false)/\((s.1=(S.length:Int))\/(s.1=1/\n=0)))) (λr:List A3=>r.Perm d/\r.reverse.Pairwise (λa b=>kQ a b=false)) ?_ ⟨aoX _,?_⟩ (by grind)
 ·rintro⟨i,data⟩ ⟨j,S,rest,hd,l,hi⟩;simp only at j hd hi;subst hd;have hl:=j.length_eq;simp only[acA]at hl;unfold fN;cases rest with
  |nil=>
   grind
  |cons x rest=>
   right;simp only[aeH]at hl;have h:i=(S.length:Int):=by omega
   subst h;obtain⟨r,p,rfl⟩:=agL (n:=n) (d0:=d) (pre:=S) (x:=x) (rest:=rest) (λa ha=>hs a (j.mem_iff.1 ha)) (by grind) g;refine⟨((S.length:Int)+1,(kI x S.reverse).reverse++rest),?_,⟨?_,(kI x S.reverse).reverse,rest,rfl,by simpa using Ba x _ l,.inl ?_⟩,?_⟩
   ·grind[decide,decide_eq_true,ay]
   ·grind[kI,trans,List.reverse_perm,uq]
   ·have:=(uq x S.reverse).length_eq;grind
   grind
 ·cases d with
  |nil=>exact⟨[],[],rfl,List.Pairwise.nil,.inr ⟨(by rfl),by grind⟩⟩
  |cons x r=>exact⟨[x],r,rfl,by simp,.inl (by rfl)⟩
theorem Bm:∀{g h:List A3},g.Perm h->g.Pairwise (λa b=>kQ b a=false)->h.Pairwise (λa b=>kQ b a=false)->(∀a∈g,∀b∈g,kQ a b=false->kQ b a=false->a=b)->g=h
 |[],h,d,_,_,_=>(List.Perm.nil_eq d)
 |a::r1,[],d,_,_,_=>by simp_all
 |a::r1,b::C,d,l,o,hd=>by
  obtain⟨z,r⟩:=afZ.1 l;obtain⟨B,u⟩:=afZ.1 o;have j:a=b:=by have v:b∈a::r1:=d.mem_iff.2 (by simp);grind
  subst j;rw[Bm ((List.perm_cons a).1 d) r u λx p y q=>hd x (abJ _ p) y (abJ _ q)]
theorem ajJ:∀k:Fin 13,(qO (IntKind.u64.wrap ((k.val:Int)-0))).isSome=true:=by decide
theorem ajo{d:List A3}(hs:∀a∈d,kC a)(g:d.length<=12) :
  ∃r,co (d,0,(d.length:Int))=some r/\r.Perm d/\r.reverse.Pairwise (λa b=>kQ a b=false):=by
 obtain⟨r,u,q,hq⟩:=aqu hs rfl g;have l:=ajJ ⟨d.length,by omega⟩;obtain⟨m,o⟩:=ahy.1 l;refine⟨r,?_,q,hq⟩;have p:qO (IntKind.u64.wrap ((d.length:Int)-0))=some m:=o;have h:dW (d,0,(d.length:Int)) 0 ((d.length:Int)-0) m=some r:=by unfold dW;obtain⟨r',j,rfl⟩:=fD (f:=eB (d,0,(d.length:Int))) (λ_=>0) (λs=>s=((0:Int),(d.length:Int)-0,m,true,true)) (λx=>x=r) (λs hs=>.inl (by grind[eB,decide,decide_eq_true,ay])) rfl (by decide);exact j
 unfold co;grind
theorem PY(a b:A3):FI a b = !(kQ b a):=by unfold FI kQ;grind
theorem yN(x:A3):∀l:List A3,(wH x l).Perm (x::l)
 |[]=>aoX _
 |y::r=>by
  unfold wH;cases FI x y
  ·exact(List.Perm.cons y (yN x r)).trans (List.Perm.swap ..)
  grind
theorem Dg:∀l:List A3,(Du l).Perm l
 |[]=>aoX _
 |x::r=>(yN x _).trans (List.Perm.cons x (Dg r))
theorem Bf(x:A3):∀l:List A3,l.Pairwise (λa b=>kQ b a=false)->(wH x l).Pairwise (λa b=>kQ b a=false)
 |[],_=>by simp[wH]
 | y::r,h=>by
  obtain⟨j,o⟩:=afZ.1 h;unfold wH;cases d:FI x y
  ·rw[PY]at d;refine afZ.2 ⟨λz g=>?_,Bf x r o⟩;rcases aen.1 ((yN x r).mem_iff.1 g)with rfl|g
   ·exact JH (by grind)
   grind
  ·rw[PY]at d;have d:kQ y x=false:=by grind
   refine afZ.2 ⟨λz g=>?_,h⟩;rcases aen.1 g with rfl|g
   ·exact d
   ·exact GD (j z g) d
theorem zz:∀l:List A3,(Du l).Pairwise (λa b=>kQ b a=false)
 |[]=>List.Pairwise.nil
 |x::r=>Bf x _ (zz r)
abbrev tK(p:A3×Bool):A3:=(p.1.1,p.1.2.1,p.2)
theorem Db:∀{es:List (A3×Bool)},uN es=true->∀a∈es.map tK,kC a
 |[],_,a,h=>by cases h
 |p::r,d,a,h=>by
  simp only[uN,abF,agD]at d;rcases aen.1 h with rfl|h
  ·exact d.1.1
  ·exact Db d.2 a h
theorem Jq{x:A3}{l:List (A3×Bool)}(h:GY x l=true):∀a∈l.map tK,¬(a.1=x.1/\a.2.1=x.2.1):=λa ha=>by obtain⟨p,d,rfl⟩:=acG.1 ha;have:=acr.1 h p d;grind
theorem Ef:∀{es:List (A3×Bool)},uN es=true->∀a∈es.map tK,∀b∈es.map tK,a.1=b.1->a.2.1=b.2.1->a=b
 |[],_,a,h=>by cases h
 | p::r,g,a,ha=>by
  intro b d j l;simp only[uN,abF,agD]at g;rcases aen.1 ha with rfl|ha
  ·rcases aen.1 d with rfl|d
   ·rfl
   ·exact absurd ⟨j.symm,l.symm⟩ (Jq g.1.2 b d)
  ·rcases aen.1 d with rfl|d
   ·exact absurd ⟨j,l⟩ (Jq g.1.2 a ha)
   ·exact Ef g.2 a ha b d j l
instance instSortLaw:SortLaw:=⟨λes d ho hp=>by
 unfold rP at ho
 obtain⟨h12,ho⟩:=Bool.and_eq_true_iff.1 ho
 have h12:=abM h12
 have hl:d.length<=12:=by have:=hp.length_eq;simp at this;omega
 obtain⟨r,hr,hrp,hrs⟩:=ajo (λa ha=>Db ho a (hp.mem_iff.1 ha)) hl
 rw[hr]
 congr 1
 have hpp:r.Perm (es.map tK):=hrp.trans hp
 refine Bm (hpp.trans (Dg _).symm) (by simpa[List.pairwise_reverse]using hrs) (zz _) λa ha b hb h1 h2=>?_
 refine Ef ho a (hpp.mem_iff.1 ha) b (hpp.mem_iff.1 hb) ?_ ?_
 ·unfold kQ at h1 h2
  simp only[afJ,akF,akr,ag6]at h1 h2
  omega
 ·unfold kQ at h1 h2
  simp only[afJ,akF,akr,ag6]at h1 h2
  omega⟩
set_option linter.unusedVariables false
set_option maxRecDepth 4000
def bP:List mR->Int->Int->Option Bool
 |[],_,_=>none
 |y::r,k,o=>if y.1=k/\y.2.1=o then some y.2.2 else bP r k o
def ltK(a b:mR):Prop:=a.1<b.1\/(a.1=b.1/\a.2.1<b.2.1)
instance (a b:mR):Decidable (ltK a b):=by unfold ltK;infer_instance
def HP(L:List mR)(k o:Int):Option Bool:=if L.any (λa=>decide (a.1=k/\a.2.1=o))=true then some (L.any λa=>decide (a.1=k/\a.2.1=o)&&a.2.2)else none
theorem ajl(L:List mR)(x:mR)(k o:Int):HP (L++[x]) k o=if x.1=k/\x.2.1=o then some ((HP L k o).getD false||x.2.2)else HP L k o:=by unfold HP;grind
structure MapOk(m:List ((Int×Int×Bool)×Bool)):Prop where
 key:∀p∈m,p.1.2.2=false
 ne:m.Pairwise λp q=>¬(p.1.1=q.1.1/\p.1.2.1=q.1.2.1)
theorem adx(x:mR)(q:Int×Int×Bool)(hq:q.2.2=false):ah.eqD (x.1,x.2.1,false) q=decide (q.1=x.1/\q.2.1=x.2.1):=by grind[TC.eqD]
theorem agc{m:List ((Int×Int×Bool)×Bool)}(h:∀p∈m,p.1.2.2=false)(x:mR):dt ah (.sc .bool) (x.1,x.2.1,false) m=bP (m.map tK) x.1 x.2.1:=by
 unfold dt;induction m with
 |nil=>rfl
 |cons p r a=>
  grind[bP,List.mem_cons_self,List.mem_cons_of_mem,adx]
theorem HQ{x:mR}{b:Bool}{z:(Int×Int×Bool)×Bool}:∀{m:List ((Int×Int×Bool)×Bool)},z∈cP ah (.sc .bool) (x.1,x.2.1,false) b m->z=((x.1,x.2.1,false),b)\/z∈m
 |[],h=>.inl (ade.1 h)
 | p::r,h=>by
  unfold cP at h;unfold AW at h;cases hq:ah.eqD (x.1,x.2.1,false) p.1
  ·rw[hq]at h;rcases aen.1 h with h|h
   ·grind
   ·rcases HQ h with h|h
    ·exact .inl h
    grind
  grind
theorem UQ(x:mR)(b:Bool):∀{m:List ((Int×Int×Bool)×Bool)},MapOk m->MapOk (cP ah (.sc .bool) (x.1,x.2.1,false) b m)/\(∀k o,bP ((cP ah (.sc .bool) (x.1,x.2.1,false) b m).map tK) k o=if x.1=k/\x.2.1=o then some b else bP (m.map tK) k o)/\(cP ah (.sc .bool) (x.1,x.2.1,false) b m).length<=m.length+1
 |[],_=>⟨⟨λp a=>by rcases ade.1 a with rfl;rfl,List.pairwise_singleton _ _⟩,λk o=>rfl,ad3 _⟩
 | p::r,h=>by
  obtain⟨l,g⟩:=afZ.1 h.ne;have a:=h.key p (adT ..);have j:=UQ x b (m:=r) ⟨λq hq=>h.key q (abJ _ hq),g⟩;have e:cP ah (.sc .bool) (x.1,x.2.1,false) b (p::r)=bif decide (p.1.1=x.1/\p.1.2.1=x.2.1)then((x.1,x.2.1,false),b)::r else p::cP ah (.sc .bool) (x.1,x.2.1,false) b r:=by rw[<-adx x p.1 a];rfl
  rw[e];by_cases d:p.1.1=x.1/\p.1.2.1=x.2.1
  ·rw[ahk d];refine⟨⟨λq hq=>?_,afZ.2 ⟨λq hq=>by grind,g⟩⟩,λk o=>?_,by simp⟩
   ·rcases aen.1 hq with rfl|hq
    ·rfl
    ·exact h.key q (abJ _ hq)
   grind[bP]
  ·rw[decide_eq_false d];refine⟨⟨λq hq=>?_,afZ.2 ⟨λq hq=>?_,j.1.ne⟩⟩,λk o=>?_,by grind⟩
   ·rcases aen.1 hq with rfl|hq
    ·exact a
    ·exact j.1.key q hq
   ·rcases HQ hq with rfl|hq
    ·exact d
    grind
   grind[bP,cP,bool]
theorem aem(x:mR){m:List ((Int×Int×Bool)×Bool)}(h:MapOk m):MapOk (cz m x)/\(∀k o,bP ((cz m x).map tK) k o=if x.1=k/\x.2.1=o then some ((bP (m.map tK) k o).getD false||x.2.2)else bP (m.map tK) k o)/\(cz m x).length<=m.length+1:=by unfold cz;rw[agc h.key x];grind[bP,UQ]
theorem Ge:∀(L M:List mR) {m:List ((Int×Int×Bool)×Bool)},MapOk m->m.length<=M.length->(∀k o,bP (m.map tK) k o=HP M k o)->MapOk (L.foldl cz m)/\(L.foldl cz m).length<=(M++L).length/\∀k o,bP ((L.foldl cz m).map tK) k o=HP (M++L) k o
 |[],M,m,d,h,g=>by grind
 |x::L,M,m,d,h,g=>by obtain⟨a,b,c⟩:=aem x d;have:=Ge L (M++[x]) (m:=cz m x) a (by grind) (λk o=>by rw[b k o,ajl,g]);grind
set_option linter.unusedSimpArgs false
theorem Js(P:Int->Int->Prop):∀(L:List mR) {m:List ((Int×Int×Bool)×Bool)},(∀p∈m,P p.1.1 p.1.2.1)->(∀a∈L,P a.1 a.2.1)->∀p∈L.foldl cz m,P p.1.1 p.1.2.1
 |[],m,d,_=>d
 | x::L,m,d,h=>Js P L (m:=cz m x) (λp g=>by
   rcases HQ g with rfl|g
   ·grind
   grind) λa ha=>h a (abJ _ ha)
theorem Jk:∀{m:List ((Int×Int×Bool)×Bool)},MapOk m->(∀p∈m,0<=p.1.1/\p.1.1<1099511627776/\0<=p.1.2.1/\p.1.2.1<1099511627776)->uN m=true
 |[],_,_=>rfl
 |p::r,h,a=>by
  obtain⟨g,d⟩:=afZ.1 h.ne;unfold uN;rw[ahk (a p (adT ..)),Jk ⟨λq hq=>h.key q (abJ _ hq),d⟩ λq hq=>a q (abJ _ hq)];have:GY p.1 r=true:=by unfold GY;grind
  grind
theorem au5{L:List mR}(g:∀a∈L,kC a)(l:L.length<=12):rP (L.foldl cz [])=true:=by obtain⟨h,j,q⟩:=Ge L [] (m:=[]) ⟨λp d=>(by cases d),List.Pairwise.nil⟩ (ad3 _) (λk o=>rfl);unfold rP;rw[Jk h (Js (λa b=>0<=a/\a<1099511627776/\0<=b/\b<1099511627776) L (λp d=>by cases d) g),aii];rw[ae4]at j;exact aeo (by omega)
structure GoodS(c:CC)(s:aG):Prop where
 ok:StOk c s
 sm:mM s
 lo : -1<=aW s
 hi:aW s<=4
theorem apQ(h:bC c)(hs:StOk c s):∀l∈s.2.2.1,l.length<=1048575:=by intro l hl;obtain⟨j,a,rfl⟩:=ahI hl;have d:=hs.cap j (by rw[<-hs.fit.qs];exact a);rw[aee,acz a,aiJ]at d;have g:=h.2.1.2.2.2;have:=(g j (by rw[<-hs.fit.qs];exact a)).2;omega
theorem xx(u:bC c){q:aG}(hs:GoodS c s)(hi:i<s.1.length)(o:q.1=s.1.set i (fs++[f],st,w,false))(h:Run1 c fs f st)
  (x:q.2.1.length=s.2.1.length) (y:q.2.2.1.length=s.2.2.1.length) (B:q.2.2.2.1.length=s.2.2.2.1.length) (D:q.2.2.2.2.1.length=s.2.2.2.2.1.length) (J:aW q=aW s)
  (d:∀j,j<c.2.2.2.2.1.length->((q.2.2.1.getD j []).length:Int)<=(c.2.2.2.2.1.getD j ([],0)).2):GoodS c q/\qQ c q i:=by
 obtain⟨hs,r,M,O⟩:=hs;have hq:StOk c q:=⟨by rw[o];simpa using hs.n,λt a=>by
  rw[o]at a;rcases afx a with a|rfl
  ·exact hs.th t a
  ·exact .inr ⟨rfl,fs,f,rfl,h⟩,⟨by rw[x];exact hs.fit.1,by rw[y];exact hs.fit.2,by rw[B];exact hs.fit.3,by rw[D];exact hs.fit.4⟩,d⟩
 refine⟨⟨hq,?_,by grind,by grind⟩,fs,f,st,w,by grind,h⟩;obtain⟨v,p,z,C,E,F,G⟩:=r;refine⟨by grind,λt a=>?_,by grind,by grind,λl hl=>by have:=apQ u hq l hl;omega,by grind,by grind⟩;rw[o]at a;rcases afx a with a|rfl
 ·exact p t a
 ·have:=h.n;have:=h.m;exact⟨by grind,by grind,λg I=>by have:=BG u (h.fr g I);omega⟩
theorem aez(q:List (List Int))(a j:Nat):((q.set a ((q.getD a []).drop 1)).getD j []).length<=(q.getD j []).length:=by grind
structure EffOk(f:Fr)(x:bO)(r:Af)(q:List mR×Bool×List Int×List Int×Af):Prop where
 lo:q.2.2.1.length=f.2.length
 st:q.2.2.2.1.length<=16
 v:q.2.2.2.2.1.length=r.1.length
 qn:q.2.2.2.2.2.1.length=r.2.1.length
 qj:∀j,(q.2.2.2.2.2.1.getD j []).length<=(r.2.1.getD j []).length
 ow:q.2.2.2.2.2.2.1.length=r.2.2.1.length
 fi:q.2.2.2.2.2.2.2.1.length=r.2.2.2.1.length
 out:q.2.2.2.2.2.2.2.2.2.2.2.2.1=r.2.2.2.2.2.2.2.2.1
 an:q.1.length<=1
 ak:∀a∈q.1,0<=a.1/\a.1<5/\(a.2.1=x.2.1/\(x.1≠23/\x.1≠24/\x.1≠25)\/a.2.1=0)
theorem arD{x:bO}{k:Int}{r:Af}(l:iX x.1)(g:st.length<=16):EffOk f x r (gS i f st x k r):=by
 obtain⟨op,a,b⟩:=x;have o:(st.take (st.length-1)).length<=16:=by grind
 unfold gS;dsimp only;rcases l with h|h|h|h|h|h|h|h|h|h
 ·dsimp only at h;subst h;simp only[aeP];split
  ·exact⟨rfl,g,rfl,rfl,λj=>ad3 _,rfl,rfl,rfl,ad3 _,λz d=>by grind⟩
  ·exact⟨rfl,by grind,rfl,rfl,λj=>ad3 _,rfl,rfl,rfl,ad3 _,λz d=>by grind⟩
 ·dsimp only at h;subst h;simp only[Int.reduceEq,aeU,aeP];split
  ·exact⟨rfl,g,rfl,rfl,λj=>ad3 _,rfl,rfl,rfl,ad3 _,λz d=>by grind⟩
  ·exact⟨rfl,o,afa,rfl,λj=>ad3 _,rfl,rfl,rfl,ad3 _,λz d=>by grind⟩
 ·dsimp only at h;subst h;simp only[Int.reduceEq,aeU,aeP];exact⟨afa,g,rfl,afa,λj=>aez _ _ _,rfl,rfl,rfl,ad3 _,λz d=>by grind⟩
 ·dsimp only at h;subst h;simp only[Int.reduceEq,aeU,aeP];exact⟨rfl,g,rfl,rfl,λj=>ad3 _,afa,rfl,rfl,ad3 _,λz d=>by grind⟩
 ·dsimp only at h;subst h;simp only[Int.reduceEq,aeU,aeP];exact⟨rfl,g,rfl,rfl,λj=>ad3 _,afa,rfl,rfl,ad3 _,λz d=>by grind⟩
 ·dsimp only at h;subst h;simp only[Int.reduceEq,aeU,aeP];exact⟨afa,g,rfl,rfl,λj=>ad3 _,rfl,rfl,rfl,ahT _,λz d=>by cases d⟩
 ·dsimp only at h;subst h;simp only[Int.reduceEq,aeU,aeP];exact⟨afa,g,rfl,rfl,λj=>ad3 _,rfl,rfl,rfl,ad3 _,λz d=>by grind⟩
 ·dsimp only at h;subst h;simp only[Int.reduceEq,aeU,aeP];exact⟨rfl,g,rfl,rfl,λj=>ad3 _,rfl,rfl,rfl,ad3 _,λz d=>by grind⟩
 ·dsimp only at h;subst h;simp only[Int.reduceEq,aeU,aeP];split
  ·exact⟨rfl,g,rfl,rfl,λj=>ad3 _,rfl,rfl,rfl,ad3 _,λz d=>by grind⟩
  ·split
   ·exact⟨rfl,o,rfl,rfl,λj=>ad3 _,rfl,afa,rfl,ad3 _,λz d=>by grind⟩
   ·exact⟨rfl,o,rfl,rfl,λj=>ad3 _,rfl,rfl,rfl,ad3 _,λz d=>by grind⟩
 ·dsimp only at h;subst h;simp only[Int.reduceEq,aeU,aeP];exact⟨afa,g,rfl,rfl,λj=>ad3 _,rfl,rfl,rfl,ad3 _,λz d=>by grind⟩
structure Left(c:CC)(s:aG)(q:zh):Prop where
 g:GoodS c q.2.2.2
 n:q.2.2.2.1.length<=s.1.length+1
 run:∀z∈q.1,∃n:Nat,z=(n:Int)/\qQ c q.2.2.2 n
 nd:q.1.Nodup
 two:q.1.length<=2
structure Does(c:CC)(s:aG)(q:zh):Prop where
 an:q.2.1.length<=2
 ak:∀a∈q.2.1,kC a
 left:q.2.2.1=true->Left c s q
theorem A0(p:bC c){x:bO}(h:AtP c s i fs f st w x k pc)(o:Run1 c fs f st)(d:x.1≠13)(j:x.1≠28){l st':List Int}(hl:l.length=f.2.length)(q:st'.length<=16):Run1 c fs (ac (f.1+1),l) st' :=
 ⟨o.n,q,λg a=>by
  rcases aef.1 a with a|a
  ·exact o.fr g (aef.2 (.inl a))
  ·rcases ade.1 a with rfl;rw[h.pc1];exact UH p h.pc2 h.pr (by rw[h.x];exact d) (by rw[h.x];exact j) (by rw[hl];exact h.lo)⟩
theorem mq{k o:Int}{b:Bool}(a:0<=k)(g:k<10)(d:0<=o)(h:o<=1048577):kC (k,o,b):=⟨a,(by grind),d,(by grind)⟩
theorem aiA{op:Int}(h:iX op):op≠13/\op≠28:=by unfold iX at h;omega
theorem YV(B:bC c)(hs:GoodS c s){x:bO}{j:Int}(o:AtP c s i fs f st w x k pc)(I:Run1 c fs f st)(p:iX x.1):Does c s (nW s i fs f st w x j):=by
 have X:=arD (i:=i) (f:=f) (k:=j) (r:=s.2) p I.m;unfold nW vE;dsimp only;generalize gS i f st x j s.2=q at *;obtain⟨P,Q,R,S,T,U,V,W,e9,E⟩:=X;obtain⟨q1,q2,C,D,F⟩:=q;dsimp only at *;have G:=B.2.2.1 k pc o.pc2 o.pr;rw[o.x]at G;obtain⟨⟨h0,_⟩,_,o1,o2,o3,o4,o5,J,o7,M,o9,o10,u,o12⟩:=G;obtain⟨z1,z2,z3,z4,z5,z6,z7⟩:=B.2.2.2;refine⟨(by grind),λa ha=>?_,λZ=>?_⟩
 ·obtain⟨O,a2,v⟩:=E a ha;have Y:0<=a.2.1/\a.2.1<=1048577:=by
   rcases v with⟨v,n23,n24,n25⟩|v
   ·rw[v];rcases p with h|h|h|h|h|h|h|h|h|h
    ·obtain⟨d,g⟩:=J (.inl h);omega
    ·obtain⟨d,g⟩:=J (.inr h);omega
    ·obtain⟨d,g⟩:=o7 (.inr h);omega
    ·obtain⟨d,g⟩:=M (.inl h);omega
    ·obtain⟨d,g⟩:=M (.inr h);omega
    ·grind
    ·grind
    ·grind
    ·obtain⟨d,g⟩:=u (.inl h);omega
    ·obtain⟨d,g⟩:=u (.inr h);omega
   grind
  exact⟨O,(by omega),Y.1,(by omega)⟩
 ·have hi:=cG o.t;have l:=aiA p;have hn:=A0 B o I l.1 l.2 P Q;rw[if_pos Z];obtain⟨d,g⟩:=xx B hs (q:=(s.1.set i (fs++[(ac (f.1+1),C)],D,w,false),F)) hi rfl hn R S U V W (λy hy=>by
   have:=T y;have h2:=hs.ok.cap y hy;grind)
  have p:cq (s.1.set i (fs++[(f.1,C)],D,w,false),F) i (fs++[(ac (f.1+1),C)],D,w,false)=(s.1.set i (fs++[(ac (f.1+1),C)],D,w,false),F):=by unfold cq;simp_all
  rw[p];exact⟨d,by grind,λz hz=>by grind,by simp,by simp⟩
theorem arA(p:bC c)(hs:GoodS c s)(I:s.1.length<=70){x:bO}(o:AtP c s i fs f st w x k pc)(J:Run1 c fs f st)(v:x.1=18):Does c s (uK c s i fs f st w x.2.1):=by
 have F:=p.2.2.1 k pc o.pc2 o.pr;rw[o.x]at F;obtain⟨⟨h0,_⟩,_,o1,o2,U,o4,o5,o6,o7,o8,o9,R,S,T⟩:=F;obtain⟨p1,p2⟩:=U (.inr v);have hi:=cG o.t;unfold uK;by_cases E:5<=eR s s.1.length
 ·rw[if_pos E];exact⟨by simp,λa ha=>by grind[List.mem_singleton,mq],λh=>by cases h⟩
 rw[if_neg E];refine⟨by simp,λa ha=>?_,λ_=>?_⟩
 ·rcases aen.1 ha with rfl|ha
  ·exact mq (by omega) (by omega) (by omega) (by omega)
  grind[List.mem_singleton,mq]
 ·have Q:=A0 p o J (by omega) (by omega) (l:=f.2) rfl J.m;obtain⟨O,u,M,D,w',g2,P⟩:=xx p hs (q:=oL s i fs f st w) hi rfl Q rfl rfl rfl rfl rfl hs.ok.cap;have hl:(oL s i fs f st w).1.length=s.1.length:=cH;have y:=Ht p (a:=x.2.1.toNat) (by omega);have j:Run1 c [] (c.2.1.getD x.2.1.toNat 0,List.replicate (c.2.2.1.getD x.2.1.toNat 0).toNat 0) []:=⟨by simp,by simp,λg G=>by grind⟩
  have B:GoodS c ((oL s i fs f st w).1++[vD c x.2.1],(oL s i fs f st w).2):=by
   obtain⟨⟨q1,V,r,W⟩,⟨u1,X,Y⟩,Z,u5⟩:=O;refine⟨⟨by grind,λt d=>?_,⟨r.1,r.2,r.3,r.4⟩,W⟩,⟨by grind,λt d=>?_,Y⟩,Z,u5⟩
   ·rcases aef.1 d with d|d
    ·exact V t d
    ·rcases ade.1 d with rfl;exact .inr ⟨rfl,[],_,rfl,j⟩
   ·rcases aef.1 d with d|d
    ·exact X t d
    ·rcases ade.1 d with rfl;refine⟨by simp[vD],by simp[vD],λg G=>?_⟩;rcases ade.1 G with rfl;have:=BG p y;grind
  refine⟨B,by grind,λz C=>?_,?_,by simp⟩
  ·rcases aen.1 C with rfl|C
   ·refine⟨s.1.length,rfl,[],_,[],0,?_,j⟩;show((oL s i fs f st w).1++[vD c x.2.1])[s.1.length]?=_;rw[<-hl];simp[vD]
   ·rcases ade.1 C with rfl;refine⟨i,rfl,u,M,D,w',?_,P⟩;grind
  grind
theorem adz(o:bC c)(hs:GoodS c s){x:bO}{j:Int}(r:AtP c s i fs f st w x k pc)(O:Run1 c fs f st)(u:x.1=19)
  (V:¬0<(c.2.2.2.2.1.getD x.2.1.toNat ([],0)).2->0<=j/\j<(iY c s x.2.1).length) (hq:0<(c.2.2.2.2.1.getD x.2.1.toNat ([],0)).2->((s.2.2.1.getD x.2.1.toNat []).length:Int)<(c.2.2.2.2.1.getD x.2.1.toNat ([],0)).2):Does c s (lU c s i fs f st w x.2.1 j):=by
 have J:=o.2.2.1 k pc r.pc2 r.pr;rw[r.x]at J;obtain⟨⟨h0,_⟩,_,o1,o2,o3,o4,o5,o6,o7,o8,o9,o10,o11,o12⟩:=J;obtain⟨p1,p2⟩:=o7 (.inl u);obtain⟨z1,z2,z3,z4,z5,z6,z7⟩:=o.2.2.2;have hi:=cG r.t;have F:kC (1,x.2.1,true):=mq (by omega) (by omega) (by omega) (by omega);unfold lU;by_cases P:st.length=0
 ·rw[if_pos P];exact⟨by simp,λa ha=>by grind,λh=>by cases h⟩
 rw[if_neg P];have M:=A0 o r O (by omega) (by omega) (l:=f.2) (st':=st.take (st.length-1)) rfl (by rw[afi];have:=O.m;omega);dsimp only;by_cases d:0<(c.2.2.2.2.1.getD x.2.1.toNat ([],0)).2
 ·rw[if_pos d];refine⟨by simp,λa ha=>by grind,λ_=>?_⟩;have Y:=hq d;obtain⟨B,E⟩:=xx o hs (q:=((cq s i (fs++[(ac (f.1+1),f.2)],st.take (st.length-1),w,false)).1,s.2.1,s.2.2.1.set x.2.1.toNat (s.2.2.1.getD x.2.1.toNat []++[st.getD (st.length-1) 0]),s.2.2.2)) hi rfl M rfl afa rfl rfl rfl (λy Z=>by
   have h2:=hs.ok.cap y Z;simp only[aee]at *;by_cases U:x.2.1.toNat=y
   ·subst U;rw[afF (by have:=hs.ok.fit.qs;omega)];grind
   grind)
  exact⟨B,by show(cq s i _).1.length<=_;rw[cH];omega,λz v=>by rcases ade.1 v with rfl;exact⟨i,rfl,E⟩,by simp,by simp⟩
 ·rw[if_neg d];obtain⟨q,gs,g,tt,tw,y,w1,w2,p⟩:=E0 o hs.ok r u (V d);have W:=hs.ok.n;rw[w1];simp only[ac6];refine⟨by simp,λa ha=>?_,λ_=>?_⟩
  ·rcases aen.1 ha with rfl|ha
   ·exact F
   grind[List.mem_singleton,mq]
  ·obtain⟨B,D,Q,st',w',E,R⟩:=xx o hs (q:=cq s i (fs++[(ac (f.1+1),f.2)],st.take (st.length-1),w,false)) hi rfl M rfl rfl rfl rfl rfl hs.ok.cap;obtain⟨k',pc',T⟩:=p.at_;have X:=p.op;have C:bo s q=(gs++[g],tt,tw,false):=eC p.t;obtain⟨n,I⟩:∃n,n=(fX c (bo s q)).2.2.toNat:=⟨_,rfl⟩
   rw[<-I,C,fM,alk];have G:=A0 o T p.run (by omega) (by omega) (l:=g.2.set n (st.getD (st.length-1) 0)) afa p.run.m;obtain⟨S,g5⟩:=xx o B (i:=q) (q:=cq (cq s i (fs++[(ac (f.1+1),f.2)],st.take (st.length-1),w,false)) q (gs++[(ac (g.1+1),g.2.set n (st.getD (st.length-1) 0))],tt,tw,false)) (by rw[cH];exact w2) rfl G rfl rfl rfl rfl rfl B.ok.cap;refine⟨S,by dsimp only;rw[cH,cH];omega,λz v=>?_,?_,by simp⟩
   ·rcases aen.1 v with rfl|v
    ·grind
    ·rcases ade.1 v with rfl;refine⟨i,rfl,D,Q,st',w',?_,R⟩;unfold cq;dsimp only;rw[agN p.ne];exact E
   ·refine aqO.2 ⟨λh=>?_,by simp⟩;have:=ade.1 h;have:=p.ne;omega
theorem aiw(hs:GoodS c s) :Does c s (tH s i):=by
 have q:GoodS c (cq s i ([],[],0,true)):=by
  obtain⟨l,⟨x,y,B⟩,d,o⟩:=hs;refine⟨adM l (.inl ⟨rfl,rfl⟩),⟨by rw[cH];exact x,λt h=>?_,B⟩,d,o⟩;rcases afx h with h|rfl
  ·exact y t h
  ·exact⟨by simp,by simp,λg r=>by cases r⟩
 unfold tH;refine⟨by simp,λa ha=>by grind[List.mem_singleton,mq],λ_=>?_⟩;by_cases p:i=0
 ·rw[if_pos p];obtain⟨⟨l,u,d,o⟩,v,C,D⟩:=q;exact⟨⟨⟨l,u,⟨d.1,d.2,d.3,d.4⟩,o⟩,v,by show(-1:Int)<=0;omega,by show(0:Int)<=4;omega⟩,by show(cq s i _).1.length<=_;rw[cH];omega,λz j=>(by cases j),by simp,by simp⟩
 ·rw[if_neg p];exact⟨q,by show(cq s i _).1.length<=_;rw[cH];omega,λz j=>(by cases j),by simp,by simp⟩
theorem zZ(o:bC c)(hs:GoodS c s)(g:s.1.length<=70){x:bO}{j:Int}(h:CanDo c s i fs f st w x j)(p:Run1 c fs f st)
  (hq:x.1=19->0<(c.2.2.2.2.1.getD x.2.1.toNat ([],0)).2->((s.2.2.1.getD x.2.1.toNat []).length:Int)<(c.2.2.2.2.1.getD x.2.1.toNat ([],0)).2):Does c s (fE c s i fs f st w x j):=by
 obtain⟨k,pc,l⟩:=h.at_;unfold fE;by_cases d:x.1=18
 ·rw[if_pos d];exact arA o hs g l p d
 rw[if_neg d];by_cases a:x.1=19
 ·rw[if_pos a];exact adz o hs l p a (h.to a) (hq a)
 grind[iX,YV,aiw]
theorem aqP{kind:Int}{p:aG}{x:bO}(a:lR c kind s i fs f st w x=some p):aW p=aW s\/aW p=1:=by
 unfold lR at a;dsimp only at a;by_cases q:x.1=0
 ·rw[if_pos q]at a;split at a<;>cases a;exact .inl rfl
 rw[if_neg q]at a;by_cases n1:x.1=1
 ·rw[if_pos n1]at a;split at a<;>cases a;exact .inl rfl
 rw[if_neg n1]at a;by_cases u:x.1=3
 ·rw[if_pos u]at a;split at a<;>cases a;exact .inl rfl
 rw[if_neg u]at a;by_cases r:x.1=2
 ·rw[if_pos r]at a;split at a<;>cases a;exact .inl rfl
 rw[if_neg r]at a;by_cases d:x.1=10
 ·rw[if_pos d]at a;cases a;exact .inl rfl
 rw[if_neg d]at a;by_cases g:x.1=11
 ·rw[if_pos g]at a;split at a<;>cases a;exact .inl rfl
 rw[if_neg g]at a;by_cases h:x.1=12
 ·rw[if_pos h]at a;split at a<;>cases a;exact .inl rfl
 rw[if_neg h]at a;by_cases j:x.1=13
 ·rw[if_pos j]at a;cases a;exact .inl rfl
 rw[if_neg j]at a;by_cases l:x.1=14
 ·rw[if_pos l]at a;split at a<;>cases a;split
  ·exact .inr rfl
  ·exact .inl rfl
 rw[if_neg l]at a;by_cases o:x.1=15
 ·rw[if_pos o]at a;cases a;exact .inl rfl
 rw[if_neg o]at a;split at a<;>cases a;exact .inl rfl
theorem kG(c:CC)(s:aG)(i:Nat)(o:Int):aW (f6 c s i o)=o:=by unfold f6;dsimp only;split<;>rfl
theorem ZS(c:CC)(kind:Int)(i:Nat):∀(m:Nat) (s:aG),-1<=aW s/\aW s<=4->-1<=aW (bY c kind i m s).2/\aW (bY c kind i m s).2<=4:=by
 intro m;induction m with
 |zero=>
  grind[bY,kG]
 | succ m a=>
  intro s h;unfold bY;split
  ·exact h
  split
  ·exact h
  ·dsimp only;split
   ·dsimp only;rw[kG];omega
   ·rename_i d g;refine a d ?_;grind[aqP]
theorem IT(c:CC)(s:aG)(i:Nat):aW (qB c s i).1=aW s:=by
 unfold qB;dsimp only;split
 ·rfl
 split
 ·dsimp only;split<;>rfl
 split<;>rfl
theorem rS(h:bC c)(kind:Int)(hs:GoodS c s)(l:qQ c s i) :
  GoodS c (bn c kind i s).1/\(bn c kind i s).1.1.length=s.1.length/\(∀q,q≠i->(bn c kind i s).1.1[q]?=s.1[q]?)/\(bn c kind i s).2.length<=1/\∀a∈(bn c kind i s).2,kC a:=by
 obtain⟨D,E,F⟩:=E6 h kind hs.ok l hs.sm;have C:=ZS c kind i 64 s ⟨hs.lo,hs.hi⟩;obtain⟨fs,f,st,w,I,l⟩:=l;obtain⟨o,y,x,U,G,V,W⟩:=vc h kind 64 I l;have B : -1<=aW (bn c kind i s).1/\aW (bn c kind i s).1<=4:=by grind[bn,IT]
 refine⟨⟨D,E,B.1,B.2⟩,F,?_⟩;unfold bn;generalize bY c kind i 64 s=q at *;obtain⟨b,q⟩:=q;dsimp only at *;have g:q.1[i]?=some (o++[y],x,w,false):=by grind
 have d:∀j,j≠i->q.1[j]?=s.1[j]?:=λj v=>by grind
 obtain⟨k,pc,u⟩:=gI g G;have z:=h.2.2.1 k pc u.pc2 u.pr;rw[u.x]at z;have J:fX c (bo q i)=dG c y.1.toNat:=by rw[eC g];unfold fX;rw[fM]
 obtain⟨z1,z2,z3,z4,z5,z6,z7⟩:=h.2.2.2;split
 ·unfold qB;dsimp only;rw[J];obtain⟨_,_,X,Y,Z,o4,o5,o6,Q,R,o9,M,O,P⟩:=z;split
  ·refine⟨λj v=>?_,by simp,λa ha=>by grind[List.mem_singleton,mq]⟩;show(q.1.set i _)[j]?=_;grind
  split
  ·rename_i r;obtain⟨S,T⟩:=R (.inl r);refine⟨λj v=>?_,by simp,λa ha=>by grind[List.mem_singleton,mq]⟩;dsimp only;split<;>exact d j v
  split
  ·rename_i p;obtain⟨S,T⟩:=Q (.inr p);grind[List.mem_singleton,mq]
  grind
 grind
def bA(c:CC)(kind:Int):List Int->aG->aG×List mR
 |[],s=>(s,[])
 |z::r,s=>((bA c kind r (bn c kind z.toNat s).1).1,(bn c kind z.toNat s).2++(bA c kind r (bn c kind z.toNat s).1).2)
structure CanRun(c:CC)(l:List Int)(s:aG):Prop where
 g:GoodS c s
 run:∀z∈l,∃n:Nat,z=(n:Int)/\qQ c s n
 nd:l.Nodup
theorem Aj(g:bC c)(kind:Int){z:Int}{l:List Int}(h:CanRun c (z::l) s):CanRun c l (bn c kind z.toNat s).1:=by obtain⟨n,rfl,j⟩:=h.run z (adT ..);obtain⟨p,u,v,x,B⟩:=rS g kind h.g j;obtain⟨q,a⟩:=aqO.1 h.nd;refine⟨p,λy o=>?_,a⟩;obtain⟨m,rfl,fs,f,st,w,r,d⟩:=h.run y (abJ _ o);refine⟨m,rfl,fs,f,st,w,?_,d⟩;grind
theorem AR{c:CC}(d:bC c)(kind:Int):∀{l:List Int} {s:aG},CanRun c l s->GoodS c (bA c kind l s).1/\(bA c kind l s).1.1.length=s.1.length/\(bA c kind l s).2.length<=l.length/\∀a∈(bA c kind l s).2,kC a
 |[],s,h=>⟨h.g,rfl,ad3 _,λa ha=>by cases ha⟩
 |z::l,s,h=>by
  obtain⟨n,u,g⟩:=h.run z (adT ..);obtain⟨v,x,y,B,C⟩:=rS d kind h.g g;obtain⟨o,p,q,r⟩:=AR d kind (Aj d kind h);have j:z.toNat=n:=by omega
  unfold bA;grind
theorem ahu(q:bC c)(e:bO)(acc:List ((Int×Int×Bool)×Bool))(d:List Int)(ok:Bool)(v:aR)(M:d.length<=1000)(h:CanRun c d s) :
  Itr.it (nj (d,ok,v)) (fl 0 (c,e,s,acc))=some (fl 0 (c,e,(bA c e.1 d s).1,(bA c e.1 d s).2.foldl cz acc)).2:=by
 obtain⟨r,B,C⟩:=fD (f:=nj (d,ok,v)) (λy=>d.length-y.1.toNat) (λy=>∃(n:Nat) (t:aG) (a:List ((Int×Int×Bool)×Bool)),y=fl (n:Int) (c,e,t,a)/\n<=d.length/\CanRun c (d.drop n) t/\(bA c e.1 (d.drop n) t).1=(bA c e.1 d s).1/\(bA c e.1 (d.drop n) t).2.foldl cz a=(bA c e.1 d s).2.foldl cz acc)
  (λr=>r=(fl 0 (c,e,(bA c e.1 d s).1,(bA c e.1 d s).2.foldl cz acc)).2)
  (λy G=>by
   obtain⟨n,t,a,rfl,J,g,l,j⟩:=G;unfold nj;rcases afB n d.length with o|D
   ·right;have hd:d.drop n=d.getD n 0::d.drop (n+1):=by
     simp_all
    rw[hd]at g l j;obtain⟨m,I,F⟩:=g.run _ (adT ..);have hq:=U3 q e a F g.g.ok.fit;have u:=Aj q e.1 g;have l:(bA c e.1 (d.drop (n+1)) (bn c e.1 (d.getD n 0).toNat t).1).1=(bA c e.1 d s).1:=l;have j:((bn c e.1 (d.getD n 0).toNat t).2++(bA c e.1 (d.drop (n+1)) (bn c e.1 (d.getD n 0).toNat t).1).2).foldl cz a=(bA c e.1 d s).2.foldl cz acc:=j;have E:(d.getD n 0).toNat=m:=by omega
    rw[E]at u l j;rw[ajD]at j;refine⟨fl ((n+1:Nat):Int) (c,e,(bn c e.1 m t).1,(bn c e.1 m t).2.foldl cz a),?_,⟨n+1,_,_,rfl,o,u,l,j⟩,by show d.length-((n+1:Nat):Int).toNat<d.length-((n:Nat):Int).toNat;omega⟩;have z:ae d (n:Int)=some ((m:Nat):Int):=by rw[br 0 o,I]
    have x:(n:Int)<(d.length:Int):=by omega
    simp only[fl,x,ahW,abv,z,f8,Qz2];grind[ay]
   ·left;have p:n=d.length:=by omega
    subst p;rw[aiI]at l j;grind[bA,cz,fl])
  (s:=fl 0 (c,e,s,acc)) ⟨0,s,acc,rfl,by omega,h,rfl,rfl⟩ (by grind)
 rw[B,C]
def bS(s:aG)(p:Int):aG:=(s.1,s.2.1,s.2.2.1,s.2.2.2.1,s.2.2.2.2.1,s.2.2.2.2.2.1,s.2.2.2.2.2.2.1,s.2.2.2.2.2.2.2.1,p,s.2.2.2.2.2.2.2.2.2)
theorem mZ(h:GoodS c s)(p:Int):GoodS c (bS s p):=
 ⟨⟨h.ok.n,h.ok.th,⟨h.ok.fit.1,h.ok.fit.2,h.ok.fit.3,h.ok.fit.4⟩,h.ok.cap⟩,h.sm,h.lo,h.hi⟩
def dR(s:aG):aG:=(s.1,s.2.1,s.2.2.1,s.2.2.2.1,s.2.2.2.2.1,ac (s.2.2.2.2.2.1+1),ac (s.2.2.2.2.2.2.1-1),(ac (s.2.2.2.2.2.2.2.1.1+1),s.2.2.2.2.2.2.2.1.2),s.2.2.2.2.2.2.2.2)
theorem yH(h:GoodS c s):GoodS c (dR s):=
 ⟨⟨h.ok.n,h.ok.th,⟨h.ok.fit.1,h.ok.fit.2,h.ok.fit.3,h.ok.fit.4⟩,h.ok.cap⟩,h.sm,h.lo,h.hi⟩
theorem Em(h:GoodS c s):GoodS c (cu c s):=by
 obtain⟨a,b⟩:=IX h.ok h.sm;have d : -1<=aW (cu c s)/\aW (cu c s)<=4:=by
  unfold cu;split
  ·exact⟨h.lo,h.hi⟩
  split
  ·rw[kG];omega
  split
  ·exact⟨h.lo,h.hi⟩
  split
  ·exact⟨h.lo,h.hi⟩
  ·rw[kG];omega
 exact⟨a,b,d.1,d.2⟩
theorem acZ(h:GoodS c s)(i:Nat)(o:Int)(g:0<=o)(j:o<=4):GoodS c (f6 c s i o):=by
 have a:=kG c s i o;unfold f6 at *;dsimp only at *;split at a
 ·rename_i d;rw[if_pos d];exact⟨⟨h.ok.n,h.ok.th,⟨h.ok.fit.1,h.ok.fit.2,h.ok.fit.3,h.ok.fit.4⟩,h.ok.cap⟩,h.sm,by rw[a];omega,by rw[a];omega⟩
 ·rename_i d;rw[if_neg d];exact⟨⟨h.ok.n,h.ok.th,⟨h.ok.fit.1,h.ok.fit.2,h.ok.fit.3,h.ok.fit.4⟩,h.ok.cap⟩,h.sm,by rw[a];omega,by rw[a];omega⟩
theorem arz{x:bO}{j:Int}(h:0<s.1.length):0<(fE c s i fs f st w x j).2.2.2.1.length:=by
 unfold fE;split
 ·unfold uK;grind
 split
 ·unfold lU;split
  ·exact h
  ·dsimp only;split
   ·show 0<(cq s i _).1.length;rw[cH];exact h
   ·dsimp only;rw[cH,cH];exact h
 split
 ·unfold nW vE;dsimp only;split
  ·rw[cH];grind
  grind
 ·unfold tH;dsimp only;split
  ·show 0<(cq s i _).1.length;rw[cH];exact h
  ·rw[cH];exact h
def su(c:CC)(e:bO)(s:aG)(i:Nat)(q:zh):aG×List mR:=
 if q.2.2.1=true then(cu c (bA c e.1 q.1 (dR q.2.2.2)).1,((5,(i:Int)+1,true)::q.2.1)++(bA c e.1 q.1 (dR q.2.2.2)).2)
 else(f6 c (bS s (-1)) i 4,(5,(i:Int)+1,true)::q.2.1)
structure Moves(c:CC)(e:bO)(s:aG)(j:Int)(i:Nat)(fs:List Fr)(f:Fr)(st:List Int)(w:Int)(x:bO):Prop where
 gs:GoodS c s
 n:s.1.length<=65
 r1:gx c e s=some 0
 pt:∃p:Pt4,iw (c,e,s,[])=some p/\p.2.1=(i:Int)/\0<=j/\j<(p.2.2.2.length:Int)
 t:s.1[i]?=some (fs++[f],st,w,false)
 run:Run1 c fs f st
 can:CanDo c (bS s (-1)) i fs f st w x j
 hq:x.1=19->0<(c.2.2.2.2.1.getD x.2.1.toNat ([],0)).2->((s.2.2.1.getD x.2.1.toNat []).length:Int)<(c.2.2.2.2.1.getD x.2.1.toNat ([],0)).2
theorem ays(g:bC c)(e:bO){j:Int}{x:bO}(h:Moves c e s j i fs f st w x)(q:zh)(hq:q=fE c (bS s (-1)) i fs f st w x j)
  (a:rP ((su c e s i q).2.foldl cz [])=true):eN c e s j=some ((su c e s i q).1,zY ((su c e s i q).2.foldl cz []),0):=by
 obtain⟨p,U,V,p4,p5⟩:=h.pt;have hd:=zZ g (mZ h.gs (-1)) (show(bS s (-1)).1.length<=70 by have:=h.n;show s.1.length<=70;omega) h.can h.run h.hq;have l:0<(fE c (bS s (-1)) i fs f st w x j).2.2.2.1.length:=arz (show 0<s.1.length by have:=cG h.t;omega);have hi:=cG h.t;have hn:=h.n;unfold eN;rw[h.r1];simp only[f8,Qz2,aeA,ab7,tE s h.gs.sm,U,V];have G:¬j<0:=by omega
 have I:¬(p.2.2.2.length:Int)<=j:=by omega
 have J:¬(i:Int)<0:=by omega
 have u:ac (1+(i:Int))=(i:Int)+1:=by rw[ay (by omega) (by omega)];omega
 simp only[G,I,J,aiM,ab7,u];have F:=aju g (e:=e) (acc:=cz [] (5,(i:Int)+1,true)) h.can;rw[<-hq]at F hd l;refine(aei (λo:Option ((List Int)×Bool×aR)=>o.bind _) F).trans ?_;have y:q.2.1.foldl cz (cz [] (5,(i:Int)+1,true))=((5,(i:Int)+1,true)::q.2.1).foldl cz []:=rfl;simp only[f8,Qz2,y];unfold su at a|-;cases B:q.2.2.1
 ·rw[B]at a;simp only[agX,aeU]at a;simp only[aeN,abv,agX,aeU];obtain⟨k,pc,E⟩:=gI (s:=bS s (-1)) (i:=i) h.t h.run;have M:=aV h.t;obtain⟨W,X,Y,Z⟩:=Da g E;rw[tV g E];simp only[M,f8,Qz2,aeN,abv,rm fs f (by have:=h.run.n;omega),W,X,Y,Z,a,af];rfl
 ·rw[B]at a;simp only[aeP]at a;simp only[afg,ab7,aeP];have hl:=hd.left B;have d:CanRun c q.1 (dR q.2.2.2):=⟨yH hl.g,λz T=>by
   obtain⟨n,rfl,v,O,D,w',R,S⟩:=hl.run z T;exact⟨n,rfl,v,O,D,w',R,S⟩,hl.nd⟩
  have C:=ahu g e (((5,(i:Int)+1,true)::q.2.1).foldl cz []) q.1 true (c,e,q.2.2.2,((5,(i:Int)+1,true)::q.2.1).foldl cz []) (by have:=hl.two;omega) d;refine(aei (λo:Option rt=>o.bind _) C).trans ?_;obtain⟨P,Q,g3,g4⟩:=AR g e.1 d;have r:=Qq g (e:=e) (acc:=(bA c e.1 q.1 (dR q.2.2.2)).2.foldl cz (((5,(i:Int)+1,true)::q.2.1).foldl cz [])) P.ok (by rw[Q];exact l);simp only[f8,Qz2];refine(aei (λo:Option aR=>o.bind _) r).trans ?_;rw[ajD]at a|-;simp only[f8,Qz2,a,af,abv]
theorem Ik(o:bC c)(e:bO){j:Int}{x:bO}(h:Moves c e s j i fs f st w x) :
  ∃v,eN c e s j=some ((su c e s i (fE c (bS s (-1)) i fs f st w x j)).1,v,0)/\GoodS c (su c e s i (fE c (bS s (-1)) i fs f st w x j)).1:=by
 have hd:=zZ o (mZ h.gs (-1)) (show(bS s (-1)).1.length<=70 by have:=h.n;show s.1.length<=70;omega) h.can h.run h.hq;obtain⟨q,hq⟩:∃q,q=fE c (bS s (-1)) i fs f st w x j:=⟨_,rfl⟩
 have Q:=h.n;have hi:=cG h.t;have r:kC (5,(i:Int)+1,true):=mq (by omega) (by omega) (by omega) (by omega);have d:GoodS c (su c e s i q).1/\(su c e s i q).2.length<=12/\∀a∈(su c e s i q).2,kC a:=by
  rw[<-hq]at hd;unfold su;cases I:q.2.2.1
  ·simp only[agX,aeU];refine⟨acZ (mZ h.gs (-1)) i 4 (by omega) (by omega),by have:=hd.an;grind,λa ha=>?_⟩;rcases aen.1 ha with rfl|ha
   ·exact r
   ·exact hd.ak a ha
  ·simp only[aeP];have hl:=hd.left I;have g:CanRun c q.1 (dR q.2.2.2):=⟨yH hl.g,λz J=>by
    obtain⟨n,rfl,l,D,p,w',F,G⟩:=hl.run z J;exact⟨n,rfl,l,D,p,w',F,G⟩,hl.nd⟩
   obtain⟨E,M,O,P⟩:=AR o e.1 g;refine⟨Em E,by have:=hd.an;have:=hl.two;grind,λa ha=>?_⟩;rcases aef.1 ha with ha|ha
   ·rcases aen.1 ha with rfl|ha
    ·exact r
    ·exact hd.ak a ha
   grind
 obtain⟨u,y,B⟩:=d;have C:=au5 B y;rw[<-hq];exact⟨_,ays o e h q hq C,u⟩
theorem Bi(c:CC)(e:bO)(s:aG)(k:Nat):(kO c e s k).2.1=(k:Int):=by unfold kO;grind
theorem ag2(v:bC c)(e:bO)(hs:GoodS c s){j:Int}(I:gx c e s=some 0)(q:GoOn c s)(W:¬(s.2.2.2.2.2.2.2.2.1<0/\1<(kq c s).length))(g:0<=j/\j<((iP c e s).2.2.2.length:Int)) :
  ∃i fs f st w x,Moves c e s j i fs f st w x:=by
 obtain⟨k,w1,F,G⟩:=Q6 q;obtain⟨fs,f,st,w,z,D⟩:=SJ q.ok F G;have C:iP c e s=kO c e s k:=by unfold iP;grind
 have o:s.1[k]?=some (fs++[f],st,w,false):=by rw[mE F,z]
 obtain⟨E,pc,p⟩:=gI (s:=bS s (-1)) (i:=k) o D;have B:=v.2.2.1 E pc p.pc2 p.pr;rw[p.x]at B;obtain⟨⟨V,_⟩,_,X,Y,Z,o4,o5,o6,U,o8,o9,R,S,T⟩:=B;have Q:fX c (bo s k)=dG c f.1.toNat:=by rw[z];unfold fX;rw[fM]
 have u:ql c (bo s k)=dG c f.1.toNat:=by unfold ql;grind
 have a:=G;unfold Eo at a;dsimp only at a;rw[u,if_neg (by rw[z];simp)]at a;have l:iP c e s=kO c e s k:=C;rw[C]at g;unfold kO at g;dsimp only at g;rw[Q]at g;have O:=q.n;generalize dG c f.1.toNat=x at *;refine⟨k,fs,f,st,w,x,⟨hs,O,I,⟨_,DO v e [] q,by rw[l];exact Bi c e s k,g.1,?_⟩,o,D,⟨⟨E,pc,p⟩,(mZ hs (-1)).ok,by show s.1.length<=1048575;omega,apQ v (mZ hs (-1)).ok,λr=>?_,λd h=>?_⟩,λd h=>?_⟩⟩
 ·rw[l];unfold kO;grind
 ·rw[if_neg (by omega),if_neg (by omega),if_pos r]at a;exact aex a
 ·obtain⟨p1,p2⟩:=U (.inl d);have y:(c.2.2.2.2.1.getD x.2.1.toNat ([],0)).2=0:=by
   grind
  rw[if_neg (by omega),if_pos d,if_pos y]at a;have P:0<(iY c s x.2.1).length:=by grind
  refine⟨g.1,?_⟩;have M:=g.2;show j<((iY c s x.2.1).length:Int);rw[if_neg (by omega)]at M;by_cases J:1<(iY c s x.2.1).length
  ·grind
  grind
 grind
def Fj{α:Type}(Q:α->Prop)(o:Option α):Prop:=∀x,o=some x->Q x
theorem SL{Q:α->Prop}{p:Prop}[Decidable p]{a b:Option α}(d:p->Fj Q a)(g:¬p->Fj Q b):Fj Q (if p then a else b):=by
 split
 ·exact d ‹_›
 ·exact g ‹_›
theorem IN{Q:α->Prop}:Fj Q (none:Option α):=λx h=>by cases h
theorem oU{Q:α->Prop}{x:α}(h:Q x):Fj Q (some x):=λy a=>by cases a;exact h
def avP(s:aG)(x:bO)(a:aG):Prop:=
 vy s a/\(a.2.2.2.2.2.2.2.2.2=s.2.2.2.2.2.2.2.2.2\/aW a=1)/\(a.2.2.2.2.2.2.2.1.2.1=s.2.2.2.2.2.2.2.1.2.1\/x.1=15/\a.2.2.2.2.2.2.2.1.2.1=ac (s.2.2.2.2.2.2.2.1.2.1+x.2.1))
theorem O6{x:bO}{t:Th}:avP s x (cq s i t):=⟨mh,.inl rfl,.inl rfl⟩
theorem EM{kind:Int}{x:bO}:Fj (avP s x) (lR c kind s i fs f st w x):=by
 unfold lR;dsimp only;repeat' (first|exact IN|exact oU O6|refine SL (λh=>?_) (λh=>?_))
 ·split
  ·exact oU ⟨E5 _ _ _ _,.inr rfl,.inl rfl⟩
  ·exact oU O6
 ·exact oU ⟨mh,.inl rfl,.inr ⟨h,rfl⟩⟩
def Gl(s t:aG):Prop:=t.2.1=s.2.1/\t.2.2.1=s.2.2.1/\t.2.2.2.1=s.2.2.2.1/\t.2.2.2.2.1=s.2.2.2.2.1
theorem ZI(s:aG):Gl s s:=⟨rfl,rfl,rfl,rfl⟩
theorem S5{t u:aG}(h:Gl s t)(h':Gl t u):Gl s u:=⟨h'.1.trans h.1,h'.2.1.trans h.2.1,h'.2.2.1.trans h.2.2.1,h'.2.2.2.trans h.2.2.2⟩
def yI(s t:aG):Prop:=Gl s t/\t.2.2.2.2.2.2.1=s.2.2.2.2.2.2.1/\t.2.2.2.2.2.2.2.2.1=s.2.2.2.2.2.2.2.2.1
theorem kp(s:aG):yI s s:=⟨ZI s,rfl,rfl⟩
theorem y6{t u:aG}(h:yI s t)(h':yI t u):yI s u:=⟨S5 h.1 h'.1,h'.2.1.trans h.2.1,h'.2.2.trans h.2.2⟩
theorem F9(c:CC)(s:aG)(i:Nat)(o:Int):yI s (f6 c s i o):=by unfold f6;dsimp only;split<;>exact⟨⟨rfl,rfl,rfl,rfl⟩,rfl,rfl⟩
theorem PO(c:CC)(kind:Int)(i:Nat):∀(m:Nat) (s:aG),yI s (bY c kind i m s).2:=by
 intro m;induction m with
 |zero=>
  intro s;unfold bY;split
  ·exact kp s
  split
  ·exact kp s
  ·exact F9 c s i 3
 |succ m p=>
  intro s;unfold bY;split
  ·exact kp s
  split
  ·exact kp s
  dsimp only;split
  ·exact F9 c s i 4
  ·rename_i q o;obtain⟨⟨a,d,g,h,_,j,_,_,l⟩,_⟩:=EM _ o;exact y6 ⟨⟨a,d,g,h⟩,j,l⟩ (p q)
theorem yZ(c:CC)(kind:Int)(i:Nat)(s:aG):yI s (bn c kind i s).1:=by
 unfold bn;refine y6 (PO c kind i 64 s) ?_;split
 ·unfold qB;dsimp only;split
  ·exact kp _
  split
  ·dsimp only;split<;>exact kp _
  split<;>exact kp _
 ·exact kp _
theorem xX(c:CC)(kind:Int):∀(l:List Int) (s:aG),yI s (bA c kind l s).1
 |[],s=>kp s
 |z::r,s=>y6 (yZ c kind z.toNat s) (xX c kind r _)
def Nm{α:Type}(d:α)(L:List mR)(kind:Int)(a b:List α):Prop:=a.length=b.length/\∀k:Nat,a.getD k d≠b.getD k d->(kind,(k:Int),true)∈L
structure NmS(L:List mR)(s t:aG):Prop where
 v:Nm 0 L 0 s.2.1 t.2.1
 q:Nm [] L 1 s.2.2.1 t.2.2.1
 o:Nm 0 L 2 s.2.2.2.1 t.2.2.2.1
 f:Nm 0 L 3 s.2.2.2.2.1 t.2.2.2.2.1
theorem To(p:bC c)(kind:Int)  : ∀(m:Nat) {s:aG} {fs:List Fr} {f:Fr} {st:List Int} {w:Int},s.1[i]?=some (fs++[f],st,w,false)->Run1 c fs f st ->
  0<=s.2.2.2.2.2.2.2.1.2.1->s.2.2.2.2.2.2.2.1.2.1+100*m<=2000000000->aW (bY c kind i m s).2<0 ->
  (bY c kind i m s).2.2.2.2.2.2.2.2.2.2=s.2.2.2.2.2.2.2.2.2/\s.2.2.2.2.2.2.2.1.2.1<=(bY c kind i m s).2.2.2.2.2.2.2.2.1.2.1/\(bY c kind i m s).2.2.2.2.2.2.2.2.1.2.1<=s.2.2.2.2.2.2.2.1.2.1+100*m:=by
 intro m;induction m with
 |zero=>
  intro s fs f st w j h y z;obtain⟨k,pc,a⟩:=gI j h;rw[oO c kind 0 a];split
  ·grind
  split
  ·grind
  ·dsimp only;rw[kG];grind
 | succ m C=>
  intro s fs f st w j h y z;obtain⟨k,pc,a⟩:=gI j h;rw[oO c kind (m+1) a];split
  ·exactλ_=>⟨rfl,by dsimp only;omega,by dsimp only;omega⟩
  split
  ·exactλ_=>⟨rfl,by dsimp only;omega,by dsimp only;omega⟩
  rename_i n1 F;obtain⟨q,B⟩:=vh p a (by simpa using F);dsimp only;cases d:lR c kind s i fs f st w (dG c f.1.toNat)with
  |none=>
   dsimp only;rw[kG];omega
  | some g =>
   dsimp only;obtain⟨u,J,I,v,x,M⟩:=FC p a h q B d;obtain⟨_,l,o⟩:=EM _ d;have r:=p.2.2.1 k pc a.pc2 a.pr;rw[a.x]at r;obtain⟨_,_,_,_,_,_,G,_⟩:=r;have ha:0<=g.2.2.2.2.2.2.2.1.2.1/\s.2.2.2.2.2.2.2.1.2.1<=g.2.2.2.2.2.2.2.1.2.1/\g.2.2.2.2.2.2.2.1.2.1<=s.2.2.2.2.2.2.2.1.2.1+100:=by
    rcases o with o|⟨o,E⟩
    ·omega
    ·obtain⟨P,Q⟩:=G o;rw[E,ay (by omega) (by omega)];omega
   rcases l with l|l
   ·intro hq;obtain⟨D,j2,O⟩:=C (s:=g) (w:=w) (by rw[v];exact afF (cG j)) x (by omega) (by omega) hq;exact⟨D.trans l,by omega,by omega⟩
   ·have:(bY c kind i m g).2=g:=by
     unfold bY;rw[if_pos (by omega)]
    rw[this];omega
structure RunV(c:CC)(s:aG)(L:List Int)(K A N:Int):Prop where
 n1:1<=s.1.length
 n:(s.1.length:Int)+s.2.2.2.2.2.2.1<=N
 fu:0<=s.2.2.2.2.2.2.1
 own:∀k,k<s.2.2.2.1.length->mr s k
 so:∀k,k<s.1.length->(k:Int)∉L->nZ c s k=true
 wk:∀k,k<s.1.length->0<=(bo s k).2.2.1/\(bo s k).2.2.1<=K+10
 live:eR s s.1.length<=5
 cl:0<=s.2.2.2.2.2.1/\s.2.2.2.2.2.1<=K
 st:0<=s.2.2.2.2.2.2.2.1.1/\s.2.2.2.2.2.2.2.1.1<=A
 al:0<=s.2.2.2.2.2.2.2.1.2.1/\s.2.2.2.2.2.2.2.1.2.1<=A
 wa:0<=s.2.2.2.2.2.2.2.1.2.2/\s.2.2.2.2.2.2.2.1.2.2<=A
 wh:s.2.2.2.2.2.2.2.2.2.2=(0,[])
 t0:(bo s 0).2.2.2=false
theorem ky{t:aG}:∀n:Nat,(∀k,k<n->(bo s k).2.2.2=true->(bo t k).2.2.2=true)->eR t n<=eR s n:=by
 intro n;induction n with
 |zero=>exactλ_=>af3 _
 |succ n a=>
  intro h;have:=a λk d=>h k (by omega);have:=h n (by omega);unfold eR;grind
theorem Fy{t:aG}(h:t.1[k]?=s.1[k]?):bo t k=bo s k:=by unfold bo;grind
theorem wL{t:aG}(h:bo t k=bo s k)(a:aW t=aW s):nZ c t k=nZ c s k:=by unfold nZ;rw[h,a]
theorem yr(E:bC c)(kind:Int)(hg:GoodS c s)(u:qQ c s i)(h:RunV c s ((i:Int)::L) K A N)(hK:K<=10000)(hA:A<=1000000000)
  (ho:aW (bn c kind i s).1<0):RunV c (bn c kind i s).1 L K (A+6401) N:=by
 obtain⟨q1,R,q3,_⟩:=rS E kind hg u;obtain⟨fs,f,st,w,v,u⟩:=u;have hi:=cG v;obtain⟨d,p,D,g1,W,X,Y⟩:=vc E kind 64 v u;have hm:=To E kind 64 v u h.al.1 (by have:=h.al.2;omega);obtain⟨k1,k2,x,k4,y,z,B,k8,k9⟩:=X;have a:=h.wk i hi;rw[eC v]at a;have key:∃w',bo (bn c kind i s).1 i=(d++[p],D,w',false)/\i7 (dG c p.1.toNat) (d.length+1)=true/\0<=w'/\w'<=K+10/\(bn c kind i s).1.2.2.2.2.2.2.2.2.2=s.2.2.2.2.2.2.2.2.2 /\
   (bn c kind i s).1.2.2.2.1=s.2.2.2.1/\(bn c kind i s).1.2.2.2.2.2.1=s.2.2.2.2.2.1/\(bn c kind i s).1.2.2.2.2.2.2.1=s.2.2.2.2.2.2.1/\(bn c kind i s).1.2.2.2.2.2.2.2.1.1=s.2.2.2.2.2.2.2.1.1 /\
   (0<=(bn c kind i s).1.2.2.2.2.2.2.2.1.2.1/\(bn c kind i s).1.2.2.2.2.2.2.2.1.2.1<=A+6401)/\(0<=(bn c kind i s).1.2.2.2.2.2.2.2.1.2.2/\(bn c kind i s).1.2.2.2.2.2.2.2.1.2.2<=A+6401):=by
  have l:aW (bY c kind i 64 s).2<0:=by unfold bn at ho;grind
  obtain⟨V,r⟩:=Y l;obtain⟨C,m2,m3⟩:=hm l;have Z:=h.al;have hwa:=h.wa;have hcl:=h.cl;unfold bn;rw[if_pos ⟨V,l⟩];generalize bY c kind i 64 s=q at *;obtain⟨b,q⟩:=q;dsimp only at *;have hq:q.1[i]?=some (d++[p],D,w,false):=by grind
  obtain⟨k,pc,g⟩:=gI hq W;have Q:=E.2.2.1 k pc g.pc2 g.pr;rw[g.x]at Q;obtain⟨_,_,_,_,_,_,_,_,_,_,_,M,_⟩:=Q;have hx:fX c (bo q i)=dG c p.1.toNat:=by rw[eC hq];unfold fX;rw[fM]
  have hl:i<q.1.length:=cG hq;unfold qB;dsimp only;rw[hx];split
  ·rename_i G;obtain⟨o1,o2⟩:=M G;have F:ac (q.2.2.2.2.2.1+(dG c p.1.toNat).2.1)=q.2.2.2.2.2.1+(dG c p.1.toNat).2.1:=ay (by omega) (by omega);exact⟨_,by rw[wA hl,eC hq],r,by rw[F];omega,by rw[F];omega,C,x,y,z,B,⟨by dsimp only[cq];omega,by dsimp only[cq];omega⟩,⟨by dsimp only[cq];omega,by dsimp only[cq];omega⟩⟩
  split
  ·dsimp only;split
   ·have F:ac (q.2.2.2.2.2.2.2.1.2.2+1)=q.2.2.2.2.2.2.2.1.2.2+1:=ay (by omega) (by omega);exact⟨w,eC hq,r,a.1,a.2,C,x,y,z,B,⟨by dsimp only[DW];omega,by dsimp only[DW];omega⟩,⟨by dsimp only[DW];omega,by dsimp only[DW];omega⟩⟩
   ·exact⟨w,eC hq,r,a.1,a.2,C,x,y,z,B,⟨by omega,by omega⟩,⟨by omega,by omega⟩⟩
  split
  ·exact⟨w,eC hq,r,a.1,a.2,C,x,y,z,B,⟨by grind,by grind⟩,⟨by grind,by grind⟩⟩
  ·exact⟨w,eC hq,r,a.1,a.2,C,x,y,z,B,⟨by grind,by grind⟩,⟨by grind,by grind⟩⟩
 generalize(bn c kind i s).1=t at *;obtain⟨w',S,t2,t3,t4,T,t6,t7,U,t9,O,P⟩:=key;have o:∀k,k≠i->bo t k=bo s k:=λk j=>Fy (q3 k j)
 have I:aW t=aW s:=by unfold aW;rw[T]
 have J:∀k,(bo s k).2.2.2=true->(bo t k).2.2.2=true:=λk j=>by
  by_cases e:k=i
  ·subst e;rw[eC v]at j;cases j
  grind
 exact⟨by grind,by rw[R,U];exact h.n,by rw[U];exact h.fu,λk j=>by
   have:=h.own k (by grind);unfold mr at this|-;grind,λk j hL=>by
   by_cases e:k=i
   ·subst e;unfold nZ;rw[S];dsimp only;rw[if_neg (by simp)];refine ax ⟨t3,by omega,.inr ?_⟩;unfold fX;rw[fM,acA,adC];exact t2
   ·rw[wL (o k e) I];exact h.so k (by omega) (by grind),λk j=>by
   by_cases e:k=i
   ·grind
   ·rw[o k e];exact h.wk k (by omega),by
   have:=ky (s:=s) (t:=t) t.1.length λk _=>J k;rw[R]at this|-;have:=h.live;omega,by rw[t7];exact h.cl,by rw[t9];exact⟨h.st.1,by have:=h.st.2;omega⟩,O,P,by rw[T];exact h.wh,by
   by_cases e:(0:Nat)=i
   ·rw[e,S]
   ·rw[o 0 e];exact h.t0⟩
theorem kM{j g l:Int}(h:RunV c s L K A N)(D:K<=j)(E:A<=g)(F:N<=l):RunV c s L j g l:=by obtain⟨o,y,r,u,v,z,x,B,C,p,q,a,d⟩:=h;exact⟨o,by omega,r,u,v,λk G=>by grind,x,by omega,by omega,by omega,by omega,a,d⟩
theorem Fm{t:aG}{a:Int}(h:RunV c s L K A N)(q:t.1=s.1)(r:∀k,k<t.2.2.2.1.length->mr t k)(u:0<=t.2.2.2.2.2.1/\t.2.2.2.2.2.1<=a)(J:K<=a)(v:t.2.2.2.2.2.2=s.2.2.2.2.2.2):RunV c t L a A N:=by
 have d:∀k,bo t k=bo s k:=λk=>by unfold bo;rw[q]
 have x:aW t=aW s:=by unfold aW;rw[v]
 obtain⟨y,z,B,C,D,E,F,G,I,j,l,o,p⟩:=h;refine⟨by grind,by grind,by grind,r,λk g M=>?_,λk g=>?_,?_,u,by grind,by grind,by grind,by grind,by grind⟩
 ·rw[wL (d k) x];grind
 ·grind
 ·have:=ky (s:=s) (t:=t) t.1.length λk _ g=>by grind
  grind
theorem Hc(h:RunV c s L K A N){t:Th}(hi:i<s.1.length)(B:t.2.2=(bo s i).2.2):RunV c (cq s i t) ((i:Int)::L) K A N:=by
 obtain⟨o,q,r,u,v,x,C,y,z,d,g,j,p⟩:=h;have hf:∀k,(bo (cq s i t) k).2.2=(bo s k).2.2:=λk=>by
  by_cases e:k=i
  ·rw[e,wA hi,B]
  ·rw[nP e]
 refine⟨by rw[cH];exact o,by rw[cH];exact q,r,λk a=>?_,λk a l=>?_,λk a=>?_,?_,y,z,d,g,j,by grind⟩
 ·have:=u k a;unfold mr at this|-;rw[cH];exact this
 ·simp only[aen,not_or]at l;rw[wL (nP (by omega)) rfl];exact v k (by rw[<-cH];exact a) l.2
 ·rw[hf];exact x k (by rw[<-cH];exact a)
 ·have:=ky (s:=s) (t:=cq s i t) s.1.length λk _ a=>by grind
  rw[cH];omega
theorem asZ(h:RunV c s L K A N)(hl:eR s s.1.length<5)(p:Int):RunV c (s.1++[vD c p],s.2) ((s.1.length:Int)::L) K A (N+1):=by
 obtain⟨C,D,r,u,E,F,G,v,x,g,j,l,q⟩:=h;have d:(s.1++[vD c p]).length=s.1.length+1:=by simp
 have o:∀k,k<s.1.length->bo (s.1++[vD c p],s.2) k=bo s k:=λk a=>Fy (by grind);have B:bo (s.1++[vD c p],s.2) s.1.length=vD c p:=by unfold bo;simp
 refine⟨by grind,by grind,r,λk a=>?_,λk a y=>?_,λk a=>?_,?_,v,x,g,j,l,by grind⟩
 ·have:=u k a;unfold mr at this|-;grind
 ·simp only[aen,not_or]at y;dsimp only at a;rw[wL (o k (by omega)) rfl];grind
 ·dsimp only at a;by_cases e:k<s.1.length
  ·grind
  ·rw[show k=s.1.length by omega,B];exact⟨af3 _,by show(0:Int)<=K+10;omega⟩
 ·dsimp only;rw[d];unfold eR;have:=ky (s:=s) (t:=(s.1++[vD c p],s.2)) s.1.length λk a z=>by grind
  grind
theorem arT(h:RunV c s L K A N)(hi:i<s.1.length)(z:i≠0):RunV c (cq s i ([],[],0,true)) L K A N:=by
 obtain⟨o,p,q,r,u,v,C,x,y,d,g,j,l⟩:=h;refine⟨by rw[cH];exact o,by rw[cH];exact p,q,λk a=>?_,λk a B=>?_,λk a=>?_,?_,x,y,d,g,j,by rw[nP (aqR z)];exact l⟩
 ·have:=r k a;unfold mr at this|-;rw[cH];exact this
 ·by_cases e:k=i
  ·unfold nZ;rw[e,wA hi];rfl
  ·rw[wL (nP e) rfl];exact u k (by rw[<-cH];exact a) B
 ·by_cases e:k=i
  ·rw[e,wA hi];grind
  ·rw[nP e];exact v k (by rw[<-cH];exact a)
 ·have:=ky (s:=s) (t:=cq s i ([],[],0,true)) s.1.length λk _ a=>by
   by_cases e:k=i
   ·rw[e,wA hi]
   ·rw[nP e];exact a
  rw[cH];omega
theorem aql(c:CC)(s:aG):∀n,0<=lg c s n->∃k,k<n/\(ql c (bo s k)).1=25/\(bo s k).2.2.1=lg c s n:=by
 intro n;induction n with
 |zero=>intro h;unfold lg at h;omega
 |succ n a=>
  unfold lg;grind
theorem GU(h:RunV c s [] K A N)(d:aW (cu c s)<0) :
  RunV c (cu c s) [] (K+10) A N/\1<=(cu c s).2.2.2.2.2.2.1/\0<(kq c (cu c s)).length/\(cu c s).2.2.2.2.2.2=s.2.2.2.2.2.2:=by
 have r:=h.fu;unfold cu at *;split at d
 ·omega
 rename_i p;rw[if_neg p];split at d
 ·rw[kG]at d;omega
 rename_i q;rw[if_neg q];split at d
 ·rename_i g;rw[if_pos g];exact⟨kM h (by omega) (by omega) (by omega),by omega,g,rfl⟩
 rename_i g;rw[if_neg g];split at d
 ·rename_i j;rw[if_pos j];obtain⟨k,l,o,v⟩:=aql c s _ j;have u:=h.wk k l;refine⟨Fm h rfl h.own ⟨j,by show lg c s s.1.length<=K+10;omega⟩ (by omega) rfl,by show 1<=s.2.2.2.2.2.2.1;omega,?_,rfl⟩;refine List.length_pos_of_mem (a:=(k:Int)) (wW.2 ⟨k,l,?_,rfl⟩);unfold Eo;dsimp only;rw[show bo (Rz s (lg c s s.1.length)) k=bo s k from rfl,o];rw[if_neg (by intro h;unfold ql at o;grind)];simp only[Int.reduceEq,aeP,aeU];exact ax (by show(bo s k).2.2.1<=lg c s s.1.length;omega)
 ·rw[kG]at d;omega
theorem OB(h:RunV c s L K A N)(hf:1<=s.2.2.2.2.2.2.1)(u:s.2.2.2.2.2.2.1<=64)(G:K<=10000)(F:A<=1000000000):RunV c (dR s) L (K+1) (A+1) (N-1):=by
 obtain⟨l,x,y,o,p,q,r,z,B,a,d,g,j⟩:=h;have C:ac (s.2.2.2.2.2.1+1)=s.2.2.2.2.2.1+1:=ay (by omega) (by omega);have D:ac (s.2.2.2.2.2.2.1-1)=s.2.2.2.2.2.2.1-1:=ay (by omega) (by omega);have E:ac (s.2.2.2.2.2.2.2.1.1+1)=s.2.2.2.2.2.2.2.1.1+1:=ay (by omega) (by omega);refine⟨l,?_,?_,o,p,λk v=>?_,?_,?_,?_,?_,?_,g,j⟩
 ·show(s.1.length:Int)+ac (s.2.2.2.2.2.2.1-1)<=N-1;omega
 ·show 0<=ac (s.2.2.2.2.2.2.1-1);omega
 ·have:=q k v;exact⟨this.1,by show(bo s k).2.2.1<=_;omega⟩
 ·exact ajF (ky (s:=s) (t:=dR s) s.1.length λk _ h=>h) r
 ·show 0<=ac (s.2.2.2.2.2.1+1)/\ac (s.2.2.2.2.2.1+1)<=K+1;omega
 ·show 0<=ac (s.2.2.2.2.2.2.2.1.1+1)/\ac (s.2.2.2.2.2.2.2.1.1+1)<=A+1;omega
 ·exact⟨a.1,by show s.2.2.2.2.2.2.2.1.2.1<=A+1;omega⟩
 ·exact⟨d.1,by show s.2.2.2.2.2.2.2.1.2.2<=A+1;omega⟩
theorem arP{t:aG}{x:Int}{a:Nat}(h:∀k,k<s.2.2.2.1.length->mr s k)(hl:t.1.length=s.1.length)(g:t.2.2.2.1=s.2.2.2.1.set a x)(j : -1<=x/\x<s.1.length):∀k,k<t.2.2.2.1.length->mr t k:=by intro k d;rw[g,afa]at d;have:=h k d;unfold mr at this|-;grind
theorem Ci{x:bO}{k:Int}{r:Af}(d:iX x.1):(gS i f st x k r).2.2.2.2.2.2.2.2.2=r.2.2.2.2.2:=by
 obtain⟨op,a,b⟩:=x;dsimp only at d;unfold gS;dsimp only;rcases d with rfl|rfl|rfl|rfl|rfl|rfl|rfl|rfl|rfl|rfl<;>simp only[Int.reduceEq,aeP,aeU]
 ·split<;>rfl
 ·split<;>rfl
 grind
structure EffFine(s:aG)(K:Int)(r:Af):Prop where
 own:(∃x' a,r.2.2.1=s.2.2.2.1.set a x' /\ -1<=x'/\x'<s.1.length)\/r.2.2.1=s.2.2.2.1
 ck:0<=r.2.2.2.2.1/\r.2.2.2.2.1<=K+1
theorem abG(h:RunV c s [] K A N){x:bO}{j:Int}(G:K<=10000)(B:s.1[i]?=some (fs++[f],st,w,false))(q:iX x.1)(z:x.1=24->0<=j/\j<=1)(p:(nW s i fs f st w x j).2.2.1=true) :
  RunV c (nW s i fs f st w x j).2.2.2 (nW s i fs f st w x j).1 (K+1) A N:=by
 have hi:=cG B;have C:=h.cl;unfold nW at *;dsimp only at p|-;rw[if_pos p];have y:cq (vE s i fs f st w x j) i (fs++[(ac (f.1+1),(gS i f st x j s.2).2.2.1)],(gS i f st x j s.2).2.2.2.1,w,false)=(s.1.set i (fs++[(ac (f.1+1),(gS i f st x j s.2).2.2.1)],(gS i f st x j s.2).2.2.2.1,w,false),(gS i f st x j s.2).2.2.2.2):=by unfold cq vE;simp_all
 rw[y];have d:=Hc h (t:=(fs++[(ac (f.1+1),(gS i f st x j s.2).2.2.1)],(gS i f st x j s.2).2.2.2.1,w,false)) hi (by rw[eC B]);generalize u:(gS i f st x j s.2).2.2.2.2=r;have v:(cq s i (fs++[(ac (f.1+1),(gS i f st x j s.2).2.2.1)],(gS i f st x j s.2).2.2.2.1,w,false)).1.length=s.1.length:=cH;have g:EffFine s K r:=by
  rw[<-u];clear u d v y p;obtain⟨op,a,b⟩:=x;dsimp only at q z;unfold gS;dsimp only;have keep:(0<=s.2.2.2.2.2.1/\s.2.2.2.2.2.1<=K+1):=by omega
  rcases q with rfl|rfl|rfl|rfl|rfl|rfl|rfl|rfl|rfl|rfl<;>simp only[Int.reduceEq,aeP,aeU]
  ·split<;>exact⟨.inr rfl,keep⟩
  ·split<;>exact⟨.inr rfl,keep⟩
  ·exact⟨.inr rfl,keep⟩
  ·exact⟨.inl ⟨_,_,rfl,by omega,by omega⟩,keep⟩
  ·exact⟨.inl ⟨_,_,rfl,by omega,by omega⟩,keep⟩
  ·exact⟨.inr rfl,keep⟩
  ·obtain⟨I,j2⟩:=z rfl;rw[ay (by omega) (by omega)];exact⟨.inr rfl,by grind⟩
  ·exact⟨.inr rfl,keep⟩
  ·split
   ·exact⟨.inr rfl,keep⟩
   split<;>exact⟨.inr rfl,keep⟩
  ·exact⟨.inr rfl,keep⟩
 obtain⟨E,o⟩:=g;refine Fm d rfl (λk D=>?_) o (by omega) (by rw[<-u];exact Ci q);rcases E with⟨J,a,l,F⟩|l
 ·exact arP (t:=(s.1.set i (fs++[(ac (f.1+1),(gS i f st x j s.2).2.2.1)],(gS i f st x j s.2).2.2.2.1,w,false),r)) d.own rfl l (by grind) k D
 ·have:=d.own k (by show k<s.2.2.2.1.length;grind);unfold mr at this|-;dsimp only;rw[l];exact this
theorem TH(M:bC c)(h:RunV c s [] K A N)(hs:StOk c s){x:bO}{j:Int}(J:K<=10000)(r:AtP c s i fs f st w x k pc)
  (O:x.1=24->0<=j/\j<=1) (D:x.1=19->¬0<(c.2.2.2.2.1.getD x.2.1.toNat ([],0)).2->0<=j/\j<(iY c s x.2.1).length) (l:(fE c s i fs f st w x j).2.2.1=true) (G:aW (fE c s i fs f st w x j).2.2.2<0) :
  RunV c (fE c s i fs f st w x j).2.2.2 (fE c s i fs f st w x j).1 (K+1) A (N+1):=by
 have hi:=cG r.t;have z:=h.cl;have a:∀(fr:List Fr) (u:List Int),RunV c (cq s i (fr,u,w,false)) [(i:Int)] K A N:=λfr u=>Hc h hi (by rw[eC r.t]);unfold fE at *;by_cases p:x.1=18
 ·rw[if_pos p]at *;unfold uK at *;by_cases E:5<=eR s s.1.length
  ·rw[if_pos E]at l;cases l
  rw[if_neg E];have hq:=a (fs++[(ac (f.1+1),f.2)]) st;have hl:eR (oL s i fs f st w) (oL s i fs f st w).1.length<=eR s s.1.length:=by
   rw[show(oL s i fs f st w).1.length=s.1.length from cH];refine ky _ λk _ B=>?_;by_cases e:k=i
   ·rw[e,eC r.t]at B;cases B
   ·unfold oL;rw[nP e];exact B
  have F:=asZ (s:=oL s i fs f st w) hq (by omega) x.2.1;rw[show(oL s i fs f st w).1.length=s.1.length from cH]at F;exact kM F (by omega) (by omega) (by omega)
 rw[if_neg p]at *;by_cases o:x.1=19
 ·rw[if_pos o]at *;unfold lU at *;by_cases I:st.length=0
  ·rw[if_pos I]at l;cases l
  rw[if_neg I]at *;dsimp only at *;by_cases d:0<(c.2.2.2.2.1.getD x.2.1.toNat ([],0)).2
  ·rw[if_pos d]at *;exact kM (Fm (a (fs++[(ac (f.1+1),f.2)]) (st.take (st.length-1))) rfl (a (fs++[(ac (f.1+1),f.2)]) (st.take (st.length-1))).own z (by omega) rfl) (by omega) (by omega) (by omega)
  ·rw[if_neg d]at *;obtain⟨q,gs,g,tt,tw,y,P,Q,hq⟩:=E0 M hs r o (D o d);rw[P,ac6];refine kM (Hc (a (fs++[(ac (f.1+1),f.2)]) (st.take (st.length-1))) (by rw[cH];exact Q) ?_) (by omega) (by omega) (by omega);rw[nP hq.ne]
 rw[if_neg o]at *;by_cases C:iX x.1
 ·rw[if_pos C]at *;exact kM (abG h J r.t C O l) (by omega) (by omega) (by omega)
 ·rw[if_neg C]at *;unfold tH at *;dsimp only at *;by_cases v:i=0
  ·rw[if_pos v]at G;exact absurd G (by show¬(0:Int)<0;omega)
  ·rw[if_neg v];exact kM (arT h hi v) (by omega) (by omega) (by omega)
theorem Y0(c:CC)(kind:Int)(i:Nat)(h:0<=aW s):(bn c kind i s).1=s:=by
 have e:bY c kind i 64 s=(true,s):=by unfold bY;rw[if_pos h]
 unfold bn;rw[e,if_neg (λa=>absurd a.2 (by show¬aW s<0;omega))]
theorem xl(c:CC)(kind:Int):∀(l:List Int) {s:aG},0<=aW s->(bA c kind l s).1=s
 |[],s,h=>rfl
 |z::l,s,h=>by show(bA c kind l (bn c kind z.toNat s).1).1=s;rw[Y0 c kind _ h];exact xl c kind l h
theorem H8{c:CC}(p:bC c)(kind:Int):∀{l:List Int} {s:aG} {K A N:Int},CanRun c l s->RunV c s l K A N->K<=10000->A+6401*l.length<=1000000000->aW (bA c kind l s).1<0 ->
  RunV c (bA c kind l s).1 [] K (A+6401*l.length) N
 |[],s,K,A,N,a,h,o,r,u=>kM h (by omega) (by simp) (by omega)
 | z::l,s,K,A,N,a,h,o,r,u=>by
  obtain⟨n,rfl,v⟩:=a.run z (adT ..);have g:=Aj p kind a;rw[ac6]at g;have d:aW (bA c kind l (bn c kind n s).1).1<0:=u;have q:aW (bn c kind n s).1<0:=by
   rcases ag0 (aW (bn c kind n s).1) 0 with j|j
   ·exact j
   ·rw[xl c kind l j]at d;exact d
  rw[aeH]at r|-;have:=H8 p kind g (yr p kind a.g v h o (by omega) q) o (by omega) d;exact kM this (by omega) (by omega) (by omega)
structure Idle(c:CC)(s:aG):Prop where
 g:GoodS c s
 v:aW s<0->RunV c s [] (20*(65-s.2.2.2.2.2.2.1)) (20000*(65-s.2.2.2.2.2.2.1)) 65/\1<=s.2.2.2.2.2.2.1/\0<(kq c s).length/\(s.2.2.2.2.2.2.2.2.1 = -1\/s.2.2.2.2.2.2.2.2.1∈kq c s)
theorem RD(g:CodeOk c)(h:Idle c s)(r:aW s<0):fU c s=some 0:=by
 obtain⟨a,E⟩:=h;obtain⟨v,J,M,d⟩:=E r;have q:=g.v;obtain⟨k,v1⟩:=g.p;have n1:=v.n1;have O:=v.n;have vQ:zH c s:=⟨⟨n1,by omega⟩,v.own,λk g=>v.so k g (by simp),v.live⟩
 obtain⟨u,G,I⟩:=Q7 q (0,0,0) [] a.ok a.sm;have B:u=true:=I.2 vQ;subst B;have o:=a.lo;unfold aW at r o;have x:ac (s.2.2.2.2.2.2.2.2.2.1+1)=s.2.2.2.2.2.2.2.2.2.1+1:=ay (by omega) (by omega);have C:=v.cl;have D:=v.st;have z:=v.al;have F:=v.wa;have p:=v.wh;have j:(kq c s).length<=1048576:=aqf (AA _ _) a.ok.n;have y:ae s.1 0=some (bo s 0):=aV (mE n1);unfold fU;dsimp only;rw[v1];simp only[f8,Qz2,aeA,ab7,tE s a.sm,G,afg,aeN,abv,jH,GL,x];rw[ax (show 0<=s.2.2.2.2.2.1/\s.2.2.2.2.2.1<=1048576 by omega),ax (show 0<=s.2.2.2.2.2.2.1/\s.2.2.2.2.2.2.1<=64 by omega),p,aP (show¬Aa s.2.2.2.2.2.2.2.1.1 s.2.2.2.2.2.2.2.1.2.1 s.2.2.2.2.2.2.2.1.2.2 (0:Int)<0 by rw[Vl];omega),
  ax (show 0<=s.2.2.2.2.2.2.2.2.2.1+1/\s.2.2.2.2.2.2.2.2.2.1+1<=5 by omega),aP (show¬(0:Int)<=s.2.2.2.2.2.2.2.2.2.1 by omega),bf (show¬s.2.2.2.2.2.2.1=0 by omega)]
 have l:(((kq c s).length:Int)==0)=false:=bf (by omega);simp only[l,aer,aeA,afg,aeN,abv,ab7,f8,Qz2,xW q a.ok,y,v.t0];rcases d with d|d
 ·rw[nf d];rfl
 ·by_cases hq:s.2.2.2.2.2.2.2.2.1 = -1
  ·rw[nf hq];rfl
  ·rw[nt hq];simp only[abv,ab7,Z0 _ j,f8,Qz2,ax d];rfl
theorem EU(l:CodeOk c)(j:iW e)(h:Idle c s)(a:aW s<0):gx c e s=some 0/\GoOn c s:=by obtain⟨v,q,p,o⟩:=h.v a;have n1:=v.n1;have r:=v.n;refine⟨?_,⟨h.g.ok,by omega,p,o⟩⟩;unfold gx;obtain⟨b,d,g⟩:=E4 e;rw[RD l h a,d,g.2 j];unfold aW at a;simp only[f8,Qz2,aeA,ab7,afg,aP (show¬(0:Int)<=s.2.2.2.2.2.2.2.2.2.1 by omega)]
theorem aqn(a:CodeOk c)(d:iW e)(h:Idle c s)(j:aW s<0):eW c e s=some (iP c e s,0):=by obtain⟨r1,g⟩:=EU a d h j;unfold eW;rw[r1];simp only[f8,Qz2,aeA,ab7,tE s h.g.sm,DO a.v e [] g]
theorem abo(l:bC c)(e:bO)(h:GoOn c s):0<(iP c e s).2.2.2.length:=by
 unfold iP;split
 ·rename_i j;simp only[agu];omega
 ·obtain⟨k,u,g,v⟩:=Q6 h;obtain⟨fs,f,st,w,q,z⟩:=SJ h.ok g v;obtain⟨p,o,d,r⟩:=Rb l h.ok g (by rw[q]);rw[r]at d;rw[u,ac6];unfold kO;dsimp only;split
  ·rename_i a;obtain⟨x,y⟩:=d.2.2.2.2.2.2.2.2.1 a;simp only[agu];omega
  split
  ·rename_i j;simp only[agu];omega
  split
  ·simp
  split<;>simp
theorem Te{j:Int}(d:(fX c (bo s k)).1=24)(a:0<=j/\j<((kO c e s k).2.2.2.length:Int)):0<=j/\j<=1:=by
 unfold kO at a;dsimp only at a;rw[if_neg (by omega),if_neg (by omega)]at a;split at a
 ·simp at a;omega
 rw[if_neg (by omega)]at a;simp at a;omega
theorem ab9(B:bC c)(e:bO)(h:Idle c s)(T:aW s<0){j:Int}{x:bO}(l:Moves c e s j i fs f st w x)(S:x.1=24->0<=j/\j<=1) :
  Idle c (su c e s i (fE c (bS s (-1)) i fs f st w x j)).1:=by
 obtain⟨v,P,l1,hp⟩:=h.v T;refine⟨(Ik B e l).choose_spec.2,λa=>?_⟩;have hd:=zZ B (mZ l.gs (-1)) (show(bS s (-1)).1.length<=70 by have:=l.n;show s.1.length<=70;omega) l.can l.run l.hq;obtain⟨k,pc,R⟩:=l.can.at_;have Z:RunV c (bS s (-1)) [] (20*(65-s.2.2.2.2.2.2.1)) (20000*(65-s.2.2.2.2.2.2.1)) 65:=⟨v.n1,v.n,v.fu,v.own,v.so,v.wk,ajF (ky (s:=s) (t:=bS s (-1)) s.1.length λk _ h=>h) v.live,v.cl,v.st,v.al,v.wa,v.wh,v.t0⟩
 have n1:=v.n1;have n2:=v.n;have y:=TH B Z l.can.ok (by omega) R S l.can.to;have g:(fE c (bS s (-1)) i fs f st w x j).2.2.2.2.2.2.2.2.2.1=s.2.2.2.2.2.2.1/\(fE c (bS s (-1)) i fs f st w x j).2.2.2.2.2.2.2.2.2.2.2.1 = -1:=by
  unfold fE;split
  ·unfold uK;split<;>exact⟨rfl,rfl⟩
  split
  ·unfold lU;dsimp only;split
   ·exact⟨rfl,rfl⟩
   split<;>exact⟨rfl,rfl⟩
  split
  ·rename_i E;have G:=Ci (i:=i) (f:=f) (st:=st) (k:=j) (r:=(bS s (-1)).2) E;unfold nW vE;dsimp only;split<;>exact⟨aei (λr=>r.1) G,aei (λr=>r.2.2.1) G⟩
  ·unfold tH;dsimp only;split<;>exact⟨rfl,rfl⟩
 generalize fE c (bS s (-1)) i fs f st w x j=q at *;unfold su at *;cases o:q.2.2.1
 ·rw[o]at a;simp only[agX,aeU]at a;rw[kG]at a;omega
 rw[o]at a;simp only[aeP]at a|-;have hl:=hd.left o;have u:CanRun c q.1 (dR q.2.2.2):=⟨yH hl.g,λz V=>by obtain⟨n,rfl,C,O,F,w',d,Q⟩:=hl.run z V;exact⟨n,rfl,C,O,F,w',d,Q⟩,hl.nd⟩
 have p:aW (bA c e.1 q.1 (dR q.2.2.2)).1<0:=by
  rcases ag0 (aW (bA c e.1 q.1 (dR q.2.2.2)).1) 0 with d|d
  ·exact d
  ·unfold cu at a;rw[if_pos d]at a;exact a
 have D:aW q.2.2.2<0:=by
  rcases ag0 (aW q.2.2.2) 0 with d|d
  ·exact d
  ·rw[xl c e.1 q.1 (s:=dR q.2.2.2) d]at p;exact p
 have U:=OB (y o D) (by rw[g.1];exact P) (by rw[g.1];omega) (by omega) (by omega);have J:=hl.two;have ha:=H8 B e.1 u U (by omega) (by omega) p;obtain⟨W,X,Y,M⟩:=GU ha a;have I:=(xX c e.1 q.1 (dR q.2.2.2)).2;have ef:(cu c (bA c e.1 q.1 (dR q.2.2.2)).1).2.2.2.2.2.2.1=s.2.2.2.2.2.2.1-1:=by rw[M,I.1];show ac (q.2.2.2.2.2.2.2.2.2.1-1)=_;rw[g.1];exact ay (by omega) (by omega)
 refine⟨kM W (by omega) (by omega) (by omega),X,Y,.inl ?_⟩;rw[M,I.2];exact g.2
def bk(x:Int):Prop:=-9223372036854775808<=x/\x<=9223372036854775807
instance (x:Int):Decidable (bk x):=inferInstanceAs (Decidable (-9223372036854775808<=x/\x<=9223372036854775807))
theorem jy(x:Int):bk (ac x):=by unfold ac bk;rw[IntKind.wrap_i64];omega
def aaO(c:aD):Prop:=c.2.1.length<=100000/\c.2.2.1.length<=100000/\c.2.2.2.1.length<=100000/\c.2.2.2.2.1.length<=100000/\c.2.2.2.2.2.1.length<=100000/\c.2.2.2.2.2.2.1.length<=100000/\c.2.2.2.2.2.2.2.length<=100000
structure NumC(c:aD):Prop where
 i:∀x∈c.1,bk x.2.1
 v:∀v∈c.2.2.2.1,bk v.2
 n:∀l∈c.2.2.2.2.2.2.2,l.length<=1048576
theorem as7(a b:Int):bc .or .u32 a b=bc .or .u32 b a:=by unfold bc;grind
theorem xor_comm(a b:Int):bc .xor .u32 a b=bc .xor .u32 b a:=by unfold bc;grind
def qq(x k:Int):Int:=bc .or .u32 (dD .u32 x k) (ly .u32 x (32-k))
theorem yU{x k r:Int}(h:bc .and .u64 (IntKind.u64.wrap (-k)) 31=r)(a:0<=r)(g:r<=32)(d:k=32-r):bM x (-k)=some (qq x k):=by
 unfold bM qq;have e:IntKind.u64.wrap (32-r)=32-r:=by rw[IntKind.wrap_u64];omega
 rw[h,e,ax a,ax (show 0<=32-r by omega),as7,d,show(32:Int)-(32-r)=r by omega];rfl
theorem Pn{x k:Int}(a:0<=k)(d:k<=32):cv x k=some (qq x k):=by unfold cv qq;rw[ay (x:=32-k) (by omega) (by omega),ax a,ax (show 0<=32-k by omega)];rfl
def aaB(x i j k:Int):Int:=bc .xor .u32 (bc .xor .u32 (qq x i) (qq x j)) (qq x k)
theorem ayv(x:Int):ri x 6 11 25=some (aaB x 6 11 25):=by unfold ri;rw[show ac (0-6) = -6 from ay (by omega) (by omega),show ac (0-11) = -11 from ay (by omega) (by omega),show ac (0-25) = -25 from ay (by omega) (by omega),yU (k:=6) (r:=26) (by decide +kernel) (by omega) (by omega) rfl,yU (k:=11) (r:=21) (by decide +kernel) (by omega) (by omega) rfl,yU (k:=25) (r:=7) (by decide +kernel) (by omega) (by omega) rfl];rfl
theorem ayz(x:Int):ri x 2 13 22=some (aaB x 2 13 22):=by unfold ri;rw[show ac (0-2) = -2 from ay (by omega) (by omega),show ac (0-13) = -13 from ay (by omega) (by omega),show ac (0-22) = -22 from ay (by omega) (by omega),yU (k:=2) (r:=30) (by decide +kernel) (by omega) (by omega) rfl,yU (k:=13) (r:=19) (by decide +kernel) (by omega) (by omega) rfl,yU (k:=22) (r:=10) (by decide +kernel) (by omega) (by omega) rfl];rfl
theorem lC{A R S:Type}{f:S->Option (S⊕R)}(mk:Int->A->S)(a n:Nat)(g:A->Nat->A)(h:A->R)(I:Nat->A->Prop)(ha:a<=n)(v:n<9223372036854775808)
  (d:∀(i:Nat) (x:A),a<=i->i<n->I i x->f (mk i x)=some (.inl (mk ((i:Int)+1) (g x i)))/\I (i+1) (g x i)) (p:∀x,I n x->f (mk n x)=some (.inr (h x))) {x:A} (q:I a x) :
  Itr.it f (mk a x)=some (h ((List.range' a (n-a)).foldl g x))/\I n ((List.range' a (n-a)).foldl g x):=by
 have gen:∀(j:Nat) (i:Nat) (x:A),a<=i->i+j=n->I i x->I n ((List.range' i j).foldl g x):=by
  intro j;induction j with
  |zero=>grind
  |succ j r=>intro i x o hi l;exact r (i+1) _ (by omega) (by omega) (d i x o (by omega) l).2
 refine⟨?_,gen (n-a) a x (by omega) (by omega) q⟩;have key:=HH (f:=f) (λi x=>mk (i+a) x) (List.range' a (n-a)) g h (λi x=>I (a+i) x) (by grind)
  (λi k x u l=>by
   grind)
  (λx l=>by
   grind) (a:=x) q
 grind
theorem DT{a b:Int}(ha:0<=a)(g:0<=b)(j:b<2 ^ k)(h:a*2 ^ k+b<4294967296):bc .or .u32 (a*2 ^ k) b=a*2 ^ k+b:=by
 obtain⟨A,rfl⟩:=aqC ha;obtain⟨B,rfl⟩:=aqC g;have d:B<2 ^ k:=by grind
 have l:((A:Int)*2 ^ k)=((A*2 ^ k:Nat):Int):=by push_cast;rfl
 have o:A*2 ^ k+B<4294967296:=by grind
 rw[l];have:=Go.u32_or ((A*2 ^ k:Nat):Int) (B:Int) (by omega) (by omega) (by omega) (by omega);refine Eq.trans this ?_;rw[ac6,ac6,<-Nat.shiftLeft_eq,<-Nat.shiftLeft_add_eq_or_of_lt d];grind
theorem Yj{x:Int}(g:k<=32)(a:0<=x)(h:x*2 ^ k<4294967296):ly .u32 x (k:Int)=x*2 ^ k:=by
 have d:0<=x*2 ^ k:=Int.mul_nonneg a (Int.le_of_lt (Int.pow_pos (by omega)));have e:min (k:Int).toNat 32=k:=by grind
 show IntKind.u32.wrap (x*2 ^ (min (k:Int).toNat 32))=_;rw[e,IntKind.wrap_u32'];grind
def jG(b:List Int)(n:Nat):Prop:=b.length=n/\∀x∈b,0<=x/\x<256
theorem wC(h:jG b n)(hi:i<n):0<=b.getD i 0/\b.getD i 0<256:=h.2 _ (by rw[aee,acz (by rw[h.1];exact hi)];grind)
def agP(b:List Int)(t:Nat):Int:=((b.getD (4*t) 0*256+b.getD (4*t+1) 0)*256+b.getD (4*t+2) 0)*256+b.getD (4*t+3) 0
def axz(w:List Int)(t:Nat):Int:=
 IntKind.u32.wrap (IntKind.u32.wrap (IntKind.u32.wrap (w.getD (t-16) 0+bc .xor .u32 (bc .xor .u32 (qq (w.getD (t-15) 0) 7) (qq (w.getD (t-15) 0) 18)) (dD .u32 (w.getD (t-15) 0) 3))+w.getD (t-7) 0)+bc .xor .u32 (bc .xor .u32 (qq (w.getD (t-2) 0) 17) (qq (w.getD (t-2) 0) 19)) (dD .u32 (w.getD (t-2) 0) 10))
def pI(b w:List Int)(t:Nat):List Int:=bR 64 0 w t (if t<16 then agP b t else axz w t)
def GI(b:List Int):List Int:=(List.range' 0 64).foldl (pI b) []
theorem ael{b0 a d g:Int}(h:0<=b0/\b0<256)(j:0<=a/\a<256)(l:0<=d/\d<256)(r:0<=g/\g<256) :
  bc .or .u32 (bc .or .u32 (bc .or .u32 (ly .u32 (IntKind.u32.wrap b0) 24) (ly .u32 (IntKind.u32.wrap a) 16)) (ly .u32 (IntKind.u32.wrap d) 8)) (IntKind.u32.wrap g)=((b0*256+a)*256+d)*256+g:=by
 have w:∀x:Int,0<=x/\x<256->IntKind.u32.wrap x=x:=λx u=>by rw[IntKind.wrap_u32'];omega
 rw[w b0 h,w a j,w d l,w g r];have o:ly .u32 b0 24=b0*2 ^ 24:=Yj (k:=24) (by omega) h.1 (by omega);have p:ly .u32 a 16=a*2 ^ 16:=Yj (k:=16) (by omega) j.1 (by omega);have q:ly .u32 d 8=d*2 ^ 8:=Yj (k:=8) (by omega) l.1 (by omega);rw[o,p,q,DT (k:=24) h.1 (by omega) (by omega) (by omega),show b0*2 ^ 24+a*2 ^ 16=(b0*256+a)*2 ^ 16 by omega,DT (k:=16) (by omega) (by omega) (by omega) (by omega),
  show(b0*256+a)*2 ^ 16+d*2 ^ 8=((b0*256+a)*256+d)*2 ^ 8 by omega,DT (k:=8) (by omega) (by omega) (by omega) (by omega)]
 rfl
theorem abu{x b:Int}(a:0<=x)(g:x<16777216)(d:0<=b/\b<256):bc .or .u32 (ly .u32 x 8) (IntKind.u32.wrap b)=x*256+b:=by rw[show IntKind.u32.wrap b=b by rw[IntKind.wrap_u32'];omega,show ly .u32 x 8=x*2 ^ 8 from Yj (k:=8) (by omega) a (by omega),DT (k:=8) a d.1 (by omega) (by omega)];rfl
theorem avd(a:jG b 64)(p:t<16)(w:List Int):ii b ((t:Int),w)=some (.inl ((t:Int)+1,pI b w t)):=by
 have hl:=a.1;have l:∀j:Nat,j<4->ae b ((4*t+j:Nat):Int)=some (b.getD (4*t+j) 0):=λj r=>br 0 (by omega);have o:ac (4*(t:Int))=((4*t:Nat):Int):=by rw[ay (by omega) (by omega)];omega
 have d:ac (((4*t:Nat):Int)+1)=((4*t+1:Nat):Int):=by rw[ay (by omega) (by omega)];omega
 have g:ac (((4*t:Nat):Int)+2)=((4*t+2:Nat):Int):=by rw[ay (by omega) (by omega)];omega
 have h:ac (((4*t:Nat):Int)+3)=((4*t+3:Nat):Int):=by rw[ay (by omega) (by omega)];omega
 have q:ae b ((4*t:Nat):Int)=some (b.getD (4*t) 0):=br 0 (by omega);unfold ii pI;simp only[ax (show(t:Int)<16 by omega),abv,o,d,g,h,q,l 1 (by omega),l 2 (by omega),l 3 (by omega),f8,Qz2,af,ax (show(0:Int)<=24 by omega),ax (show(0:Int)<=16 by omega),ax (show(0:Int)<=8 by omega),ax (show 0<=(t:Int)/\(t:Int)<64 by omega),
  ael (wC a (show 4*t<64 by omega)) (wC a (show 4*t+1<64 by omega)) (wC a (show 4*t+2<64 by omega)) (wC a (show 4*t+3<64 by omega)),ay (x:=(t:Int)+1) (by omega) (by omega),ac6,if_pos p]
 rfl
theorem at3(o:16<=t)(q:t<64)(b w:List Int):gX ((t:Int),w)=some (.inl ((t:Int)+1,pI b w t)):=by
 have e:∀j:Nat,j<=16->ac ((t:Int)-(j:Int))=((t-j:Nat):Int):=λj p=>by rw[ay (by omega) (by omega)];omega
 have d:∀j:Nat,j<=16->0<j->(0<=((t-j:Nat):Int)/\((t-j:Nat):Int)<64):=λj p _=>by omega
 have a:=e 15 (by omega);have h:=e 2 (by omega);have g:=e 16 (by omega);have l:=e 7 (by omega);unfold gX pI;simp only[ax (show(t:Int)<64 by omega),abv,show ac ((t:Int)-15)=((t-15:Nat):Int)from a,show ac ((t:Int)-2)=((t-2:Nat):Int)from h,show ac ((t:Int)-16)=((t-16:Nat):Int)from g,show ac ((t:Int)-7)=((t-7:Nat):Int)from l,
  af,ax (d 15 (by omega) (by omega)),ax (d 2 (by omega) (by omega)),ax (d 16 (by omega) (by omega)),ax (d 7 (by omega) (by omega)),ax (show(0:Int)<=3 by omega),ax (show(0:Int)<=10 by omega),ax (show 0<=(t:Int)/\(t:Int)<64 by omega),
  Pn (k:=7) (by omega) (by omega),Pn (k:=18) (by omega) (by omega),Pn (k:=17) (by omega) (by omega),Pn (k:=19) (by omega) (by omega),f8,Qz2,ay (x:=(t:Int)+1) (by omega) (by omega),ac6,if_neg (show¬t<16 by omega)]
 rfl
theorem ai2(h:jG b 64):jr b=some (GI b):=by unfold jr;have d:=(lC (f:=ii b) (λi x=>(i,x)) 0 16 (λw t=>pI b w t) (λx=>x) (λ_ _=>True) (by omega) (by omega) (λi x _ hi _=>⟨avd h hi x,trivial⟩) (λx _=>by rfl) (x:=[]) trivial).1;have g:=λw=>(lC (f:=gX) (λi x=>(i,x)) 16 64 (λw t=>pI b w t) (λx=>x) (λ_ _=>True) (by omega) (by omega) (λi x hi a _=>⟨at3 hi a b x,trivial⟩) (λx _=>by rfl) (x:=w) trivial).1;refine(aei (λo:Option (List Int)=>o.bind _) d).trans ?_;simp only[f8,Qz2];refine(aei (λo:Option (List Int)=>o.bind _) (g _)).trans ?_;simp only[f8,Qz2];rw[<-ajD];rfl
theorem ac7{s:Nat}{d x:α}{w:List α}(h:s<n):(bR n d w t x).getD s d=if s=t then x else w.getD s d:=by unfold bR;grind
theorem HB{d x y:α}{w:List α}:bR n d (bR n d w t x) t y=bR n d w t y:=by unfold bR;simp_all
theorem adu(a:jG b 64)(d:t<16):((b.take (4*t+4)).drop (4*t)).length=4:=by have:=a.1;grind
theorem ajj{j:Nat}(a:jG b 64)(g:t<16)(d:j<4):((b.take (4*t+4)).drop (4*t)).getD j 0=b.getD (4*t+j) 0:=by grind
def wU(b:List Int)(t:Nat):Nat->Int
 |0=>0
 |j+1=>wU b t j*256+b.getD (4*t+j) 0
theorem as0(a:jG b 64)(o:t<16):∀j:Nat,j<=4->0<=wU b t j/\wU b t j<256 ^ j:=by
 intro j;induction j with
 |zero=>intro _;exact⟨af3 _,Int.zero_lt_one⟩
 |succ j d=>
  intro l;have g:=d (by omega);have h:=wC a (show 4*t+j<64 by omega);rw[Int.pow_succ];show 0<=wU b t j*256+b.getD (4*t+j) 0/\wU b t j*256+b.getD (4*t+j) 0<256 ^ j*256;omega
theorem aie(d:jG b 64)(h:t<16){w:List Int}(z:w.getD t 0=0){v:Int×List Int}(r:v=((t:Int),w)){j:Nat}(p:j<4)(u:List Int)(q:u.getD t 0=wU b t j) :
  gn b v ((j:Int),u)=some (.inl ((j:Int)+1,bR 64 0 u t (wU b t (j+1)))):=by
 subst r;have l:(ac (4*(t:Int)))=((4*t:Nat):Int):=by rw[ay (by omega) (by omega)];omega
 have o:(ac (((4*t:Nat):Int)+4))=((4*t+4:Nat):Int):=by rw[ay (by omega) (by omega)];omega
 have hl:=adu d h;have y:ae ((b.take (4*t+4)).drop (4*t)) (j:Int)=some (b.getD (4*t+j) 0):=(br 0 (by omega)).trans (aei some (ajj d h p));have g:=as0 d h j (by omega);have a:wU b t j<16777216:=by
  have:(256:Int) ^ j<=256 ^ 3:=by have:=alL (n:=256) (by omega) (show j<=3 by omega);grind
  grind
 unfold gn;simp only[l,o,ac6,hl,y,ax (show(j:Int)<((4:Nat):Int)by omega),abv,f8,Qz2,af,ax (show 0<=(t:Int)/\(t:Int)<64 by omega),ax (show(0:Int)<=8 by omega),q,abu g.1 a (wC d (show 4*t+j<64 by omega)),ay (x:=(j:Int)+1) (by omega) (by omega)];rfl
theorem ah9(g:jG b 64)(l:t<16){w:List Int}(a:w.getD t 0=0):Itr.it (gn b ((t:Int),w)) (0,w)=some (bR 64 0 w t (agP b t)):=by
 have d:=(lC (f:=gn b ((t:Int),w)) (λi x=>(i,x)) 0 4 (λu j=>bR 64 0 u t (wU b t (j+1))) (λx=>x) (λj u=>u.getD t 0=wU b t j) (by omega) (by omega)
  (λj u _ h o=>⟨aie g l a rfl h u o,(ac7 (by omega)).trans (if_pos rfl)⟩)
  (λu _=>by
   have p:(ac (4*(t:Int)))=((4*t:Nat):Int):=by rw[ay (by omega) (by omega)];omega
   have q:(ac (((4*t:Nat):Int)+4))=((4*t+4:Nat):Int):=by rw[ay (by omega) (by omega)];omega
   unfold gn;grind) (x:=w) a).1
 refine d.trans (aei some ?_);have e:agP b t=wU b t 4:=by show((b.getD (4*t) 0*256+b.getD (4*t+1) 0)*256+b.getD (4*t+2) 0)*256+b.getD (4*t+3) 0=(((0*256+b.getD (4*t+0) 0)*256+b.getD (4*t+1) 0)*256+b.getD (4*t+2) 0)*256+b.getD (4*t+3) 0;grind
 rw[e];show bR 64 0 (bR 64 0 (bR 64 0 (bR 64 0 w t _) t _) t _) t _=_;rw[HB,HB,HB]
theorem rl(x:Int):bM x (-7)=some (qq x 7)/\bM x (-18)=some (qq x 18)/\bM x (-17)=some (qq x 17)/\bM x (-19)=some (qq x 19):=
 ⟨yU (k:=7) (r:=25) (by decide +kernel) (by omega) (by omega) rfl,yU (k:=18) (r:=14) (by decide +kernel) (by omega) (by omega) rfl,yU (k:=17) (r:=15) (by decide +kernel) (by omega) (by omega) rfl,yU (k:=19) (r:=13) (by decide +kernel) (by omega) (by omega) rfl⟩
theorem auq(a:jG b 64)(q:t<64){w:List Int}(p:w.getD t 0=0):q8 ((t:Int),w) b=some (pI b w t):=by
 unfold q8 pI;rcases afB t 16 with h|h
 ·have g:(ac (4*(t:Int)))=((4*t:Nat):Int):=by rw[ay (by omega) (by omega)];omega
  have l:(ac (((4*t:Nat):Int)+4))=((4*t+4:Nat):Int):=by rw[ay (by omega) (by omega)];omega
  have hl:=a.1;simp only[ax (show(t:Int)<16 by omega),abv,g,l,af,ax (show 0<=((4*t:Nat):Int)/\((4*t:Nat):Int)<=((4*t+4:Nat):Int)/\((4*t+4:Nat):Int)<=(b.length:Int)by omega),ah9 a h p,f8,Qz2,if_pos h]
 ·have e:∀j:Nat,j<=16->ac ((t:Int)-(j:Int))=((t-j:Nat):Int):=λj o=>by rw[ay (by omega) (by omega)];omega
  have d:∀j:Nat,j<=16->0<j->(0<=((t-j:Nat):Int)/\((t-j:Nat):Int)<64):=λj o _=>by omega
  simp only[aP (show¬(t:Int)<16 by omega),ab7,show ac ((t:Int)-15)=((t-15:Nat):Int)from e 15 (by omega),show ac ((t:Int)-2)=((t-2:Nat):Int)from e 2 (by omega),show ac ((t:Int)-16)=((t-16:Nat):Int)from e 16 (by omega),show ac ((t:Int)-7)=((t-7:Nat):Int)from e 7 (by omega),
   af,ax (d 15 (by omega) (by omega)),ax (d 2 (by omega) (by omega)),ax (d 16 (by omega) (by omega)),ax (d 7 (by omega) (by omega)),ax (show(0:Int)<=3 by omega),ax (show(0:Int)<=10 by omega),ax (show 0<=(t:Int)/\(t:Int)<64 by omega),
   (rl _).1,(rl _).2.1,(rl _).2.2.1,(rl _).2.2.2,f8,Qz2,ac6,if_neg (show¬t<16 by omega)]
  rfl
theorem SX(h:jG b 64):og b=some (GI b):=by
 unfold og;have a:=(lC (f:=ox b) (λi x=>(i,x)) 0 64 (λw t=>pI b w t) (λx=>x) (λi w=>∀t,i<=t->t<64->w.getD t 0=0) (by omega) (by omega)
  (λi x _ hi g=>⟨by
   unfold ox;simp only[ax (show(i:Int)<64 by omega),abv,auq h hi (g i (by omega) hi),f8,Qz2,ay (x:=(i:Int)+1) (by omega) (by omega)],
   λt a d=>by unfold pI;rw[ac7 d,if_neg (by omega)];grind⟩)
  (λx _=>by rfl) (x:=[]) (λt _ _=>rfl)).1
 refine(aei (λo:Option (List Int)=>o.bind _) a).trans ?_;rfl
def chR(e f g:Int):Int:=bc .xor .u32 (bc .and .u32 e f) (bc .and .u32 (bc .xor .u32 e 4294967295) g)
def ayw(a b c:Int):Int:=bc .xor .u32 (bc .xor .u32 (bc .and .u32 a b) (bc .and .u32 a c)) (bc .and .u32 b c)
def auj(w:List Int)(x:zC)(t:Nat):Int:=IntKind.u32.wrap (IntKind.u32.wrap (IntKind.u32.wrap (IntKind.u32.wrap (x.2.2.2.2.2.2.2+aaB x.2.2.2.2.1 6 11 25)+chR x.2.2.2.2.1 x.2.2.2.2.2.1 x.2.2.2.2.2.2.1)+pN.getD t 0)+w.getD t 0)
def vk(w:List Int)(x:zC)(t:Nat):zC:=
 (IntKind.u32.wrap (auj w x t+IntKind.u32.wrap (aaB x.1 2 13 22+ayw x.1 x.2.1 x.2.2.1)),x.1,x.2.1,x.2.2.1,IntKind.u32.wrap (x.2.2.2.1+auj w x t),x.2.2.2.2.1,x.2.2.2.2.2.1,x.2.2.2.2.2.2.1)
def st8(H:List Int):zC:=(H.getD 0 0,H.getD 1 0,H.getD 2 0,H.getD 3 0,H.getD 4 0,H.getD 5 0,H.getD 6 0,H.getD 7 0)
def avh(H b:List Int):zC:=(List.range' 0 64).foldl (vk (GI b)) (st8 H)
def J4(H:List Int)(x:zC):List Int:=
 [IntKind.u32.wrap (H.getD 0 0+x.1),IntKind.u32.wrap (H.getD 1 0+x.2.1),IntKind.u32.wrap (H.getD 2 0+x.2.2.1),IntKind.u32.wrap (H.getD 3 0+x.2.2.2.1),IntKind.u32.wrap (H.getD 4 0+x.2.2.2.2.1),
  IntKind.u32.wrap (H.getD 5 0+x.2.2.2.2.2.1),IntKind.u32.wrap (H.getD 6 0+x.2.2.2.2.2.2.1),IntKind.u32.wrap (H.getD 7 0+x.2.2.2.2.2.2.2)]
def comp(H b:List Int):List Int:=J4 H (avh H b)
theorem acM(a:t<64):ae pN (t:Int)=some (pN.getD t 0)/\ae tW (t:Int)=some (pN.getD t 0):=by have e:tW=pN:=rfl;have l:pN.length=64:=rfl;exact⟨br 0 (by omega),by rw[e];exact br 0 (by omega)⟩
theorem aav(w:List Int)(x:zC):Itr.it (gt w) (x.1,x.2.1,x.2.2.1,x.2.2.2.1,x.2.2.2.2.1,x.2.2.2.2.2.1,x.2.2.2.2.2.2.1,x.2.2.2.2.2.2.2,0)=some ((List.range' 0 64).foldl (vk w) x):=by
 have h:=(lC (f:=gt w) (λi x=>((x.1,x.2.1,x.2.2.1,x.2.2.2.1,x.2.2.2.2.1,x.2.2.2.2.2.1,x.2.2.2.2.2.2.1,x.2.2.2.2.2.2.2,i):Y51)) 0 64 (vk w) (λx=>x) (λ_ _=>True) (by omega) (by omega)
  (λi x _ hi _=>⟨by
   have hd:∀k:Int,0<=k->k<=32->∀y,cv y k=some (qq y k):=λk a d y=>Pn a d;unfold gt;simp only[ax (show(i:Int)<64 by omega),abv,af,ax (show 0<=(i:Int)/\(i:Int)<64 by omega),hd 6 (by omega) (by omega),hd 11 (by omega) (by omega),hd 25 (by omega) (by omega),hd 2 (by omega) (by omega),hd 13 (by omega) (by omega),hd 22 (by omega) (by omega),(acM hi).1,f8,Qz2,ac6,ay (x:=(i:Int)+1) (by omega) (by omega)];rfl,trivial⟩)
  (λx _=>by rfl) (x:=x) trivial).1
 exact h
theorem Tk(w:List Int)(x:zC):Itr.it (iQ w) (0,[x.1,x.2.1,x.2.2.1,x.2.2.2.1],[x.2.2.2.2.1,x.2.2.2.2.2.1,x.2.2.2.2.2.2.1,x.2.2.2.2.2.2.2]) =
  some ([((List.range' 0 64).foldl (vk w) x).1,((List.range' 0 64).foldl (vk w) x).2.1,((List.range' 0 64).foldl (vk w) x).2.2.1,((List.range' 0 64).foldl (vk w) x).2.2.2.1],[((List.range' 0 64).foldl (vk w) x).2.2.2.2.1,((List.range' 0 64).foldl (vk w) x).2.2.2.2.2.1,((List.range' 0 64).foldl (vk w) x).2.2.2.2.2.2.1,((List.range' 0 64).foldl (vk w) x).2.2.2.2.2.2.2]):=by
 have h:=(lC (f:=iQ w) (λi x=>((i,[x.1,x.2.1,x.2.2.1,x.2.2.2.1],[x.2.2.2.2.1,x.2.2.2.2.2.1,x.2.2.2.2.2.2.1,x.2.2.2.2.2.2.2]):Y23)) 0 64 (vk w) (λx=>([x.1,x.2.1,x.2.2.1,x.2.2.2.1],[x.2.2.2.2.1,x.2.2.2.2.2.1,x.2.2.2.2.2.2.1,x.2.2.2.2.2.2.2])) (λ_ _=>True) (by omega) (by omega)
  (λi x _ hi _=>⟨by
   unfold iQ;have g:∀p q r s:Int,List.getD [p,q,r,s] (0:Int).toNat (0:Int)=p/\List.getD [p,q,r,s] (1:Int).toNat (0:Int)=q/\List.getD [p,q,r,s] (2:Int).toNat (0:Int)=r/\List.getD [p,q,r,s] (3:Int).toNat (0:Int)=s:=λp q r s=>⟨rfl,rfl,rfl,rfl⟩
   have a:∀y,bc .xor .u32 (if IntKind.signed .u32 then -1 else IntKind.max .u32) y=bc .xor .u32 y 4294967295:=λy=>xor_comm _ _;simp only[ax (show(i:Int)<64 by omega),abv,af,ax (show 0<=(i:Int)/\(i:Int)<64 by omega),ax (show 0<=(0:Int)/\(0:Int)<4 by omega),ax (show 0<=(1:Int)/\(1:Int)<4 by omega),ax (show 0<=(2:Int)/\(2:Int)<4 by omega),ax (show 0<=(3:Int)/\(3:Int)<4 by omega),(acM hi).2,f8,Qz2,(g _ _ _ _).1,(g _ _ _ _).2.1,(g _ _ _ _).2.2.1,(g _ _ _ _).2.2.2,ayv,ayz,a,ac6,ay (x:=(i:Int)+1) (by omega) (by omega)];rfl,trivial⟩)
  (λx _=>by rfl) (x:=x) trivial).1
 exact h
def at7(s:List Int×List Int)(H:List Int)(i:Nat):List Int:=
 bR 8 0 (bR 8 0 H i (IntKind.u32.wrap (H.getD i 0+s.1.getD i 0))) (i+4) (IntKind.u32.wrap ((bR 8 0 H i (IntKind.u32.wrap (H.getD i 0+s.1.getD i 0))).getD (i+4) 0+s.2.getD i 0))
theorem aeE(s:List Int×List Int)(H:List Int):Itr.it (tn s) (0,H)=some ((List.range' 0 4).foldl (at7 s) H):=by rfl
theorem awb(H:List Int)(x:zC):(List.range' 0 4).foldl (at7 ([x.1,x.2.1,x.2.2.1,x.2.2.2.1],[x.2.2.2.2.1,x.2.2.2.2.2.1,x.2.2.2.2.2.2.1,x.2.2.2.2.2.2.2])) H=J4 H x:=rfl
theorem ayr(H:List Int):cT 8 0 H=[H.getD 0 0,H.getD 1 0,H.getD 2 0,H.getD 3 0,H.getD 4 0,H.getD 5 0,H.getD 6 0,H.getD 7 0]:=rfl
theorem XJ{w:List Int}{x:zC}(hs:og b=some w)
  (h:Itr.it (iQ w) (0,[H.getD 0 0,H.getD 1 0,H.getD 2 0,H.getD 3 0],[H.getD 4 0,H.getD 5 0,H.getD 6 0,H.getD 7 0])=some ([x.1,x.2.1,x.2.2.1,x.2.2.2.1],[x.2.2.2.2.1,x.2.2.2.2.2.1,x.2.2.2.2.2.2.1,x.2.2.2.2.2.2.2])):lF H b=some (J4 H x):=by
 have d:(4:Int).toNat=4:=rfl;have g:(8:Int).toNat=8:=rfl;have a:(0:Int).toNat=0:=rfl;unfold lF;simp only[hs,f8,Qz2,ayr,af,d,g,a,ai3,ahj,List.take_nil,aj0,agY,aeH,afW,h,aeE,awb];rfl
theorem abE(a:jG b 64):lF H b=some (comp H b):=XJ (SX a) (Tk (GI b) (st8 H))
theorem acw{p w:List Int}{x:zC}(a:i+64<=p.length)(hl:p.length<4611686018427387904)(hs:jr ((p.take (i+64)).drop i)=some w)
  (h:Itr.it (gt w) (H.getD 0 0,H.getD 1 0,H.getD 2 0,H.getD 3 0,H.getD 4 0,H.getD 5 0,H.getD 6 0,H.getD 7 0,0)=some x):kY ((i:Int),H) p=some (J4 H x):=by
 have e:ac ((i:Int)+64)=((i+64:Nat):Int):=by rw[ay (by omega) (by omega)];omega
 have g:(0:Int).toNat=0/\(1:Int).toNat=1/\(2:Int).toNat=2/\(3:Int).toNat=3/\(4:Int).toNat=4/\(5:Int).toNat=5/\(6:Int).toNat=6/\(7:Int).toNat=7:=⟨rfl,rfl,rfl,rfl,rfl,rfl,rfl,rfl⟩
 unfold kY;simp only[e,af,ax (show 0<=(i:Int)/\(i:Int)<=((i+64:Nat):Int)/\((i+64:Nat):Int)<=(p.length:Int)by omega),ac6,hs,f8,Qz2,g.1,g.2.1,g.2.2.1,g.2.2.2.1,g.2.2.2.2.1,g.2.2.2.2.2.1,g.2.2.2.2.2.2.1,g.2.2.2.2.2.2.2,h];rfl
theorem akL{p:List Int}(d:i+64<=p.length)(hl:p.length<4611686018427387904)(a:jG ((p.take (i+64)).drop i) 64):kY ((i:Int),H) p=some (comp H ((p.take (i+64)).drop i)):=
 acw d hl (ai2 a) (aav (GI ((p.take (i+64)).drop i)) (st8 H))
attribute [local irreducible] comp
def m6(m:List Int):Prop:=∀x∈m,0<=x/\x<256
theorem tN{a:List Int}(ha:m6 a)(d:m6 b):m6 (a++b):=λx g=>(aef.1 g).elim (ha x) (d x)
theorem Lo(l:List UInt8):m6 (cQ l):=λx a=>by obtain⟨b,_,rfl⟩:=acG.1 a;have:=b.toNat_lt;omega
theorem yu(l:List UInt8):(cQ l).length=l.length:=afN ..
theorem S3(l:List UInt8)(n:Nat):cQ (l.take n)=(cQ l).take n:=ajZ ..
theorem Zu(a b:List UInt8):cQ (a++b)=cQ a++cQ b:=afo ..
def d6(m:List Int):List UInt8:=List.map (λn=>UInt8.ofNat n.toNat) m
theorem Ay(h:m6 m):cQ (d6 m)=m:=by unfold cQ d6;rw[ag1];refine(afA λx a=>?_).trans (akB m);have:=h x a;show((UInt8.ofNat x.toNat).toNat:Int)=x;rw[apy];omega
theorem jn(m:List Int):(d6 m).length=m.length:=afN ..
def blk(m:List Int)(k:Nat):List Int:=(m.take (64*k+64)).drop (64*k)
def Hs(m H:List Int)(k:Nat):List Int:=(List.range k).foldl (λH i=>comp H (blk m i)) H
theorem ata{y:List Int}(h:64*k+64<=m.length):blk (m++y) k=blk m k:=by unfold blk;grind
theorem DS(m H:List Int)(k:Nat):Hs m H (k+1)=comp (Hs m H k) (blk m k):=by unfold Hs;rw[aj7,ajD];rfl
theorem abO{y:List Int}:∀{k:Nat},64*k<=m.length->Hs (m++y) H k=Hs m H k:=by
 intro k;induction k with
 |zero=>intro _;simp only[Hs,List.range_zero,List.foldl_nil]
 |succ k a=>intro h;rw[DS,DS,a (by omega),ata (by omega)]
theorem abt(a:m6 m)(h:64*k+64<=m.length):jG (blk m k) 64:=
 ⟨by unfold blk;grind,λx d=>a x (agT (ag4 d))⟩
theorem DM(n:Nat)(d:α)(xs:List α):(cT n d xs).length=n:=by unfold cT;simp
theorem G6(d:α){xs:List α}(h:xs.length=n):cT n d xs=xs:=by refine List.ext_getElem (by rw[DM,h]) λi a g=>?_;unfold cT;grind
structure Fed(H m:List Int)(S:cn):Prop where
 h:S.1=Hs m H (m.length / 64)
 b:(cT 64 0 S.2.1).take (m.length%64)=m.drop (64*(m.length / 64))
 n:S.2.2=m.length
 y:m6 m
theorem agK{S:cn}(O:Fed H m S){x:List UInt8}(Q:x≠[])(hl:m.length+x.length<4611686018427387904) :
  ∃(c:Nat) (S':cn),0<c/\c<=x.length/\gO (x,S)=some (.inl (x.drop c,S'))/\Fed H (m++cQ (x.take c)) S':=by
 obtain⟨y,G,z,M⟩:=O;obtain⟨v,d,E⟩:=S;dsimp only at y G z;have hq:=Nat.div_add_mod m.length 64;have V:=ajQ m.length (show 0<64 by omega);generalize T:m.length / 64=q at *;generalize P:m.length%64=k at *;have R:0<x.length:=List.length_pos_iff.2 Q;have o:ac (Int.tmod E 64)=(k:Int):=by
  rw[z,<-P];have e:Int.tmod (m.length:Int) 64=((m.length%64:Nat):Int):=by grind
  rw[e,ay (by omega) (by omega)]
 have a:(min ((64:Int)-(k:Int)).toNat x.length:Nat)=min (64-k) x.length:=by grind
 generalize U:min (64-k) x.length=c at a;have F:ac ((k:Int)+(c:Int))=((k+c:Nat):Int):=by rw[ay (by omega) (by omega)];omega
 have en:IntKind.u64.wrap (E+IntKind.u64.wrap (c:Int))=((m.length+c:Nat):Int):=by rw[z,IntKind.wrap_u64,IntKind.wrap_u64];omega
 have u:((x==[]):Bool)=false:=by grind
 have D:=DM 64 (0:Int) d;have B:jj 64 d (k:Int) 64 x=m.drop (64*q)++cQ (x.take c)++(cT 64 0 d).drop (k+c):=by unfold jj;have J:(min ((64:Int)-(k:Int)).toNat x.length)=c:=a;rw[J,ac6,G,S3]
 have p:(jj 64 d (k:Int) 64 x).length=64:=by rw[B];simp only[acA,agk,yu,afi,D];omega
 have g:(m++cQ (x.take c)).length=m.length+c:=by grind
 have l:m6 (m++cQ (x.take c)):=tN M (Lo _);have h:(m++cQ (x.take c)).drop (64*q)=m.drop (64*q)++cQ (x.take c):=by grind
 have r:(x.take (x.length:Int).toNat).drop ((c:Nat):Int).toNat=x.drop c:=by simp_all
 by_cases I:k+c=64
 ·have j:blk (m++cQ (x.take c)) q=jj 64 d (k:Int) 64 x:=by
   unfold blk;rw[aeQ (by omega),h,B,show(cT 64 0 d).drop (k+c)=[]from List.drop_of_length_le (by omega),ad0]
  refine⟨c,(comp v (jj 64 d (k:Int) 64 x),jj 64 d (k:Int) 64 x,((m.length+c:Nat):Int)),by omega,by omega,?_,?_⟩
  ·have C:lF v (((cT 64 (0:Int) (jj 64 d (k:Int) 64 x)).take (64:Int).toNat).drop (0:Int).toNat)=some (comp v (jj 64 d (k:Int) 64 x)):=by
    have e:(((cT 64 (0:Int) (jj 64 d (k:Int) 64 x)).take (64:Int).toNat).drop (0:Int).toNat)=jj 64 d (k:Int) 64 x:=by rw[G6 0 p];grind
    rw[e];refine abE ?_;rw[<-j];exact abt l (by omega)
   unfold gO;dsimp only;rw[u];simp only[aeN,abv,o,a,F,en,r,af,ax (show 0<=(k:Int)/\(k:Int)<=64/\(64:Int)<=64 by omega),ax (show(k:Int)<=64/\(64:Int)<=64 by omega),ax (show 0<=(c:Int)/\(c:Int)<=(x.length:Int)/\(x.length:Int)<=(x.length:Int)by omega),bt (show((k+c:Nat):Int)=64 by omega),ax (show 0<=(0:Int)/\(0:Int)<=64/\(64:Int)<=64 by omega),C,f8,Qz2];rfl
  ·refine⟨?_,?_,by rw[g],l⟩
   ·rw[g,show(m.length+c) / 64=q+1 by omega,DS,abO (by omega),j,<-y]
   ·rw[g,show(m.length+c)%64=0 by omega,show 64*((m.length+c) / 64)=m.length+c by omega,ahj,List.drop_of_length_le (by omega)]
 ·refine⟨c,(v,jj 64 d (k:Int) 64 x,((m.length+c:Nat):Int)),by omega,by omega,?_,?_⟩
  ·unfold gO;dsimp only;rw[u];simp only[aeN,abv,o,a,F,en,r,af,ax (show 0<=(k:Int)/\(k:Int)<=64/\(64:Int)<=64 by omega),ax (show(k:Int)<=64/\(64:Int)<=64 by omega),ax (show 0<=(c:Int)/\(c:Int)<=(x.length:Int)/\(x.length:Int)<=(x.length:Int)by omega),bf (show¬((k+c:Nat):Int)=64 by omega)];rfl
  ·refine⟨?_,?_,by rw[g],l⟩
   ·rw[g,show(m.length+c) / 64=q by omega,abO (by omega),<-y]
   ·rw[g,show(m.length+c)%64=k+c by omega,show(m.length+c) / 64=q by omega,G6 0 p,h,B];exact List.take_left' (by grind)
theorem DC{S:cn}(l:Fed H m S)(x:List UInt8)(hl:m.length+x.length<4611686018427387904):∃S',gV S x=some S'/\Fed H (m++cQ x) S':=by
 unfold gV;obtain⟨r,d,a⟩:=fD (f:=gO) (λs=>s.1.length) (λs=>∃g,Fed H g s.2/\g++cQ s.1=m++cQ x) (λr=>Fed H (m++cQ x) r)
  (λs hs=>by
   obtain⟨y,S⟩:=s;obtain⟨g,d,a⟩:=hs;dsimp only at d a|-;have h:g.length+y.length=m.length+x.length:=by have:=aei List.length a;simpa only[acA,yu]using this
   by_cases j:y=[]
   ·left;subst j;refine⟨S,rfl,?_⟩;rw[<-a,show cQ ([]:List UInt8)=[]from rfl,ad0];exact d
   ·right;obtain⟨c,S',o,c2,c3,c4⟩:=agK d j (by omega);refine⟨(y.drop c,S'),c3,⟨_,c4,?_⟩,?_⟩
    ·rw[aeh,<-Zu,ags];exact a
    grind) (s:=(x,S)) ⟨m,l,rfl⟩ (by grind)
 grind
end Go.Proofs.YtgghcmbaidihjaaGreatDoor
