/- Laws for the row. No condition. -/
import Derived.Test.YtfhhiajfciblbaaGreatDoorRfO
import Derived.Scope
namespace Go.Sm
set_option linter.unusedSectionVars false
variable {w:World} {a:Act}
section
variable [X:XTab] [G:GTab]
def rN:(t:TC)->EI->t.den->List TypeId->Nat->Nat->Option (List AF)
 |.pair a b,ε,x,os,q,n=>match rN a ε.fst x.1 os q n,rN b ε.snd x.2 (os.drop a.nh) (q+a.nh) (n+a.nh)with
  |some f,some g=>some (f++g)
  |_,_=>none
 |.slice t,ε,x,os,q,n=>match os with
  |e::_=>bif Hb t e ε then some [.own t e q [] x n]else none
  |[]=>none
 |.st t,ε,x,os,q,n=>rN t ε x os q n
 |.node,_,_,_,_,_=>none
 |.mp _ _,_,_,_,_,_=>none
 |.sc _,_,_,_,_,_=>some []
 |.arr _ _,_,_,_,_,_=>some []
 |.unit,_,_,_,_,_=>some []
 |.ext _,_,_,_,_,_=>some []
theorem al7{t:TC}{e:TypeId}{ε:EI}(h:Hb t e ε=true){c:bu}{i:Nat}{K:List Nat}{S:Nat->Prop}{xs:List t.den}{v:Hd}(hS:∀b,S b->c b=i)(hF:cV w S (.slice t.ty) ε xs v):HA.holds w c (ee t.ty e i K xs v):=by
 have hF':cV w (λb=>c b=i) (.slice t.ty) ε xs v:=hF.mono hS;unfold Hb at h;cases htr:fQ e
 ·grind[eH,Nat.eq_of_beq_eq_true,cV.plain]
 ·rw[htr]at h;rw[jB htr];simp only[f9]at h;rw[<-EI.eqb_eq h]at hF';exact hF'
open Classical in
theorem BB{η:Vn}{w:World}:∀(t:TC) {ε:EI} {x:t.den} {y:t.ty.Refs} {os:List TypeId} {q n:Nat} {f:List AF} {S:Nat->Prop},rN t ε x os q n=some f->fy η n (cP t y)->cV w S t.ty ε x y ->
  ∃cl:Nat->Nat,(∀b,S b->q<=cl b)/\∀c':bu,(∀b,S b->c' b=cl b)->aq w c' (f.map (AF.ha η))
 |.sc _,ε,x,y,os,q,n,f,S,h,hn,hF=>by simp only[rN,no]at h;subst h;exact⟨λ_=>q,λ_ _=>aaT _,λ_ _=>aq.nil _ _⟩
 |.arr _ _,ε,x,y,os,q,n,f,S,h,hn,hF=>by simp only[rN,no]at h;subst h;exact⟨λ_=>q,λ_ _=>aaT _,λ_ _=>aq.nil _ _⟩
 |.unit,ε,x,y,os,q,n,f,S,h,hn,hF=>by simp only[rN,no]at h;subst h;exact⟨λ_=>q,λ_ _=>aaT _,λ_ _=>aq.nil _ _⟩
 |.ext _,ε,x,y,os,q,n,f,S,h,hn,hF=>by simp only[rN,no]at h;subst h;exact⟨λ_=>q,λ_ _=>aaT _,λ_ _=>aq.nil _ _⟩
 |.node,ε,x,y,os,q,n,f,S,h,hn,hF=>by simp[rN]at h
 |.mp _ _,ε,x,y,os,q,n,f,S,h,hn,hF=>by simp[rN]at h
 |.st t,ε,x,y,os,q,n,f,S,h,hn,hF=>BB t h hn hF
 | .slice t,ε,x,y,os,q,n,f,S,h,hn,hF=>by
  cases os with
  |nil=>simp[rN]at h
  |cons e os=>
   simp only[rN]at h;cases hg:Hb t e ε
   ·rw[hg]at h;cases h
   rw[hg]at h;simp only[f9,no]at h;subst h;refine⟨λ_=>q,λ_ _=>aaT _,λc' hc=>aq.cons ?_ (aq.nil _ _)⟩;have hy:=hn 0 y rfl;rw[acU]at hy;simp only[AF.ha,hy];exact al7 hg hc hF
 | .pair a b,ε,x,y,os,q,n,f,S,h,hn,hF=>by
  simp only[rN]at h;split at h
  ·rename_i fa fb ha hb;simp only[no]at h;subst h;obtain⟨Sa,h1,h2,h3⟩:=cV.fst hF;obtain⟨ca,a1,a2⟩:=BB a ha (fy.left hn) h2;obtain⟨cb,b1,b2⟩:=BB b hb (fy.right hn (dp a y.1)) h3;refine⟨λg=>if Sa g then ca g else cb g,λg hg=>?_,λc' hc=>?_⟩
   ·show q<=if Sa g then ca g else cb g
    split
    ·exact a1 g (by assumption)
    ·have:=b1 g ⟨hg,by assumption⟩;omega
   ·rw[acw];refine aq.append (a2 c' λg hg=>?_) (b2 c' λg hg=>?_)
    ·rw[hc g (h1 g hg)];simp[hg]
    ·rw[hc g hg.1];simp[hg.2]
  ·cases h
inductive Gh
 |up (t:Nat) (os:List TypeId)
 |pk (t:Nat)
 |p0 (t:Nat) (j:Option Nat) (e:TypeId)
 |pf (t:Nat) (j:Option Nat)
 |ug (t:Nat) (j:Option Nat) (q:Option Nat) (te:TC) (os:List TypeId)
 |pa
 |pr (t:Nat) (j:Option Nat)
 |uh (t j j2:Nat) (te:TC) (os:List TypeId)
def J4(κ:List Nat)(F:List AF):List AF:=F.filter λf=>!(lm κ f)
def sUp{R:Type}(B:Nat)(os:List TypeId)(h:Nat)(te:TC)(i:Int)(KE:SE)(KF:List AF)(S:SS)(K:SS->Option R):Option R:=match mG te h (S.F++live S.d KF)with
 | some ⟨some (e,ci),_,xs⟩=>match fQ e,gw e with
  |true,.row _ s=>(ac xs i).bind λx=>match rN te s x os S.nc S.nn with
   |some f=>bif Nat.ble 2 ci&&Nat.ble 2 S.nc&&Nat.ble te.nh 64&&oE S.nn (S.E++KE) (S.F++live S.d KF)&&Nat.ble B S.nn then K ⟨S.E,(.hol te e ci xs h i (jT te x S.nn)::f)++J4 [ci] S.F,S.nn+64,S.nc+256,[ci]++S.d⟩else none
   |none=>none
  |_,_=>K S
 |_=>K S
def sPk{R:Type}(B:Nat)(h:Nat)(te:TC)(KE:SE)(KF:List AF)(S:SS)(K:SS->Option R):Option R:=match pA te h (S.F++live S.d KF)with
 | some s=>match fQ s.e,gw s.e with
  |true,.row _ ε=>match mQ (S.F++live S.d KF) te ε s.cs with
   | some (x,_,Kl,[])=>bif Nat.ble 2 s.i&&Kl.all (λk=>Nat.ble 2 k && !(Nat.beq k s.i))&&oE S.nn (S.E++KE) (S.F++live S.d KF)&&Nat.ble B S.nn then
     K ⟨S.E,[.own te s.e s.i [] (s.xs.set s.k.toNat x) h]++J4 (s.i::Kl) S.F,S.nn,S.nc,(s.i::Kl)++S.d⟩else none
   |_=>none
  |_,_=>none
 |none=>K S
def ZI(E:SE)(F:List AF)(t:Nat)(j:Option Nat):Option Nat:=match bc E t,j with
 |some (.lf (.sl h)),none=>some h
 | some (.lf (.bp b 0)),some j=>match kJ b F with
  |some (_,cs)=>match cs[j]? with
   |some (.sl h)=>some h
   |_=>none
  |none=>none
 | some (.lf (.rp h te _ _ _)),some j=>match pA te h F with
  |some s=>match s.cs[j]? with
   |some (.sl h)=>some h
   |_=>none
  |none=>none
 |_,_=>none
def SF(code:TypeId)(h:Nat):List AF->Option (List AF×Nat×Bool)
 |[]=>none
 |.own te e ci K xs h'::r=>bif Nat.beq h h' then(match gw code with
  |.row e0 _=>bif Nat.beq e e0&&Nat.blt e 1048576 then some ([.pt te code ci K xs h 0,.rep te (ci::K) xs h],ci,true)else none
  |_=>none)else SF code h r
 |_::r=>SF code h r
def R8(h:Nat):List AF->Option (List AF×Nat×Bool)
 |[]=>none
 |.pt te e ci _ xs h' m::r=>bif Nat.beq h h' then(bif fQ e then some ([.own te e ci [] xs h],ci,decide ((xs.length:Int)<=m))else none)else R8 h r
 |_::r=>R8 h r
def Si(h:Nat)(all:List AF):List AF->Option (List AF×Nat×Bool)
 |[]=>none
 |.hol te _ ci xs h' k cs::r=>bif Nat.beq h h' then(match co all te cs with
  |some (x,_,Kl,[])=>some ([.rep te (ci::Kl) (xs.set k.toNat x) h],ci,true)
  |_=>none)else Si h all r
 |_::r=>Si h all r
def ZW{R:Type}(B:Nat)(KE:SE)(KF:List AF)(S:SS)(m:Option (List AF×Nat×Bool))(K:SS->Option R):Option R:=match m with
 |some (f,ci,b)=>bif Nat.ble 2 ci&&oE S.nn (S.E++KE) (S.F++live S.d KF)&&Nat.ble B S.nn then(bif b then K ⟨S.E,f++J4 [ci] S.F,S.nn,S.nc,[ci]++S.d⟩else none)else none
 |none=>none
def ghI(E:SE)(F:List AF)(te:TC)(h:Nat)(q:Option Nat):Option Int:=match q with
 |some t=>bif Nat.ble 1000000 t then some ((t-1000000:Nat):Int)else match bc E t with
  |some (.lf (.c (.int _) i))=>some i
  |_=>none
 |none=>match mG te h F with
  |some s=>some (ae ((s.xs.length:Int)-1))
  |none=>none
def paI(all:List AF):List AF->Option (Nat×TC)
 |[]=>none
 | .hol te e _ _ h _ cs::r=>match gw e with
  |.row _ ε=>match mQ all te ε cs with
   |some _=>some (h,te)
   |none=>paI all r
  |_=>paI all r
 |_::r=>paI all r
def agt(h j2:Nat):List AF->Option Nat
 |[]=>none
 |.hol _ _ _ _ h' _ cs::r=>bif Nat.beq h h' then(match cs[j2]? with
  |some (.sl h2)=>some h2
  |_=>none)else agt h j2 r
 |_::r=>agt h j2 r
def UX{R:Type}(B:Nat)(KE:SE)(KF:List AF)(g:Gh)(S:SS)(K:SS->Option R):Option R:=match g with
 | .up t os=>match bc (S.E++KE) t with
  |some (.lf (.rp h te i _ _))=>match pA te h (S.F++live S.d KF)with
   |some _=>K S
   |none=>sUp B os h te i KE KF S K
  |_=>K S
 |.pk t=>match bc (S.E++KE) t with
  |some (.lf (.rp h te _ _ _))=>sPk B h te KE KF S K
  |_=>K S
 |.p0 t j e=>match ZI (S.E++KE) (S.F++live S.d KF) t j with
  |some h=>ZW B KE KF S (SF e h (S.F++live S.d KF)) K
  |none=>none
 |.pf t j=>match ZI (S.E++KE) (S.F++live S.d KF) t j with
  |some h=>ZW B KE KF S (R8 h (S.F++live S.d KF)) K
  |none=>none
 | .ug t j q te os=>match ZI (S.E++KE) (S.F++live S.d KF) t j with
  | some h=>match pA te h (S.F++live S.d KF)with
   |some _=>K S
   |none=>match ghI (S.E++KE) (S.F++live S.d KF) te h q with
    |some i=>sUp B os h te i KE KF S K
    |none=>none
  |none=>none
 | .uh t j j2 te os=>match ZI (S.E++KE) (S.F++live S.d KF) t (some j)with
  | some h0=>match agt h0 j2 (S.F++live S.d KF)with
   | some h=>match pA te h (S.F++live S.d KF)with
    |some _=>K S
    |none=>match ghI (S.E++KE) (S.F++live S.d KF) te h none with
     |some i=>sUp B os h te i KE KF S K
     |none=>none
   |none=>none
  |none=>none
 |.pr t j=>match ZI (S.E++KE) (S.F++live S.d KF) t j with
  |some h=>ZW B KE KF S (Si h (S.F++live S.d KF) (S.F++live S.d KF)) K
  |none=>none
 |.pa=>match paI (S.F++live S.d KF) (S.F++live S.d KF)with
  |some (h,te)=>sPk B h te KE KF S K
  |none=>K S
def Bo{R:Type}(B:Nat)(KE:SE)(KF:List AF):List Gh->SS->(SS->Option R)->Option R
 |[],S,K=>K S
 |g::r,S,K=>UX B KE KF g S λS'=>Bo B KE KF r S' K
theorem FP{B nt:Nat}{L0:List HA}{β:Vn}(hL0:L0ok L0){KE:SE}{KF:List AF}{S:SS}{κ:List Nat}{new:List AF}{nn nc:Nat}(hnn:S.nn<=nn)(hfree:oE S.nn (S.E++KE) (S.F++live S.d KF)=true)(hB:B<=S.nn)(h2:∀k∈κ,2<=k)(hI:jX B nt L0 β KE KF S a w)
  (hstep:∀(η:Vn) (c:bu),aq w c ((S.F++live S.d KF).map (AF.ha η))->∃(η':Vn) (c':bu),η.agr S.nn η'/\Stp κ w c w c'/\aq w c' (new.map (AF.ha η'))) :
  jX B nt L0 β KE KF ⟨S.E,new++J4 κ S.F,nn,nc,κ++S.d⟩ a w:=by
 obtain⟨η,c,ρ,ha,hE,hF,hL,hβ⟩:=hI;obtain⟨η',c',hag,hst,hnew⟩:=hstep η c hF;simp only[oE,aas]at hfree;have lowN:∀m,Nat.blt m S.nn=true->bE S.nn m=true:=λm hm=>by simp[bE,hm]
 have okN0:∀m,okN S.nn [] m=true->bE S.nn m=true:=λm hm=>by grind[okN]
 have hfr:∀f∈S.F++live S.d KF,f.free S.nn=true:=λf hf=>by have:=AF.okN_free (n:=S.nn) (cl:=[]) (i:=0) (by simp) f (aaB.1 hfree.2 f hf);grind
 refine⟨η',c',ρ,ha,λt v hl=>?_,?_,?_,λm hm=>?_⟩
 ·have hv:=AV.okN_free (n:=S.nn) (cl:=[]) (i:=0) (by simp) v (aaB.1 hfree.1 _ (qE hl));rw[AV.val_agr hag v (by simpa using hv)];exact hE t v hl
 ·intro A hA;obtain⟨f,hf,rfl⟩:=aaG.1 hA;rcases aa1.1 hf with hf|hf
  ·rcases aa1.1 hf with hf|hf
   ·exact hnew _ (aaG.2 ⟨f,hf,rfl⟩)
   ·obtain⟨hf,hh⟩:=ac0.1 hf;rw[AF.ha_agr hag f (hfr f (abm _ hf))];exact HA.stp hst _ (λk hk=>uJ (by simpa using hh) k (by rwa [AF.ha_uses]at hk)) (hF _ (aaG.2 ⟨f,abm _ hf,rfl⟩))
  ·obtain⟨hf,hh⟩:=ac0.1 hf;simp only[acA]at hh;rw[xd,acV]at hh;have hm:f∈S.F++live S.d KF:=abr _ (ac0.2 ⟨hf,by simp[hh.2]⟩);rw[AF.ha_agr hag f (hfr f hm)];exact HA.stp hst _ (λk hk=>uJ hh.1 k (by rwa [AF.ha_uses]at hk)) (hF _ (aaG.2 ⟨f,hm,rfl⟩))
 ·intro A hA;refine HA.stp hst A (λk hk hκ=>?_) (hL A hA);have h3:=hL0.old A hA k hk;grind
 ·have:=hag m (lowN m (abu (by omega)));grind
theorem C3{κ:List Nat}{c c':bu}(h1:∀b,c b∉κ->c' b=c b)(h2:∀b,c b∈κ->2<=c' b):Stp κ w c w c' :=
 ⟨aaT _,λb _ h=>h1 b h,λ_ _ _=>rfl,λb hb h=>h2 b (h hb).1,nI.refl w⟩
section
variable {R:Type} {B nt:Nat} {L0:List HA} {β:Vn} {KE:SE} {KF:List AF} {S:SS} {K:SS->Option R} {r:R}
def KO(B nt:Nat)(KE:SE)(KF:List AF)(S:SS)(K:SS->Option R)(r:R):Prop:=∃S',K S'=some r/\∀{L0:List HA} {β:Vn},L0ok L0->∀a w,jX B nt L0 β KE KF S a w->jX B nt L0 β KE KF S' a w
theorem L5{os:List TypeId}{h:Nat}{te:TC}{i:Int}(hr:sUp B os h te i KE KF S K=some r):KO B nt KE KF S K r:=by
 classical
 unfold sUp at hr;split at hr
 ·rename_i e ci K0 xs hs;split at hr
  ·rename_i e0 s htr hei;obtain⟨x,hx,hr⟩:=bind_some hr;split at hr
   ·rename_i f hf;cases hc:(Nat.ble 2 ci&&Nat.ble 2 S.nc&&Nat.ble te.nh 64&&oE S.nn (S.E++KE) (S.F++live S.d KF)&&Nat.ble B S.nn)
    ·grind
    rw[hc]at hr;simp only[f9]at hr;simp only[aas]at hc;obtain⟨⟨⟨⟨h2,hN⟩,hnh⟩,hbase⟩,hB⟩:=hc;have h2:=aaA h2;have hN:=aaA hN;have hnh:=aaA hnh;refine⟨_,hr,λ{L0 β} hL0 a w hI=>FP hL0 (by omega) hbase (aaA hB) (by simpa using h2) hI λη c hH=>?_⟩;have hm:HA.holds w c (ee te.ty e ci K0 xs (η.h h)):=hH _ (aaG.2 ⟨_,gj hs,rfl⟩);rw[jB htr]at hm;obtain⟨_,hget,_⟩:=nD hx;obtain⟨y,S2,q1,q2,q3⟩:=cV.open hei hget (show cV w (λb=>c b=ci) (.slice te.ty) (gw e) xs (η.h h)from hm);have hnm:fy (η.set S.nn (cP te y)) S.nn (cP te y):=fy.set;obtain⟨cl,p1,p2⟩:=BB te hf hnm q3;have hag:η.agr S.nn (η.set S.nn (cP te y)):=Vn.set_agr (by rw[dp];exact hnh);let c':bu:=λb=>if S2 b then cl b else c b
    have hcS:∀b,S2 b->c' b=cl b:=λb hb=>by simp[c',hb]
    have hhn:(η.set S.nn (cP te y)).h h=η.h h:=by
     have:=hbase;simp only[oE,aas]at this;have h3:=AF.okN_free (n:=S.nn) (cl:=[]) (i:=0) (by simp) _ (aaB.1 this.2 _ (gj hs));have h4:bE S.nn h=true:=by simpa[SI.fact,AF.free]using h3
     exact(hag h h4).1
    refine⟨η.set S.nn (cP te y),c',hag,C3 (λb hb=>?_) (λb hb=>?_),?_⟩
    ·grind
    ·grind
    ·rw[aa4];refine aq.cons ?_ (p2 c' hcS);show kU w (λb=>c' b=ci) te.ty e xs ((η.set S.nn (cP te y)).h h) i.toNat (ay (η.set S.nn (cP te y)) (jT te x S.nn));rw[hhn,pB te x y S.nn hnm];refine q2.keep (jL.of λb hb=>?_);grind
   ·cases hr
  ·exact⟨S,hr,λ_ _ _ h=>h⟩
 ·exact⟨S,hr,λ_ _ _ h=>h⟩
theorem ZQ{h:Nat}{te:TC}(hr:sPk B h te KE KF S K=some r):KO B nt KE KF S K r:=by
 classical
 unfold sPk at hr;split at hr
 ·rename_i s hs;split at hr
  ·rename_i e0 ε htr hei;split at hr
   ·rename_i x l Kl hd;cases hc:(Nat.ble 2 s.i&&Kl.all (λk=>Nat.ble 2 k && !(Nat.beq k s.i))&&oE S.nn (S.E++KE) (S.F++live S.d KF)&&Nat.ble B S.nn)
    ·grind
    rw[hc]at hr;simp only[f9]at hr;simp only[aas]at hc;obtain⟨⟨⟨h2,hk⟩,hbase⟩,hB⟩:=hc;have h2:=aaA h2;have hk2:∀k∈Kl,2<=k/\k≠s.i:=λk hm=>by have:=aaB.1 hk k hm;simp only[aas]at this;exact⟨aaA this.1,λe=>by simp_all⟩
    refine⟨_,hr,λ{L0 β} hL0 a w hI=>FP hL0 (aaT _) hbase (aaA hB) (λk hm=>by grind) hI λη c hH=>?_⟩;have hm:=yF hs hH;obtain⟨d1,d2,d3⟩:=sV (η:=η) te hd;have d3:=d3 w c hH;simp only[ay,abd]at d1;have hm:kU w (λb=>c b=s.i) te.ty s.e s.xs (η.h h) s.k.toNat (ay η s.cs):=hm;rw[d1]at hm;let c':bu:=λb=>if c b∈Kl then s.i else c b
    refine⟨η,c',Vn.agr_refl _ η,C3 (λb hb=>?_) (λb hb=>?_),?_⟩
    ·grind
    ·grind
    ·refine aq.cons ?_ (aq.nil _ _);show HA.holds w c' (ee te.ty s.e s.i [] (s.xs.set s.k.toNat x) (η.h h));rw[jB htr];show cV w (λb=>c' b=s.i) (.slice te.ty) (gw s.e) (s.xs.set s.k.toNat x) (η.h h);grind[kU.close]
   ·cases hr
  ·cases hr
 ·exact⟨S,hr,λ_ _ _ h=>h⟩
theorem fW{c:bu}{A:HA}{L:List HA}(h:aq w c (A::L)):aq w c L:=λB hB=>h B (aaw _ hB)
theorem qr{code:TypeId}{h:Nat}{η:Vn}{w:World}{c:bu}:∀{F:List AF} {f:List AF} {ci:Nat} {b:Bool},SF code h F=some (f,ci,b)->b=true->aq w c (F.map (AF.ha η))->aq w c (f.map (AF.ha η))
 |[],_,_,_,hs,_,_=>by simp[SF]at hs
 | .own te e i K xs h'::r,f,ci,b,hs,ht,hH=>by
  simp only[SF]at hs;cases hb:Nat.beq h h'
  ·rw[hb]at hs;exact qr hs ht (fW hH)
  ·rw[hb]at hs;simp only[f9]at hs;split at hs
   ·rename_i e0 s hei;cases hc:(Nat.beq e e0&&Nat.blt e 1048576)
    ·grind
    rw[hc]at hs;simp only[f9,no,aaE]at hs;obtain⟨rfl,rfl,rfl⟩:=hs;simp only[aas]at hc;obtain rfl:=amb hc.1;obtain rfl:=amb hb;have h0:HA.holds w c (ee te.ty e i K xs (η.h h)):=hH _ (aaQ);rw[eH (gn hc.2)]at h0;have h1:=akN hei hc.2 h0;exact aq.cons h1 (aq.cons (NX h1) (aq.nil _ _))
   ·cases hs
 |.rep _ _ _ _::r,_,_,_,hs,ht,hH=>qr (F:=r) hs ht (fW hH)
 |.box _ _ _::r,_,_,_,hs,ht,hH=>qr (F:=r) hs ht (fW hH)
 |.isn _ _::r,_,_,_,hs,ht,hH=>qr (F:=r) hs ht (fW hH)
 |.prt _ _ _ _ _::r,_,_,_,hs,ht,hH=>qr (F:=r) hs ht (fW hH)
 |.pbx _ _ _ _ _::r,_,_,_,hs,ht,hH=>qr (F:=r) hs ht (fW hH)
 |.hol _ _ _ _ _ _ _::r,_,_,_,hs,ht,hH=>qr (F:=r) hs ht (fW hH)
 |.mp _ _ _ _ _::r,_,_,_,hs,ht,hH=>qr (F:=r) hs ht (fW hH)
 |.pt _ _ _ _ _ _ _::r,_,_,_,hs,ht,hH=>qr (F:=r) hs ht (fW hH)
theorem qm{h:Nat}{η:Vn}{w:World}{c:bu}:∀{F:List AF} {f:List AF} {ci:Nat} {b:Bool},R8 h F=some (f,ci,b)->b=true->aq w c (F.map (AF.ha η))->aq w c (f.map (AF.ha η))
 |[],_,_,_,hs,_,_=>by simp[R8]at hs
 | .pt te e i K xs h' m::r,f,ci,b,hs,ht,hH=>by
  simp only[R8]at hs;cases hb:Nat.beq h h'
  ·rw[hb]at hs;exact qm hs ht (fW hH)
  ·rw[hb]at hs;simp only[f9]at hs;cases hc:fQ e
   ·grind
   rw[hc]at hs;simp only[f9,no,aaE]at hs;obtain⟨rfl,rfl,rfl⟩:=hs;obtain rfl:=amb hb;have h0:HA.holds w c (.pt te.ty e i K xs (η.h h) m):=hH _ (aaQ);refine aq.cons ?_ (aq.nil _ _);show HA.holds w c (ee te.ty e i [] xs (η.h h));grind[jB,alx]
 |.own _ _ _ _ _ _::r,_,_,_,hs,ht,hH=>qm (F:=r) hs ht (fW hH)
 |.rep _ _ _ _::r,_,_,_,hs,ht,hH=>qm (F:=r) hs ht (fW hH)
 |.box _ _ _::r,_,_,_,hs,ht,hH=>qm (F:=r) hs ht (fW hH)
 |.isn _ _::r,_,_,_,hs,ht,hH=>qm (F:=r) hs ht (fW hH)
 |.prt _ _ _ _ _::r,_,_,_,hs,ht,hH=>qm (F:=r) hs ht (fW hH)
 |.pbx _ _ _ _ _::r,_,_,_,hs,ht,hH=>qm (F:=r) hs ht (fW hH)
 |.hol _ _ _ _ _ _ _::r,_,_,_,hs,ht,hH=>qm (F:=r) hs ht (fW hH)
 |.mp _ _ _ _ _::r,_,_,_,hs,ht,hH=>qm (F:=r) hs ht (fW hH)
theorem ql{h:Nat}{all:List AF}{η:Vn}{w:World}{c:bu}(hA:aq w c (all.map (AF.ha η))):∀{F:List AF} {f:List AF} {ci:Nat} {b:Bool},Si h all F=some (f,ci,b)->aq w c (F.map (AF.ha η))->aq w c (f.map (AF.ha η))
 |[],_,_,_,hs,_=>by simp[Si]at hs
 | .hol te e i xs h' k cs::r,f,ci,b,hs,hH=>by
  simp only[Si]at hs;cases hb:Nat.beq h h'
  ·rw[hb]at hs;exact ql hA hs (fW hH)
  ·rw[hb]at hs;simp only[f9]at hs;split at hs
   ·rename_i x l Kl hd;simp only[no,aaE]at hs;obtain⟨rfl,rfl,rfl⟩:=hs;obtain rfl:=amb hb;have h0:HA.holds w c (.hol te.ty e i xs (η.h h) k.toNat (ay η cs)):=hH _ (aaQ);obtain⟨d,e0,s,ys,he,hlen,hk,hcs,⟨g,cap,cur,hv,g2,g3,g4,g5,g6,g7,g8⟩,h3⟩:=(show kU w (λb=>c b=i) te.ty e xs (η.h h) k.toNat (ay η cs)from h0)
    obtain⟨d1,d2⟩:=dX (η:=η) te hd;simp only[ay,abd]at d1;have d2:=d2 w c (i::Kl) hA (λk hk=>aaw _ hk);refine aq.cons ?_ (aq.nil _ _);show bU w (λb=>c b∈i::Kl) (.slice te.ty) (xs.set k.toNat x) (η.h h);rw[hv];refine⟨ys.set k.toNat (aP te (aZ η l)),kX (by grind) λj x' y' hx' hy' => ?_,?_⟩
    ·grind[List.getElem?_set_ne,bI.rep]
    ·refine⟨by simp,by simpa using g3,g4,.inr ⟨g,0,cur,e0,(0,0),rfl,by grind,g2,by grind,?_⟩⟩;rw[tz hlen hk,<-d1,<-g6];simp
   ·cases hs
 |.own _ _ _ _ _ _::r,_,_,_,hs,hH=>ql hA (F:=r) hs (fW hH)
 |.rep _ _ _ _::r,_,_,_,hs,hH=>ql hA (F:=r) hs (fW hH)
 |.box _ _ _::r,_,_,_,hs,hH=>ql hA (F:=r) hs (fW hH)
 |.isn _ _::r,_,_,_,hs,hH=>ql hA (F:=r) hs (fW hH)
 |.prt _ _ _ _ _::r,_,_,_,hs,hH=>ql hA (F:=r) hs (fW hH)
 |.pbx _ _ _ _ _::r,_,_,_,hs,hH=>ql hA (F:=r) hs (fW hH)
 |.pt _ _ _ _ _ _ _::r,_,_,_,hs,hH=>ql hA (F:=r) hs (fW hH)
 |.mp _ _ _ _ _::r,_,_,_,hs,hH=>ql hA (F:=r) hs (fW hH)
theorem N9{m:Option (List AF×Nat×Bool)}(hm:∀{f:List AF} {ci:Nat} {b:Bool},m=some (f,ci,b)->b=true->∀(η:Vn) (w:World) (c:bu),aq w c ((S.F++live S.d KF).map (AF.ha η))->aq w c (f.map (AF.ha η)))(hr:ZW B KE KF S m K=some r):KO B nt KE KF S K r:=by
 unfold ZW at hr;split at hr
 ·rename_i f ci b;cases hc:(Nat.ble 2 ci&&oE S.nn (S.E++KE) (S.F++live S.d KF)&&Nat.ble B S.nn)
  ·grind
  rw[hc]at hr;simp only[f9]at hr;cases b
  ·cases hr
  simp only[f9]at hr;simp only[aas]at hc;obtain⟨⟨h2,hbase⟩,hB⟩:=hc;have h2:=aaA h2;exact⟨_,hr,λ{L0 β} hL0 a w hI=>FP hL0 (aaT _) hbase (aaA hB) (by simpa using h2) hI λη c hH=>
   ⟨η,c,Vn.agr_refl _ η,C3 (λ_ _=>rfl) (λb hb=>by grind),hm rfl rfl η w c hH⟩⟩
 ·cases hr
theorem amx{g:Gh}(hr:UX B KE KF g S K=some r):KO B nt KE KF S K r:=by
 unfold UX at hr;split at hr
 ·split at hr
  ·split at hr
   ·exact⟨S,hr,λ_ _ _ h=>h⟩
   ·exact L5 hr
  ·exact⟨S,hr,λ_ _ _ h=>h⟩
 ·split at hr
  ·exact ZQ hr
  ·exact⟨S,hr,λ_ _ _ h=>h⟩
 ·grind[N9,qr]
 ·grind[N9,qm]
 ·split at hr
  ·split at hr
   ·exact⟨S,hr,λ_ _ _ h=>h⟩
   grind[L5]
  ·cases hr
 ·split at hr
  ·split at hr
   ·split at hr
    ·exact⟨S,hr,λ_ _ _ h=>h⟩
    grind[L5]
   ·cases hr
  ·cases hr
 ·grind[N9,ql]
 ·split at hr
  ·exact ZQ hr
  ·exact⟨S,hr,λ_ _ _ h=>h⟩
theorem AJ:∀{gs:List Gh} {S:SS} {K:SS->Option R},Bo B KE KF gs S K=some r->KO B nt KE KF S K r
 |[],S,K,h=>⟨S,h,λ_ _ _ h=>h⟩
 |g::gs,S,K,h=>by obtain⟨S',h1,h2⟩:=amx (nt:=nt) (show UX B KE KF g S (λS'=>Bo B KE KF gs S' K)=some r from h);obtain⟨S2,h3,h4⟩:=AJ (gs:=gs) h1;exact⟨S2,h3,λ{L0 β} hL0 a w hI=>h4 hL0 a w (h2 hL0 a w hI)⟩
end
end
section
variable [X:XTab] [G:GTab]
class Itr where
 it : {S R:Type}->(S->Option (S⊕R))->S->Option R
 ok:∀{S R:Type} (f:S->Option (S⊕R)) (s:S) (r:R),it f s=some r->∃n,qR f n s=some r
def FA:Nat:=9223372036854775808
@[reducible] def itF:Itr:=⟨λf s=>qR f FA s,λ_ _ _ h=>⟨FA,h⟩⟩
inductive An
 |z
 |s (a b:An)
 |u (a:An)
 |j (sh:Shp) (ne:Bool) (a b:An)
 |l (sh:Shp) (a:An)
 |g (gs:List Gh)
 |gg (gs ps:List Gh)
 |k (ws:List Nat) (gs ps:List Gh)
def An.gh:An->List Gh
 |.g gs=>gs
 |.gg gs _=>gs
 |.k _ gs _=>gs
 |_=>[]
def An.pg:An->List Gh
 |.gg _ ps=>ps
 |.k _ _ ps=>ps
 |_=>[]
def kdS(E:SE)(F:List AF)(t:Nat):List Nat:=bif Nat.beq t 2000001 then(F.flatMap λf=>match f with
  |.own _ _ i _ _ _=>[i]
  |_=>[])else bif Nat.beq t 2000000 then(F.flatMap λf=>match f with
  |.own _ _ i _ _ _=>[i]
  |.hol _ _ i _ _ _ _=>[i]
  |.pt _ _ i _ _ _ _=>[i]
  |_=>[])else bif Nat.ble 1000000 t then(match bc E (t-1000000)with
  | some (.lf (.bp b _))=>let hs:=F.flatMap λf=>match f with
    |.box _ b' cs=>bif Nat.beq b b' then cs.flatMap Lf.hs else []
    |_=>[]
   F.flatMap λf=>match f with
    |.own _ _ i _ _ h=>bif cq h hs then [i]else []
    |.mp _ _ i _ h=>bif cq h hs then [i]else []
    |_=>[]
  |_=>[])else match bc E t with
 |some (.lf (.bp b _))=>F.flatMap λf=>match f with
  |.box i b' _=>bif Nat.beq b b' then [i]else []
  |_=>[]
 |some (.lf (.rp h _ _ _ _))=>F.flatMap λf=>match f with
  |.own _ _ i _ _ h'=>bif Nat.beq h h' then [i]else []
  |.hol _ _ i _ h' _ _=>bif Nat.beq h h' then [i]else []
  |.pt _ _ i _ _ h' _=>bif Nat.beq h h' then [i]else []
  |_=>[]
 |some (.lf (.sl h))=>F.flatMap λf=>match f with
  |.own _ _ i _ _ h'=>bif Nat.beq h h' then [i]else []
  |.hol _ _ i _ h' _ _=>bif Nat.beq h h' then [i]else []
  |.pt _ _ i _ _ h' _=>bif Nat.beq h h' then [i]else []
  |_=>[]
 |_=>[]
def An.fo:An->List Nat
 |.k ws _ _=>(ws.filter λt=>Nat.ble 3000000 t).map λt=>t-3000000
 |_=>[]
def An.kd(an:An)(E:SE)(F:List AF):Option (List Nat):=match an with
 |.k ws _ _=>some ((ws.filter λt=>Nat.blt t 3000000).flatMap (kdS E F))
 |_=>none
def An.fst:An->An
 |.s a _=>a
 |.u a=>a
 |_=>.z
def An.snd:An->An
 |.s _ b=>b
 |_=>.z
structure Kn(R:Type) where
 n:SS->Option R
 r:SS->Option R
 x:Nat->SS->Option R
def CO(E:SE):List Nat->SE
 |[]=>[]
 |t::r=>match bc E t with
  |some v=>(t,v)::CO E r
  |none=>CO E r
def BI(F:List AF)(l:Lf):List Nat:=match l with
 |.sl h=>F.flatMap λf=>match f with
  |.own _ _ i _ _ h'=>bif Nat.beq h h' then [i]else []
  |.hol _ _ i _ h' _ _=>bif Nat.beq h h' then [i]else []
  |.pt _ _ i _ _ h' _=>bif Nat.beq h h' then [i]else []
  |_=>[]
 |.mp h=>F.flatMap λf=>match f with
  |.mp _ _ i _ h'=>bif Nat.beq h h' then [i]else []
  |_=>[]
 |_=>[]
def aq6(F:List AF):AV->List Nat
 |.lf l=>BI F l
 |.ag ls=>ls.flatMap (BI F)
 |.tu _=>[]
def akT(E:SE)(F:List AF)(t:Nat):List Nat:=match bc E t with
 |some v=>aq6 F v
 |none=>[]
def ao4(E:SE)(F KF:List AF)(t:Nat):List Nat:=match bc E t with
 |some (.lf (.bp b 0))=>match kJ b F with
  |some (i,cs)=>i::cs.flatMap (BI F)
  |none=>[]
 |some (.lf (.sl h))=>match nU h (F++KF)with
  |some (h0,_,_,_)=>BI F (.sl h0)
  |none=>[]
 |_=>[]
def aqz(sh:Shp)(KE:SE)(KF:List AF)(S:SS):List Nat:=(sh.vs.map (·.1)++sh.dead).flatMap (akT S.E S.F)++(sh.bx.map (·.1)).flatMap (ao4 (S.E++KE) S.F KF)
def uQ(sh:Shp)(S:SS):SE:=CO S.E sh.keep
def AV.hs:AV->List Nat
 |.lf l=>l.hs
 |.ag ls=>ls.flatMap Lf.hs
 |.tu _=>[]
def apU(E:SE)(t:Nat):List Nat:=match bc E t with
 |some v=>v.hs
 |none=>[]
def arO(E:SE)(F:List AF)(t:Nat):List Nat:=match bc E t with
 |some (.lf (.bp b 0))=>match kJ b F with
  |some (_,cs)=>cs.flatMap Lf.hs
  |none=>[]
 |_=>[]
def apO(sh:Shp)(KE:SE)(S:SS)(cs:List Nat):List Nat:=
 let bE:=(uQ sh S).flatMap (λp=>p.2.hs)++S.F.flatMap λf=>match f with
  |.box i _ ls=>bif cq i cs then []else ls.flatMap Lf.hs
  |_=>[]
 ((sh.vs.map (·.1)++sh.dead).flatMap (apU S.E)++(sh.bx.map (·.1)).flatMap (arO (S.E++KE) S.F)).filter λh=>!(cq h bE)
def isH(m:List Nat)(f:AF):Bool:=match f with
 |.rep _ _ _ h=>cq h m
 |.own _ _ _ _ _ h=>cq h m
 |.isn h _=>cq h m
 |.box _ _ _=>false
 |.prt _ _ _ _ _=>false
 |.pbx _ _ _ _ _=>false
 |.hol _ _ _ _ h _ _=>cq h m
 |.mp _ _ _ _ h=>cq h m
 |.pt _ _ _ _ _ h _=>cq h m
def Yc(cs m:List Nat)(f:AF):Bool:=lm cs f||isH m f
def AF.hsIn:AF->List Nat
 |.box _ _ cs=>cs.flatMap Lf.hs
 |.hol _ _ _ _ _ _ cs=>cs.flatMap Lf.hs
 |.prt a b _ _ _=>[a,b]
 |.pbx a _ _ _ _=>[a]
 |_=>[]
def AV.bs:AV->List Nat
 |.lf l=>l.bs
 |.ag ls=>ls.flatMap Lf.bs
 |.tu _=>[]
def AF.bsIn:AF->List Nat
 |.box _ _ cs=>cs.flatMap Lf.bs
 |.pbx _ b _ _ _=>[b]
 |.hol _ _ _ _ _ _ cs=>cs.flatMap Lf.bs
 |_=>[]
def apY(B:Nat)(outb bE:List Nat)(f:AF):Bool:=match f with
 |.rep _ _ _ h=>Nat.blt h B||cq h bE
 |.own _ _ _ _ _ h=>Nat.blt h B||cq h bE
 |.box _ b _=>Nat.blt b B||cq b outb
 |_=>true
def BH(B:Nat)(sh:Shp)(KE:SE)(KF:List AF)(S:SS):List AF:=
 let cs:=aqz sh KE KF S;let m:=apO sh KE S cs
 let outb:=(uQ sh S++KE).flatMap (λp=>p.2.bs)++(S.F++KF).flatMap AF.bsIn
 let F1:=S.F.filter (apY B outb (S.F.flatMap λf=>match f with|.rep _ _ _ h=>[h] | .own _ _ _ _ _ h=>[h] | _=>[]))
 let bE:=(uQ sh S++KE).flatMap (λp=>p.2.hs)++(F1++KF).flatMap AF.hsIn
 F1.filter λf=>!(Yc cs m f)&&apY B outb bE f
def YM(sh:Shp)(KE:SE)(KF:List AF)(S:SS):SS:=let cs:=aqz sh KE KF S;let m:=apO sh KE S cs; ⟨CO S.E (sh.vs.map (·.1)++sh.dead),S.F.filter (Yc cs m),S.nn+64,S.nc+256,[]⟩
def push(dd:List Nat)(kE:SE)(kF:List AF)(S:SS):SS:=⟨S.E++kE,S.F++live S.d kF,S.nn,S.nc,S.d++dd⟩
def F9(KE:SE)(S:SS):Bool:=KE.all λp=>(bc S.E p.1).isNone
def qa[Itr](C:Cx)(nt:Nat):Code->(R:Type)->An->SE->List AF->SS->Kn R->Option R
 |.skip,_,_,_,_,S,K=>K.n S
 |.region _ ops draw,_,an,KE,KF,S,K=>Bo C.B KE KF an.gh S λS'=>Eg (C.dk (an.kd (S'.E++KE) (S'.F++live S'.d KF)) an.fo) nt draw ops.toList KE KF S' λS''=>Bo C.B KE KF an.pg S'' K.n
 | .seq a b,R,an,KE,KF,S,K=>match an with
  | .j sh ne aa ab=>
   let kE:=uQ sh S
   let kF:=BH C.B sh KE KF S
   bif F9 KE S then bif ne then
    (qa C nt a (x9 sh.ls) aa (kE++KE) (kF++live S.d KF) (YM sh KE KF S) ⟨BV C.B sh (kE++KE) (kF++live S.d KF) S.nn S.nc,λ_=>none,λ_ _=>none⟩).bind λd=>
     qa C nt b R ab KE KF (push S.d kE kF (tn sh (kE++KE) (kF++live S.d KF) S.nn S.nc d)) K
   else
    (qa C nt a (x9 sh.ls⊕R) aa (kE++KE) (kF++live S.d KF) (YM sh KE KF S) ⟨λS'=>(BV C.B sh (kE++KE) (kF++live S.d KF) S.nn S.nc S').map .inl,λS'=>(K.r (push S.d kE kF S')).map .inr,λi S'=>(K.x i (push S.d kE kF S')).map .inr⟩).bind λz=>
     match z with
     |.inl d=>qa C nt b R ab KE KF (push S.d kE kF (tn sh (kE++KE) (kF++live S.d KF) S.nn S.nc d)) K
     |.inr r=>some r
   else none
  |an=>qa C nt a R an.fst KE KF S ⟨λS'=>qa C nt b R an.snd KE KF S' K,K.r,K.x⟩
 |.cond c a b,R,an,KE,KF,S,K=>match ev (S.E++KE) c with
  |some (.lf (.c .bool x))=>bif x then qa C nt a R an.fst KE KF S K else qa C nt b R an.snd KE KF S K
  |_=>none
 |.block id a,R,an,KE,KF,S,K=>qa C nt a R an.fst KE KF S ⟨K.n,K.r,λi S'=>bif Nat.beq i id then K.n S' else K.x i S'⟩
 | .loop a,R,an,KE,KF,S,K=>match an with
  | .l sh aa=>
   let kE:=uQ sh S
   let kF:=BH C.B sh KE KF S
   bif F9 KE S then
    (BV C.B sh (kE++KE) (kF++live S.d KF) S.nn S.nc (YM sh KE KF S)).bind λd0=>
    Itr.it (λd=>qa C nt a (x9 sh.ls⊕R) aa (kE++KE) (kF++live S.d KF) (tn sh (kE++KE) (kF++live S.d KF) S.nn S.nc d)
     ⟨λS'=>(BV C.B sh (kE++KE) (kF++live S.d KF) S.nn S.nc S').map .inl,λS'=>(K.r (push S.d kE kF S')).map .inr,λi S'=>(K.x i (push S.d kE kF S')).map .inr⟩) d0
   else none
  |_=>none
 |.exit id,_,an,KE,KF,S,K=>Bo C.B KE KF an.gh S (K.x id)
 |.ret,_,an,KE,KF,S,K=>Bo C.B KE KF an.gh S K.r
 |.label _,_,_,_,_,S,K=>K.n S
 |.scope a,R,an,KE,KF,S,K=>qa C nt a R an.fst KE KF S K
 |_,_,_,_,_,_,_=>none
section
variable {P:Program} {nt:Nat} {L0:List HA} {β:Vn} {C:Cx}
theorem jX.push{KE kE:SE}{KF kF:List AF}{dd:List Nat}{S:SS}(h:jX C.B nt L0 β (kE++KE) (kF++live dd KF) S a w):jX C.B nt L0 β KE KF (Go.Sm.push dd kE kF S) a w:=by obtain⟨η,c,ρ,ha,hE,hF,hL⟩:=h;exact⟨η,c,ρ,ha,by simpa[Go.Sm.push,aaW]using hE,by simpa[Go.Sm.push,aaW,Py,Zq]using hF,hL⟩
theorem wR{E:SE}{t:Nat}{v:AV}:∀{ts:List Nat},bc (CO E ts) t=some v->bc E t=some v
 |[],h=>by simp[CO,bc]at h
 | s::r,h=>by
  simp only[CO]at h;split at h
  ·rename_i u hu;simp only[bc]at h;cases hb:Nat.beq t s
   ·rw[hb]at h;exact wR h
   simp_all
  ·exact wR h
theorem Hp{E E':SE}{t:Nat}{v:AV}(h:bc E t=some v):bc (E++E') t=some v:=by
 induction E with
 |nil=>simp[bc]at h
 |cons p r ih=>
  simp only[acK,bc]at h|-;grind
theorem Zu{KE:SE}{S:SS}(h:F9 KE S=true){t:Nat}{v:AV}(hl:bc KE t=some v):bc (S.E++KE) t=some v:=by have:=aaB.1 h _ (qE hl);rw[EX (by simp_all)];exact hl
theorem jX.split{sh:Shp}{KE:SE}{KF:List AF}{S:SS}(hd:F9 KE S=true)(h:jX C.B nt L0 β KE KF S a w):jX C.B nt L0 β (uQ sh S++KE) (BH C.B sh KE KF S++live S.d KF) (YM sh KE KF S) a w:=by
 obtain⟨η,c,ρ,ha,hE,hF,hL⟩:=h;refine⟨η,c,ρ,ha,λt v hl=>?_,λA hA=>?_,hL⟩
 ·rcases qi hl with hl|hl
  ·exact hE t v (Hp (wR hl))
  ·rcases qi hl with hl|hl
   ·exact hE t v (Hp (wR hl))
   ·exact hE t v (Zu hd hl)
 ·rw[show(YM sh KE KF S).d=[]from rfl,MT]at hA;obtain⟨f,hf,rfl⟩:=aaG.1 hA;refine hF _ (aaG.2 ⟨f,?_,rfl⟩);rcases aa1.1 hf with hf|hf
  ·exact abm _ (ac0.1 hf).1
  ·rcases aa1.1 hf with hf|hf
   ·exact abm _ (ac0.1 (ac0.1 hf).1).1
   grind
def Kn.ap{R:Type}(K:Kn R):Exit->SS->Option R
 |.normal,S=>K.n S
 |.ret,S=>K.r S
 |.exit i,S=>K.x i S
 |_,_=>none
theorem kZ[Itr](hC:C.ok P)(hm:P.follows .mixedOrders=true):∀(cd:Code) {R:Type} {an:An} {KE:SE} {KF:List AF} {S:SS} {K:Kn R} {r:R},qa C nt cd R an KE KF S K=some r ->
  ∃e S',K.ap e S'=some r/\∀{L0:List HA} {β:Vn},L0ok L0->∀{Q:Exit->Act->World->Prop} {a:Act} {w:World},jX C.B nt L0 β KE KF S a w->(∀a w,jX C.B nt L0 β KE KF S' a w->Q e a w)->cd.wp P Q a w
 |.skip,R,an,KE,KF,S,K,r,h=>⟨.normal,S,h,λhL0 _ _ _ hI hQ=>wp_skip (hQ _ _ hI)⟩
 |.exit id,R,an,KE,KF,S,K,r,h=>by obtain⟨S',h1,h2⟩:=AJ (nt:=nt) (show Bo C.B KE KF an.gh S (K.x id)=some r from h);exact⟨.exit id,S',h1,λhL0 _ _ _ hI hQ=>wp_exit (hQ _ _ (h2 hL0 _ _ hI))⟩
 |.ret,R,an,KE,KF,S,K,r,h=>by obtain⟨S',h1,h2⟩:=AJ (nt:=nt) (show Bo C.B KE KF an.gh S K.r=some r from h);exact⟨.ret,S',h1,λhL0 _ _ _ hI hQ=>wp_ret (hQ _ _ (h2 hL0 _ _ hI))⟩
 |.region id ops draw,R,an,KE,KF,S,K,r,h=>by obtain⟨S0,h0,h00⟩:=AJ (nt:=nt) (show Bo C.B KE KF an.gh S (λS'=>Eg (C.dk (an.kd (S'.E++KE) (S'.F++live S'.d KF)) an.fo) nt draw ops.toList KE KF S' λS''=>Bo C.B KE KF an.pg S'' K.n)=some r from h);obtain⟨S',h1',h2⟩:=Z7 (Cx.dk_ok hC _ _) hm h0;obtain⟨S'',h1,h3⟩:=AJ (nt:=nt) h1';refine⟨.normal,S'',h1,λ{L0 β} hL0 {Q a w} hI hQ=>?_⟩;have:=h2 hL0 id Q a w (h00 hL0 a w hI) (λa w hI'=>hQ a w (h3 hL0 a w hI'));simp_all
 | .cond c x y,R,an,KE,KF,S,K,r,h=>by
  simp only[qa]at h;split at h
  ·rename_i b hb;cases b with
   |true=>
    obtain⟨e,S',h1,h2⟩:=kZ hC hm x h;refine⟨e,S',h1,λ{L0 β} hL0 {Q a w} hI hQ=>?_⟩;have hI':=hI;obtain⟨η,cc,ρ,ha,hE,_,_⟩:=hI';exact wp_cond_split (t:=true) (by rw[ha.eval];exact aN hE hb) (λ_=>h2 hL0 hI hQ) (λhf=>by cases hf)
   |false=>
    obtain⟨e,S',h1,h2⟩:=kZ hC hm y h;refine⟨e,S',h1,λ{L0 β} hL0 {Q a w} hI hQ=>?_⟩;have hI':=hI;obtain⟨η,cc,ρ,ha,hE,_,_⟩:=hI';exact wp_cond_split (t:=false) (by rw[ha.eval];exact aN hE hb) (λhf=>by cases hf) (λ_=>h2 hL0 hI hQ)
  ·cases h
 | .block id x,R,an,KE,KF,S,K,r,h=>by
  simp only[qa]at h;obtain⟨e,S',h1,h2⟩:=kZ hC hm x h;cases e with
  |normal=>exact⟨.normal,S',h1,λhL0 _ _ _ hI hQ=>wp_block (h2 hL0 hI λa w hI'=>hQ a w hI')⟩
  |ret=>exact⟨.ret,S',h1,λhL0 _ _ _ hI hQ=>wp_block (h2 hL0 hI λa w hI'=>hQ a w hI')⟩
  |exit i=>
   simp only[Kn.ap]at h1;cases hb:Nat.beq i id
   ·rw[hb]at h1;have hne:i≠id:=afB hb;refine⟨.exit i,S',h1,λhL0 _ _ _ hI hQ=>wp_block (h2 hL0 hI λa w hI' => ?_)⟩;simp only[Exit.inBlock,if_neg hne];grind
   ·rw[hb]at h1;obtain rfl:=amb hb;refine⟨.normal,S',h1,λhL0 _ _ _ hI hQ=>wp_block (h2 hL0 hI λa w hI' => ?_)⟩;simp only[Exit.inBlock,ace];grind
  |goto l=>cases h1
  |panic ch=>cases h1
  |outgrown=>cases h1
 | .seq x y,R,an,KE,KF,S,K,r,h=>by
  simp only[qa]at h;split at h
  ·rename_i sh ne aa ab;cases hd:F9 KE S
   ·grind
   ·rw[hd]at h;simp only[f9]at h;cases ne with
    |true=>
     simp only[f9]at h;obtain⟨d,h1,h2⟩:=bind_some h;obtain⟨e1,S1,g1,g2⟩:=kZ hC hm x h1;obtain⟨e2,S2,g3,g4⟩:=kZ hC hm y h2;cases e1 with
     |normal=>exact⟨e2,S2,g3,λhL0 _ _ _ hI hQ=>wp_seq (g2 hL0 (hI.split (sh:=sh) hd) λa w hI'=>g4 hL0 (u6 hL0 g1 hI').push hQ)⟩
     |ret=>cases g1
     |exit i=>cases g1
     |goto l=>cases g1
     |panic ch=>cases g1
     |outgrown=>cases g1
    | false=>
     simp only[aax]at h;obtain⟨z,h1,h2⟩:=bind_some h;obtain⟨e1,S1,g1,g2⟩:=kZ hC hm x h1;cases e1 with
     |normal=>
      simp only[Kn.ap,acr]at g1;obtain⟨d,hms,rfl⟩:=g1;obtain⟨e2,S2,g3,g4⟩:=kZ hC hm y h2;exact⟨e2,S2,g3,λhL0 _ _ _ hI hQ=>wp_seq (g2 hL0 (hI.split (sh:=sh) hd) λa w hI'=>g4 hL0 (u6 hL0 hms hI').push hQ)⟩
     |ret=>
      simp only[Kn.ap,acr]at g1;obtain⟨r',hr',rfl⟩:=g1;simp only[no]at h2;subst h2;exact⟨.ret,_,hr',λhL0 _ _ _ hI hQ=>wp_seq (g2 hL0 (hI.split (sh:=sh) hd) λa w hI'=>hQ a w hI'.push)⟩
     |exit i=>
      simp only[Kn.ap,acr]at g1;obtain⟨r',hr',rfl⟩:=g1;simp only[no]at h2;subst h2;exact⟨.exit i,_,hr',λhL0 _ _ _ hI hQ=>wp_seq (g2 hL0 (hI.split (sh:=sh) hd) λa w hI'=>hQ a w hI'.push)⟩
     |goto l=>cases g1
     |panic ch=>cases g1
     |outgrown=>cases g1
  ·obtain⟨e1,S1,g1,g2⟩:=kZ hC hm x h;cases e1 with
   |normal=>
    obtain⟨e2,S2,g3,g4⟩:=kZ hC hm y g1;exact⟨e2,S2,g3,λhL0 _ _ _ hI hQ=>wp_seq (g2 hL0 hI λa w hI'=>g4 hL0 hI' hQ)⟩
   |ret=>exact⟨.ret,S1,g1,λhL0 _ _ _ hI hQ=>wp_seq (g2 hL0 hI hQ)⟩
   |exit i=>exact⟨.exit i,S1,g1,λhL0 _ _ _ hI hQ=>wp_seq (g2 hL0 hI hQ)⟩
   |goto l=>cases g1
   |panic ch=>cases g1
   |outgrown=>cases g1
 | .loop x,R,an,KE,KF,S,K,r,h=>by
  simp only[qa]at h;split at h
  ·rename_i sh aa;cases hd:F9 KE S
   ·grind
   ·rw [hd]at h;simp only[f9]at h;obtain⟨d0,h1,h2⟩:=bind_some h;have hI1:∀{L0:List HA} {β:Vn},L0ok L0->∀a w,jX C.B nt L0 β KE KF S a w->jX C.B nt L0 β (uQ sh S++KE) (BH C.B sh KE KF S++live S.d KF) (tn sh (uQ sh S++KE) (BH C.B sh KE KF S++live S.d KF) S.nn S.nc d0) a w:=λ{L0 β} hL0 a w hI=>u6 hL0 h1 (hI.split (sh:=sh) hd);clear h h1;generalize uQ sh S=kE at *;generalize BH C.B sh KE KF S=kF at *;replace h2:=Itr.ok _ _ _ h2;obtain⟨fuel,h2⟩:=h2;have key:∃e S' m,K.ap e S'=some r/\e≠.normal/\∀{L0:List HA} {β:Vn},L0ok L0->∀{Q:Exit->Act->World->Prop} {a:Act} {w:World},jX C.B nt L0 β (kE++KE) (kF++live S.d KF) (tn sh (kE++KE) (kF++live S.d KF) S.nn S.nc d0) a w->(∀a w,jX C.B nt L0 β KE KF S' a w->Q e a w)->Code.rounds P x Q m a w:=by
     clear hI1;induction fuel generalizing d0 with
     |zero=>simp[qR]at h2
     | succ k ih=>
      simp only[qR]at h2;obtain⟨z,hz,hk⟩:=bind_some h2;obtain⟨e1,S1,g1,g2⟩:=kZ hC hm x hz;have bE:∀{e:Exit} {S':SS},e≠.normal->K.ap e S'=some r->(∀{L0:List HA} {β:Vn},L0ok L0->∀{Q:Exit->Act->World->Prop} {a:Act} {w:World},jX C.B nt L0 β (kE++KE) (kF++live S.d KF) (tn sh (kE++KE) (kF++live S.d KF) S.nn S.nc d0) a w->(∀a w,jX C.B nt L0 β KE KF S' a w->Q e a w)->x.wp P Q a w) ->
        ∃e S' m,K.ap e S'=some r/\e≠.normal/\∀{L0:List HA} {β:Vn},L0ok L0->∀{Q:Exit->Act->World->Prop} {a:Act} {w:World},jX C.B nt L0 β (kE++KE) (kF++live S.d KF) (tn sh (kE++KE) (kF++live S.d KF) S.nn S.nc d0) a w->(∀a w,jX C.B nt L0 β KE KF S' a w->Q e a w)->Code.rounds P x Q m a w:=by
       intro e S' hne hap hwp;refine⟨e,S',1,hap,hne,λ{L0 β} hL0 {Q a w} hI hQ=>?_⟩;rw[rounds_succ];refine hwp hL0 hI λa w hI' => ?_;cases e with
       |normal=>grind
       |ret=>exact hQ a w hI'
       |exit i=>exact hQ a w hI'
       |goto l=>exact hQ a w hI'
       |panic ch=>exact hQ a w hI'
       |outgrown=>exact hQ a w hI'
      cases e1 with
      |normal=>
       simp only[Kn.ap,acr]at g1;obtain⟨d,hms,rfl⟩:=g1;obtain⟨e2,S2,m,g3,g5,g4⟩:=ih d hk;refine⟨e2,S2,m+1,g3,g5,λ{L0 β} hL0 {Q a w} hI hQ=>?_⟩;rw[rounds_succ];exact g2 hL0 hI λa w hI'=>g4 hL0 (u6 hL0 hms hI') hQ
      |ret=>
       simp only[Kn.ap,acr]at g1;obtain⟨r',hr',rfl⟩:=g1;simp only[no]at hk;subst hk;exact bE (e:=.ret) (by simp) hr' λhL0 _ _ _ hI hQ=>g2 hL0 hI λa w hI'=>hQ a w hI'.push
      |exit i=>
       simp only[Kn.ap,acr]at g1;obtain⟨r',hr',rfl⟩:=g1;simp only[no]at hk;subst hk;exact bE (e:=.exit i) (by simp) hr' λhL0 _ _ _ hI hQ=>g2 hL0 hI λa w hI'=>hQ a w hI'.push
      |goto l=>cases g1
      |panic ch=>cases g1
      |outgrown=>cases g1
    obtain⟨e,S',m,h3,_,h4⟩:=key;exact⟨e,S',h3,λ{L0 β} hL0 {Q a w} hI hQ=>wp_loop_rounds m (h4 hL0 (hI1 hL0 a w hI) hQ)⟩
  ·cases h
 |.rangeFunc _ _ _ _,R,an,KE,KF,S,K,r,h=>by cases h
 |.scope x,R,an,KE,KF,S,K,r,h=>by
  obtain⟨e,S',h1,h2⟩:=kZ hC hm x (by simpa only[qa]using h);refine⟨e,S',h1,λhL0 _ _ _ hI hQ=>wp_scope_straight (h2 hL0 hI λa w hI' => ?_)⟩;have hq:=hQ a w hI';cases e with
  |normal=>exact hq
  |ret=>exact hq
  |exit i=>exact hq
  |goto l=>cases h1
  |panic ch=>cases h1
  |outgrown=>cases h1
 |.label _,R,an,KE,KF,S,K,r,h=>⟨.normal,S,h,λhL0 _ _ _ hI hQ=>wp_label (hQ _ _ hI)⟩
 |.goto _,R,an,KE,KF,S,K,r,h=>by cases h
 |.refuse _,R,an,KE,KF,S,K,r,h=>by cases h
theorem anF[Itr](hC:C.ok P)(hm:P.follows .mixedOrders=true)(hL0:L0ok L0)(cd:Code){R:Type}{an:An}{KE:SE}{KF:List AF}{S:SS}{K:Kn R}{r:R}(h:qa C nt cd R an KE KF S K=some r)
  {Q:Exit->Act->World->Prop}   (hI:jX C.B nt L0 β KE KF S a w)
  (hn:∀S',K.n S'=some r->∀a w,jX C.B nt L0 β KE KF S' a w->Q .normal a w) (hr:∀S',K.r S'=some r->∀a w,jX C.B nt L0 β KE KF S' a w->Q .ret a w)
  (hx:∀i S',K.x i S'=some r->∀a w,jX C.B nt L0 β KE KF S' a w->Q (.exit i) a w):cd.wp P Q a w:=by
 obtain⟨e,S',h1,h2⟩:=kZ hC hm cd h;refine h2 hL0 hI λa w hI' => ?_;cases e with
 |normal=>exact hn S' h1 a w hI'
 |ret=>exact hr S' h1 a w hI'
 |exit i=>exact hx i S' h1 a w hI'
 |goto l=>cases h1
 |panic ch=>cases h1
 |outgrown=>cases h1
end
end
end Go.Sm
