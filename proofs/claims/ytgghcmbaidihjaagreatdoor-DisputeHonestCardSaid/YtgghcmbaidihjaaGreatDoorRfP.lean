/- Laws for the row. No condition. -/
import Derived.Test.YtgghcmbaidihjaaGreatDoorRfO
import Derived.Scope
namespace Go.Sm
set_option linter.unusedSectionVars false
section
variable [X:XTab] [G:GTab] [Yc:GCx]
def qh:(t:TC)->EI->t.den->List TypeId->Nat->Nat->Option (List AF)
 |.pair a b,ε,x,os,q,n=>match qh a ε.fst x.1 os q n,qh b ε.snd x.2 (os.drop a.nh) (q+a.nh) (n+a.nh)with
  |some f,some g=>some (f++g)
  |_,_=>none
 |.slice t,ε,x,os,q,n=>match os with
  |e::_=>bif G0 t e ε then some [.own t e q [] x n]else none
  |[]=>none
 |.st t,ε,x,os,q,n=>qh t ε x os q n
 |.node,_,_,_,_,_=>none
 |.mp _ _,_,_,_,_,_=>none
 |.sc _,_,_,_,_,_=>some []
 |.arr _ _,_,_,_,_,_=>some []
 |.unit,_,_,_,_,_=>some []
 |.ext _,_,_,_,_,_=>some []
theorem ajE{t:TC}{e:TypeId}{ε:EI}(h:G0 t e ε=true){w:World}{c:aS}{i:Nat}{K:List Nat}{S:Nat->Prop}{xs:List t.den}{v:Hd}(hS:∀b,S b->c b=i)(hF:cC w S (.slice t.ty) ε xs v):HA.holds w c (dS t.ty e i K xs v):=by
 have hF':cC w (λb=>c b=i) (.slice t.ty) ε xs v:=hF.mono hS;unfold G0 at h;cases htr:eM e
 ·grind[dx,Nat.eq_of_beq_eq_true,cC.plain]
 ·rw[htr]at h;rw[gZ htr];simp only[Ze]at h;rw[<-EI.eqb_eq h]at hF';exact hF'
open Classical in
theorem Bt{η:Vn}{w:World}:∀(t:TC) {ε:EI} {x:t.den} {y:t.ty.Refs} {os:List TypeId} {q n:Nat} {f:List AF} {S:Nat->Prop},qh t ε x os q n=some f->eY η n (cz t y)->cC w S t.ty ε x y ->
  ∃cl:Nat->Nat,(∀b,S b->q<=cl b)/\∀c':aS,(∀b,S b->c' b=cl b)->aj w c' (f.map (AF.ha η))
 |.sc _,ε,x,y,os,q,n,f,S,h,hn,hF=>by simp only[qh,no]at h;subst h;exact⟨λ_=>q,λ_ _=>Z0 _,λ_ _=>aj.nil _ _⟩
 |.arr _ _,ε,x,y,os,q,n,f,S,h,hn,hF=>by simp only[qh,no]at h;subst h;exact⟨λ_=>q,λ_ _=>Z0 _,λ_ _=>aj.nil _ _⟩
 |.unit,ε,x,y,os,q,n,f,S,h,hn,hF=>by simp only[qh,no]at h;subst h;exact⟨λ_=>q,λ_ _=>Z0 _,λ_ _=>aj.nil _ _⟩
 |.ext _,ε,x,y,os,q,n,f,S,h,hn,hF=>by simp only[qh,no]at h;subst h;exact⟨λ_=>q,λ_ _=>Z0 _,λ_ _=>aj.nil _ _⟩
 |.node,ε,x,y,os,q,n,f,S,h,hn,hF=>by simp[qh]at h
 |.mp _ _,ε,x,y,os,q,n,f,S,h,hn,hF=>by simp[qh]at h
 |.st t,ε,x,y,os,q,n,f,S,h,hn,hF=>Bt t h hn hF
 | .slice t,ε,x,y,os,q,n,f,S,h,hn,hF=>by
  cases os with
  |nil=>simp[qh]at h
  |cons e os=>
   simp only[qh]at h;cases hg:G0 t e ε
   ·rw[hg]at h;cases h
   rw[hg]at h;simp only[Ze,no]at h;subst h;refine⟨λ_=>q,λ_ _=>Z0 _,λc' hc=>aj.cons ?_ (aj.nil _ _)⟩;have hy:=hn 0 y rfl;rw[abj]at hy;simp only[AF.ha,hy];exact ajE hg hc hF
 | .pair a b,ε,x,y,os,q,n,f,S,h,hn,hF=>by
  simp only[qh]at h;split at h
  ·rename_i fa fb ha hb;simp only[no]at h;subst h;obtain⟨Sa,h1,h2,h3⟩:=cC.fst hF;obtain⟨ca,a1,a2⟩:=Bt a ha (eY.left hn) h2;obtain⟨cb,b1,b2⟩:=Bt b hb (eY.right hn (cU a y.1)) h3;refine⟨λg=>if Sa g then ca g else cb g,λg hg=>?_,λc' hc=>?_⟩
   ·show q<=if Sa g then ca g else cb g
    split
    ·exact a1 g (by assumption)
    ·have:=b1 g ⟨hg,by assumption⟩;omega
   ·rw[abz];refine aj.append (a2 c' λg hg=>?_) (b2 c' λg hg=>?_)
    ·rw[hc g (h1 g hg)];simp[hg]
    ·rw[hc g hg.1];simp[hg.2]
  ·cases h
inductive Gh
 |up (t:Nat) (os:List TypeId)
 |pk (t:Nat)
 |p0 (t:Nat) (j:Option Nat) (e:TypeId)
 |pf (t:Nat) (j:Option Nat)
 |ug (t:Nat) (j:Option Nat) (q:Option Nat) (te:TC) (os:List TypeId)
 |pa
 |pr (t:Nat) (j:Option Nat)
 |uh (t j j2:Nat) (te:TC) (os:List TypeId)
def Eb(κ:List Nat)(F:List AF):List AF:=F.filter λf=>!(fY κ f)
def Wk{R:Type}(B:Nat)(os:List TypeId)(h:Nat)(te:TC)(i:Int)(KE:SE)(KF:List AF)(S:SS)(K:SS->Option R):Option R:=match jQ te h (S.F++live S.d KF)with
 | some ⟨some (e,ci),_,xs⟩=>match eM e,fR e with
  |true,.row _ s=>(ae xs i).bind λx=>match qh te s x os S.nc S.nn with
   |some f=>bif Nat.ble 2 ci&&Nat.ble 2 S.nc&&Nat.ble te.nh 64&&j7 S.nn (S.E++KE) (S.F++live S.d KF)&&Nat.ble B S.nn then K ⟨S.E,(.hol te e ci xs h i (iG te x S.nn)::f)++Eb [ci] S.F,S.nn+64,S.nc+256,[ci]++S.d⟩else none
   |none=>none
  |_,_=>K S
 |_=>K S
def i9{R:Type}(B:Nat)(h:Nat)(te:TC)(KE:SE)(KF:List AF)(S:SS)(K:SS->Option R):Option R:=match m7 te h (S.F++live S.d KF)with
 | some s=>match eM s.e,fR s.e with
  |true,.row _ ε=>match lq (S.F++live S.d KF) te ε s.cs with
   | some (x,_,Kl,[])=>bif Nat.ble 2 s.i&&Kl.all (λk=>Nat.ble 2 k && !(Nat.beq k s.i))&&j7 S.nn (S.E++KE) (S.F++live S.d KF)&&Nat.ble B S.nn then
     K ⟨S.E,[.own te s.e s.i [] (s.xs.set s.k.toNat x) h]++Eb (s.i::Kl) S.F,S.nn,S.nc,(s.i::Kl)++S.d⟩else none
   |_=>none
  |_,_=>none
 |none=>K S
def Xq(E:SE)(F:List AF)(t:Nat)(j:Option Nat):Option Nat:=match bN E t,j with
 |some (.lf (.sl h)),none=>some h
 | some (.lf (.bp b 0)),some j=>match iw b F with
  |some (_,cs)=>match cs[j]? with
   |some (.sl h)=>some h
   |_=>none
  |none=>none
 | some (.lf (.rp h te _ _ _)),some j=>match m7 te h F with
  |some s=>match s.cs[j]? with
   |some (.sl h)=>some h
   |_=>none
  |none=>none
 |_,_=>none
def Q6(code:TypeId)(h:Nat):List AF->Option (List AF×Nat×Bool)
 |[]=>none
 |.own te e ci K xs h'::r=>bif Nat.beq h h' then(match fR code with
  |.row e0 _=>bif Nat.beq e e0&&Nat.blt e 1048576 then some ([.pt te code ci K xs h 0,.rep te (ci::K) xs h],ci,true)else none
  |_=>none)else Q6 code h r
 |_::r=>Q6 code h r
def Q1(h:Nat):List AF->Option (List AF×Nat×Bool)
 |[]=>none
 |.pt te e ci _ xs h' m::r=>bif Nat.beq h h' then(bif eM e then some ([.own te e ci [] xs h],ci,decide ((xs.length:Int)<=m))else none)else Q1 h r
 |_::r=>Q1 h r
def Pl(h:Nat)(all:List AF):List AF->Option (List AF×Nat×Bool)
 |[]=>none
 |.hol te _ ci xs h' k cs::r=>bif Nat.beq h h' then(match bR all te cs with
  |some (x,_,Kl,[])=>some ([.rep te (ci::Kl) (xs.set k.toNat x) h],ci,true)
  |_=>none)else Pl h all r
 |_::r=>Pl h all r
def Wp{R:Type}(B:Nat)(KE:SE)(KF:List AF)(S:SS)(m:Option (List AF×Nat×Bool))(K:SS->Option R):Option R:=match m with
 |some (f,ci,b)=>bif Nat.ble 2 ci&&j7 S.nn (S.E++KE) (S.F++live S.d KF)&&Nat.ble B S.nn then(bif b then K ⟨S.E,f++Eb [ci] S.F,S.nn,S.nc,[ci]++S.d⟩else none)else none
 |none=>none
def ghI(E:SE)(F:List AF)(te:TC)(h:Nat)(q:Option Nat):Option Int:=match q with
 |some t=>bif Nat.ble 1000000 t then some ((t-1000000:Nat):Int)else match bN E t with
  |some (.lf (.c (.int _) i))=>some i
  |_=>none
 |none=>match jQ te h F with
  |some s=>some (ac ((s.xs.length:Int)-1))
  |none=>none
def paI(all:List AF):List AF->Option (Nat×TC)
 |[]=>none
 | .hol te e _ _ h _ cs::r=>match fR e with
  |.row _ ε=>match lq all te ε cs with
   |some _=>some (h,te)
   |none=>paI all r
  |_=>paI all r
 |_::r=>paI all r
def Y6(h j2:Nat):List AF->Option Nat
 |[]=>none
 |.hol _ _ _ _ h' _ cs::r=>bif Nat.beq h h' then(match cs[j2]? with
  |some (.sl h2)=>some h2
  |_=>none)else Y6 h j2 r
 |_::r=>Y6 h j2 r
def Tu{R:Type}(B:Nat)(KE:SE)(KF:List AF)(g:Gh)(S:SS)(K:SS->Option R):Option R:=match g with
 | .up t os=>match bN (S.E++KE) t with
  |some (.lf (.rp h te i _ _))=>match m7 te h (S.F++live S.d KF)with
   |some _=>K S
   |none=>Wk B os h te i KE KF S K
  |_=>K S
 |.pk t=>match bN (S.E++KE) t with
  |some (.lf (.rp h te _ _ _))=>i9 B h te KE KF S K
  |_=>K S
 |.p0 t j e=>match Xq (S.E++KE) (S.F++live S.d KF) t j with
  |some h=>Wp B KE KF S (Q6 e h (S.F++live S.d KF)) K
  |none=>none
 |.pf t j=>match Xq (S.E++KE) (S.F++live S.d KF) t j with
  |some h=>Wp B KE KF S (Q1 h (S.F++live S.d KF)) K
  |none=>none
 | .ug t j q te os=>match Xq (S.E++KE) (S.F++live S.d KF) t j with
  | some h=>match m7 te h (S.F++live S.d KF)with
   |some _=>K S
   |none=>match ghI (S.E++KE) (S.F++live S.d KF) te h q with
    |some i=>Wk B os h te i KE KF S K
    |none=>none
  |none=>none
 | .uh t j j2 te os=>match Xq (S.E++KE) (S.F++live S.d KF) t (some j)with
  | some h0=>match Y6 h0 j2 (S.F++live S.d KF)with
   | some h=>match m7 te h (S.F++live S.d KF)with
    |some _=>K S
    |none=>match ghI (S.E++KE) (S.F++live S.d KF) te h none with
     |some i=>Wk B os h te i KE KF S K
     |none=>none
   |none=>none
  |none=>none
 |.pr t j=>match Xq (S.E++KE) (S.F++live S.d KF) t j with
  |some h=>Wp B KE KF S (Pl h (S.F++live S.d KF) (S.F++live S.d KF)) K
  |none=>none
 |.pa=>match paI (S.F++live S.d KF) (S.F++live S.d KF)with
  |some (h,te)=>i9 B h te KE KF S K
  |none=>K S
def zC{R:Type}(B:Nat)(KE:SE)(KF:List AF):List Gh->SS->(SS->Option R)->Option R
 |[],S,K=>K S
 |g::r,S,K=>Tu B KE KF g S λS'=>zC B KE KF r S' K
theorem Fx[Rd]{B nt:Nat}{L0:List HA}{β:Vn}(hL0:L0ok L0){KE:SE}{KF:List AF}{S:SS}{κ:List Nat}{new:List AF}{nn nc:Nat}(hnn:S.nn<=nn)(hfree:j7 S.nn (S.E++KE) (S.F++live S.d KF)=true)(hB:B<=S.nn)(h2:∀k∈κ,2<=k){a:Act}{w:World}(hI:fX B nt L0 β KE KF S a w)
  (hstep:∀(η:Vn) (c:aS),aj w c ((S.F++live S.d KF).map (AF.ha η))->∃(η':Vn) (c':aS),η.agr S.nn η'/\Stp κ w c w c'/\aj w c' (new.map (AF.ha η'))) :
  fX B nt L0 β KE KF ⟨S.E,new++Eb κ S.F,nn,nc,κ++S.d⟩ a w:=by
 obtain⟨η,c,ρ,ha,hE,hF,hL,hβ⟩:=hI;obtain⟨η',c',hag,hst,hnew⟩:=hstep η c hF;simp only[j7,Y5]at hfree;have lowN:∀m,Nat.blt m S.nn=true->out S.nn m=true:=λm hm=>by simp[out,hm]
 have okN0:∀m,okN S.nn [] m=true->out S.nn m=true:=λm hm=>by grind[okN]
 have hfr:∀f∈S.F++live S.d KF,f.free S.nn=true:=λf hf=>by have:=AF.okN_free (n:=S.nn) (cl:=[]) (i:=0) (by simp) f (Zy.1 hfree.2 f hf);grind
 refine⟨η',c',ρ,ha,λt v hl=>?_,?_,?_,λm hm=>?_⟩
 ·have hv:=AV.okN_free (n:=S.nn) (cl:=[]) (i:=0) (by simp) v (Zy.1 hfree.1 _ (lL hl));rw[AV.val_agr hag v (by simpa using hv)];exact hE t v hl
 ·intro A hA;obtain⟨f,hf,rfl⟩:=ZA.1 hA;rcases aad.1 hf with hf|hf
  ·rcases aad.1 hf with hf|hf
   ·exact hnew _ (ZA.2 ⟨f,hf,rfl⟩)
   ·obtain⟨hf,hh⟩:=aa0.1 hf;rw[AF.ha_agr hag f (hfr f (ZW _ hf))];exact HA.stp hst _ (λk hk=>qf (by simpa using hh) k (by rwa [AF.ha_uses]at hk)) (hF _ (ZA.2 ⟨f,ZW _ hf,rfl⟩))
  ·obtain⟨hf,hh⟩:=aa0.1 hf;simp only[abc]at hh;rw[rV,abW]at hh;have hm:f∈S.F++live S.d KF:=Z7 _ (aa0.2 ⟨hf,by simp[hh.2]⟩);rw[AF.ha_agr hag f (hfr f hm)];exact HA.stp hst _ (λk hk=>qf hh.1 k (by rwa [AF.ha_uses]at hk)) (hF _ (ZA.2 ⟨f,hm,rfl⟩))
 ·intro A hA;refine HA.stp hst A (λk hk hκ=>?_) (hL A hA);have h3:=hL0.old A hA k hk;grind
 ·have:=hag m (lowN m (aah (by omega)));grind
theorem C7{κ:List Nat}{w:World}{c c':aS}(h1:∀b,c b∉κ->c' b=c b)(h2:∀b,c b∈κ->2<=c' b):Stp κ w c w c' :=
 ⟨Z0 _,λb _ h=>h1 b h,λ_ _ _=>rfl,λb hb h=>h2 b (h hb).1,gv.refl w⟩
section
variable {R:Type} {B nt:Nat} {L0:List HA} {β:Vn} {KE:SE} {KF:List AF} {S:SS} {K:SS->Option R} {r:R}
def NZ[Rd](B nt:Nat)(KE:SE)(KF:List AF)(S:SS)(K:SS->Option R)(r:R):Prop:=∃S',K S'=some r/\∀{L0:List HA} {β:Vn},L0ok L0->∀a w,fX B nt L0 β KE KF S a w->fX B nt L0 β KE KF S' a w
theorem Oy[Rd]{os:List TypeId}{h:Nat}{te:TC}{i:Int}(hr:Wk B os h te i KE KF S K=some r):NZ B nt KE KF S K r:=by
 classical
 unfold Wk at hr;split at hr
 ·rename_i e ci K0 xs hs;split at hr
  ·rename_i e0 s htr hei;obtain⟨x,hx,hr⟩:=bind_some hr;split at hr
   ·rename_i f hf;cases hc:(Nat.ble 2 ci&&Nat.ble 2 S.nc&&Nat.ble te.nh 64&&j7 S.nn (S.E++KE) (S.F++live S.d KF)&&Nat.ble B S.nn)
    ·grind
    rw[hc]at hr;simp only[Ze]at hr;simp only[Y5]at hc;obtain⟨⟨⟨⟨h2,hN⟩,hnh⟩,hbase⟩,hB⟩:=hc;have h2:=Zh h2;have hN:=Zh hN;have hnh:=Zh hnh;refine⟨_,hr,λ{L0 β} hL0 a w hI=>Fx hL0 (by omega) hbase (Zh hB) (by simpa using h2) hI λη c hH=>?_⟩;have hm:HA.holds w c (dS te.ty e ci K0 xs (η.h h)):=hH _ (ZA.2 ⟨_,fB hs,rfl⟩);rw[gZ htr]at hm;obtain⟨_,hget,_⟩:=lZ hx;obtain⟨y,S2,q1,q2,q3⟩:=cC.open hei hget (show cC w (λb=>c b=ci) (.slice te.ty) (fR e) xs (η.h h)from hm);have hnm:eY (η.set S.nn (cz te y)) S.nn (cz te y):=eY.set;obtain⟨cl,p1,p2⟩:=Bt te hf hnm q3;have hag:η.agr S.nn (η.set S.nn (cz te y)):=Vn.set_agr (by rw[cU];exact hnh);let c':aS:=λb=>if S2 b then cl b else c b
    have hcS:∀b,S2 b->c' b=cl b:=λb hb=>by simp[c',hb]
    have hhn:(η.set S.nn (cz te y)).h h=η.h h:=by
     have:=hbase;simp only[j7,Y5]at this;have h3:=AF.okN_free (n:=S.nn) (cl:=[]) (i:=0) (by simp) _ (Zy.1 this.2 _ (fB hs));have h4:out S.nn h=true:=by simpa[SI.fact,AF.free]using h3
     exact(hag h h4).1
    refine⟨η.set S.nn (cz te y),c',hag,C7 (λb hb=>?_) (λb hb=>?_),?_⟩
    ·grind
    ·grind
    ·rw[aas];refine aj.cons ?_ (p2 c' hcS);show jf w (λb=>c' b=ci) te.ty e xs ((η.set S.nn (cz te y)).h h) i.toNat (au (η.set S.nn (cz te y)) (iG te x S.nn));rw[hhn,na te x y S.nn hnm];refine q2.keep (ij.of λb hb=>?_);grind
   ·cases hr
  ·exact⟨S,hr,λ_ _ _ h=>h⟩
 ·exact⟨S,hr,λ_ _ _ h=>h⟩
theorem Yx[Rd]{h:Nat}{te:TC}(hr:i9 B h te KE KF S K=some r):NZ B nt KE KF S K r:=by
 classical
 unfold i9 at hr;split at hr
 ·rename_i s hs;split at hr
  ·rename_i e0 ε htr hei;split at hr
   ·rename_i x l Kl hd;cases hc:(Nat.ble 2 s.i&&Kl.all (λk=>Nat.ble 2 k && !(Nat.beq k s.i))&&j7 S.nn (S.E++KE) (S.F++live S.d KF)&&Nat.ble B S.nn)
    ·grind
    rw[hc]at hr;simp only[Ze]at hr;simp only[Y5]at hc;obtain⟨⟨⟨h2,hk⟩,hbase⟩,hB⟩:=hc;have h2:=Zh h2;have hk2:∀k∈Kl,2<=k/\k≠s.i:=λk hm=>by have:=Zy.1 hk k hm;simp only[Y5]at this;exact⟨Zh this.1,λe=>by simp_all⟩
    refine⟨_,hr,λ{L0 β} hL0 a w hI=>Fx hL0 (Z0 _) hbase (Zh hB) (λk hm=>by grind) hI λη c hH=>?_⟩;have hm:=yt hs hH;obtain⟨d1,d2,d3⟩:=rg (η:=η) te hd;have d3:=d3 w c hH;simp only[au,Z2]at d1;have hm:jf w (λb=>c b=s.i) te.ty s.e s.xs (η.h h) s.k.toNat (au η s.cs):=hm;rw[d1]at hm;let c':aS:=λb=>if c b∈Kl then s.i else c b
    refine⟨η,c',Vn.agr_refl _ η,C7 (λb hb=>?_) (λb hb=>?_),?_⟩
    ·grind
    ·grind
    ·refine aj.cons ?_ (aj.nil _ _);show HA.holds w c' (dS te.ty s.e s.i [] (s.xs.set s.k.toNat x) (η.h h));rw[gZ htr];show cC w (λb=>c' b=s.i) (.slice te.ty) (fR s.e) (s.xs.set s.k.toNat x) (η.h h);grind[jf.close]
   ·cases hr
  ·cases hr
 ·exact⟨S,hr,λ_ _ _ h=>h⟩
theorem eH{w:World}{c:aS}{A:HA}{L:List HA}(h:aj w c (A::L)):aj w c L:=λB hB=>h B (Zf _ hB)
theorem nD{code:TypeId}{h:Nat}{η:Vn}{w:World}{c:aS}:∀{F:List AF} {f:List AF} {ci:Nat} {b:Bool},Q6 code h F=some (f,ci,b)->b=true->aj w c (F.map (AF.ha η))->aj w c (f.map (AF.ha η))
 |[],_,_,_,hs,_,_=>by simp[Q6]at hs
 | .own te e i K xs h'::r,f,ci,b,hs,ht,hH=>by
  simp only[Q6]at hs;cases hb:Nat.beq h h'
  ·rw[hb]at hs;exact nD hs ht (eH hH)
  ·rw[hb]at hs;simp only[Ze]at hs;split at hs
   ·rename_i e0 s hei;cases hc:(Nat.beq e e0&&Nat.blt e 1048576)
    ·grind
    rw[hc]at hs;simp only[Ze,no,ZC]at hs;obtain⟨rfl,rfl,rfl⟩:=hs;simp only[Y5]at hc;obtain rfl:=f9 hc.1;obtain rfl:=f9 hb;have h0:HA.holds w c (dS te.ty e i K xs (η.h h)):=hH _ (ZO);rw[dx (eU hc.2)]at h0;have h1:=alX hei hc.2 h0;exact aj.cons h1 (aj.cons (KY h1) (aj.nil _ _))
   ·cases hs
 |.rep _ _ _ _::r,_,_,_,hs,ht,hH=>nD (F:=r) hs ht (eH hH)
 |.box _ _ _::r,_,_,_,hs,ht,hH=>nD (F:=r) hs ht (eH hH)
 |.isn _ _::r,_,_,_,hs,ht,hH=>nD (F:=r) hs ht (eH hH)
 |.ag _::r,_,_,_,hs,ht,hH=>nD (F:=r) hs ht (eH hH)
 |.prt _ _ _ _ _::r,_,_,_,hs,ht,hH=>nD (F:=r) hs ht (eH hH)
 |.pbx _ _ _ _ _::r,_,_,_,hs,ht,hH=>nD (F:=r) hs ht (eH hH)
 |.hol _ _ _ _ _ _ _::r,_,_,_,hs,ht,hH=>nD (F:=r) hs ht (eH hH)
 |.mp _ _ _ _ _::r,_,_,_,hs,ht,hH=>nD (F:=r) hs ht (eH hH)
 |.pt _ _ _ _ _ _ _::r,_,_,_,hs,ht,hH=>nD (F:=r) hs ht (eH hH)
theorem nu{h:Nat}{η:Vn}{w:World}{c:aS}:∀{F:List AF} {f:List AF} {ci:Nat} {b:Bool},Q1 h F=some (f,ci,b)->b=true->aj w c (F.map (AF.ha η))->aj w c (f.map (AF.ha η))
 |[],_,_,_,hs,_,_=>by simp[Q1]at hs
 | .pt te e i K xs h' m::r,f,ci,b,hs,ht,hH=>by
  simp only[Q1]at hs;cases hb:Nat.beq h h'
  ·rw[hb]at hs;exact nu hs ht (eH hH)
  ·rw[hb]at hs;simp only[Ze]at hs;cases hc:eM e
   ·grind
   rw[hc]at hs;simp only[Ze,no,ZC]at hs;obtain⟨rfl,rfl,rfl⟩:=hs;obtain rfl:=f9 hb;have h0:HA.holds w c (.pt te.ty e i K xs (η.h h) m):=hH _ (ZO);refine aj.cons ?_ (aj.nil _ _);show HA.holds w c (dS te.ty e i [] xs (η.h h));grind[gZ,akV]
 |.own _ _ _ _ _ _::r,_,_,_,hs,ht,hH=>nu (F:=r) hs ht (eH hH)
 |.rep _ _ _ _::r,_,_,_,hs,ht,hH=>nu (F:=r) hs ht (eH hH)
 |.box _ _ _::r,_,_,_,hs,ht,hH=>nu (F:=r) hs ht (eH hH)
 |.isn _ _::r,_,_,_,hs,ht,hH=>nu (F:=r) hs ht (eH hH)
 |.ag _::r,_,_,_,hs,ht,hH=>nu (F:=r) hs ht (eH hH)
 |.prt _ _ _ _ _::r,_,_,_,hs,ht,hH=>nu (F:=r) hs ht (eH hH)
 |.pbx _ _ _ _ _::r,_,_,_,hs,ht,hH=>nu (F:=r) hs ht (eH hH)
 |.hol _ _ _ _ _ _ _::r,_,_,_,hs,ht,hH=>nu (F:=r) hs ht (eH hH)
 |.mp _ _ _ _ _::r,_,_,_,hs,ht,hH=>nu (F:=r) hs ht (eH hH)
theorem nv{h:Nat}{all:List AF}{η:Vn}{w:World}{c:aS}(hA:aj w c (all.map (AF.ha η))):∀{F:List AF} {f:List AF} {ci:Nat} {b:Bool},Pl h all F=some (f,ci,b)->aj w c (F.map (AF.ha η))->aj w c (f.map (AF.ha η))
 |[],_,_,_,hs,_=>by simp[Pl]at hs
 | .hol te e i xs h' k cs::r,f,ci,b,hs,hH=>by
  simp only[Pl]at hs;cases hb:Nat.beq h h'
  ·rw[hb]at hs;exact nv hA hs (eH hH)
  ·rw[hb]at hs;simp only[Ze]at hs;split at hs
   ·rename_i x l Kl hd;simp only[no,ZC]at hs;obtain⟨rfl,rfl,rfl⟩:=hs;obtain rfl:=f9 hb;have h0:HA.holds w c (.hol te.ty e i xs (η.h h) k.toNat (au η cs)):=hH _ (ZO);obtain⟨d,e0,s,ys,he,hlen,hk,hcs,⟨g,cap,cur,hv,g2,g3,g4,g5,g6,g7,g8⟩,h3⟩:=(show jf w (λb=>c b=i) te.ty e xs (η.h h) k.toNat (au η cs)from h0)
    obtain⟨d1,d2⟩:=dA (η:=η) te hd;simp only[au,Z2]at d1;have d2:=d2 w c (i::Kl) hA (λk hk=>Zf _ hk);refine aj.cons ?_ (aj.nil _ _);show bD w (λb=>c b∈i::Kl) (.slice te.ty) (xs.set k.toNat x) (η.h h);rw[hv];refine⟨ys.set k.toNat (aM te (aT η l)),jj (by grind) λj x' y' hx' hy' => ?_,?_⟩
    ·grind[List.getElem?_set_ne,bz.rep]
    ·refine⟨by simp,by simpa using g3,g4,.inr ⟨g,0,cur,e0,(0,0),rfl,by grind,g2,by grind,?_⟩⟩;rw[rO hlen hk,<-d1,<-g6];simp
   ·cases hs
 |.own _ _ _ _ _ _::r,_,_,_,hs,hH=>nv hA (F:=r) hs (eH hH)
 |.rep _ _ _ _::r,_,_,_,hs,hH=>nv hA (F:=r) hs (eH hH)
 |.box _ _ _::r,_,_,_,hs,hH=>nv hA (F:=r) hs (eH hH)
 |.isn _ _::r,_,_,_,hs,hH=>nv hA (F:=r) hs (eH hH)
 |.ag _::r,_,_,_,hs,hH=>nv hA (F:=r) hs (eH hH)
 |.prt _ _ _ _ _::r,_,_,_,hs,hH=>nv hA (F:=r) hs (eH hH)
 |.pbx _ _ _ _ _::r,_,_,_,hs,hH=>nv hA (F:=r) hs (eH hH)
 |.pt _ _ _ _ _ _ _::r,_,_,_,hs,hH=>nv hA (F:=r) hs (eH hH)
 |.mp _ _ _ _ _::r,_,_,_,hs,hH=>nv hA (F:=r) hs (eH hH)
theorem MC[Rd]{m:Option (List AF×Nat×Bool)}(hm:∀{f:List AF} {ci:Nat} {b:Bool},m=some (f,ci,b)->b=true->∀(η:Vn) (w:World) (c:aS),aj w c ((S.F++live S.d KF).map (AF.ha η))->aj w c (f.map (AF.ha η)))(hr:Wp B KE KF S m K=some r):NZ B nt KE KF S K r:=by
 unfold Wp at hr;split at hr
 ·rename_i f ci b;cases hc:(Nat.ble 2 ci&&j7 S.nn (S.E++KE) (S.F++live S.d KF)&&Nat.ble B S.nn)
  ·grind
  rw[hc]at hr;simp only[Ze]at hr;cases b
  ·cases hr
  simp only[Ze]at hr;simp only[Y5]at hc;obtain⟨⟨h2,hbase⟩,hB⟩:=hc;have h2:=Zh h2;exact⟨_,hr,λ{L0 β} hL0 a w hI=>Fx hL0 (Z0 _) hbase (Zh hB) (by simpa using h2) hI λη c hH=>
   ⟨η,c,Vn.agr_refl _ η,C7 (λ_ _=>rfl) (λb hb=>by grind),hm rfl rfl η w c hH⟩⟩
 ·cases hr
theorem akd[Rd]{g:Gh}(hr:Tu B KE KF g S K=some r):NZ B nt KE KF S K r:=by
 unfold Tu at hr;split at hr
 ·split at hr
  ·split at hr
   ·exact⟨S,hr,λ_ _ _ h=>h⟩
   ·exact Oy hr
  ·exact⟨S,hr,λ_ _ _ h=>h⟩
 ·split at hr
  ·exact Yx hr
  ·exact⟨S,hr,λ_ _ _ h=>h⟩
 ·grind[MC,nD]
 ·grind[MC,nu]
 ·split at hr
  ·split at hr
   ·exact⟨S,hr,λ_ _ _ h=>h⟩
   grind[Oy]
  ·cases hr
 ·split at hr
  ·split at hr
   ·split at hr
    ·exact⟨S,hr,λ_ _ _ h=>h⟩
    grind[Oy]
   ·cases hr
  ·cases hr
 ·grind[MC,nv]
 ·split at hr
  ·exact Yx hr
  ·exact⟨S,hr,λ_ _ _ h=>h⟩
theorem Ay[Rd]:∀{gs:List Gh} {S:SS} {K:SS->Option R},zC B KE KF gs S K=some r->NZ B nt KE KF S K r
 |[],S,K,h=>⟨S,h,λ_ _ _ h=>h⟩
 |g::gs,S,K,h=>by obtain⟨S',h1,h2⟩:=akd (nt:=nt) (show Tu B KE KF g S (λS'=>zC B KE KF gs S' K)=some r from h);obtain⟨S2,h3,h4⟩:=Ay (gs:=gs) h1;exact⟨S2,h3,λ{L0 β} hL0 a w hI=>h4 hL0 a w (h2 hL0 a w hI)⟩
end
end
section
variable [X:XTab] [G:GTab] [Yc:GCx]
class Itr where
 it : {S R:Type}->(S->Option (S⊕R))->S->Option R
 ok:∀{S R:Type} (f:S->Option (S⊕R)) (s:S) (r:R),it f s=some r->∃n,mN f n s=some r
def CK:Nat:=9223372036854775808
@[reducible] def itF:Itr:=⟨λf s=>mN f CK s,λ_ _ _ h=>⟨CK,h⟩⟩
inductive An
 |z
 |s (a b:An)
 |u (a:An)
 |j (sh:Shp) (ne:Bool) (a b:An)
 |l (sh:Shp) (a:An)
 |g (gs:List Gh)
 |gg (gs ps:List Gh)
 |k (ws:List Nat) (gs ps:List Gh)
def An.gh:An->List Gh
 |.g gs=>gs
 |.gg gs _=>gs
 |.k _ gs _=>gs
 |_=>[]
def An.pg:An->List Gh
 |.gg _ ps=>ps
 |.k _ _ ps=>ps
 |_=>[]
def kdS(E:SE)(F:List AF)(t:Nat):List Nat:=bif Nat.beq t 2000001 then(F.flatMap λf=>match f with
  |.own _ _ i _ _ _=>[i]
  |_=>[])else bif Nat.beq t 2000000 then(F.flatMap λf=>match f with
  |.own _ _ i _ _ _=>[i]
  |.hol _ _ i _ _ _ _=>[i]
  |.pt _ _ i _ _ _ _=>[i]
  |_=>[])else bif Nat.ble 1000000 t then(match bN E (t-1000000)with
  | some (.lf (.bp b _))=>let hs:=F.flatMap λf=>match f with
    |.box _ b' cs=>bif Nat.beq b b' then cs.flatMap Lf.hs else []
    |_=>[]
   F.flatMap λf=>match f with
    |.own _ _ i _ _ h=>bif bQ h hs then [i]else []
    |.mp _ _ i _ h=>bif bQ h hs then [i]else []
    |_=>[]
  |_=>[])else match bN E t with
 |some (.lf (.bp b _))=>F.flatMap λf=>match f with
  |.box i b' _=>bif Nat.beq b b' then [i]else []
  |_=>[]
 |some (.lf (.rp h _ _ _ _))=>F.flatMap λf=>match f with
  |.own _ _ i _ _ h'=>bif Nat.beq h h' then [i]else []
  |.hol _ _ i _ h' _ _=>bif Nat.beq h h' then [i]else []
  |.pt _ _ i _ _ h' _=>bif Nat.beq h h' then [i]else []
  |_=>[]
 |some (.lf (.sl h))=>F.flatMap λf=>match f with
  |.own _ _ i _ _ h'=>bif Nat.beq h h' then [i]else []
  |.hol _ _ i _ h' _ _=>bif Nat.beq h h' then [i]else []
  |.pt _ _ i _ _ h' _=>bif Nat.beq h h' then [i]else []
  |_=>[]
 |_=>[]
def An.fo:An->List Nat
 |.k ws _ _=>(ws.filter λt=>Nat.ble 3000000 t).map λt=>t-3000000
 |_=>[]
def An.kd(an:An)(E:SE)(F:List AF):Option (List Nat):=match an with
 |.k ws _ _=>some ((ws.filter λt=>Nat.blt t 3000000).flatMap (kdS E F))
 |_=>none
def An.ws:An->List Nat
 |.k ws _ _=>ws
 |_=>[]
def An.fst:An->An
 |.s a _=>a
 |.u a=>a
 |_=>.z
def An.snd:An->An
 |.s _ b=>b
 |_=>.z
structure Kn(R:Type) where
 n:SS->Option R
 r:SS->Option R
 x:Nat->SS->Option R
def yu(E:SE):List Nat->SE
 |[]=>[]
 |t::r=>match bN E t with
  |some v=>(t,v)::yu E r
  |none=>yu E r
def Bx(F:List AF)(l:Lf):List Nat:=match l with
 |.sl h=>F.flatMap λf=>match f with
  |.own _ _ i _ _ h'=>bif Nat.beq h h' then [i]else []
  |.hol _ _ i _ h' _ _=>bif Nat.beq h h' then [i]else []
  |.pt _ _ i _ _ h' _=>bif Nat.beq h h' then [i]else []
  |_=>[]
 |.mp h=>F.flatMap λf=>match f with
  |.mp _ _ i _ h'=>bif Nat.beq h h' then [i]else []
  |_=>[]
 |_=>[]
def aqa(F:List AF):AV->List Nat
 |.lf l=>Bx F l
 |.ag ls=>ls.flatMap (Bx F)
 |.tu _=>[]
def aju(E:SE)(F:List AF)(t:Nat):List Nat:=match bN E t with
 |some v=>aqa F v
 |none=>[]
def anr(E:SE)(F KF:List AF)(t:Nat):List Nat:=match Bz E t with
 |some (.lf (.bp b 0))=>match iw b F with
  |some (i,cs)=>i::cs.flatMap (Bx F)
  |none=>[]
 |some (.lf (.sl h))=>match ld h (F++KF)with
  |some (h0,_,_,_)=>Bx F (.sl h0)
  |none=>[]
 |_=>[]
def amR(sh:Shp)(KE:SE)(KF:List AF)(S:SS):List Nat:=(sh.vs.map (·.1)++sh.dead).flatMap (aju S.E S.F)++(sh.bx.map (·.1)).flatMap (anr (S.E++KE) S.F KF)
def tQ(sh:Shp)(S:SS):SE:=yu S.E sh.keep
def AV.hs:AV->List Nat
 |.lf l=>l.hs
 |.ag ls=>ls.flatMap Lf.hs
 |.tu _=>[]
def aoa(E:SE)(t:Nat):List Nat:=match bN E t with
 |some v=>v.hs
 |none=>[]
def ap9(E:SE)(F:List AF)(t:Nat):List Nat:=match Bz E t with
 |some (.lf (.bp b 0))=>match iw b F with
  |some (_,cs)=>cs.flatMap Lf.hs
  |none=>[]
 |_=>[]
def aoN(sh:Shp)(KE:SE)(S:SS)(cs:List Nat):List Nat:=
 let out:=(tQ sh S).flatMap (λp=>p.2.hs)++S.F.flatMap λf=>match f with
  |.box i _ ls=>bif bQ i cs then []else ls.flatMap Lf.hs
  |_=>[]
 ((sh.vs.map (·.1)++sh.dead).flatMap (aoa S.E)++(sh.bx.map (·.1)).flatMap (ap9 (S.E++KE) S.F)).filter λh=>!(bQ h out)
def isH(m:List Nat)(f:AF):Bool:=match f with
 |.rep _ _ _ h=>bQ h m
 |.own _ _ _ _ _ h=>bQ h m
 |.isn h _=>bQ h m
 |.ag _=>false
 |.box _ _ _=>false
 |.prt _ _ _ _ _=>false
 |.pbx _ _ _ _ _=>false
 |.hol _ _ _ _ h _ _=>bQ h m
 |.mp _ _ _ _ h=>bQ h m
 |.pt _ _ _ _ _ h _=>bQ h m
def WR(cs m:List Nat)(f:AF):Bool:=fY cs f||isH m f
def AF.hsIn:AF->List Nat
 |.box _ _ cs=>cs.flatMap Lf.hs
 |.hol _ _ _ _ _ _ cs=>cs.flatMap Lf.hs
 |.prt a b _ _ _=>[a,b]
 |.pbx a _ _ _ _=>[a]
 |_=>[]
def AV.bs:AV->List Nat
 |.lf l=>l.bs
 |.ag ls=>ls.flatMap Lf.bs
 |.tu _=>[]
def AF.bsIn:AF->List Nat
 |.box _ _ cs=>cs.flatMap Lf.bs
 |.pbx _ b _ _ _=>[b]
 |.hol _ _ _ _ _ _ cs=>cs.flatMap Lf.bs
 |_=>[]
def aoT(B:Nat)(outb out:List Nat)(f:AF):Bool:=match f with
 |.rep _ _ _ h=>Nat.blt h B||bQ h out
 |.own _ _ _ _ _ h=>Nat.blt h B||bQ h out
 |.box _ b _=>Nat.blt b B||bQ b outb
 |_=>true
def Bp(B:Nat)(sh:Shp)(KE:SE)(KF:List AF)(S:SS):List AF:=
 let cs:=amR sh KE KF S;let m:=aoN sh KE S cs
 let outb:=(tQ sh S++KE).flatMap (λp=>p.2.bs)++(S.F++KF).flatMap AF.bsIn
 let F1:=S.F.filter (aoT B outb (S.F.flatMap λf=>match f with|.rep _ _ _ h=>[h] | .own _ _ _ _ _ h=>[h] | _=>[]))
 let out:=(tQ sh S++KE).flatMap (λp=>p.2.hs)++(F1++KF).flatMap AF.hsIn
 F1.filter λf=>!(WR cs m f)&&aoT B outb out f
def Xp(sh:Shp)(KE:SE)(KF:List AF)(S:SS):SS:=let cs:=amR sh KE KF S;let m:=aoN sh KE S cs; ⟨yu S.E (sh.vs.map (·.1)++sh.dead),S.F.filter (WR cs m),S.nn+64,S.nc+256,[]⟩
def push(dd:List Nat)(kE:SE)(kF:List AF)(S:SS):SS:=⟨S.E++kE,S.F++live S.d kF,S.nn,S.nc,S.d++dd⟩
def EJ(KE:SE)(S:SS):Bool:=KE.all λp=>(bN S.E p.1).isNone
def lG[Itr](C:Cx)(nt:Nat):Code->(R:Type)->An->SE->List AF->SS->Kn R->Option R
 |.skip,_,_,_,_,S,K=>K.n S
 |.region _ ops draw,_,an,KE,KF,S,K=>zC C.B KE KF an.gh S λS'=>Dh (C.dk (an.kd (S'.E++KE) (S'.F++live S'.d KF)) an.fo) nt draw ops.toList KE KF S' λS''=>zC C.B KE KF an.pg S'' K.n
 | .seq a b,R,an,KE,KF,S,K=>match an with
  | .j sh ne aa ab=>
   let kE:=tQ sh S
   let kF:=Bp C.B sh KE KF S
   bif EJ KE S then bif ne then
    (lG C nt a (w6 sh.ls) aa (kE++KE) (kF++live S.d KF) (Xp sh KE KF S) ⟨BD C.B sh (kE++KE) (kF++live S.d KF) S.nn S.nc,λ_=>none,λ_ _=>none⟩).bind λd=>
     lG C nt b R ab KE KF (push S.d kE kF (rK sh (kE++KE) (kF++live S.d KF) S.nn S.nc d)) K
   else
    (lG C nt a (w6 sh.ls⊕R) aa (kE++KE) (kF++live S.d KF) (Xp sh KE KF S) ⟨λS'=>(BD C.B sh (kE++KE) (kF++live S.d KF) S.nn S.nc S').map .inl,λS'=>(K.r (push S.d kE kF S')).map .inr,λi S'=>(K.x i (push S.d kE kF S')).map .inr⟩).bind λz=>
     match z with
     |.inl d=>lG C nt b R ab KE KF (push S.d kE kF (rK sh (kE++KE) (kF++live S.d KF) S.nn S.nc d)) K
     |.inr r=>some r
   else none
  |an=>lG C nt a R an.fst KE KF S ⟨λS'=>lG C nt b R an.snd KE KF S' K,K.r,K.x⟩
 |.cond c a b,R,an,KE,KF,S,K=>match ev (S.E++KE) c with
  |some (.lf (.c .bool x))=>bif x then lG C nt a R an.fst KE KF S K else lG C nt b R an.snd KE KF S K
  |_=>none
 |.block id a,R,an,KE,KF,S,K=>lG C nt a R an.fst KE KF S ⟨K.n,K.r,λi S'=>bif Nat.beq i id then K.n S' else K.x i S'⟩
 | .loop a,R,an,KE,KF,S,K=>match an with
  | .l sh aa=>
   let kE:=tQ sh S
   let kF:=Bp C.B sh KE KF S
   bif EJ KE S then
    (BD C.B sh (kE++KE) (kF++live S.d KF) S.nn S.nc (Xp sh KE KF S)).bind λd0=>
    Itr.it (λd=>lG C nt a (w6 sh.ls⊕R) aa (kE++KE) (kF++live S.d KF) (rK sh (kE++KE) (kF++live S.d KF) S.nn S.nc d)
     ⟨λS'=>(BD C.B sh (kE++KE) (kF++live S.d KF) S.nn S.nc S').map .inl,λS'=>(K.r (push S.d kE kF S')).map .inr,λi S'=>(K.x i (push S.d kE kF S')).map .inr⟩) d0
   else none
  |_=>none
 |.exit id,_,an,KE,KF,S,K=>zC C.B KE KF an.gh S (K.x id)
 |.ret,_,an,KE,KF,S,K=>zC C.B KE KF an.gh S K.r
 |.label _,_,_,_,_,S,K=>K.n S
 |.scope a,R,an,KE,KF,S,K=>lG C nt a R an.fst KE KF S K
 |_,_,_,_,_,_,_=>none
section
variable {P:Program} {nt:Nat} {L0:List HA} {β:Vn} {C:Cx}
theorem fX.push[Rd]{KE kE:SE}{KF kF:List AF}{dd:List Nat}{S:SS}{a:Act}{w:World}(h:fX C.B nt L0 β (kE++KE) (kF++live dd KF) S a w):fX C.B nt L0 β KE KF (Go.Sm.push dd kE kF S) a w:=by obtain⟨η,c,ρ,ha,hE,hF,hL⟩:=h;exact⟨η,c,ρ,ha,by simpa[Go.Sm.push,aaf]using hE,by simpa[Go.Sm.push,aaf,OX,WA]using hF,hL⟩
theorem sM{E:SE}{t:Nat}{v:AV}:∀{ts:List Nat},bN (yu E ts) t=some v->bN E t=some v
 |[],h=>by simp[yu,bN]at h
 | s::r,h=>by
  simp only[yu]at h;split at h
  ·rename_i u hu;simp only[bN]at h;cases hb:Nat.beq t s
   ·rw[hb]at h;exact sM h
   simp_all
  ·exact sM h
theorem GB{E E':SE}{t:Nat}{v:AV}(h:bN E t=some v):bN (E++E') t=some v:=by
 induction E with
 |nil=>simp[bN]at h
 |cons p r ih=>
  simp only[acI,bN]at h|-;grind
theorem WM{KE:SE}{S:SS}(h:EJ KE S=true){t:Nat}{v:AV}(hl:bN KE t=some v):bN (S.E++KE) t=some v:=by have:=Zy.1 h _ (lL hl);rw[Di (by simp_all)];exact hl
theorem fX.split[Rd]{sh:Shp}{KE:SE}{KF:List AF}{S:SS}(hd:EJ KE S=true){a:Act}{w:World}(h:fX C.B nt L0 β KE KF S a w):fX C.B nt L0 β (tQ sh S++KE) (Bp C.B sh KE KF S++live S.d KF) (Xp sh KE KF S) a w:=by
 obtain⟨η,c,ρ,ha,hE,hF,hL⟩:=h;refine⟨η,c,ρ,ha,λt v hl=>?_,λA hA=>?_,hL⟩
 ·rcases oD hl with hl|hl
  ·exact hE t v (GB (sM hl))
  ·rcases oD hl with hl|hl
   ·exact hE t v (GB (sM hl))
   ·exact hE t v (WM hd hl)
 ·rw[show(Xp sh KE KF S).d=[]from rfl,xT]at hA;obtain⟨f,hf,rfl⟩:=ZA.1 hA;refine hF _ (ZA.2 ⟨f,?_,rfl⟩);rcases aad.1 hf with hf|hf
  ·exact ZW _ (aa0.1 hf).1
  ·rcases aad.1 hf with hf|hf
   ·exact ZW _ (aa0.1 (aa0.1 hf).1).1
   grind
def Kn.ap{R:Type}(K:Kn R):Exit->SS->Option R
 |.normal,S=>K.n S
 |.ret,S=>K.r S
 |.exit i,S=>K.x i S
 |_,_=>none
theorem ic[Itr][Rd](hC:C.ok P)(hm:P.follows .mixedOrders=true):∀(cd:Code) {R:Type} {an:An} {KE:SE} {KF:List AF} {S:SS} {K:Kn R} {r:R},lG C nt cd R an KE KF S K=some r ->
  ∃e S',K.ap e S'=some r/\∀{L0:List HA} {β:Vn},L0ok L0->∀{Q:Exit->Act->World->Prop} {a:Act} {w:World},fX C.B nt L0 β KE KF S a w->(∀a w,fX C.B nt L0 β KE KF S' a w->Q e a w)->cd.wpIn sH 0 P Q a w
 |.skip,R,an,KE,KF,S,K,r,h=>⟨.normal,S,h,λhL0 _ _ _ hI hQ=>wpIn_skip (hQ _ _ hI)⟩
 |.exit id,R,an,KE,KF,S,K,r,h=>by obtain⟨S',h1,h2⟩:=Ay (nt:=nt) (show zC C.B KE KF an.gh S (K.x id)=some r from h);exact⟨.exit id,S',h1,λhL0 _ _ _ hI hQ=>wpIn_exit (hQ _ _ (h2 hL0 _ _ hI))⟩
 |.ret,R,an,KE,KF,S,K,r,h=>by obtain⟨S',h1,h2⟩:=Ay (nt:=nt) (show zC C.B KE KF an.gh S K.r=some r from h);exact⟨.ret,S',h1,λhL0 _ _ _ hI hQ=>wpIn_ret (hQ _ _ (h2 hL0 _ _ hI))⟩
 |.region id ops draw,R,an,KE,KF,S,K,r,h=>by obtain⟨S0,h0,h00⟩:=Ay (nt:=nt) (show zC C.B KE KF an.gh S (λS'=>Dh (C.dk (an.kd (S'.E++KE) (S'.F++live S'.d KF)) an.fo) nt draw ops.toList KE KF S' λS''=>zC C.B KE KF an.pg S'' K.n)=some r from h);obtain⟨S',h1',h2⟩:=Xg (Cx.dk_ok hC _ _) hm h0;obtain⟨S'',h1,h3⟩:=Ay (nt:=nt) h1';refine⟨.normal,S'',h1,λ{L0 β} hL0 {Q a w} hI hQ=>?_⟩;have:=h2 hL0 id Q a w (h00 hL0 a w hI) (λa w hI'=>hQ a w (h3 hL0 a w hI'));simp_all
 | .cond c x y,R,an,KE,KF,S,K,r,h=>by
  simp only[lG]at h;split at h
  ·rename_i b hb;cases b with
   |true=>
    obtain⟨e,S',h1,h2⟩:=ic hC hm x h;refine⟨e,S',h1,λ{L0 β} hL0 {Q a w} hI hQ=>?_⟩;have hI':=hI;obtain⟨η,cc,ρ,ha,hE,_,_⟩:=hI';exact wpIn_cond_split (t:=true) (by rw[ha.eval];exact aH hE hb) (λ_=>h2 hL0 hI hQ) (λhf=>by cases hf)
   |false=>
    obtain⟨e,S',h1,h2⟩:=ic hC hm y h;refine⟨e,S',h1,λ{L0 β} hL0 {Q a w} hI hQ=>?_⟩;have hI':=hI;obtain⟨η,cc,ρ,ha,hE,_,_⟩:=hI';exact wpIn_cond_split (t:=false) (by rw[ha.eval];exact aH hE hb) (λhf=>by cases hf) (λ_=>h2 hL0 hI hQ)
  ·cases h
 | .block id x,R,an,KE,KF,S,K,r,h=>by
  simp only[lG]at h;obtain⟨e,S',h1,h2⟩:=ic hC hm x h;cases e with
  |normal=>exact⟨.normal,S',h1,λhL0 _ _ _ hI hQ=>wpIn_block (h2 hL0 hI λa w hI'=>hQ a w hI')⟩
  |ret=>exact⟨.ret,S',h1,λhL0 _ _ _ hI hQ=>wpIn_block (h2 hL0 hI λa w hI'=>hQ a w hI')⟩
  |exit i=>
   simp only[Kn.ap]at h1;cases hb:Nat.beq i id
   ·rw[hb]at h1;have hne:i≠id:=acx hb;refine⟨.exit i,S',h1,λhL0 _ _ _ hI hQ=>wpIn_block (h2 hL0 hI λa w hI' => ?_)⟩;simp only[Exit.inBlock,if_neg hne];grind
   ·rw[hb]at h1;obtain rfl:=f9 hb;refine⟨.normal,S',h1,λhL0 _ _ _ hI hQ=>wpIn_block (h2 hL0 hI λa w hI' => ?_)⟩;simp only[Exit.inBlock,aaL];grind
  |goto l=>cases h1
  |panic ch=>cases h1
  |outgrown=>cases h1
 | .seq x y,R,an,KE,KF,S,K,r,h=>by
  simp only[lG]at h;split at h
  ·rename_i sh ne aa ab;cases hd:EJ KE S
   ·grind
   ·rw[hd]at h;simp only[Ze]at h;cases ne with
    |true=>
     simp only[Ze]at h;obtain⟨d,h1,h2⟩:=bind_some h;obtain⟨e1,S1,g1,g2⟩:=ic hC hm x h1;obtain⟨e2,S2,g3,g4⟩:=ic hC hm y h2;cases e1 with
     |normal=>exact⟨e2,S2,g3,λhL0 _ _ _ hI hQ=>wpIn_seq (g2 hL0 (hI.split (sh:=sh) hd) λa w hI'=>g4 hL0 (BQ hL0 g1 hI').push hQ)⟩
     |ret=>cases g1
     |exit i=>cases g1
     |goto l=>cases g1
     |panic ch=>cases g1
     |outgrown=>cases g1
    | false=>
     simp only[Zr]at h;obtain⟨z,h1,h2⟩:=bind_some h;obtain⟨e1,S1,g1,g2⟩:=ic hC hm x h1;cases e1 with
     |normal=>
      simp only[Kn.ap,aa8]at g1;obtain⟨d,hms,rfl⟩:=g1;obtain⟨e2,S2,g3,g4⟩:=ic hC hm y h2;exact⟨e2,S2,g3,λhL0 _ _ _ hI hQ=>wpIn_seq (g2 hL0 (hI.split (sh:=sh) hd) λa w hI'=>g4 hL0 (BQ hL0 hms hI').push hQ)⟩
     |ret=>
      simp only[Kn.ap,aa8]at g1;obtain⟨r',hr',rfl⟩:=g1;simp only[no]at h2;subst h2;exact⟨.ret,_,hr',λhL0 _ _ _ hI hQ=>wpIn_seq (g2 hL0 (hI.split (sh:=sh) hd) λa w hI'=>hQ a w hI'.push)⟩
     |exit i=>
      simp only[Kn.ap,aa8]at g1;obtain⟨r',hr',rfl⟩:=g1;simp only[no]at h2;subst h2;exact⟨.exit i,_,hr',λhL0 _ _ _ hI hQ=>wpIn_seq (g2 hL0 (hI.split (sh:=sh) hd) λa w hI'=>hQ a w hI'.push)⟩
     |goto l=>cases g1
     |panic ch=>cases g1
     |outgrown=>cases g1
  ·obtain⟨e1,S1,g1,g2⟩:=ic hC hm x h;cases e1 with
   |normal=>
    obtain⟨e2,S2,g3,g4⟩:=ic hC hm y g1;exact⟨e2,S2,g3,λhL0 _ _ _ hI hQ=>wpIn_seq (g2 hL0 hI λa w hI'=>g4 hL0 hI' hQ)⟩
   |ret=>exact⟨.ret,S1,g1,λhL0 _ _ _ hI hQ=>wpIn_seq (g2 hL0 hI hQ)⟩
   |exit i=>exact⟨.exit i,S1,g1,λhL0 _ _ _ hI hQ=>wpIn_seq (g2 hL0 hI hQ)⟩
   |goto l=>cases g1
   |panic ch=>cases g1
   |outgrown=>cases g1
 | .loop x,R,an,KE,KF,S,K,r,h=>by
  simp only[lG]at h;split at h
  ·rename_i sh aa;cases hd:EJ KE S
   ·grind
   ·rw [hd]at h;simp only[Ze]at h;obtain⟨d0,h1,h2⟩:=bind_some h;have hI1:∀{L0:List HA} {β:Vn},L0ok L0->∀a w,fX C.B nt L0 β KE KF S a w->fX C.B nt L0 β (tQ sh S++KE) (Bp C.B sh KE KF S++live S.d KF) (rK sh (tQ sh S++KE) (Bp C.B sh KE KF S++live S.d KF) S.nn S.nc d0) a w:=λ{L0 β} hL0 a w hI=>BQ hL0 h1 (hI.split (sh:=sh) hd);clear h h1;generalize tQ sh S=kE at *;generalize Bp C.B sh KE KF S=kF at *;replace h2:=Itr.ok _ _ _ h2;obtain⟨fuel,h2⟩:=h2;have key:∃e S' m,K.ap e S'=some r/\e≠.normal/\∀{L0:List HA} {β:Vn},L0ok L0->∀{Q:Exit->Act->World->Prop} {a:Act} {w:World},fX C.B nt L0 β (kE++KE) (kF++live S.d KF) (rK sh (kE++KE) (kF++live S.d KF) S.nn S.nc d0) a w->(∀a w,fX C.B nt L0 β KE KF S' a w->Q e a w)->Code.roundsIn sH 0 P x Q m a w:=by
     clear hI1;induction fuel generalizing d0 with
     |zero=>simp[mN]at h2
     | succ k ih=>
      simp only[mN]at h2;obtain⟨z,hz,hk⟩:=bind_some h2;obtain⟨e1,S1,g1,g2⟩:=ic hC hm x hz;have out:∀{e:Exit} {S':SS},e≠.normal->K.ap e S'=some r->(∀{L0:List HA} {β:Vn},L0ok L0->∀{Q:Exit->Act->World->Prop} {a:Act} {w:World},fX C.B nt L0 β (kE++KE) (kF++live S.d KF) (rK sh (kE++KE) (kF++live S.d KF) S.nn S.nc d0) a w->(∀a w,fX C.B nt L0 β KE KF S' a w->Q e a w)->x.wpIn sH 0 P Q a w) ->
        ∃e S' m,K.ap e S'=some r/\e≠.normal/\∀{L0:List HA} {β:Vn},L0ok L0->∀{Q:Exit->Act->World->Prop} {a:Act} {w:World},fX C.B nt L0 β (kE++KE) (kF++live S.d KF) (rK sh (kE++KE) (kF++live S.d KF) S.nn S.nc d0) a w->(∀a w,fX C.B nt L0 β KE KF S' a w->Q e a w)->Code.roundsIn sH 0 P x Q m a w:=by
       intro e S' hne hap hwp;refine⟨e,S',1,hap,hne,λ{L0 β} hL0 {Q a w} hI hQ=>?_⟩;rw[roundsIn_succ];refine hwp hL0 hI λa w hI' => ?_;cases e with
       |normal=>grind
       |ret=>exact hQ a w hI'
       |exit i=>exact hQ a w hI'
       |goto l=>exact hQ a w hI'
       |panic ch=>exact hQ a w hI'
       |outgrown=>exact hQ a w hI'
      cases e1 with
      |normal=>
       simp only[Kn.ap,aa8]at g1;obtain⟨d,hms,rfl⟩:=g1;obtain⟨e2,S2,m,g3,g5,g4⟩:=ih d hk;refine⟨e2,S2,m+1,g3,g5,λ{L0 β} hL0 {Q a w} hI hQ=>?_⟩;rw[roundsIn_succ];exact g2 hL0 hI λa w hI'=>g4 hL0 (BQ hL0 hms hI') hQ
      |ret=>
       simp only[Kn.ap,aa8]at g1;obtain⟨r',hr',rfl⟩:=g1;simp only[no]at hk;subst hk;exact out (e:=.ret) (by simp) hr' λhL0 _ _ _ hI hQ=>g2 hL0 hI λa w hI'=>hQ a w hI'.push
      |exit i=>
       simp only[Kn.ap,aa8]at g1;obtain⟨r',hr',rfl⟩:=g1;simp only[no]at hk;subst hk;exact out (e:=.exit i) (by simp) hr' λhL0 _ _ _ hI hQ=>g2 hL0 hI λa w hI'=>hQ a w hI'.push
      |goto l=>cases g1
      |panic ch=>cases g1
      |outgrown=>cases g1
    obtain⟨e,S',m,h3,_,h4⟩:=key;exact⟨e,S',h3,λ{L0 β} hL0 {Q a w} hI hQ=>wpIn_loop_rounds m (h4 hL0 (hI1 hL0 a w hI) hQ)⟩
  ·cases h
 |.rangeFunc _ _ _ _,R,an,KE,KF,S,K,r,h=>by cases h
 |.scope x,R,an,KE,KF,S,K,r,h=>by
  obtain⟨e,S',h1,h2⟩:=ic hC hm x (by simpa only[lG]using h);refine⟨e,S',h1,λhL0 _ _ _ hI hQ=>qU (h2 hL0 hI λa w hI' => ?_)⟩;have hq:=hQ a w hI';cases e with
  |normal=>exact hq
  |ret=>exact hq
  |exit i=>exact hq
  |goto l=>cases h1
  |panic ch=>cases h1
  |outgrown=>cases h1
 |.label _,R,an,KE,KF,S,K,r,h=>⟨.normal,S,h,λhL0 _ _ _ hI hQ=>wpIn_label (hQ _ _ hI)⟩
 |.goto _,R,an,KE,KF,S,K,r,h=>by cases h
 |.refuse _,R,an,KE,KF,S,K,r,h=>by cases h
theorem K7[Itr][Rd](hC:C.ok P)(hm:P.follows .mixedOrders=true)(hL0:L0ok L0)(cd:Code){R:Type}{an:An}{KE:SE}{KF:List AF}{S:SS}{K:Kn R}{r:R}(h:lG C nt cd R an KE KF S K=some r)
  {Q:Exit->Act->World->Prop} {a:Act} {w:World} (hI:fX C.B nt L0 β KE KF S a w)
  (hn:∀S',K.n S'=some r->∀a w,fX C.B nt L0 β KE KF S' a w->Q .normal a w) (hr:∀S',K.r S'=some r->∀a w,fX C.B nt L0 β KE KF S' a w->Q .ret a w)
  (hx:∀i S',K.x i S'=some r->∀a w,fX C.B nt L0 β KE KF S' a w->Q (.exit i) a w):cd.wpIn sH 0 P Q a w:=by
 obtain⟨e,S',h1,h2⟩:=ic hC hm cd h;refine h2 hL0 hI λa w hI' => ?_;cases e with
 |normal=>exact hn S' h1 a w hI'
 |ret=>exact hr S' h1 a w hI'
 |exit i=>exact hx i S' h1 a w hI'
 |goto l=>cases h1
 |panic ch=>cases h1
 |outgrown=>cases h1
end
end
end Go.Sm
