/- Laws for the row. No condition. -/
import Derived.Test.YtfhhiajfciblbaaGreatDoorRfO
import Derived.Scope
namespace Go.Sm
set_option linter.unusedSectionVars false
variable {w:World} {a:Act}
section
variable [X:XTab] [G:GTab]
def qq:(t:TC)→EI→t.den→List TypeId→Nat→Nat→Option (List AF)
 | .pair a b,ε,x,os,q,n=>match qq a ε.fst x.1 os q n,qq b ε.snd x.2 (os.drop a.nh) (q+a.nh) (n+a.nh) with
  | some f,some g=>some (f++g)
  | _,_=>none
 | .slice t,ε,x,os,q,n=>match os with
  | e::_=>bif D0 t e ε then some [.own t e q [] x n] else none
  | []=>none
 | .st t,ε,x,os,q,n=>qq t ε x os q n
 | .node,_,_,_,_,_=>none
 | .mp _ _,_,_,_,_,_=>none
 | .sc _,_,_,_,_,_=>some []
 | .arr _ _,_,_,_,_,_=>some []
 | .unit,_,_,_,_,_=>some []
 | .ext _,_,_,_,_,_=>some []
theorem adC {t:TC} {e:TypeId} {ε:EI} (h:D0 t e ε=true) {c:bu} {i:Nat} {K:List Nat} {S:Nat→Prop} {xs:List t.den} {v:Hd} (hS : ∀ b,S b→c b=i) (hF:cJ w S (.slice t.ty) ε xs v):HA.holds w c (dR t.ty e i K xs v):=by
 have hF' : cJ w (fun b=>c b=i) (.slice t.ty) ε xs v:=hF.mono hS
 unfold D0 at h
 cases htr:eW e
 ·rw [htr] at h
  rw [d7 htr]
  simp only [no,Vf] at h
  obtain ⟨⟨h1,h2⟩,h3⟩:=h
  cases ε with
  | row e' s=>
   obtain rfl:=Vb h3
   exact cJ.plain h2 hF'
  | leaf=>cases h3
  | pair _ _=>cases h3
 ·rw [htr] at h
  rw [jb htr]
  simp only [f9] at h
  rw [← EI.eqb_eq h] at hF'
  exact hF'
open Classical in
theorem y6 {η:Vn} {w:World} : ∀ (t:TC) {ε:EI} {x:t.den} {y:t.ty.Refs} {os:List TypeId} {q n:Nat} {f:List AF} {S:Nat→Prop},qq t ε x os q n=some f→dz η n (cB t y)→cJ w S t.ty ε x y →
  ∃ cl:Nat→Nat,(∀ b,S b→q≤cl b)∧∀ c' : bu,(∀ b,S b→c' b=cl b)→am w c' (f.map (AF.ha η))
 | .sc _,ε,x,y,os,q,n,f,S,h,hn,hF=>by
  simp only [qq,Va] at h
  subst h
  exact ⟨fun _=>q,fun _ _=>Wb _,fun _ _=>am.nil _ _⟩
 | .arr _ _,ε,x,y,os,q,n,f,S,h,hn,hF=>by
  simp only [qq,Va] at h
  subst h
  exact ⟨fun _=>q,fun _ _=>Wb _,fun _ _=>am.nil _ _⟩
 | .unit,ε,x,y,os,q,n,f,S,h,hn,hF=>by
  simp only [qq,Va] at h
  subst h
  exact ⟨fun _=>q,fun _ _=>Wb _,fun _ _=>am.nil _ _⟩
 | .ext _,ε,x,y,os,q,n,f,S,h,hn,hF=>by
  simp only [qq,Va] at h
  subst h
  exact ⟨fun _=>q,fun _ _=>Wb _,fun _ _=>am.nil _ _⟩
 | .node,ε,x,y,os,q,n,f,S,h,hn,hF=>by simp [qq] at h
 | .mp _ _,ε,x,y,os,q,n,f,S,h,hn,hF=>by simp [qq] at h
 | .st t,ε,x,y,os,q,n,f,S,h,hn,hF=>y6 t h hn hF
 | .slice t,ε,x,y,os,q,n,f,S,h,hn,hF=>by
  cases os with
  | nil=>simp [qq] at h
  | cons e os=>
   simp only [qq] at h
   cases hg:D0 t e ε
   ·rw [hg] at h; cases h
   rw [hg] at h
   simp only [f9,Va] at h
   subst h
   refine ⟨fun _=>q,fun _ _=>Wb _,fun c' hc=>am.cons ?_ (am.nil _ _)⟩
   have hy:=hn 0 y rfl
   rw [W4] at hy
   simp only [AF.ha,hy]
   exact adC hg hc hF
 | .pair a b,ε,x,y,os,q,n,f,S,h,hn,hF=>by
  simp only [qq] at h
  split at h
  ·rename_i fa fb ha hb
   simp only [Va] at h
   subst h
   obtain ⟨Sa,h1,h2,h3⟩:=cJ.fst hF
   obtain ⟨ca,a1,a2⟩:=y6 a ha (dz.left hn) h2
   obtain ⟨cb,b1,b2⟩:=y6 b hb (dz.right hn (da a y.1)) h3
   refine ⟨fun g=>if Sa g then ca g else cb g,fun g hg=>?_,fun c' hc=>?_⟩
   ·show q≤if Sa g then ca g else cb g
    split
    ·exact a1 g (by assumption)
    ·have:=b1 g ⟨hg,by assumption⟩
     omega
   ·rw [Ym]
    refine am.append (a2 c' fun g hg=>?_) (b2 c' fun g hg=>?_)
    ·rw [hc g (h1 g hg)]; simp [hg]
    ·rw [hc g hg.1]; simp [hg.2]
  ·cases h
inductive Gh
 | up (t:Nat) (os:List TypeId)
 | pk (t:Nat)
 | p0 (t:Nat) (j:Option Nat) (e:TypeId)
 | pf (t:Nat) (j:Option Nat)
 | ug (t:Nat) (j:Option Nat) (q:Option Nat) (te:TC) (os:List TypeId)
 | pa
 | pr (t:Nat) (j:Option Nat)
 | uh (t j j2:Nat) (te:TC) (os:List TypeId)
def FB (κ:List Nat) (F:List AF):List AF:=F.filter fun f=>!(jd κ f)
def Tp {R:Type} (B:Nat) (os:List TypeId) (h:Nat) (te:TC) (i:Int) (KE:SE) (KF:List AF) (S:SS) (K:SS→Option R):Option R:=match my te h (S.F++bD S.d KF) with
 | some ⟨some (e,ci),_,xs⟩=>match eW e,gd e with
  | true, .row _ s=>(ac xs i).bind fun x=>match qq te s x os S.nc S.nn with
   | some f=>bif Nat.ble 2 ci&&Nat.ble 2 S.nc&&Nat.ble te.nh 64&&nO S.nn (S.E++KE) (S.F++bD S.d KF)&&Nat.ble B S.nn then K ⟨S.E,(.hol te e ci xs h i (jq te x S.nn)::f)++FB [ci] S.F,S.nn+64,S.nc+256,[ci]++S.d⟩ else none
   | none=>none
  | _,_=>K S
 | _=>K S
def sPk {R:Type} (B:Nat) (h:Nat) (te:TC) (KE:SE) (KF:List AF) (S:SS) (K:SS→Option R):Option R:=match og te h (S.F++bD S.d KF) with
 | some s=>match eW s.e,gd s.e with
  | true, .row _ ε=>match mn (S.F++bD S.d KF) te ε s.cs with
   | some (x,_,Kl,[])=>bif Nat.ble 2 s.i&&Kl.all (fun k=>Nat.ble 2 k && !(Nat.beq k s.i))&&nO S.nn (S.E++KE) (S.F++bD S.d KF)&&Nat.ble B S.nn then
     K ⟨S.E,[.own te s.e s.i [] (s.xs.set s.k.toNat x) h]++FB (s.i::Kl) S.F,S.nn,S.nc,(s.i::Kl)++S.d⟩ else none
   | _=>none
  | _,_=>none
 | none=>K S
def UC (E:SE) (F:List AF) (t:Nat) (j:Option Nat):Option Nat:=match bd E t,j with
 | some (.lf (.sl h)),none=>some h
 | some (.lf (.bp b 0)),some j=>match kN b F with
  | some (_,cs)=>match cs[j]? with
   | some (.sl h)=>some h
   | _=>none
  | none=>none
 | some (.lf (.rp h te _ _ _)),some j=>match og te h F with
  | some s=>match s.cs[j]? with
   | some (.sl h)=>some h
   | _=>none
  | none=>none
 | _,_=>none
def NW (code:TypeId) (h:Nat):List AF→Option (List AF×Nat×Bool)
 | []=>none
 | .own te e ci K xs h' :: r=>bif Nat.beq h h' then (match gd code with
  | .row e0 _=>bif Nat.beq e e0&&Nat.blt e 1048576 then some ([.pt te code ci K xs h 0, .rep te (ci::K) xs h],ci,true) else none
  | _=>none) else NW code h r
 | _::r=>NW code h r
def M6 (h:Nat):List AF→Option (List AF×Nat×Bool)
 | []=>none
 | .pt te e ci _ xs h' m::r=>bif Nat.beq h h' then (bif eW e then some ([.own te e ci [] xs h],ci,decide ((xs.length:Int)≤m)) else none) else M6 h r
 | _::r=>M6 h r
def Ny (h:Nat) (all:List AF):List AF→Option (List AF×Nat×Bool)
 | []=>none
 | .hol te _ ci xs h' k cs::r=>bif Nat.beq h h' then (match bW all te cs with
  | some (x,_,Kl,[])=>some ([.rep te (ci::Kl) (xs.set k.toNat x) h],ci,true)
  | _=>none) else Ny h all r
 | _::r=>Ny h all r
def UO {R:Type} (B:Nat) (KE:SE) (KF:List AF) (S:SS) (m:Option (List AF×Nat×Bool)) (K:SS→Option R):Option R:=match m with
 | some (f,ci,b)=>bif Nat.ble 2 ci&&nO S.nn (S.E++KE) (S.F++bD S.d KF)&&Nat.ble B S.nn then (bif b then K ⟨S.E,f++FB [ci] S.F,S.nn,S.nc,[ci]++S.d⟩ else none) else none
 | none=>none
def ghI (E:SE) (F:List AF) (te:TC) (h:Nat) (q:Option Nat):Option Int:=match q with
 | some t=>match bd E t with
  | some (.lf (.c (.int _) i))=>some i
  | _=>none
 | none=>match my te h F with
  | some s=>some (ad ((s.xs.length:Int) - 1))
  | none=>none
def paI (all:List AF):List AF→Option (Nat×TC)
 | []=>none
 | .hol te e _ _ h _ cs::r=>match gd e with
  | .row _ ε=>match mn all te ε cs with
   | some _=>some (h,te)
   | none=>paI all r
  | _=>paI all r
 | _::r=>paI all r
def U5 (h j2:Nat):List AF→Option Nat
 | []=>none
 | .hol _ _ _ _ h' _ cs::r=>bif Nat.beq h h' then (match cs[j2]? with
  | some (.sl h2)=>some h2
  | _=>none) else U5 h j2 r
 | _::r=>U5 h j2 r
def Rs {R:Type} (B:Nat) (KE:SE) (KF:List AF) (g:Gh) (S:SS) (K:SS→Option R):Option R:=match g with
 | .up t os=>match bd (S.E++KE) t with
  | some (.lf (.rp h te i _ _))=>match og te h (S.F++bD S.d KF) with
   | some _=>K S
   | none=>Tp B os h te i KE KF S K
  | _=>K S
 | .pk t=>match bd (S.E++KE) t with
  | some (.lf (.rp h te _ _ _))=>sPk B h te KE KF S K
  | _=>K S
 | .p0 t j e=>match UC (S.E++KE) (S.F++bD S.d KF) t j with
  | some h=>UO B KE KF S (NW e h (S.F++bD S.d KF)) K
  | none=>none
 | .pf t j=>match UC (S.E++KE) (S.F++bD S.d KF) t j with
  | some h=>UO B KE KF S (M6 h (S.F++bD S.d KF)) K
  | none=>none
 | .ug t j q te os=>match UC (S.E++KE) (S.F++bD S.d KF) t j with
  | some h=>match og te h (S.F++bD S.d KF) with
   | some _=>K S
   | none=>match ghI (S.E++KE) (S.F++bD S.d KF) te h q with
    | some i=>Tp B os h te i KE KF S K
    | none=>none
  | none=>none
 | .uh t j j2 te os=>match UC (S.E++KE) (S.F++bD S.d KF) t (some j) with
  | some h0=>match U5 h0 j2 (S.F++bD S.d KF) with
   | some h=>match og te h (S.F++bD S.d KF) with
    | some _=>K S
    | none=>match ghI (S.E++KE) (S.F++bD S.d KF) te h none with
     | some i=>Tp B os h te i KE KF S K
     | none=>none
   | none=>none
  | none=>none
 | .pr t j=>match UC (S.E++KE) (S.F++bD S.d KF) t j with
  | some h=>UO B KE KF S (Ny h (S.F++bD S.d KF) (S.F++bD S.d KF)) K
  | none=>none
 | .pa=>match paI (S.F++bD S.d KF) (S.F++bD S.d KF) with
  | some (h,te)=>sPk B h te KE KF S K
  | none=>K S
def xN {R:Type} (B:Nat) (KE:SE) (KF:List AF):List Gh→SS→(SS→Option R)→Option R
 | [],S,K=>K S
 | g::r,S,K=>Rs B KE KF g S fun S' => xN B KE KF r S' K
theorem CP {B nt:Nat} {L0:List HA} {β:Vn} (hL0:L0ok L0) {KE:SE} {KF:List AF} {S:SS} {κ:List Nat} {new:List AF} {nn nc:Nat} (hnn:S.nn≤nn) (hfree:nO S.nn (S.E++KE) (S.F++bD S.d KF)=true) (hB:B≤S.nn) (h2 : ∀ k∈κ,2≤k) (hI:jz B nt L0 β KE KF S a w)
  (hstep : ∀ (η:Vn) (c:bu),am w c ((S.F++bD S.d KF).map (AF.ha η))→∃ (η' : Vn) (c' : bu),η.agr S.nn η' ∧ Stp κ w c w c' ∧ am w c' (new.map (AF.ha η'))) :
  jz B nt L0 β KE KF ⟨S.E,new++FB κ S.F,nn,nc,κ++S.d⟩ a w:=by
 obtain ⟨η,c,ρ,ha,hE,hF,hL,hβ⟩:=hI
 obtain ⟨η',c',hag,hst,hnew⟩:=hstep η c hF
 simp only [nO,Vf] at hfree
 have lowN : ∀ m,Nat.blt m S.nn=true→bk S.nn m=true:=fun m hm=>by simp [bk,hm]
 have okN0 : ∀ m,okN S.nn [] m=true→bk S.nn m=true:=fun m hm=>by
  simp only [okN,List.any_nil,agv] at hm
  exact lowN m hm
 have hfr : ∀ f∈S.F++bD S.d KF,f.free S.nn=true:=fun f hf=>by
  have:=AF.okN_free (n:=S.nn) (cl:=[]) (i:=0) (by simp) f (Vx.1 hfree.2 f hf)
  simpa using this
 refine ⟨η',c',ρ,ha,fun t v hl=>?_,?_,?_,fun m hm=>?_⟩
 ·have hv:=AV.okN_free (n:=S.nn) (cl:=[]) (i:=0) (by simp) v (Vx.1 hfree.1 _ (pI hl))
  rw [AV.val_agr hag v (by simpa using hv)]
  exact hE t v hl
 ·intro A hA
  obtain ⟨f,hf,rfl⟩:=VO.1 hA
  rcases Wc.1 hf with hf | hf
  ·rcases Wc.1 hf with hf | hf
   ·exact hnew _ (VO.2 ⟨f,hf,rfl⟩)
   ·obtain ⟨hf,hh⟩:=Yc.1 hf
    rw [AF.ha_agr hag f (hfr f (Ww _ hf))]
    exact HA.stp hst _ (fun k hk=>sY (by simpa using hh) k (by rwa [AF.ha_uses] at hk)) (hF _ (VO.2 ⟨f,Ww _ hf,rfl⟩))
  ·obtain ⟨hf,hh⟩:=Yc.1 hf
   simp only [X8] at hh
   rw [vp,Ys] at hh
   have hm:f∈S.F++bD S.d KF:=WQ _ (Yc.2 ⟨hf,by simp [hh.2]⟩)
   rw [AF.ha_agr hag f (hfr f hm)]
   exact HA.stp hst _ (fun k hk=>sY hh.1 k (by rwa [AF.ha_uses] at hk)) (hF _ (VO.2 ⟨f,hm,rfl⟩))
 ·intro A hA
  refine HA.stp hst A (fun k hk hκ=>?_) (hL A hA)
  have h3:=hL0.old A hA k hk
  have h4:=h2 k hκ
  omega
 ·have:=hag m (lowN m (Wo (by omega)))
  rw [this.1,this.2]
  exact hβ m hm
theorem A2 {κ:List Nat} {c c' : bu} (h1 : ∀ b,c b∉κ→c' b=c b) (h2 : ∀ b,c b∈κ→2≤c' b):Stp κ w c w c' :=
 ⟨Wb _,fun b _ h=>h1 b h,fun _ _ _=>rfl,fun b hb h=>h2 b (h hb).1,mE.refl w⟩
section
variable {R:Type} {B nt:Nat} {L0:List HA} {β:Vn} {KE:SE} {KF:List AF} {S:SS} {K:SS→Option R} {r:R}
def Lw (B nt:Nat) (KE:SE) (KF:List AF) (S:SS) (K:SS→Option R) (r:R):Prop:=∃ S',K S' = some r∧∀ {L0:List HA} {β:Vn},L0ok L0→∀ a w,jz B nt L0 β KE KF S a w→jz B nt L0 β KE KF S' a w
theorem Iqw {os:List TypeId} {h:Nat} {te:TC} {i:Int} (hr:Tp B os h te i KE KF S K=some r):Lw B nt KE KF S K r:=by
 classical
 unfold Tp at hr
 split at hr
 ·rename_i e ci K0 xs hs
  split at hr
  ·rename_i e0 s htr hei
   obtain ⟨x,hx,hr⟩:=bind_some hr
   split at hr
   ·rename_i f hf
    cases hc:(Nat.ble 2 ci&&Nat.ble 2 S.nc&&Nat.ble te.nh 64&&nO S.nn (S.E++KE) (S.F++bD S.d KF)&&Nat.ble B S.nn)
    ·rw [hc] at hr; cases hr
    rw [hc] at hr
    simp only [f9] at hr
    simp only [Vf] at hc
    obtain ⟨⟨⟨⟨h2,hN⟩,hnh⟩,hbase⟩,hB⟩:=hc
    have h2:=Vg h2
    have hN:=Vg hN
    have hnh:=Vg hnh
    refine ⟨_,hr,fun {L0 β} hL0 a w hI=>CP hL0 (by omega) hbase (Vg hB) (by simpa using h2) hI fun η c hH=>?_⟩
    have hm:HA.holds w c (dR te.ty e ci K0 xs (η.h h)):=hH _ (VO.2 ⟨_,gt hs,rfl⟩)
    rw [jb htr] at hm
    obtain ⟨_,hget,_⟩:=nj hx
    obtain ⟨y,S2,q1,q2,q3⟩:=cJ.open hei hget (show cJ w (fun b=>c b=ci) (.slice te.ty) (gd e) xs (η.h h) from hm)
    have hnm:dz (η.set S.nn (cB te y)) S.nn (cB te y):=dz.set
    obtain ⟨cl,p1,p2⟩:=y6 te hf hnm q3
    have hag:η.agr S.nn (η.set S.nn (cB te y)):=Vn.set_agr (by rw [da]; exact hnh)
    let c' : bu:=fun b=>if S2 b then cl b else c b
    have hcS : ∀ b,S2 b→c' b=cl b:=fun b hb=>by simp [c',hb]
    have hhn:(η.set S.nn (cB te y)).h h=η.h h:=by
     have:=hbase
     simp only [nO,Vf] at this
     have h3:=AF.okN_free (n:=S.nn) (cl:=[]) (i:=0) (by simp) _ (Vx.1 this.2 _ (gt hs))
     have h4:bk S.nn h=true:=by simpa [SI.fact,AF.free] using h3
     exact (hag h h4).1
    refine ⟨η.set S.nn (cB te y),c',hag,A2 (fun b hb=>?_) (fun b hb=>?_),?_⟩
    ·have : ¬ S2 b:=fun h=>hb (by simp [show c b=ci from q1 b h])
     simp [c',this]
    ·show 2≤if S2 b then cl b else c b
     split
     ·have:=p1 b (by assumption)
      omega
     ·rw [Vt.1 hb]; exact h2
    ·rw [WD]
     refine am.cons ?_ (p2 c' hcS)
     show ke w (fun b=>c' b=ci) te.ty e xs ((η.set S.nn (cB te y)).h h) i.toNat (au (η.set S.nn (cB te y)) (jq te x S.nn))
     rw [hhn,ov te x y S.nn hnm]
     refine q2.keep (jj.of fun b hb=>?_)
     show (if S2 b then cl b else c b)=ci
     rw [if_neg hb.2]; exact hb.1
   ·cases hr
  ·exact ⟨S,hr,fun _ _ _ h=>h⟩
 ·exact ⟨S,hr,fun _ _ _ h=>h⟩
theorem T0 {h:Nat} {te:TC} (hr:sPk B h te KE KF S K=some r):Lw B nt KE KF S K r:=by
 classical
 unfold sPk at hr
 split at hr
 ·rename_i s hs
  split at hr
  ·rename_i e0 ε htr hei
   split at hr
   ·rename_i x l Kl hd
    cases hc:(Nat.ble 2 s.i&&Kl.all (fun k=>Nat.ble 2 k && !(Nat.beq k s.i))&&nO S.nn (S.E++KE) (S.F++bD S.d KF)&&Nat.ble B S.nn)
    ·rw [hc] at hr; cases hr
    rw [hc] at hr
    simp only [f9] at hr
    simp only [Vf] at hc
    obtain ⟨⟨⟨h2,hk⟩,hbase⟩,hB⟩:=hc
    have h2:=Vg h2
    have hk2 : ∀ k∈Kl,2≤k∧k≠s.i:=fun k hm=>by
     have:=Vx.1 hk k hm
     simp only [Vf] at this
     exact ⟨Vg this.1,fun e=>by rw [e] at this; simp at this⟩
    refine ⟨_,hr,fun {L0 β} hL0 a w hI=>CP hL0 (Wb _) hbase (Vg hB) (fun k hm=>by
     rcases Wd.1 hm with rfl | hm
     ·exact h2
     ·exact (hk2 k hm).1) hI fun η c hH=>?_⟩
    have hm:=wy hs hH
    obtain ⟨d1,d2,d3⟩:=ro (η:=η) te hd
    have d3:=d3 w c hH
    simp only [au,Wm] at d1
    have hm:ke w (fun b=>c b=s.i) te.ty s.e s.xs (η.h h) s.k.toNat (au η s.cs):=hm
    rw [d1] at hm
    let c' : bu:=fun b=>if c b∈Kl then s.i else c b
    refine ⟨η,c',Vn.agr_refl _ η,A2 (fun b hb=>?_) (fun b hb=>?_),?_⟩
    ·have:c b∉Kl:=fun h=>hb (Vi _ h)
     simp [c',this]
    ·show 2≤if c b∈Kl then s.i else c b
     split
     ·exact h2
     ·rcases Wd.1 hb with e | e
      ·rw [e]; exact h2
      ·exact (hk2 _ e).1
    ·refine am.cons ?_ (am.nil _ _)
     show HA.holds w c' (dR te.ty s.e s.i [] (s.xs.set s.k.toNat x) (η.h h))
     rw [jb htr]
     show cJ w (fun b=>c' b=s.i) (.slice te.ty) (gd s.e) (s.xs.set s.k.toNat x) (η.h h)
     refine ke.close (S1:=fun b=>c b=s.i) (S2:=fun b=>c b∈Kl) hei (fun b h1 h3=>(hk2 _ h3).2 h1) (fun b hb=>?_) (fun b hb=>?_) hm d3
     ·show (if c b∈Kl then s.i else c b)=s.i
      split
      ·rfl
      ·exact hb
     ·show (if c b∈Kl then s.i else c b)=s.i
      rw [if_pos hb]
   ·cases hr
  ·cases hr
 ·exact ⟨S,hr,fun _ _ _ h=>h⟩
theorem gH {c:bu} {A:HA} {L:List HA} (h:am w c (A::L)):am w c L:=fun B hB=>h B (Vi _ hB)
theorem qA {code:TypeId} {h:Nat} {η:Vn} {w:World} {c:bu} : ∀ {F:List AF} {f:List AF} {ci:Nat} {b:Bool},NW code h F=some (f,ci,b)→b=true→am w c (F.map (AF.ha η))→am w c (f.map (AF.ha η))
 | [],_,_,_,hs,_,_=>by simp [NW] at hs
 | .own te e i K xs h' :: r,f,ci,b,hs,ht,hH=>by
  simp only [NW] at hs
  cases hb:Nat.beq h h'
  ·rw [hb] at hs
   exact qA hs ht (gH hH)
  ·rw [hb] at hs
   simp only [f9] at hs
   split at hs
   ·rename_i e0 s hei
    cases hc:(Nat.beq e e0&&Nat.blt e 1048576)
    ·rw [hc] at hs; cases hs
    rw [hc] at hs
    simp only [f9,Va,VI] at hs
    obtain ⟨rfl,rfl,rfl⟩:=hs
    simp only [Vf] at hc
    obtain rfl:=Vb hc.1
    obtain rfl:=Vb hb
    have h0:HA.holds w c (dR te.ty e i K xs (η.h h)):=hH _ (VU)
    rw [d7 (f8 hc.2)] at h0
    have h1:=afs hei hc.2 h0
    exact am.cons h1 (am.cons (Hl h1) (am.nil _ _))
   ·cases hs
 | .rep _ _ _ _::r,_,_,_,hs,ht,hH=>qA (F:=r) hs ht (gH hH)
 | .box _ _ _::r,_,_,_,hs,ht,hH=>qA (F:=r) hs ht (gH hH)
 | .isn _ _::r,_,_,_,hs,ht,hH=>qA (F:=r) hs ht (gH hH)
 | .prt _ _ _ _ _::r,_,_,_,hs,ht,hH=>qA (F:=r) hs ht (gH hH)
 | .hol _ _ _ _ _ _ _::r,_,_,_,hs,ht,hH=>qA (F:=r) hs ht (gH hH)
 | .mp _ _ _ _ _::r,_,_,_,hs,ht,hH=>qA (F:=r) hs ht (gH hH)
 | .pt _ _ _ _ _ _ _::r,_,_,_,hs,ht,hH=>qA (F:=r) hs ht (gH hH)
theorem qx {h:Nat} {η:Vn} {w:World} {c:bu} : ∀ {F:List AF} {f:List AF} {ci:Nat} {b:Bool},M6 h F=some (f,ci,b)→b=true→am w c (F.map (AF.ha η))→am w c (f.map (AF.ha η))
 | [],_,_,_,hs,_,_=>by simp [M6] at hs
 | .pt te e i K xs h' m::r,f,ci,b,hs,ht,hH=>by
  simp only [M6] at hs
  cases hb:Nat.beq h h'
  ·rw [hb] at hs
   exact qx hs ht (gH hH)
  ·rw [hb] at hs
   simp only [f9] at hs
   cases hc:eW e
   ·rw [hc] at hs; cases hs
   rw [hc] at hs
   simp only [f9,Va,VI] at hs
   obtain ⟨rfl,rfl,rfl⟩:=hs
   obtain rfl:=Vb hb
   have h0:HA.holds w c (.pt te.ty e i K xs (η.h h) m):=hH _ (VU)
   refine am.cons ?_ (am.nil _ _)
   show HA.holds w c (dR te.ty e i [] xs (η.h h))
   rw [jb hc]
   exact afo (Xg ht) h0
 | .own _ _ _ _ _ _::r,_,_,_,hs,ht,hH=>qx (F:=r) hs ht (gH hH)
 | .rep _ _ _ _::r,_,_,_,hs,ht,hH=>qx (F:=r) hs ht (gH hH)
 | .box _ _ _::r,_,_,_,hs,ht,hH=>qx (F:=r) hs ht (gH hH)
 | .isn _ _::r,_,_,_,hs,ht,hH=>qx (F:=r) hs ht (gH hH)
 | .prt _ _ _ _ _::r,_,_,_,hs,ht,hH=>qx (F:=r) hs ht (gH hH)
 | .hol _ _ _ _ _ _ _::r,_,_,_,hs,ht,hH=>qx (F:=r) hs ht (gH hH)
 | .mp _ _ _ _ _::r,_,_,_,hs,ht,hH=>qx (F:=r) hs ht (gH hH)
theorem qt {h:Nat} {all:List AF} {η:Vn} {w:World} {c:bu} (hA:am w c (all.map (AF.ha η))) : ∀ {F:List AF} {f:List AF} {ci:Nat} {b:Bool},Ny h all F=some (f,ci,b)→am w c (F.map (AF.ha η))→am w c (f.map (AF.ha η))
 | [],_,_,_,hs,_=>by simp [Ny] at hs
 | .hol te e i xs h' k cs::r,f,ci,b,hs,hH=>by
  simp only [Ny] at hs
  cases hb:Nat.beq h h'
  ·rw [hb] at hs
   exact qt hA hs (gH hH)
  ·rw [hb] at hs
   simp only [f9] at hs
   split at hs
   ·rename_i x l Kl hd
    simp only [Va,VI] at hs
    obtain ⟨rfl,rfl,rfl⟩:=hs
    obtain rfl:=Vb hb
    have h0:HA.holds w c (.hol te.ty e i xs (η.h h) k.toNat (au η cs)):=hH _ (VU)
    obtain ⟨d,e0,s,ys,he,hlen,hk,hcs,⟨g,cap,cur,hv,g2,g3,g4,g5,g6,g7,g8⟩,h3⟩:=(show ke w (fun b=>c b=i) te.ty e xs (η.h h) k.toNat (au η cs) from h0)
    obtain ⟨d1,d2⟩:=dP (η:=η) te hd
    simp only [au,Wm] at d1
    have d2:=d2 w c (i::Kl) hA (fun k hk=>Vi _ hk)
    refine am.cons ?_ (am.nil _ _)
    show bM w (fun b=>c b∈i::Kl) (.slice te.ty) (xs.set k.toNat x) (η.h h)
    rw [hv]
    refine ⟨ys.set k.toNat (aN te (aS η l)),kh (by simpa using hlen) fun j x' y' hx' hy' => ?_,?_⟩
    ·by_cases hj:j=k.toNat
     ·subst hj
      rw [W5 hk] at hx'
      rw [W5 (by omega)] at hy'
      cases hx'; cases hy'
      exact d2
     ·rw [Yr (by omega)] at hx' hy'
      exact bF.rep (fun b (hb:c b=i)=>by show c b∈i::Kl; rw [hb]; exact VU) te.ty s [j] x' y' (h3 j x' y' hj hx' hy')
    ·refine ⟨by simp,by simpa using g3,g4, .inr ⟨g,0,cur,e0,(0,0),rfl,by show c g∈i::Kl; rw [show c g=i from g7]; exact VU,g2,by show 0+cap * te.ty.sz≤cur.size; omega,?_⟩⟩
     rw [rK hlen hk,← d1,← g6]
     simp
   ·cases hs
 | .own _ _ _ _ _ _::r,_,_,_,hs,hH=>qt hA (F:=r) hs (gH hH)
 | .rep _ _ _ _::r,_,_,_,hs,hH=>qt hA (F:=r) hs (gH hH)
 | .box _ _ _::r,_,_,_,hs,hH=>qt hA (F:=r) hs (gH hH)
 | .isn _ _::r,_,_,_,hs,hH=>qt hA (F:=r) hs (gH hH)
 | .prt _ _ _ _ _::r,_,_,_,hs,hH=>qt hA (F:=r) hs (gH hH)
 | .pt _ _ _ _ _ _ _::r,_,_,_,hs,hH=>qt hA (F:=r) hs (gH hH)
 | .mp _ _ _ _ _::r,_,_,_,hs,hH=>qt hA (F:=r) hs (gH hH)
theorem K3 {m:Option (List AF×Nat×Bool)} (hm : ∀ {f:List AF} {ci:Nat} {b:Bool},m=some (f,ci,b)→b=true→∀ (η:Vn) (w:World) (c:bu),am w c ((S.F++bD S.d KF).map (AF.ha η))→am w c (f.map (AF.ha η))) (hr:UO B KE KF S m K=some r):Lw B nt KE KF S K r:=by
 unfold UO at hr
 split at hr
 ·rename_i f ci b
  cases hc:(Nat.ble 2 ci&&nO S.nn (S.E++KE) (S.F++bD S.d KF)&&Nat.ble B S.nn)
  ·rw [hc] at hr; cases hr
  rw [hc] at hr
  simp only [f9] at hr
  cases b
  ·cases hr
  simp only [f9] at hr
  simp only [Vf] at hc
  obtain ⟨⟨h2,hbase⟩,hB⟩:=hc
  have h2:=Vg h2
  exact ⟨_,hr,fun {L0 β} hL0 a w hI=>CP hL0 (Wb _) hbase (Vg hB) (by simpa using h2) hI fun η c hH=>
   ⟨η,c,Vn.agr_refl _ η,A2 (fun _ _=>rfl) (fun b hb=>by rw [Vt.1 hb]; exact h2),hm rfl rfl η w c hH⟩⟩
 ·cases hr
theorem aey {g:Gh} (hr:Rs B KE KF g S K=some r):Lw B nt KE KF S K r:=by
 unfold Rs at hr
 split at hr
 ·split at hr
  ·split at hr
   ·exact ⟨S,hr,fun _ _ _ h=>h⟩
   ·exact Iqw hr
  ·exact ⟨S,hr,fun _ _ _ h=>h⟩
 ·split at hr
  ·exact T0 hr
  ·exact ⟨S,hr,fun _ _ _ h=>h⟩
 ·split at hr
  ·exact K3 (fun hm hb η w c hH=>qA hm hb hH) hr
  ·cases hr
 ·split at hr
  ·exact K3 (fun hm hb η w c hH=>qx hm hb hH) hr
  ·cases hr
 ·split at hr
  ·split at hr
   ·exact ⟨S,hr,fun _ _ _ h=>h⟩
   ·split at hr
    ·exact Iqw hr
    ·cases hr
  ·cases hr
 ·split at hr
  ·split at hr
   ·split at hr
    ·exact ⟨S,hr,fun _ _ _ h=>h⟩
    ·split at hr
     ·exact Iqw hr
     ·cases hr
   ·cases hr
  ·cases hr
 ·split at hr
  ·exact K3 (fun hm _ η w c hH=>qt hH hm hH) hr
  ·cases hr
 ·split at hr
  ·exact T0 hr
  ·exact ⟨S,hr,fun _ _ _ h=>h⟩
theorem yz : ∀ {gs:List Gh} {S:SS} {K:SS→Option R},xN B KE KF gs S K=some r→Lw B nt KE KF S K r
 | [],S,K,h=>⟨S,h,fun _ _ _ h=>h⟩
 | g::gs,S,K,h=>by
  obtain ⟨S',h1,h2⟩:=aey (nt:=nt) (show Rs B KE KF g S (fun S' => xN B KE KF gs S' K)=some r from h)
  obtain ⟨S2,h3,h4⟩:=yz (gs:=gs) h1
  exact ⟨S2,h3,fun {L0 β} hL0 a w hI=>h4 hL0 a w (h2 hL0 a w hI)⟩
end
end
section
variable [X:XTab] [G:GTab]
class Itr where
 it : {S R:Type}→(S→Option (S⊕R))→S→Option R
 ok : ∀ {S R:Type} (f:S→Option (S⊕R)) (s:S) (r:R),it f s=some r→∃ n,tD f n s=some r
def Sv:Nat:=9223372036854775808
@[reducible] def itF:Itr:=⟨fun f s=>tD f Sv s,fun _ _ _ h=>⟨Sv,h⟩⟩
inductive An
 | z
 | s (a b:An)
 | u (a:An)
 | j (sh:Shp) (ne:Bool) (a b:An)
 | l (sh:Shp) (a:An)
 | g (gs:List Gh)
 | gg (gs ps:List Gh)
 | k (ws:List Nat) (gs ps:List Gh)
def An.gh:An→List Gh
 | .g gs=>gs
 | .gg gs _=>gs
 | .k _ gs _=>gs
 | _=>[]
def An.pg:An→List Gh
 | .gg _ ps=>ps
 | .k _ _ ps=>ps
 | _=>[]
def kdS (E:SE) (F:List AF) (t:Nat):List Nat:=bif Nat.beq t 2000000 then (F.flatMap fun f=>match f with
  | .own _ _ i _ _ _=>[i]
  | .hol _ _ i _ _ _ _=>[i]
  | .pt _ _ i _ _ _ _=>[i]
  | _=>[]) else bif Nat.ble 1000000 t then (match bd E (t - 1000000) with
  | some (.lf (.bp b _))=>let hs:=F.flatMap fun f=>match f with
    | .box _ b' cs=>bif Nat.beq b b' then cs.flatMap Lf.hs else []
    | _=>[]
   F.flatMap fun f=>match f with
    | .own _ _ i _ _ h=>bif bZ h hs then [i] else []
    | .mp _ _ i _ h=>bif bZ h hs then [i] else []
    | _=>[]
  | _=>[]) else match bd E t with
 | some (.lf (.bp b _))=>F.flatMap fun f=>match f with
  | .box i b' _=>bif Nat.beq b b' then [i] else []
  | _=>[]
 | some (.lf (.rp h _ _ _ _))=>F.flatMap fun f=>match f with
  | .own _ _ i _ _ h' => bif Nat.beq h h' then [i] else []
  | .hol _ _ i _ h' _ _=>bif Nat.beq h h' then [i] else []
  | .pt _ _ i _ _ h' _=>bif Nat.beq h h' then [i] else []
  | _=>[]
 | some (.lf (.sl h))=>F.flatMap fun f=>match f with
  | .own _ _ i _ _ h' => bif Nat.beq h h' then [i] else []
  | .hol _ _ i _ h' _ _=>bif Nat.beq h h' then [i] else []
  | .pt _ _ i _ _ h' _=>bif Nat.beq h h' then [i] else []
  | _=>[]
 | _=>[]
def An.fo:An→List Nat
 | .k ws _ _=>(ws.filter fun t=>Nat.ble 3000000 t).map fun t=>t - 3000000
 | _=>[]
def An.kd (an:An) (E:SE) (F:List AF):Option (List Nat):=match an with
 | .k ws _ _=>some ((ws.filter fun t=>Nat.blt t 3000000).flatMap (kdS E F))
 | _=>none
def An.fst:An→An
 | .s a _=>a
 | .u a=>a
 | _=>.z
def An.snd:An→An
 | .s _ b=>b
 | _=>.z
structure Kn (R:Type) where
 n:SS→Option R
 r:SS→Option R
 x:Nat→SS→Option R
def AK (E:SE):List Nat→SE
 | []=>[]
 | t::r=>match bd E t with
  | some v=>(t,v)::AK E r
  | none=>AK E r
def y7 (F:List AF) (l:Lf):List Nat:=match l with
 | .sl h=>F.flatMap fun f=>match f with
  | .own _ _ i _ _ h' => bif Nat.beq h h' then [i] else []
  | .hol _ _ i _ h' _ _=>bif Nat.beq h h' then [i] else []
  | .pt _ _ i _ _ h' _=>bif Nat.beq h h' then [i] else []
  | _=>[]
 | .mp h=>F.flatMap fun f=>match f with
  | .mp _ _ i _ h' => bif Nat.beq h h' then [i] else []
  | _=>[]
 | _=>[]
def ajb (F:List AF):AV→List Nat
 | .lf l=>y7 F l
 | .ag ls=>ls.flatMap (y7 F)
 | .tu _=>[]
def aeb (E:SE) (F:List AF) (t:Nat):List Nat:=match bd E t with
 | some v=>ajb F v
 | none=>[]
def af4 (E:SE) (F KF:List AF) (t:Nat):List Nat:=match bd E t with
 | some (.lf (.bp b 0))=>match kN b F with
  | some (i,cs)=>i::cs.flatMap (y7 F)
  | none=>[]
 | some (.lf (.sl h))=>match nJ h (F++KF) with
  | some (h0,_,_,_)=>y7 F (.sl h0)
  | none=>[]
 | _=>[]
def ahr (sh:Shp) (KE:SE) (KF:List AF) (S:SS):List Nat:=(sh.vs.map (·.1)++sh.dead).flatMap (aeb S.E S.F)++(sh.bx.map (·.1)).flatMap (af4 (S.E++KE) S.F KF)
def sS (sh:Shp) (S:SS):SE:=AK S.E sh.keep
def AV.hs:AV→List Nat
 | .lf l=>l.hs
 | .ag ls=>ls.flatMap Lf.hs
 | .tu _=>[]
def ah4 (E:SE) (t:Nat):List Nat:=match bd E t with
 | some v=>v.hs
 | none=>[]
def ai4 (E:SE) (F:List AF) (t:Nat):List Nat:=match bd E t with
 | some (.lf (.bp b 0))=>match kN b F with
  | some (_,cs)=>cs.flatMap Lf.hs
  | none=>[]
 | _=>[]
def ah7 (sh:Shp) (KE:SE) (S:SS) (cs:List Nat):List Nat:=
 let bk:=(sS sh S).flatMap (fun p=>p.2.hs)++S.F.flatMap fun f=>match f with
  | .box i _ ls=>bif bZ i cs then [] else ls.flatMap Lf.hs
  | _=>[]
 ((sh.vs.map (·.1)++sh.dead).flatMap (ah4 S.E)++(sh.bx.map (·.1)).flatMap (ai4 (S.E++KE) S.F)).filter fun h=>!(bZ h bk)
def isH (m:List Nat) (f:AF):Bool:=match f with
 | .rep _ _ _ h=>bZ h m
 | .own _ _ _ _ _ h=>bZ h m
 | .isn h _=>bZ h m
 | .box _ _ _=>false
 | .prt _ _ _ _ _=>false
 | .hol _ _ _ _ h _ _=>bZ h m
 | .mp _ _ _ _ h=>bZ h m
 | .pt _ _ _ _ _ h _=>bZ h m
def Uv (cs m:List Nat) (f:AF):Bool:=jd cs f||isH m f
def AF.hsIn:AF→List Nat
 | .box _ _ cs=>cs.flatMap Lf.hs
 | .hol _ _ _ _ _ _ cs=>cs.flatMap Lf.hs
 | .prt a b _ _ _=>[a,b]
 | _=>[]
def AV.bs:AV→List Nat
 | .lf l=>l.bs
 | .ag ls=>ls.flatMap Lf.bs
 | .tu _=>[]
def AF.bsIn:AF→List Nat
 | .box _ _ cs=>cs.flatMap Lf.bs
 | .hol _ _ _ _ _ _ cs=>cs.flatMap Lf.bs
 | _=>[]
def agX (B:Nat) (outb bk:List Nat) (f:AF):Bool:=match f with
 | .rep _ _ _ h=>Nat.blt h B||bZ h bk
 | .own _ _ _ _ _ h=>Nat.blt h B||bZ h bk
 | .box _ b _=>Nat.blt b B||bZ b outb
 | _=>true
def zm (B:Nat) (sh:Shp) (KE:SE) (KF:List AF) (S:SS):List AF:=
 let cs:=ahr sh KE KF S; let m:=ah7 sh KE S cs
 let outb:=(sS sh S++KE).flatMap (fun p=>p.2.bs)++(S.F++KF).flatMap AF.bsIn
 let F1:=S.F.filter (agX B outb (S.F.flatMap fun f=>match f with | .rep _ _ _ h=>[h] | .own _ _ _ _ _ h=>[h] | _=>[]))
 let bk:=(sS sh S++KE).flatMap (fun p=>p.2.hs)++(F1++KF).flatMap AF.hsIn
 F1.filter fun f=>!(Uv cs m f)&&agX B outb bk f
def Uh (sh:Shp) (KE:SE) (KF:List AF) (S:SS):SS:=let cs:=ahr sh KE KF S; let m:=ah7 sh KE S cs; ⟨AK S.E (sh.vs.map (·.1)++sh.dead),S.F.filter (Uv cs m),S.nn+64,S.nc+256,[]⟩
def push (dd:List Nat) (kE:SE) (kF:List AF) (S:SS):SS:=⟨S.E++kE,S.F++bD S.d kF,S.nn,S.nc,S.d++dd⟩
def Da (KE:SE) (S:SS):Bool:=KE.all fun p=>(bd S.E p.1).isNone
def oP [Itr] (C:Cx) (nt:Nat):Code→(R:Type)→An→SE→List AF→SS→Kn R→Option R
 | .skip,_,_,_,_,S,K=>K.n S
 | .region _ ops draw,_,an,KE,KF,S,K=>xN C.B KE KF an.gh S fun S' => BO (C.dk (an.kd (S'.E++KE) (S'.F++bD S'.d KF)) an.fo) nt draw ops.toList KE KF S' fun S'' => xN C.B KE KF an.pg S'' K.n
 | .seq a b,R,an,KE,KF,S,K=>match an with
  | .j sh ne aa ab=>
   let kE:=sS sh S
   let kF:=zm C.B sh KE KF S
   bif Da KE S then bif ne then
    (oP C nt a (vY sh.ls) aa (kE++KE) (kF++bD S.d KF) (Uh sh KE KF S) ⟨zh C.B sh (kE++KE) (kF++bD S.d KF) S.nn S.nc,fun _=>none,fun _ _=>none⟩).bind fun d=>
     oP C nt b R ab KE KF (push S.d kE kF (rH sh (kE++KE) (kF++bD S.d KF) S.nn S.nc d)) K
   else
    (oP C nt a (vY sh.ls⊕R) aa (kE++KE) (kF++bD S.d KF) (Uh sh KE KF S) ⟨fun S' => (zh C.B sh (kE++KE) (kF++bD S.d KF) S.nn S.nc S').map .inl,fun S' => (K.r (push S.d kE kF S')).map .inr,fun i S' => (K.x i (push S.d kE kF S')).map .inr⟩).bind fun z=>
     match z with
     | .inl d=>oP C nt b R ab KE KF (push S.d kE kF (rH sh (kE++KE) (kF++bD S.d KF) S.nn S.nc d)) K
     | .inr r=>some r
   else none
  | an=>oP C nt a R an.fst KE KF S ⟨fun S' => oP C nt b R an.snd KE KF S' K,K.r,K.x⟩
 | .cond c a b,R,an,KE,KF,S,K=>match ev (S.E++KE) c with
  | some (.lf (.c .bool x))=>bif x then oP C nt a R an.fst KE KF S K else oP C nt b R an.snd KE KF S K
  | _=>none
 | .block id a,R,an,KE,KF,S,K=>oP C nt a R an.fst KE KF S ⟨K.n,K.r,fun i S' => bif Nat.beq i id then K.n S' else K.x i S'⟩
 | .loop a,R,an,KE,KF,S,K=>match an with
  | .l sh aa=>
   let kE:=sS sh S
   let kF:=zm C.B sh KE KF S
   bif Da KE S then
    (zh C.B sh (kE++KE) (kF++bD S.d KF) S.nn S.nc (Uh sh KE KF S)).bind fun d0=>
    Itr.it (fun d=>oP C nt a (vY sh.ls⊕R) aa (kE++KE) (kF++bD S.d KF) (rH sh (kE++KE) (kF++bD S.d KF) S.nn S.nc d)
     ⟨fun S' => (zh C.B sh (kE++KE) (kF++bD S.d KF) S.nn S.nc S').map .inl,fun S' => (K.r (push S.d kE kF S')).map .inr,fun i S' => (K.x i (push S.d kE kF S')).map .inr⟩) d0
   else none
  | _=>none
 | .exit id,_,an,KE,KF,S,K=>xN C.B KE KF an.gh S (K.x id)
 | .ret,_,an,KE,KF,S,K=>xN C.B KE KF an.gh S K.r
 | .label _,_,_,_,_,S,K=>K.n S
 | .scope a,R,an,KE,KF,S,K=>oP C nt a R an.fst KE KF S K
 | _,_,_,_,_,_,_=>none
section
variable {P:Program} {nt:Nat} {L0:List HA} {β:Vn} {C:Cx}
theorem jz.push {KE kE:SE} {KF kF:List AF} {dd:List Nat} {S:SS} (h:jz C.B nt L0 β (kE++KE) (kF++bD dd KF) S a w):jz C.B nt L0 β KE KF (Go.Sm.push dd kE kF S) a w:=by
 obtain ⟨η,c,ρ,ha,hE,hF,hL⟩:=h
 exact ⟨η,c,ρ,ha,by simpa [Go.Sm.push,V8] using hE,by simpa [Go.Sm.push,V8,LG,Ts] using hF,hL⟩
theorem uJ {E:SE} {t:Nat} {v:AV} : ∀ {ts:List Nat},bd (AK E ts) t=some v→bd E t=some v
 | [],h=>by simp [AK,bd] at h
 | s::r,h=>by
  simp only [AK] at h
  split at h
  ·rename_i u hu
   simp only [bd] at h
   cases hb:Nat.beq t s
   ·rw [hb] at h; exact uJ h
   ·rw [hb] at h
    simp only [f9,Va] at h
    rw [Vb hb,← h]; exact hu
  ·exact uJ h
theorem D6 {E E' : SE} {t:Nat} {v:AV} (h:bd E t=some v):bd (E++E') t=some v:=by
 induction E with
 | nil=>simp [bd] at h
 | cons p r ih=>
  simp only [YB,bd] at h ⊢
  cases hb:Nat.beq t p.1
  ·rw [hb] at h; exact ih h
  ·rw [hb] at h; exact h
theorem S9 {KE:SE} {S:SS} (h:Da KE S=true) {t:Nat} {v:AV} (hl:bd KE t=some v):bd (S.E++KE) t=some v:=by
 have:=Vx.1 h _ (pI hl)
 rw [B1 (by simpa using this)]
 exact hl
theorem jz.split {sh:Shp} {KE:SE} {KF:List AF} {S:SS} (hd:Da KE S=true) (h:jz C.B nt L0 β KE KF S a w):jz C.B nt L0 β (sS sh S++KE) (zm C.B sh KE KF S++bD S.d KF) (Uh sh KE KF S) a w:=by
 obtain ⟨η,c,ρ,ha,hE,hF,hL⟩:=h
 refine ⟨η,c,ρ,ha,fun t v hl=>?_,fun A hA=>?_,hL⟩
 ·rcases pe hl with hl | hl
  ·exact hE t v (D6 (uJ hl))
  ·rcases pe hl with hl | hl
   ·exact hE t v (D6 (uJ hl))
   ·exact hE t v (S9 hd hl)
 ·rw [show (Uh sh KE KF S).d=[] from rfl,A1] at hA
  obtain ⟨f,hf,rfl⟩:=VO.1 hA
  refine hF _ (VO.2 ⟨f,?_,rfl⟩)
  rcases Wc.1 hf with hf | hf
  ·exact Ww _ (Yc.1 hf).1
  ·rcases Wc.1 hf with hf | hf
   ·exact Ww _ (Yc.1 (Yc.1 hf).1).1
   ·exact WQ _ hf
def Kn.ap {R:Type} (K:Kn R):Exit→SS→Option R
 | .normal,S=>K.n S
 | .ret,S=>K.r S
 | .exit i,S=>K.x i S
 | _,_=>none
theorem kn [Itr] (hC:C.ok P) (hm:P.follows .mixedOrders=true) : ∀ (cd:Code) {R:Type} {an:An} {KE:SE} {KF:List AF} {S:SS} {K:Kn R} {r:R},oP C nt cd R an KE KF S K=some r →
  ∃ e S',K.ap e S' = some r∧∀ {L0:List HA} {β:Vn},L0ok L0→∀ {Q:Exit→Act→World→Prop} {a:Act} {w:World},jz C.B nt L0 β KE KF S a w→(∀ a w,jz C.B nt L0 β KE KF S' a w→Q e a w)→cd.wp P Q a w
 | .skip,R,an,KE,KF,S,K,r,h=>⟨.normal,S,h,fun hL0 _ _ _ hI hQ=>wp_skip (hQ _ _ hI)⟩
 | .exit id,R,an,KE,KF,S,K,r,h=>by
  obtain ⟨S',h1,h2⟩:=yz (nt:=nt) (show xN C.B KE KF an.gh S (K.x id)=some r from h)
  exact ⟨.exit id,S',h1,fun hL0 _ _ _ hI hQ=>wp_exit (hQ _ _ (h2 hL0 _ _ hI))⟩
 | .ret,R,an,KE,KF,S,K,r,h=>by
  obtain ⟨S',h1,h2⟩:=yz (nt:=nt) (show xN C.B KE KF an.gh S K.r=some r from h)
  exact ⟨.ret,S',h1,fun hL0 _ _ _ hI hQ=>wp_ret (hQ _ _ (h2 hL0 _ _ hI))⟩
 | .region id ops draw,R,an,KE,KF,S,K,r,h=>by
  obtain ⟨S0,h0,h00⟩:=yz (nt:=nt) (show xN C.B KE KF an.gh S (fun S' => BO (C.dk (an.kd (S'.E++KE) (S'.F++bD S'.d KF)) an.fo) nt draw ops.toList KE KF S' fun S'' => xN C.B KE KF an.pg S'' K.n)=some r from h)
  obtain ⟨S',h1',h2⟩:=Tz (Cx.dk_ok hC _ _) hm h0
  obtain ⟨S'',h1,h3⟩:=yz (nt:=nt) h1'
  refine ⟨.normal,S'',h1,fun {L0 β} hL0 {Q a w} hI hQ=>?_⟩
  have:=h2 hL0 id Q a w (h00 hL0 a w hI) (fun a w hI' => hQ a w (h3 hL0 a w hI'))
  simpa using this
 | .cond c x y,R,an,KE,KF,S,K,r,h=>by
  simp only [oP] at h
  split at h
  ·rename_i b hb
   cases b with
   | true=>
    obtain ⟨e,S',h1,h2⟩:=kn hC hm x h
    refine ⟨e,S',h1,fun {L0 β} hL0 {Q a w} hI hQ=>?_⟩
    have hI' := hI
    obtain ⟨η,cc,ρ,ha,hE,_,_⟩:=hI'
    exact wp_cond_split (t:=true) (by rw [ha.eval]; exact aM hE hb) (fun _=>h2 hL0 hI hQ) (fun hf=>by cases hf)
   | false=>
    obtain ⟨e,S',h1,h2⟩:=kn hC hm y h
    refine ⟨e,S',h1,fun {L0 β} hL0 {Q a w} hI hQ=>?_⟩
    have hI' := hI
    obtain ⟨η,cc,ρ,ha,hE,_,_⟩:=hI'
    exact wp_cond_split (t:=false) (by rw [ha.eval]; exact aM hE hb) (fun hf=>by cases hf) (fun _=>h2 hL0 hI hQ)
  ·cases h
 | .block id x,R,an,KE,KF,S,K,r,h=>by
  simp only [oP] at h
  obtain ⟨e,S',h1,h2⟩:=kn hC hm x h
  cases e with
  | normal=>exact ⟨.normal,S',h1,fun hL0 _ _ _ hI hQ=>wp_block (h2 hL0 hI fun a w hI' => hQ a w hI')⟩
  | ret=>exact ⟨.ret,S',h1,fun hL0 _ _ _ hI hQ=>wp_block (h2 hL0 hI fun a w hI' => hQ a w hI')⟩
  | exit i=>
   simp only [Kn.ap] at h1
   cases hb:Nat.beq i id
   ·rw [hb] at h1
    have hne:i≠id:=adW hb
    refine ⟨.exit i,S',h1,fun hL0 _ _ _ hI hQ=>wp_block (h2 hL0 hI fun a w hI' => ?_)⟩
    simp only [Exit.inBlock,if_neg hne]
    exact hQ a w hI'
   ·rw [hb] at h1
    obtain rfl:=Vb hb
    refine ⟨.normal,S',h1,fun hL0 _ _ _ hI hQ=>wp_block (h2 hL0 hI fun a w hI' => ?_)⟩
    simp only [Exit.inBlock,We]
    exact hQ a w hI'
  | goto l=>cases h1
  | panic ch=>cases h1
  | outgrown=>cases h1
 | .seq x y,R,an,KE,KF,S,K,r,h=>by
  simp only [oP] at h
  split at h
  ·rename_i sh ne aa ab
   cases hd:Da KE S
   ·rw [hd] at h; cases h
   ·rw [hd] at h
    simp only [f9] at h
    cases ne with
    | true=>
     simp only [f9] at h
     obtain ⟨d,h1,h2⟩:=bind_some h
     obtain ⟨e1,S1,g1,g2⟩:=kn hC hm x h1
     obtain ⟨e2,S2,g3,g4⟩:=kn hC hm y h2
     cases e1 with
     | normal=>exact ⟨e2,S2,g3,fun hL0 _ _ _ hI hQ=>wp_seq (g2 hL0 (hI.split (sh:=sh) hd) fun a w hI' => g4 hL0 (tk hL0 g1 hI').push hQ)⟩
     | ret=>cases g1
     | exit i=>cases g1
     | goto l=>cases g1
     | panic ch=>cases g1
     | outgrown=>cases g1
    | false=>
     simp only [no] at h
     obtain ⟨z,h1,h2⟩:=bind_some h
     obtain ⟨e1,S1,g1,g2⟩:=kn hC hm x h1
     cases e1 with
     | normal=>
      simp only [Kn.ap,XT] at g1
      obtain ⟨d,hms,rfl⟩:=g1
      obtain ⟨e2,S2,g3,g4⟩:=kn hC hm y h2
      exact ⟨e2,S2,g3,fun hL0 _ _ _ hI hQ=>wp_seq (g2 hL0 (hI.split (sh:=sh) hd) fun a w hI' => g4 hL0 (tk hL0 hms hI').push hQ)⟩
     | ret=>
      simp only [Kn.ap,XT] at g1
      obtain ⟨r',hr',rfl⟩:=g1
      simp only [Va] at h2
      subst h2
      exact ⟨.ret,_,hr',fun hL0 _ _ _ hI hQ=>wp_seq (g2 hL0 (hI.split (sh:=sh) hd) fun a w hI' => hQ a w hI'.push)⟩
     | exit i=>
      simp only [Kn.ap,XT] at g1
      obtain ⟨r',hr',rfl⟩:=g1
      simp only [Va] at h2
      subst h2
      exact ⟨.exit i,_,hr',fun hL0 _ _ _ hI hQ=>wp_seq (g2 hL0 (hI.split (sh:=sh) hd) fun a w hI' => hQ a w hI'.push)⟩
     | goto l=>cases g1
     | panic ch=>cases g1
     | outgrown=>cases g1
  ·obtain ⟨e1,S1,g1,g2⟩:=kn hC hm x h
   cases e1 with
   | normal=>
    obtain ⟨e2,S2,g3,g4⟩:=kn hC hm y g1
    exact ⟨e2,S2,g3,fun hL0 _ _ _ hI hQ=>wp_seq (g2 hL0 hI fun a w hI' => g4 hL0 hI' hQ)⟩
   | ret=>exact ⟨.ret,S1,g1,fun hL0 _ _ _ hI hQ=>wp_seq (g2 hL0 hI hQ)⟩
   | exit i=>exact ⟨.exit i,S1,g1,fun hL0 _ _ _ hI hQ=>wp_seq (g2 hL0 hI hQ)⟩
   | goto l=>cases g1
   | panic ch=>cases g1
   | outgrown=>cases g1
 | .loop x,R,an,KE,KF,S,K,r,h=>by
  simp only [oP] at h
  split at h
  ·rename_i sh aa
   cases hd:Da KE S
   ·rw [hd] at h; cases h
   ·rw [hd] at h
    simp only [f9] at h
    obtain ⟨d0,h1,h2⟩:=bind_some h
    have hI1 : ∀ {L0:List HA} {β:Vn},L0ok L0→∀ a w,jz C.B nt L0 β KE KF S a w→jz C.B nt L0 β (sS sh S++KE) (zm C.B sh KE KF S++bD S.d KF) (rH sh (sS sh S++KE) (zm C.B sh KE KF S++bD S.d KF) S.nn S.nc d0) a w:=fun {L0 β} hL0 a w hI=>tk hL0 h1 (hI.split (sh:=sh) hd)
    clear h h1
    generalize sS sh S=kE at *
    generalize zm C.B sh KE KF S=kF at *
    replace h2:=Itr.ok _ _ _ h2
    obtain ⟨fuel,h2⟩:=h2
    have key : ∃ e S' m,K.ap e S' = some r∧e≠.normal∧∀ {L0:List HA} {β:Vn},L0ok L0→∀ {Q:Exit→Act→World→Prop} {a:Act} {w:World},jz C.B nt L0 β (kE++KE) (kF++bD S.d KF) (rH sh (kE++KE) (kF++bD S.d KF) S.nn S.nc d0) a w→(∀ a w,jz C.B nt L0 β KE KF S' a w→Q e a w)→Code.rounds P x Q m a w:=by
     clear hI1
     induction fuel generalizing d0 with
     | zero=>simp [tD] at h2
     | succ k ih=>
      simp only [tD] at h2
      obtain ⟨z,hz,hk⟩:=bind_some h2
      obtain ⟨e1,S1,g1,g2⟩:=kn hC hm x hz
      have bk : ∀ {e:Exit} {S' : SS},e≠.normal→K.ap e S' = some r→(∀ {L0:List HA} {β:Vn},L0ok L0→∀ {Q:Exit→Act→World→Prop} {a:Act} {w:World},jz C.B nt L0 β (kE++KE) (kF++bD S.d KF) (rH sh (kE++KE) (kF++bD S.d KF) S.nn S.nc d0) a w→(∀ a w,jz C.B nt L0 β KE KF S' a w→Q e a w)→x.wp P Q a w) →
        ∃ e S' m,K.ap e S' = some r∧e≠.normal∧∀ {L0:List HA} {β:Vn},L0ok L0→∀ {Q:Exit→Act→World→Prop} {a:Act} {w:World},jz C.B nt L0 β (kE++KE) (kF++bD S.d KF) (rH sh (kE++KE) (kF++bD S.d KF) S.nn S.nc d0) a w→(∀ a w,jz C.B nt L0 β KE KF S' a w→Q e a w)→Code.rounds P x Q m a w:=by
       intro e S' hne hap hwp
       refine ⟨e,S',1,hap,hne,fun {L0 β} hL0 {Q a w} hI hQ=>?_⟩
       rw [rounds_succ]
       refine hwp hL0 hI fun a w hI' => ?_
       cases e with
       | normal=>exact absurd rfl hne
       | ret=>exact hQ a w hI'
       | exit i=>exact hQ a w hI'
       | goto l=>exact hQ a w hI'
       | panic ch=>exact hQ a w hI'
       | outgrown=>exact hQ a w hI'
      cases e1 with
      | normal=>
       simp only [Kn.ap,XT] at g1
       obtain ⟨d,hms,rfl⟩:=g1
       obtain ⟨e2,S2,m,g3,g5,g4⟩:=ih d hk
       refine ⟨e2,S2,m+1,g3,g5,fun {L0 β} hL0 {Q a w} hI hQ=>?_⟩
       rw [rounds_succ]
       exact g2 hL0 hI fun a w hI' => g4 hL0 (tk hL0 hms hI') hQ
      | ret=>
       simp only [Kn.ap,XT] at g1
       obtain ⟨r',hr',rfl⟩:=g1
       simp only [Va] at hk
       subst hk
       exact bk (e:=.ret) (by simp) hr' fun hL0 _ _ _ hI hQ=>g2 hL0 hI fun a w hI' => hQ a w hI'.push
      | exit i=>
       simp only [Kn.ap,XT] at g1
       obtain ⟨r',hr',rfl⟩:=g1
       simp only [Va] at hk
       subst hk
       exact bk (e:=.exit i) (by simp) hr' fun hL0 _ _ _ hI hQ=>g2 hL0 hI fun a w hI' => hQ a w hI'.push
      | goto l=>cases g1
      | panic ch=>cases g1
      | outgrown=>cases g1
    obtain ⟨e,S',m,h3,_,h4⟩:=key
    exact ⟨e,S',h3,fun {L0 β} hL0 {Q a w} hI hQ=>wp_loop_rounds m (h4 hL0 (hI1 hL0 a w hI) hQ)⟩
  ·cases h
 | .rangeFunc _ _ _ _,R,an,KE,KF,S,K,r,h=>by cases h
 | .scope x,R,an,KE,KF,S,K,r,h=>by
  obtain ⟨e,S',h1,h2⟩:=kn hC hm x (by simpa only [oP] using h)
  refine ⟨e,S',h1,fun hL0 _ _ _ hI hQ=>wp_scope_straight (h2 hL0 hI fun a w hI' => ?_)⟩
  have hq:=hQ a w hI'
  cases e with
  | normal=>exact hq
  | ret=>exact hq
  | exit i=>exact hq
  | goto l=>cases h1
  | panic ch=>cases h1
  | outgrown=>cases h1
 | .label _,R,an,KE,KF,S,K,r,h=>⟨.normal,S,h,fun hL0 _ _ _ hI hQ=>wp_label (hQ _ _ hI)⟩
 | .goto _,R,an,KE,KF,S,K,r,h=>by cases h
 | .refuse _,R,an,KE,KF,S,K,r,h=>by cases h
theorem afJ [Itr] (hC:C.ok P) (hm:P.follows .mixedOrders=true) (hL0:L0ok L0) (cd:Code) {R:Type} {an:An} {KE:SE} {KF:List AF} {S:SS} {K:Kn R} {r:R} (h:oP C nt cd R an KE KF S K=some r)
  {Q:Exit→Act→World→Prop}   (hI:jz C.B nt L0 β KE KF S a w)
  (hn : ∀ S',K.n S' = some r→∀ a w,jz C.B nt L0 β KE KF S' a w→Q .normal a w) (hr : ∀ S',K.r S' = some r→∀ a w,jz C.B nt L0 β KE KF S' a w→Q .ret a w)
  (hx : ∀ i S',K.x i S' = some r→∀ a w,jz C.B nt L0 β KE KF S' a w→Q (.exit i) a w):cd.wp P Q a w:=by
 obtain ⟨e,S',h1,h2⟩:=kn hC hm cd h
 refine h2 hL0 hI fun a w hI' => ?_
 cases e with
 | normal=>exact hn S' h1 a w hI'
 | ret=>exact hr S' h1 a w hI'
 | exit i=>exact hx i S' h1 a w hI'
 | goto l=>cases h1
 | panic ch=>cases h1
 | outgrown=>cases h1
end
end
end Go.Sm
