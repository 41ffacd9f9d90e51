/- Laws for the row. No condition. -/
import Derived.Test.YtgghcmbaidihjaaGreatDoorRfN
import Derived.Scope
namespace Go.Sm
set_option linter.unusedSectionVars false
variable {w:World} {a:Act} {cb:Nat} {K:List Nat}
section
variable [X:XTab] [G:GTab] [Yc:GCx]
theorem Hu{a b:List Nat}(h:sub a b=true):∀k∈a,k∈b:=λ_ c=>ayn h c
theorem FB{g:Nat->Nat}(l:Gd g){c:aS}{t:TC}{e:TypeId}{i:Nat}{j:List Nat}{xs:List t.den}{v:Hd}(h:HA.holds w c (ep t.ty e i K xs v))(hi:g i=cb)(d:(t.ty.pureB=true\/fk e=true)\/sub (K.map g) j=true) :
  HA.holds w (λb=>g (c b)) (ep t.ty e cb j xs v):=by
 cases f:fk e;rotate_left
 ·rw[iT f]at h|-;subst hi;exact HA.ren_holds l (.tr t.ty e i K xs v) h
 rw[dK f]at h|-;have k:=HA.ren_holds l (.own t.ty e i K xs v) h;subst hi;rcases d with(d|d)|d
 ·exact CB d _ _ k
 ·grind
 ·obtain⟨ys,m,n,o⟩:=k;exact⟨ys,m.mono (bH.keep (λ_ _ p=>⟨Hu d _ p,rfl⟩) t.ty),n,o⟩
theorem abI{g:Nat->Nat}(i:Gd g){c:aS}{t:TC}{d:List Nat}{xs:List t.den}{v:Hd}(h:HA.holds w c (.rep t.ty K xs v))(e:sub (K.map g) d=true):HA.holds w (λb=>g (c b)) (.rep t.ty d xs v):=
 bH.keep (λ_ _ f=>⟨Hu e _ f,rfl⟩) (.slice t.ty) xs v (HA.ren_holds i (.rep t.ty K xs v) h)
theorem T5{I:Nat->List Nat}{g:Nat->Nat}(y:Gd g){F:List AF}{D η':Vn}{c:aS}(u:ao w c (F.map (AF.ha D))){p:Sp}{l:Lf}{x:p.den}{nm:Nat}(z:∀m,m<64->η'.h m=D.h m)(ha:p.abs F l=some x)(f:Ey I g F cb p l=true)(H:η'.h nm=l.hd D) :
  ao w (λb=>g (c b)) ((p.fact I x nm cb).map (AF.ha η')):=by
 cases p with
 |sc s=>exact ao.nil _ _
 |ar n s=>exact ao.nil _ _
 |xt n=>exact ao.nil _ _
 | own t e one src=>
  simp only[Sp.abs]at ha;split at ha
  ·rename_i i K xs o;simp only[no]at ha;subst ha;refine ao.cons ?_ (ao.nil _ _);simp only[AF.ha,H];cases l with
   |sl h=>
    simp only[Ey,o,abF,afz]at f;exact FB y (eO o u) (f9 f.1) (by grind)
   |nl=>
    simp only[fY,no,acW]at o;obtain⟨_,_,rfl⟩:=o;exact vg _ _
   |_=>simp[fY]at o
  ·cases ha
 | rep t one src=>
  simp only[Sp.abs]at ha;split at ha
  ·rename_i s hs;simp only[no]at ha;subst ha;refine ao.cons ?_ (ao.nil _ _);simp only[AF.ha,H];cases l with
   |sl h=>
    simp only[Ey,hs]at f;exact abI y (iq hs u) f
   |nl=>
    simp only[iB,no]at hs;subst hs;exact tL _ _
   |_=>simp[iB]at hs
  ·cases ha
 | ownk t e E=>
  cases l with
  | sl h' =>
   simp only[Sp.abs]at ha;cases j:(Nat.beq E h'&&Nat.blt E 64)
   ·grind
   ·rw[j]at ha;simp only[abF]at j;have M:=f9 j.1;have N:E+1<=64:=abM j.2;subst M;simp only[abv]at ha;split at ha
    ·rename_i i K xs o;simp only[no]at ha;subst ha;simp only[Ey,o,abF,afz]at f;refine ao.cons ?_ (ao.nil _ _);simp only[AF.ha,z E (by omega)];exact FB y (eO o u) (f9 f.1) (.inl f.2)
    ·cases ha
  |_=>cases ha
 | mp k v=>
  cases l with
  |mp h' =>
   simp only[Sp.abs]at ha;split at ha
   ·rename_i s hs;simp only[no]at ha;subst ha;simp only[Ey,hs]at f;refine ao.cons ?_ (ao.nil _ _);have q:=HA.ren_holds y _ (u _ (acG.2 ⟨_,ir hs,rfl⟩));simp only[AF.ha,HA.ren]at q|-;rw[f9 f]at q;rw[H];exact q
   ·cases ha
  |_=>cases ha
 |al d=>exact ao.nil _ _
 | pt t e one src=>
  cases l with
  | sl h' =>
   simp only[Sp.abs]at ha;split at ha
   ·rename_i s hs;cases L:Nat.beq e s.e
    ·grind
    rw[L]at ha;simp only[abv,no]at ha;subst ha;simp only[Ey,hs,abF]at f;have q:=HA.ren_holds y _ (u _ (acG.2 ⟨_,lI hs,rfl⟩));simp only[AF.ha,HA.ren]at q;rw[f9 f.1,<-f9 L]at q;have J:HA.holds w (λb=>g (c b)) (.pt t.ty e cb (ye I one src cb) s.xs (D.h h') s.m):=zN.keep (λb _ j=>⟨j,rfl⟩) (λb _ j=>⟨Hu f.2 _ j,rfl⟩) q;have A:η'.h nm=D.h h':=H;refine ao.cons ?_ (ao.cons ?_ (ao.nil _ _))
    ·simp only[AF.ha,A];exact J
    ·simp only[AF.ha,A];exact NW J
   ·cases ha
  |_=>cases ha
theorem Qi{s:Nat->List Nat}{g:Nat->Nat}(n:Gd g){F:List AF}{o η':Vn}{w:World}{c:aS}(k:ao w c (F.map (AF.ha o)))(e:∀m,m<64->η'.h m=o.h m):∀{ps:List Sp} {ls:List Lf} {d:zE ps} {nm cb:Nat},mS F ps ls=some d->Iq s g F cb ps ls=true ->
  (∀(j:Nat) (l:Lf),ls[j]?=some l->η'.h (nm+j)=l.hd o)->ao w (λb=>g (c b)) ((F4 s ps d nm cb).map (AF.ha η'))
 |[],[],_,_,_,_,_,_=>ao.nil _ _
 |[p],[l],d,nm,cb,ha,f,i=>by simp only[Iq,abF]at f;exact T5 n k e ha f.1 (i 0 l rfl)
 |p::q::r,l::ls,d,nm,cb,ha,f,i=>by
  simp only[mS]at ha;split at ha
  ·rename_i x y u v;simp only[no]at ha;subst ha;rw[Iq,abF]at f;simp only[F4,afo];refine(T5 n k e u f.1 (i 0 l rfl)).append (Qi n k e v f.2 λj z t=>?_);have:=i (j+1) z (by simpa using t);grind
  ·cases ha
 |[],_::_,_,_,_,h,_,_=>by simp[mS]at h
 |[_],[],_,_,_,h,_,_=>by simp[mS]at h
 |[_],_::_::_,_,_,_,h,_,_=>by simp[mS]at h
 |_::_::_,[],_,_,_,h,_,_=>by simp[mS]at h
theorem E7{g:Nat->Nat}(u:Gd g){KE:SE}{F:List AF}{η η':Vn}{w:World}{c:aS}(q:ao w c (F.map (AF.ha η)))(x:η'.b=η.b):∀{bx:List (Nat×List Sp)} {ls as:List Lf} {cb:Nat},Fx KE F bx=some ls->EO g KE F bx cb=true->as.length=ls.length ->
  (∀(j:Nat) (l n:Lf),ls[j]?=some l->as[j]?=some n->n.cells η'=l.cells η)->ao w (λb=>g (c b)) ((zy KE bx as cb).map (AF.ha η'))
 |[],_,_,_,_,_,_,_=>ao.nil _ _
 | (t,ps)::r,ls,as,cb,d,m,hl,s=>by
  simp only[Fx]at d;split at d
  ·rename_i b f;split at d
   ·rename_i i cs v o p;cases e:Nat.beq cs.length ps.length
    ·grind
    ·rw[e]at d;simp only[abv,no]at d;subst d;have k:=f9 e;simp only[EO,f,o,abF]at m;simp only[acA]at hl;simp only[zy,f,aev];refine ao.cons ?_ (E7 u q x p m.2 (by simp;omega) λj l n y z=>?_)
     ·have D:=HA.ren_holds u _ (q _ (acG.2 ⟨_,fw o,rfl⟩));grind[AF.ha,HA.ren,Nat.eq_of_beq_eq_true,A5]
     grind
   ·cases d
  ·rename_i h f;split at d
   ·rename_i A _ _ _ v o p;cases e:Nat.beq 1 ps.length
    ·grind
    ·rw[e]at d;simp only[abv,no]at d;subst d;have k:=f9 e;simp only[EO,f]at m;simp only[aeH]at hl;simp only[zy,f];refine E7 u q x p m (by simp;omega) λj l n y z=>?_;grind
   ·cases d
  ·cases d
theorem UK{g:Nat->Nat}:(A:HA)->(∀k∈A.uses,g k=k)->True->A.ren g=A
 | .tr t e i K xs v,h,_=>by
  have:K.map g=K:=by
   conv=>rhs;rw[<-akB K]
   exact afA λk c=>h k (abJ _ c)
  simp only[HA.ren,this,h i adT]
 |.hol t e i xs v k cs,h,_=>by simp only[HA.ren,h i (by simp[HA.uses])]
 | .pt t e i K xs v m,h,_=>by
  have:K.map g=K:=by
   conv=>rhs;rw[<-akB K]
   exact afA λk c=>h k (abJ _ c)
  simp only[HA.ren,this,h i adT]
 | .rep t K xs v,h,_=>by
  have:K.map g=K:=by
   conv=>rhs;rw[<-akB K]
   exact afA λk c=>h k c
  simp only[HA.ren,this]
 | .own t e i K xs v,h,_=>by
  have:K.map g=K:=by
   conv=>rhs;rw[<-akB K]
   exact afA λk c=>h k (abJ _ c)
  simp only[HA.ren,this,h i adT]
 |.box i b cs,h,_=>by simp only[HA.ren,h i (by simp[HA.uses])]
 |.mp i b es,h,_=>by simp only[HA.ren,h i (by simp[HA.uses])]
 | .elem t K x p,h,_=>by
  have:K.map g=K:=by
   conv=>rhs;rw[<-akB K]
   exact afA λk c=>h k c
  simp only[HA.ren,this]
 |.old _ _,_,_=>rfl
 |.pure _,_,_=>rfl
 |.gl _ _ _,_,_=>rfl
 |.lp _ _,_,_=>rfl
theorem I3{E:SE}:∀{vs:List (Nat×ShV)} {ls:List Lf},uw E vs=some ls->ls.length=(vs.flatMap (λp=>p.2.ls)).length:=by
 intro vs;induction vs with
 |nil=>intro ls h;simp[uw]at h;subst h;rfl
 | cons p r b=>
  intro ls h;obtain⟨t0,v0⟩:=p;cases v0 with
  |lf p=>
   grind[uw,ShV.ls]
  |ag ps=>
   grind[uw,Nat.beq,ShV.ls,Option.some.injEq,Nat.eq_of_beq_eq_true]
theorem FK{E b:SE}{t:Nat}(h:bP E t=none):bP (E++b) t=bP b t:=by
 induction E with
 |nil=>rfl
 |cons p r c=>
  simp only[afO,bP]at h|-;grind
theorem DA[Rd]{B nt:Nat}{L0:List HA}{β:Vn}(N:L0ok L0){sh:Shp}{KE:SE}{KF:List AF}{nb:Nat}{S:SS}{d:zE sh.ls}(h:D5 B sh KE KF nb cb S=some d)(hI:gj B nt L0 β KE KF S a w) :
  gj B nt L0 β KE KF (uA sh KE KF nb cb d) a w:=by
 unfold D5 at h;split at h
 ·rename_i s n L g2;split at h
  ·rename_i d' hd;simp only at h;generalize hcm:((KF.flatMap AF.uses).map (λk=>(k,k))++rT (S.F++KF) sh.ls (s++n) cb++M8 KE (S.F++KF) sh.bx (cb+2*sh.ls.length)++DJ (S.F++KF) (cb+255) sh.ls (s++n)).filter (λp=>Nat.ble 2 p.1&&Nat.ble 2 p.2)=cm at h;generalize W:ry cm 2=g at h;cases Q:(KF.all (λf=>!(gF S.d f))&&(KF.flatMap AF.uses).all (λk=>Nat.beq (g k) k)&&Iq (aik KE KF (cb+255)) g (S.F++KF) cb sh.ls (s++n)&&EO g KE (S.F++KF) sh.bx (cb+2*sh.ls.length)&&KE.all (λp=>p.2.free nb)&&KF.all (AF.free nb)&&Nat.ble sh.ls.length 64&&KE.all (λp=>(bP S.E p.1).isNone)&&Nat.ble 64 nb&&Nat.ble B nb&&VA sh.ls (s++n))
   ·grind
   ·rw [Q]at h;simp only[abv,no]at h;subst h;simp only[abF]at Q;obtain⟨⟨⟨⟨⟨⟨⟨⟨⟨⟨o,hfix⟩,D⟩,z⟩,T⟩,U⟩,y⟩,hno⟩,hnb⟩,Z⟩,O⟩:=Q;have u:Gd g:=by
     subst W;refine Pl ?_;simp only[afR,abF];refine⟨rfl,acr.2 λx hx=>?_⟩;grind
    obtain⟨η,c,ρ,ha,hE,M,hL⟩:=hI
    have hls:(s++n).length=sh.ls.length:=by
     have gen:∀{ps:List Sp} {ls:List Lf} {d:zE ps},mS (S.F++KF) ps ls=some d->ls.length=ps.length:=by
      intro ps;induction ps with
      |nil=>intro ls d h;cases ls<;>simp[mS]at h|-
      | cons p r ih=>
       intro ls d h;cases r with
       | nil=>
        cases ls with
        |nil=>simp[mS]at h
        |cons l ls=>
         cases ls with
         |nil=>rfl
         |cons _ _=>simp[mS]at h
       | cons q r=>
        cases ls with
        |nil=>simp[mS]at h
        |cons l ls=>
         simp only[mS]at h;grind
     exact gen hd
    have y:=abM y;let η':Vn:=η.set nb (aT η (s++n))
    have e:η.agr nb η':=Vn.set_agr (by simp only[aT,afN];omega);have F:∀(j:Nat) (l:Lf),(s++n)[j]?=some l->η'.h (nb+j)=l.hd η:=λj l hj=>Vn.set_at (by rw[aT,afX,hj];rfl);have Y:live S.d KF=KF:=List.filter_eq_self.2 λf hf=>acr.1 o f hf;rw[Y]at M;have hF:ao w c ((S.F++KF).map (AF.ha η)):=M;have i:∀m,m<64->η'.h m=η.h m:=λm hm=>(e m (by simp only[out,afz];exact .inl (aeo (by have:=abM hnb;omega)))).1;obtain⟨k1,k2⟩:=Ft (η:=η) (η':=η') i (nm:=nb) hd O F;refine⟨η',λb=>g (c b),ρ,ha,?_,?_,?_,λm hm=>?_⟩
    ·intro t v hl;rcases qC hl with hl|hl
     ·obtain⟨v0,e1,J⟩:=Fk (η:=η) (η':=η') (rest:=n) L k1 k2 t v hl;rw[J];refine hE t v0 ?_;have app:∀{E E':SE},bP E t=some v0->bP (E++E') t=some v0:=by
       intro E E' h;induction E with
       |nil=>simp[bP]at h
       |cons p r ih=>
        grind[bP]
      exact app e1
     ·rw[AV.val_agr e v (acr.1 T _ (nG hl))];refine hE t v ?_;have:=acr.1 hno _ (nG hl);rw[FK (by simp_all)];exact hl
    ·rw[show live (uA sh KE KF nb cb d').d KF=KF from Az KF,afo];refine ao.append ?_ ?_
     ·simp only[uA,afo];refine ao.append (Qi u hF i hd D F) (E7 (η:=η) (η':=η') u hF rfl g2 z ?_ λj l l' e1 J=>?_)
      ·have:=I3 L;grind
      ·have hl1:=I3 L;rw[afS]at J;grind
     ·intro A I;obtain⟨f,hf,rfl⟩:=acG.1 I;have H:=M _ (acG.2 ⟨f,adF _ hf,rfl⟩);have V:=acr.1 U f hf;rw[AF.ha_agr e f V];have:=HA.ren_holds u _ H;grind[UK,AF.ha_uses,Nat.eq_of_beq_eq_true,List.all_eq_true]
    ·intro A I;have:=HA.ren_holds u _ (hL.1 A I);rwa [UK A (λk hk=>by
      have:=N.old A I k hk;match k,this with
      |0,_=>exact u.z
      |1,_=>exact u.o) (by grind)]at this
    ·have:=abM Z;have hz:=e m (by simp only[out,afz];exact .inl (aeo (by omega)));grind
  ·cases h
 ·cases h
end
section
variable [X:XTab] [G:GTab] [Yc:GCx]
def sQ:(t:TC)->EI->t.den->List TypeId->Nat->Nat->Option (List AF)
 |.pair a b,c,x,os,q,n=>match sQ a c.fst x.1 os q n,sQ b c.snd x.2 (os.drop a.nh) (q+a.nh) (n+a.nh)with
  |some f,some g=>some (f++g)
  |_,_=>none
 |.slice t,c,x,os,q,n=>match os with
  |e::_=>bif Jr t e c then some [.own t e q [] x n]else none
  |[]=>none
 |.st t,c,x,os,q,n=>sQ t c x os q n
 |.node,_,_,_,_,_=>none
 |.mp _ _,_,_,_,_,_=>none
 |.sc _,_,_,_,_,_=>some []
 |.arr _ _,_,_,_,_,_=>some []
 |.unit,_,_,_,_,_=>some []
 |.ext _,_,_,_,_,_=>some []
theorem ast{t:TC}{e:TypeId}{g:EI}(h:Jr t e g=true){c:aS}{i:Nat}{S:Nat->Prop}{xs:List t.den}{v:Hd}(k:∀b,S b->c b=i)(j:cJ w S (.slice t.ty) g xs v):HA.holds w c (ep t.ty e i K xs v):=by
 have d:cJ w (λb=>c b=i) (.slice t.ty) g xs v:=j.mono k;unfold Jr at h;cases f:fk e
 ·grind[dK,Nat.eq_of_beq_eq_true,cJ.plain]
 ·rw[f]at h;rw[iT f];simp only[abv]at h;rw[<-EI.eqb_eq h]at d;exact d
open Classical in
theorem DL{o:Vn}{w:World}:∀(t:TC) {d:EI} {x:t.den} {y:t.ty.Refs} {os:List TypeId} {q n:Nat} {f:List AF} {S:Nat->Prop},sQ t d x os q n=some f->fK o n (cF t y)->cJ w S t.ty d x y ->
  ∃cl:Nat->Nat,(∀b,S b->q<=cl b)/\∀c':aS,(∀b,S b->c' b=cl b)->ao w c' (f.map (AF.ha o))
 |.sc _,d,x,y,os,q,n,f,S,h,c,i=>by simp only[sQ,no]at h;subst h;exact⟨λ_=>q,λ_ _=>ad3 _,λ_ _=>ao.nil _ _⟩
 |.arr _ _,d,x,y,os,q,n,f,S,h,c,i=>by simp only[sQ,no]at h;subst h;exact⟨λ_=>q,λ_ _=>ad3 _,λ_ _=>ao.nil _ _⟩
 |.unit,d,x,y,os,q,n,f,S,h,c,i=>by simp only[sQ,no]at h;subst h;exact⟨λ_=>q,λ_ _=>ad3 _,λ_ _=>ao.nil _ _⟩
 |.ext _,d,x,y,os,q,n,f,S,h,c,i=>by simp only[sQ,no]at h;subst h;exact⟨λ_=>q,λ_ _=>ad3 _,λ_ _=>ao.nil _ _⟩
 |.node,d,x,y,os,q,n,f,S,h,c,i=>by simp[sQ]at h
 |.mp _ _,d,x,y,os,q,n,f,S,h,c,i=>by simp[sQ]at h
 |.st t,d,x,y,os,q,n,f,S,h,c,i=>DL t h c i
 | .slice t,d,x,y,os,q,n,f,S,h,c,i=>by
  cases os with
  |nil=>simp[sQ]at h
  |cons e os=>
   simp only[sQ]at h;cases j:Jr t e d
   ·rw[j]at h;cases h
   rw[j]at h;simp only[abv,no]at h;subst h;refine⟨λ_=>q,λ_ _=>ad3 _,λc' k=>ao.cons ?_ (ao.nil _ _)⟩;have m:=c 0 y rfl;rw[afu]at m;simp only[AF.ha,m];exact ast j k i
 | .pair a b,d,x,y,os,q,n,f,S,h,c,i=>by
  simp only[sQ]at h;split at h
  ·rename_i F H ha E;simp only[no]at h;subst h;obtain⟨Sa,z,A,D⟩:=cJ.fst i;obtain⟨l,p,s⟩:=DL a ha (fK.left c) A;obtain⟨cb,u,v⟩:=DL b E (fK.right c (dh a y.1)) D;refine⟨λg=>if Sa g then l g else cb g,λg j=>?_,λc' k=>?_⟩
   ·show q<=if Sa g then l g else cb g
    split
    ·exact p g (by assumption)
    ·have:=u g ⟨j,by assumption⟩;omega
   ·rw[afo];refine ao.append (s c' λg j=>?_) (v c' λg j=>?_)
    ·rw[k g (z g j)];simp[j]
    ·rw[k g j.1];simp[j.2]
  ·cases h
inductive Gh
 |up (t:Nat) (os:List TypeId)
 |pk (t:Nat)
 |p0 (t:Nat) (j:Option Nat) (e:TypeId)
 |pf (t:Nat) (j:Option Nat)
 |ug (t:Nat) (j:Option Nat) (q:Option Nat) (te:TC) (os:List TypeId)
 |pa
 |pr (t:Nat) (j:Option Nat)
 |uh (t j j2:Nat) (te:TC) (os:List TypeId)
def GB(κ:List Nat)(F:List AF):List AF:=F.filter λf=>!(gF κ f)
def sUp{R:Type}(B:Nat)(os:List TypeId)(h:Nat)(te:TC)(i:Int)(KE:SE)(KF:List AF)(S:SS)(K:SS->Option R):Option R:=match lu te h (S.F++live S.d KF)with
 | some ⟨some (e,ci),_,xs⟩=>match fk e,gq e with
  |true,.row _ s=>(ae xs i).bind λx=>match sQ te s x os S.nc S.nn with
   |some f=>bif Nat.ble 2 ci&&Nat.ble 2 S.nc&&Nat.ble te.nh 64&&lT S.nn (S.E++KE) (S.F++live S.d KF)&&Nat.ble B S.nn then K ⟨S.E,(.hol te e ci xs h i (jK te x S.nn)::f)++GB [ci] S.F,S.nn+64,S.nc+256,[ci]++S.d⟩else none
   |none=>none
  |_,_=>K S
 |_=>K S
def sPk{R:Type}(B:Nat)(h:Nat)(te:TC)(KE:SE)(KF:List AF)(S:SS)(K:SS->Option R):Option R:=match pn te h (S.F++live S.d KF)with
 | some s=>match fk s.e,gq s.e with
  |true,.row _ c=>match mK (S.F++live S.d KF) te c s.cs with
   | some (x,_,b,[])=>bif Nat.ble 2 s.i&&b.all (λk=>Nat.ble 2 k && !(Nat.beq k s.i))&&lT S.nn (S.E++KE) (S.F++live S.d KF)&&Nat.ble B S.nn then
     K ⟨S.E,[.own te s.e s.i [] (s.xs.set s.k.toNat x) h]++GB (s.i::b) S.F,S.nn,S.nc,(s.i::b)++S.d⟩else none
   |_=>none
  |_,_=>none
 |none=>K S
def ghH(E:SE)(F:List AF)(t:Nat)(j:Option Nat):Option Nat:=match bP E t,j with
 |some (.lf (.sl h)),none=>some h
 | some (.lf (.bp b 0)),some j=>match i6 b F with
  |some (_,cs)=>match cs[j]? with
   |some (.sl h)=>some h
   |_=>none
  |none=>none
 | some (.lf (.rp h te _ _ _)),some j=>match pn te h F with
  |some s=>match s.cs[j]? with
   |some (.sl h)=>some h
   |_=>none
  |none=>none
 |_,_=>none
def T3(code:TypeId)(h:Nat):List AF->Option (List AF×Nat×Bool)
 |[]=>none
 |.own te e ci K xs h'::r=>bif Nat.beq h h' then(match gq code with
  |.row b _=>bif Nat.beq e b&&Nat.blt e 1048576 then some ([.pt te code ci K xs h 0,.rep te (ci::K) xs h],ci,true)else none
  |_=>none)else T3 code h r
 |_::r=>T3 code h r
def Ux(h:Nat):List AF->Option (List AF×Nat×Bool)
 |[]=>none
 |.pt te e ci _ xs h' m::r=>bif Nat.beq h h' then(bif fk e then some ([.own te e ci [] xs h],ci,decide ((xs.length:Int)<=m))else none)else Ux h r
 |_::r=>Ux h r
def Vh(h:Nat)(all:List AF):List AF->Option (List AF×Nat×Bool)
 |[]=>none
 |.hol te _ ci xs h' k cs::r=>bif Nat.beq h h' then(match bV all te cs with
  |some (x,_,b,[])=>some ([.rep te (ci::b) (xs.set k.toNat x) h],ci,true)
  |_=>none)else Vh h all r
 |_::r=>Vh h all r
def sPt{R:Type}(B:Nat)(KE:SE)(KF:List AF)(S:SS)(m:Option (List AF×Nat×Bool))(K:SS->Option R):Option R:=match m with
 |some (f,ci,b)=>bif Nat.ble 2 ci&&lT S.nn (S.E++KE) (S.F++live S.d KF)&&Nat.ble B S.nn then(bif b then K ⟨S.E,f++GB [ci] S.F,S.nn,S.nc,[ci]++S.d⟩else none)else none
 |none=>none
def ghI(E:SE)(F:List AF)(te:TC)(h:Nat)(q:Option Nat):Option Int:=match q with
 |some t=>bif Nat.ble 1000000 t then some ((t-1000000:Nat):Int)else match bP E t with
  |some (.lf (.c (.int _) i))=>some i
  |_=>none
 |none=>match lu te h F with
  |some s=>some (ac ((s.xs.length:Int)-1))
  |none=>none
def paI(all:List AF):List AF->Option (Nat×TC)
 |[]=>none
 | .hol te e _ _ h _ cs::r=>match gq e with
  |.row _ b=>match mK all te b cs with
   |some _=>some (h,te)
   |none=>paI all r
  |_=>paI all r
 |_::r=>paI all r
def ag8(h j2:Nat):List AF->Option Nat
 |[]=>none
 |.hol _ _ _ _ h' _ cs::r=>bif Nat.beq h h' then(match cs[j2]? with
  |some (.sl b)=>some b
  |_=>none)else ag8 h j2 r
 |_::r=>ag8 h j2 r
def Z6{R:Type}(B:Nat)(KE:SE)(KF:List AF)(g:Gh)(S:SS)(K:SS->Option R):Option R:=match g with
 | .up t os=>match bP (S.E++KE) t with
  |some (.lf (.rp h te i _ _))=>match pn te h (S.F++live S.d KF)with
   |some _=>K S
   |none=>sUp B os h te i KE KF S K
  |_=>K S
 |.pk t=>match bP (S.E++KE) t with
  |some (.lf (.rp h te _ _ _))=>sPk B h te KE KF S K
  |_=>K S
 |.p0 t j e=>match ghH (S.E++KE) (S.F++live S.d KF) t j with
  |some h=>sPt B KE KF S (T3 e h (S.F++live S.d KF)) K
  |none=>none
 |.pf t j=>match ghH (S.E++KE) (S.F++live S.d KF) t j with
  |some h=>sPt B KE KF S (Ux h (S.F++live S.d KF)) K
  |none=>none
 | .ug t j q te os=>match ghH (S.E++KE) (S.F++live S.d KF) t j with
  | some h=>match pn te h (S.F++live S.d KF)with
   |some _=>K S
   |none=>match ghI (S.E++KE) (S.F++live S.d KF) te h q with
    |some i=>sUp B os h te i KE KF S K
    |none=>none
  |none=>none
 | .uh t j j2 te os=>match ghH (S.E++KE) (S.F++live S.d KF) t (some j)with
  | some b=>match ag8 b j2 (S.F++live S.d KF)with
   | some h=>match pn te h (S.F++live S.d KF)with
    |some _=>K S
    |none=>match ghI (S.E++KE) (S.F++live S.d KF) te h none with
     |some i=>sUp B os h te i KE KF S K
     |none=>none
   |none=>none
  |none=>none
 |.pr t j=>match ghH (S.E++KE) (S.F++live S.d KF) t j with
  |some h=>sPt B KE KF S (Vh h (S.F++live S.d KF) (S.F++live S.d KF)) K
  |none=>none
 |.pa=>match paI (S.F++live S.d KF) (S.F++live S.d KF)with
  |some (h,te)=>sPk B h te KE KF S K
  |none=>K S
def B7{R:Type}(B:Nat)(KE:SE)(KF:List AF):List Gh->SS->(SS->Option R)->Option R
 |[],S,K=>K S
 |g::r,S,K=>Z6 B KE KF g S λS'=>B7 B KE KF r S' K
theorem Hq[Rd]{B nt:Nat}{L0:List HA}{β:Vn}(x:L0ok L0){KE:SE}{KF:List AF}{S:SS}{κ:List Nat}{new:List AF}{nn nc:Nat}(F:S.nn<=nn)(b:lT S.nn (S.E++KE) (S.F++live S.d KF)=true)(N:B<=S.nn)(L:∀k∈κ,2<=k)(D:gj B nt L0 β KE KF S a w)
  (g:∀(η:Vn) (c:aS),ao w c ((S.F++live S.d KF).map (AF.ha η))->∃(η':Vn) (c':aS),η.agr S.nn η'/\Stp κ w c w c'/\ao w c' (new.map (AF.ha η'))) :
  gj B nt L0 β KE KF ⟨S.E,new++GB κ S.F,nn,nc,κ++S.d⟩ a w:=by
 obtain⟨η,c,ρ,ha,z,u,E,I⟩:=D;obtain⟨η',c',d,e,p⟩:=g η c u;simp only[lT,abF]at b;have q:∀m,Nat.blt m S.nn=true->out S.nn m=true:=λm j=>by simp[out,j]
 have y:∀m,okN S.nn [] m=true->out S.nn m=true:=λm j=>by grind[okN]
 have l:∀f∈S.F++live S.d KF,f.free S.nn=true:=λf hf=>by have:=AF.okN_free (n:=S.nn) (cl:=[]) (i:=0) (by simp) f (acr.1 b.2 f hf);grind
 refine⟨η',c',ρ,ha,λt v hl=>?_,?_,?_,λm j=>?_⟩
 ·have H:=AV.okN_free (n:=S.nn) (cl:=[]) (i:=0) (by simp) v (acr.1 b.1 _ (nG hl));rw[AV.val_agr d v (by simpa using H)];exact z t v hl
 ·intro A s;obtain⟨f,hf,rfl⟩:=acG.1 s;rcases aef.1 hf with hf|hf
  ·rcases aef.1 hf with hf|hf
   ·exact p _ (acG.2 ⟨f,hf,rfl⟩)
   ·obtain⟨hf,h⟩:=ae2.1 hf;rw[AF.ha_agr d f (l f (ad2 _ hf))];exact HA.stp e _ (λk o=>sC (by simpa using h) k (by rwa [AF.ha_uses]at o)) (u _ (acG.2 ⟨f,ad2 _ hf,rfl⟩))
  ·obtain⟨hf,h⟩:=ae2.1 hf;simp only[afm]at h;rw[uj,afJ]at h;have j:f∈S.F++live S.d KF:=adF _ (ae2.2 ⟨hf,by simp[h.2]⟩);rw[AF.ha_agr d f (l f j)];exact HA.stp e _ (λk o=>sC h.1 k (by rwa [AF.ha_uses]at o)) (u _ (acG.2 ⟨f,j,rfl⟩))
 ·intro A s;refine HA.stp e A (λk o J=>?_) (E A s);have M:=x.old A s k o;grind
 ·have:=d m (q m (aeo (by omega)));grind
theorem Fh{κ:List Nat}{c c':aS}(d:∀b,c b∉κ->c' b=c b)(e:∀b,c b∈κ->2<=c' b):Stp κ w c w c' :=
 ⟨ad3 _,λb _ h=>d b h,λ_ _ _=>rfl,λb f h=>e b (h f).1,gU.refl w⟩
section
variable {R:Type} {B nt:Nat} {L0:List HA} {β:Vn} {KE:SE} {KF:List AF} {S:SS} {K:SS->Option R} {r:R}
def Pg[Rd](B nt:Nat)(KE:SE)(KF:List AF)(S:SS)(K:SS->Option R)(r:R):Prop:=∃S',K S'=some r/\∀{L0:List HA} {β:Vn},L0ok L0->∀a w,gj B nt L0 β KE KF S a w->gj B nt L0 β KE KF S' a w
theorem OR[Rd]{os:List TypeId}{h:Nat}{te:TC}{i:Int}(d:sUp B os h te i KE KF S K=some r):Pg B nt KE KF S K r:=by
 classical
 unfold sUp at d;split at d
 ·rename_i e ci H xs hs;split at d
  ·rename_i V s D z;obtain⟨x,O,d⟩:=bind_some d;split at d
   ·rename_i f hf;cases u:(Nat.ble 2 ci&&Nat.ble 2 S.nc&&Nat.ble te.nh 64&&lT S.nn (S.E++KE) (S.F++live S.d KF)&&Nat.ble B S.nn)
    ·grind
    rw[u]at d;simp only[abv]at d;simp only[abF]at u;obtain⟨⟨⟨⟨q,E⟩,k⟩,g⟩,L⟩:=u;have q:=abM q;have E:=abM E;have k:=abM k;refine⟨_,d,λ{L0 β} t a w N=>Hq t (by omega) g (abM L) (by simpa using q) N λj c M=>?_⟩;have F:HA.holds w c (ep te.ty e ci H xs (j.h h)):=M _ (acG.2 ⟨_,f5 hs,rfl⟩);rw[iT D]at F;obtain⟨_,m,_⟩:=kK O;obtain⟨y,S2,Y,T,U⟩:=cJ.open z m (show cJ w (λb=>c b=ci) (.slice te.ty) (gq e) xs (j.h h)from F);have o:fK (j.set S.nn (cF te y)) S.nn (cF te y):=fK.set;obtain⟨cl,W,Q⟩:=DL te hf o U;have l:j.agr S.nn (j.set S.nn (cF te y)):=Vn.set_agr (by rw[dh];exact k);let c':aS:=λb=>if S2 b then cl b else c b
    have v:∀b,S2 b->c' b=cl b:=λb p=>by simp[c',p]
    have A:(j.set S.nn (cF te y)).h h=j.h h:=by
     have:=g;simp only[lT,abF]at this;have I:=AF.okN_free (n:=S.nn) (cl:=[]) (i:=0) (by simp) _ (acr.1 this.2 _ (f5 hs));have J:out S.nn h=true:=by simpa[SI.fact,AF.free]using I
     exact(l h J).1
    refine⟨j.set S.nn (cF te y),c',l,Fh (λb p=>?_) (λb p=>?_),?_⟩
    ·grind
    ·grind
    ·rw[aev];refine ao.cons ?_ (Q c' v);show ka w (λb=>c' b=ci) te.ty e xs ((j.set S.nn (cF te y)).h h) i.toNat (aw (j.set S.nn (cF te y)) (jK te x S.nn));rw[A,pm te x y S.nn o];refine T.keep (jb.of λb p=>?_);grind
   ·cases d
  ·exact⟨S,d,λ_ _ _ h=>h⟩
 ·exact⟨S,d,λ_ _ _ h=>h⟩
theorem adG[Rd]{h:Nat}{te:TC}(d:sPk B h te KE KF S K=some r):Pg B nt KE KF S K r:=by
 classical
 unfold sPk at d;split at d
 ·rename_i s hs;split at d
  ·rename_i F H n z;split at d
   ·rename_i x l i hd;cases m:(Nat.ble 2 s.i&&i.all (λk=>Nat.ble 2 k && !(Nat.beq k s.i))&&lT S.nn (S.E++KE) (S.F++live S.d KF)&&Nat.ble B S.nn)
    ·grind
    rw[m]at d;simp only[abv]at d;simp only[abF]at m;obtain⟨⟨⟨q,A⟩,f⟩,u⟩:=m;have q:=abM q;have D:∀k∈i,2<=k/\k≠s.i:=λk g=>by have:=acr.1 A k g;simp only[abF]at this;exact⟨abM this.1,λe=>by simp_all⟩
    refine⟨_,d,λ{L0 β} j a w v=>Hq j (ad3 _) f (abM u) (λk g=>by grind) v λη c t=>?_⟩;have g:=At hs t;obtain⟨o,E,p⟩:=tZ (η:=η) te hd;have p:=p w c t;simp only[aw,ad0]at o;have g:ka w (λb=>c b=s.i) te.ty s.e s.xs (η.h h) s.k.toNat (aw η s.cs):=g;rw[o]at g;let c':aS:=λb=>if c b∈i then s.i else c b
    refine⟨η,c',Vn.agr_refl _ η,Fh (λb y=>?_) (λb y=>?_),?_⟩
    ·grind
    ·grind
    ·refine ao.cons ?_ (ao.nil _ _);show HA.holds w c' (ep te.ty s.e s.i [] (s.xs.set s.k.toNat x) (η.h h));rw[iT n];show cJ w (λb=>c' b=s.i) (.slice te.ty) (gq s.e) (s.xs.set s.k.toNat x) (η.h h);grind[ka.close]
   ·cases d
  ·cases d
 ·exact⟨S,d,λ_ _ _ h=>h⟩
theorem eZ{c:aS}{A:HA}{L:List HA}(h:ao w c (A::L)):ao w c L:=λB b=>h B (abJ _ b)
theorem pK{code:TypeId}{h:Nat}{m:Vn}{w:World}{c:aS}:∀{F:List AF} {f:List AF} {ci:Nat} {b:Bool},T3 code h F=some (f,ci,b)->b=true->ao w c (F.map (AF.ha m))->ao w c (f.map (AF.ha m))
 |[],_,_,_,hs,_,_=>by simp[T3]at hs
 | .own te e i K xs h'::r,f,ci,b,hs,g,d=>by
  simp only[T3]at hs;cases k:Nat.beq h h'
  ·rw[k]at hs;exact pK hs g (eZ d)
  ·rw[k]at hs;simp only[abv]at hs;split at hs
   ·rename_i p s l;cases j:(Nat.beq e p&&Nat.blt e 1048576)
    ·grind
    rw[j]at hs;simp only[abv,no,acW]at hs;obtain⟨rfl,rfl,rfl⟩:=hs;simp only[abF]at j;obtain rfl:=f9 j.1;obtain rfl:=f9 k;have n:HA.holds w c (ep te.ty e i K xs (m.h h)):=d _ (adT);rw[dK (fF j.2)]at n;have o:=aqM l j.2 n;exact ao.cons o (ao.cons (NW o) (ao.nil _ _))
   ·cases hs
 |.rep _ _ _ _::r,_,_,_,hs,g,d=>pK (F:=r) hs g (eZ d)
 |.box _ _ _::r,_,_,_,hs,g,d=>pK (F:=r) hs g (eZ d)
 |.isn _ _::r,_,_,_,hs,g,d=>pK (F:=r) hs g (eZ d)
 |.ag _::r,_,_,_,hs,g,d=>pK (F:=r) hs g (eZ d)
 |.prt _ _ _ _ _::r,_,_,_,hs,g,d=>pK (F:=r) hs g (eZ d)
 |.pbx _ _ _ _ _::r,_,_,_,hs,g,d=>pK (F:=r) hs g (eZ d)
 |.hol _ _ _ _ _ _ _::r,_,_,_,hs,g,d=>pK (F:=r) hs g (eZ d)
 |.mp _ _ _ _ _::r,_,_,_,hs,g,d=>pK (F:=r) hs g (eZ d)
 |.pt _ _ _ _ _ _ _::r,_,_,_,hs,g,d=>pK (F:=r) hs g (eZ d)
theorem pC{h:Nat}{j:Vn}{w:World}{c:aS}:∀{F:List AF} {f:List AF} {ci:Nat} {b:Bool},Ux h F=some (f,ci,b)->b=true->ao w c (F.map (AF.ha j))->ao w c (f.map (AF.ha j))
 |[],_,_,_,hs,_,_=>by simp[Ux]at hs
 | .pt te e i K xs h' m::r,f,ci,b,hs,g,d=>by
  simp only[Ux]at hs;cases k:Nat.beq h h'
  ·rw[k]at hs;exact pC hs g (eZ d)
  ·rw[k]at hs;simp only[abv]at hs;cases l:fk e
   ·grind
   rw[l]at hs;simp only[abv,no,acW]at hs;obtain⟨rfl,rfl,rfl⟩:=hs;obtain rfl:=f9 k;have n:HA.holds w c (.pt te.ty e i K xs (j.h h) m):=d _ (adT);refine ao.cons ?_ (ao.nil _ _);show HA.holds w c (ep te.ty e i [] xs (j.h h));grind[iT,ar6]
 |.own _ _ _ _ _ _::r,_,_,_,hs,g,d=>pC (F:=r) hs g (eZ d)
 |.rep _ _ _ _::r,_,_,_,hs,g,d=>pC (F:=r) hs g (eZ d)
 |.box _ _ _::r,_,_,_,hs,g,d=>pC (F:=r) hs g (eZ d)
 |.isn _ _::r,_,_,_,hs,g,d=>pC (F:=r) hs g (eZ d)
 |.ag _::r,_,_,_,hs,g,d=>pC (F:=r) hs g (eZ d)
 |.prt _ _ _ _ _::r,_,_,_,hs,g,d=>pC (F:=r) hs g (eZ d)
 |.pbx _ _ _ _ _::r,_,_,_,hs,g,d=>pC (F:=r) hs g (eZ d)
 |.hol _ _ _ _ _ _ _::r,_,_,_,hs,g,d=>pC (F:=r) hs g (eZ d)
 |.mp _ _ _ _ _::r,_,_,_,hs,g,d=>pC (F:=r) hs g (eZ d)
theorem px{h:Nat}{all:List AF}{η:Vn}{w:World}{c:aS}(n:ao w c (all.map (AF.ha η))):∀{F:List AF} {f:List AF} {ci:Nat} {b:Bool},Vh h all F=some (f,ci,b)->ao w c (F.map (AF.ha η))->ao w c (f.map (AF.ha η))
 |[],_,_,_,hs,_=>by simp[Vh]at hs
 | .hol te e i xs h' k cs::r,f,ci,b,hs,m=>by
  simp only[Vh]at hs;cases q:Nat.beq h h'
  ·rw[q]at hs;exact px n hs (eZ m)
  ·rw[q]at hs;simp only[abv]at hs;split at hs
   ·rename_i x l u hd;simp only[no,acW]at hs;obtain⟨rfl,rfl,rfl⟩:=hs;obtain rfl:=f9 q;have I:HA.holds w c (.hol te.ty e i xs (η.h h) k.toNat (aw η cs)):=m _ (adT);obtain⟨d,z,s,ys,V,o,t,J,⟨g,cap,p,L,A,D,E,O,H,Q,T⟩,U⟩:=(show ka w (λb=>c b=i) te.ty e xs (η.h h) k.toNat (aw η cs)from I)
    obtain⟨v,y⟩:=dO (η:=η) te hd;simp only[aw,ad0]at v;have y:=y w c (i::u) n (λk t=>abJ _ t);refine ao.cons ?_ (ao.nil _ _);show bH w (λb=>c b∈i::u) (.slice te.ty) (xs.set k.toNat x) (η.h h);rw[L];refine⟨ys.set k.toNat (aO te (aT η l)),kv (by grind) λj W Y M N => ?_,?_⟩
    ·grind[List.getElem?_set_ne,bD.rep]
    ·refine⟨by simp,by simpa using D,E,.inr ⟨g,0,p,z,(0,0),rfl,by grind,A,by grind,?_⟩⟩;rw[uy o t,<-v,<-H];simp
   ·cases hs
 |.own _ _ _ _ _ _::r,_,_,_,hs,m=>px n (F:=r) hs (eZ m)
 |.rep _ _ _ _::r,_,_,_,hs,m=>px n (F:=r) hs (eZ m)
 |.box _ _ _::r,_,_,_,hs,m=>px n (F:=r) hs (eZ m)
 |.isn _ _::r,_,_,_,hs,m=>px n (F:=r) hs (eZ m)
 |.ag _::r,_,_,_,hs,m=>px n (F:=r) hs (eZ m)
 |.prt _ _ _ _ _::r,_,_,_,hs,m=>px n (F:=r) hs (eZ m)
 |.pbx _ _ _ _ _::r,_,_,_,hs,m=>px n (F:=r) hs (eZ m)
 |.pt _ _ _ _ _ _ _::r,_,_,_,hs,m=>px n (F:=r) hs (eZ m)
 |.mp _ _ _ _ _::r,_,_,_,hs,m=>px n (F:=r) hs (eZ m)
theorem OJ[Rd]{m:Option (List AF×Nat×Bool)}(o:∀{f:List AF} {ci:Nat} {b:Bool},m=some (f,ci,b)->b=true->∀(g:Vn) (w:World) (c:aS),ao w c ((S.F++live S.d KF).map (AF.ha g))->ao w c (f.map (AF.ha g)))(d:sPt B KE KF S m K=some r):Pg B nt KE KF S K r:=by
 unfold sPt at d;split at d
 ·rename_i f ci b;cases j:(Nat.ble 2 ci&&lT S.nn (S.E++KE) (S.F++live S.d KF)&&Nat.ble B S.nn)
  ·grind
  rw[j]at d;simp only[abv]at d;cases b
  ·cases d
  simp only[abv]at d;simp only[abF]at j;obtain⟨⟨h,e⟩,k⟩:=j;have h:=abM h;exact⟨_,d,λ{L0 β} i a w n=>Hq i (ad3 _) e (abM k) (by simpa using h) n λg c l=>
   ⟨g,c,Vn.agr_refl _ g,Fh (λ_ _=>rfl) (λb p=>by grind),o rfl rfl g w c l⟩⟩
 ·cases d
theorem ar8[Rd]{g:Gh}(b:Z6 B KE KF g S K=some r):Pg B nt KE KF S K r:=by
 unfold Z6 at b;split at b
 ·split at b
  ·split at b
   ·exact⟨S,b,λ_ _ _ h=>h⟩
   ·exact OR b
  ·exact⟨S,b,λ_ _ _ h=>h⟩
 ·split at b
  ·exact adG b
  ·exact⟨S,b,λ_ _ _ h=>h⟩
 ·grind[OJ,pK]
 ·grind[OJ,pC]
 ·split at b
  ·split at b
   ·exact⟨S,b,λ_ _ _ h=>h⟩
   grind[OR]
  ·cases b
 ·split at b
  ·split at b
   ·split at b
    ·exact⟨S,b,λ_ _ _ h=>h⟩
    grind[OR]
   ·cases b
  ·cases b
 ·grind[OJ,px]
 ·split at b
  ·exact adG b
  ·exact⟨S,b,λ_ _ _ h=>h⟩
theorem BL[Rd]:∀{gs:List Gh} {S:SS} {K:SS->Option R},B7 B KE KF gs S K=some r->Pg B nt KE KF S K r
 |[],S,K,h=>⟨S,h,λ_ _ _ h=>h⟩
 |g::gs,S,K,h=>by obtain⟨S',c,d⟩:=ar8 (nt:=nt) (show Z6 B KE KF g S (λS'=>B7 B KE KF gs S' K)=some r from h);obtain⟨S2,e,f⟩:=BL (gs:=gs) c;exact⟨S2,e,λ{L0 β} b a w i=>f b a w (d b a w i)⟩
end
end
section
variable [X:XTab] [G:GTab] [Yc:GCx]
class Itr where
 it : {S R:Type}->(S->Option (S⊕R))->S->Option R
 ok:∀{S R:Type} (f:S->Option (S⊕R)) (s:S) (r:R),it f s=some r->∃n,ov f n s=some r
def EL:Nat:=9223372036854775808
@[reducible] def itF:Itr:=⟨λf s=>ov f EL s,λ_ _ _ h=>⟨EL,h⟩⟩
inductive An
 |z
 |s (a b:An)
 |u (a:An)
 |j (sh:Shp) (ne:Bool) (a b:An)
 |l (sh:Shp) (a:An)
 |g (gs:List Gh)
 |gg (gs ps:List Gh)
 |k (ws:List Nat) (gs ps:List Gh)
def An.gh:An->List Gh
 |.g gs=>gs
 |.gg gs _=>gs
 |.k _ gs _=>gs
 |_=>[]
def An.pg:An->List Gh
 |.gg _ ps=>ps
 |.k _ _ ps=>ps
 |_=>[]
def kdS(E:SE)(F:List AF)(t:Nat):List Nat:=bif Nat.beq t 2000001 then(F.flatMap λf=>match f with
  |.own _ _ i _ _ _=>[i]
  |_=>[])else bif Nat.beq t 2000000 then(F.flatMap λf=>match f with
  |.own _ _ i _ _ _=>[i]
  |.hol _ _ i _ _ _ _=>[i]
  |.pt _ _ i _ _ _ _=>[i]
  |_=>[])else bif Nat.ble 1000000 t then(match bP E (t-1000000)with
  | some (.lf (.bp b _))=>let hs:=F.flatMap λf=>match f with
    |.box _ c cs=>bif Nat.beq b c then cs.flatMap Lf.hs else []
    |_=>[]
   F.flatMap λf=>match f with
    |.own _ _ i _ _ h=>bif bU h hs then [i]else []
    |.mp _ _ i _ h=>bif bU h hs then [i]else []
    |_=>[]
  |_=>[])else match bP E t with
 |some (.lf (.bp b _))=>F.flatMap λf=>match f with
  |.box i c _=>bif Nat.beq b c then [i]else []
  |_=>[]
 |some (.lf (.rp h _ _ _ _))=>F.flatMap λf=>match f with
  |.own _ _ i _ _ h'=>bif Nat.beq h h' then [i]else []
  |.hol _ _ i _ h' _ _=>bif Nat.beq h h' then [i]else []
  |.pt _ _ i _ _ h' _=>bif Nat.beq h h' then [i]else []
  |_=>[]
 |some (.lf (.sl h))=>F.flatMap λf=>match f with
  |.own _ _ i _ _ h'=>bif Nat.beq h h' then [i]else []
  |.hol _ _ i _ h' _ _=>bif Nat.beq h h' then [i]else []
  |.pt _ _ i _ _ h' _=>bif Nat.beq h h' then [i]else []
  |_=>[]
 |_=>[]
def An.fo:An->List Nat
 |.k ws _ _=>(ws.filter λt=>Nat.ble 3000000 t).map λt=>t-3000000
 |_=>[]
def An.kd(an:An)(E:SE)(F:List AF):Option (List Nat):=match an with
 |.k ws _ _=>some ((ws.filter λt=>Nat.blt t 3000000).flatMap (kdS E F))
 |_=>none
def An.ws:An->List Nat
 |.k ws _ _=>ws
 |_=>[]
def An.fst:An->An
 |.s a _=>a
 |.u a=>a
 |_=>.z
def An.snd:An->An
 |.s _ b=>b
 |_=>.z
structure Kn(R:Type) where
 n:SS->Option R
 r:SS->Option R
 x:Nat->SS->Option R
def AQ(E:SE):List Nat->SE
 |[]=>[]
 |t::r=>match bP E t with
  |some v=>(t,v)::AQ E r
  |none=>AQ E r
def DI(F:List AF)(l:Lf):List Nat:=match l with
 |.sl h=>F.flatMap λf=>match f with
  |.own _ _ i _ _ h'=>bif Nat.beq h h' then [i]else []
  |.hol _ _ i _ h' _ _=>bif Nat.beq h h' then [i]else []
  |.pt _ _ i _ _ h' _=>bif Nat.beq h h' then [i]else []
  |_=>[]
 |.mp h=>F.flatMap λf=>match f with
  |.mp _ _ i _ h'=>bif Nat.beq h h' then [i]else []
  |_=>[]
 |_=>[]
def ax1(F:List AF):AV->List Nat
 |.lf l=>DI F l
 |.ag ls=>ls.flatMap (DI F)
 |.tu _=>[]
def asp(E:SE)(F:List AF)(t:Nat):List Nat:=match bP E t with
 |some v=>ax1 F v
 |none=>[]
def awE(E:SE)(F KF:List AF)(t:Nat):List Nat:=match DU E t with
 |some (.lf (.bp b 0))=>match i6 b F with
  |some (i,cs)=>i::cs.flatMap (DI F)
  |none=>[]
 |some (.lf (.sl h))=>match mY h (F++KF)with
  |some (c,_,_,_)=>DI F (.sl c)
  |none=>[]
 |_=>[]
def atJ(sh:Shp)(KE:SE)(KF:List AF)(S:SS):List Nat:=(sh.vs.map (·.1)++sh.dead).flatMap (asp S.E S.F)++(sh.bx.map (·.1)).flatMap (awE (S.E++KE) S.F KF)
def vV(sh:Shp)(S:SS):SE:=AQ S.E sh.keep
def AV.hs:AV->List Nat
 |.lf l=>l.hs
 |.ag ls=>ls.flatMap Lf.hs
 |.tu _=>[]
def awU(E:SE)(t:Nat):List Nat:=match bP E t with
 |some v=>v.hs
 |none=>[]
def axD(E:SE)(F:List AF)(t:Nat):List Nat:=match DU E t with
 |some (.lf (.bp b 0))=>match i6 b F with
  |some (_,cs)=>cs.flatMap Lf.hs
  |none=>[]
 |_=>[]
def atr(sh:Shp)(KE:SE)(S:SS)(cs:List Nat):List Nat:=
 let out:=(vV sh S).flatMap (λp=>p.2.hs)++S.F.flatMap λf=>match f with
  |.box i _ ls=>bif bU i cs then []else ls.flatMap Lf.hs
  |_=>[]
 ((sh.vs.map (·.1)++sh.dead).flatMap (awU S.E)++(sh.bx.map (·.1)).flatMap (axD (S.E++KE) S.F)).filter λh=>!(bU h out)
def isH(m:List Nat)(f:AF):Bool:=match f with
 |.rep _ _ _ h=>bU h m
 |.own _ _ _ _ _ h=>bU h m
 |.isn h _=>bU h m
 |.ag _=>false
 |.box _ _ _=>false
 |.prt _ _ _ _ _=>false
 |.pbx _ _ _ _ _=>false
 |.hol _ _ _ _ h _ _=>bU h m
 |.mp _ _ _ _ h=>bU h m
 |.pt _ _ _ _ _ h _=>bU h m
def acV(cs m:List Nat)(f:AF):Bool:=gF cs f||isH m f
def AF.hsIn:AF->List Nat
 |.box _ _ cs=>cs.flatMap Lf.hs
 |.hol _ _ _ _ _ _ cs=>cs.flatMap Lf.hs
 |.prt a b _ _ _=>[a,b]
 |.pbx a _ _ _ _=>[a]
 |_=>[]
def AV.bs:AV->List Nat
 |.lf l=>l.bs
 |.ag ls=>ls.flatMap Lf.bs
 |.tu _=>[]
def AF.bsIn:AF->List Nat
 |.box _ _ cs=>cs.flatMap Lf.bs
 |.pbx _ b _ _ _=>[b]
 |.hol _ _ _ _ _ _ cs=>cs.flatMap Lf.bs
 |_=>[]
def avT(B:Nat)(c out:List Nat)(f:AF):Bool:=match f with
 |.rep _ _ _ h=>Nat.blt h B||bU h out
 |.own _ _ _ _ _ h=>Nat.blt h B||bU h out
 |.box _ b _=>Nat.blt b B||bU b c
 |_=>true
def DX(B:Nat)(sh:Shp)(KE:SE)(KF:List AF)(S:SS):List AF:=
 let cs:=atJ sh KE KF S;let m:=atr sh KE S cs
 let b:=(vV sh S++KE).flatMap (λp=>p.2.bs)++(S.F++KF).flatMap AF.bsIn
 let c:=S.F.filter (avT B b (S.F.flatMap λf=>match f with|.rep _ _ _ h=>[h] | .own _ _ _ _ _ h=>[h] | _=>[]))
 let out:=(vV sh S++KE).flatMap (λp=>p.2.hs)++(c++KF).flatMap AF.hsIn
 c.filter λf=>!(acV cs m f)&&avT B b out f
def inS(sh:Shp)(KE:SE)(KF:List AF)(S:SS):SS:=let cs:=atJ sh KE KF S;let m:=atr sh KE S cs; ⟨AQ S.E (sh.vs.map (·.1)++sh.dead),S.F.filter (acV cs m),S.nn+64,S.nc+256,[]⟩
def push(b:List Nat)(c:SE)(d:List AF)(S:SS):SS:=⟨S.E++c,S.F++live S.d d,S.nn,S.nc,S.d++b⟩
def Hz(KE:SE)(S:SS):Bool:=KE.all λp=>(bP S.E p.1).isNone
def unr{R:Type}(f:An->SS->(SS->Option R)->Option R):An->SS->Option R
 |.s a b,S=>f a S (unr f b)
 |_,_=>none
def mI[Itr](C:Cx)(nt:Nat):Code->(R:Type)->An->SE->List AF->SS->Kn R->Option R
 |.skip,_,_,_,_,S,K=>K.n S
 |.region _ l g,_,an,KE,KF,S,K=>B7 C.B KE KF an.gh S λS'=>Gg (C.dk (an.kd (S'.E++KE) (S'.F++live S'.d KF)) an.fo) nt g l.toList KE KF S' λj=>B7 C.B KE KF an.pg j K.n
 | .seq a b,R,an,KE,KF,S,K=>match an with
  | .j sh ne h m=>
   let e:=vV sh S
   let f:=DX C.B sh KE KF S
   bif Hz KE S then bif ne then
    (mI C nt a (zE sh.ls) h (e++KE) (f++live S.d KF) (inS sh KE KF S) ⟨D5 C.B sh (e++KE) (f++live S.d KF) S.nn S.nc,λ_=>none,λ_ _=>none⟩).bind λd=>
     mI C nt b R m KE KF (push S.d e f (uA sh (e++KE) (f++live S.d KF) S.nn S.nc d)) K
   else
    (mI C nt a (zE sh.ls⊕R) h (e++KE) (f++live S.d KF) (inS sh KE KF S) ⟨λS'=>(D5 C.B sh (e++KE) (f++live S.d KF) S.nn S.nc S').map .inl,λS'=>(K.r (push S.d e f S')).map .inr,λi S'=>(K.x i (push S.d e f S')).map .inr⟩).bind λz=>
     match z with
     |.inl d=>mI C nt b R m KE KF (push S.d e f (uA sh (e++KE) (f++live S.d KF) S.nn S.nc d)) K
     |.inr r=>some r
   else none
  |an=>mI C nt a R an.fst KE KF S ⟨λS'=>mI C nt b R an.snd KE KF S' K,K.r,K.x⟩
 |.cond c a b,R,an,KE,KF,S,K=>match ev (S.E++KE) c with
  |some (.lf (.c .bool x))=>bif x then mI C nt a R an.fst KE KF S K else mI C nt b R an.snd KE KF S K
  |_=>none
 |.block id a,R,an,KE,KF,S,K=>mI C nt a R an.fst KE KF S ⟨K.n,K.r,λi S'=>bif Nat.beq i id then K.n S' else K.x i S'⟩
 | .loop a,R,an,KE,KF,S,K=>match an with
  | .l sh h=>
   let e:=vV sh S
   let f:=DX C.B sh KE KF S
   bif Hz KE S then
    (D5 C.B sh (e++KE) (f++live S.d KF) S.nn S.nc (inS sh KE KF S)).bind λd0=>
    Itr.it (λd=>mI C nt a (zE sh.ls⊕R) h (e++KE) (f++live S.d KF) (uA sh (e++KE) (f++live S.d KF) S.nn S.nc d)
     ⟨λS'=>(D5 C.B sh (e++KE) (f++live S.d KF) S.nn S.nc S').map .inl,λS'=>(K.r (push S.d e f S')).map .inr,λi S'=>(K.x i (push S.d e f S')).map .inr⟩) d0
   else none
  |.s p q=>unr (λan S k=>mI C nt a R an KE KF S ⟨k,K.r,K.x⟩) (.s p q) S
  |_=>none
 |.exit id,_,an,KE,KF,S,K=>B7 C.B KE KF an.gh S (K.x id)
 |.ret,_,an,KE,KF,S,K=>B7 C.B KE KF an.gh S K.r
 |.label _,_,_,_,_,S,K=>K.n S
 |.scope a,R,an,KE,KF,S,K=>mI C nt a R an.fst KE KF S K
 |_,_,_,_,_,_,_=>none
section
variable {P:Program} {nt:Nat} {L0:List HA} {β:Vn} {C:Cx}
theorem gj.push[Rd]{KE d:SE}{KF e:List AF}{b:List Nat}{S:SS}(h:gj C.B nt L0 β (d++KE) (e++live b KF) S a w):gj C.B nt L0 β KE KF (Go.Sm.push b d e S) a w:=by obtain⟨j,c,ρ,ha,f,g,i⟩:=h;exact⟨j,c,ρ,ha,by simpa[Go.Sm.push,aeh]using f,by simpa[Go.Sm.push,aeh,S6,acH]using g,i⟩
theorem uP{E:SE}{t:Nat}{v:AV}:∀{ts:List Nat},bP (AQ E ts) t=some v->bP E t=some v
 |[],h=>by simp[AQ,bP]at h
 | s::r,h=>by
  simp only[AQ]at h;split at h
  ·rename_i u c;simp only[bP]at h;cases b:Nat.beq t s
   ·rw[b]at h;exact uP h
   simp_all
  ·exact uP h
theorem JG{E b:SE}{t:Nat}{v:AV}(h:bP E t=some v):bP (E++b) t=some v:=by
 induction E with
 |nil=>simp[bP]at h
 |cons p r c=>
  simp only[afO,bP]at h|-;grind
theorem abx{KE:SE}{S:SS}(h:Hz KE S=true){t:Nat}{v:AV}(hl:bP KE t=some v):bP (S.E++KE) t=some v:=by have:=acr.1 h _ (nG hl);rw[FK (by simp_all)];exact hl
theorem gj.split[Rd]{sh:Shp}{KE:SE}{KF:List AF}{S:SS}(hd:Hz KE S=true)(h:gj C.B nt L0 β KE KF S a w):gj C.B nt L0 β (vV sh S++KE) (DX C.B sh KE KF S++live S.d KF) (inS sh KE KF S) a w:=by
 obtain⟨η,c,ρ,ha,b,e,g⟩:=h;refine⟨η,c,ρ,ha,λt v hl=>?_,λA d=>?_,g⟩
 ·rcases qC hl with hl|hl
  ·exact b t v (JG (uP hl))
  ·rcases qC hl with hl|hl
   ·exact b t v (JG (uP hl))
   ·exact b t v (abx hd hl)
 ·rw[show(inS sh KE KF S).d=[]from rfl,Az]at d;obtain⟨f,hf,rfl⟩:=acG.1 d;refine e _ (acG.2 ⟨f,?_,rfl⟩);rcases aef.1 hf with hf|hf
  ·exact ad2 _ (ae2.1 hf).1
  ·rcases aef.1 hf with hf|hf
   ·exact ad2 _ (ae2.1 (ae2.1 hf).1).1
   grind
def Kn.ap{R:Type}(K:Kn R):Exit->SS->Option R
 |.normal,S=>K.n S
 |.ret,S=>K.r S
 |.exit i,S=>K.x i S
 |_,_=>none
theorem iv[Itr][Rd](E:C.ok P)(F:P.follows .mixedOrders=true):∀(cd:Code) {R:Type} {an:An} {KE:SE} {KF:List AF} {S:SS} {K:Kn R} {r:R},mI C nt cd R an KE KF S K=some r ->
  ∃e S',K.ap e S'=some r/\∀{L0:List HA} {β:Vn},L0ok L0->∀{Q:Exit->Act->World->Prop} {a:Act} {w:World},gj C.B nt L0 β KE KF S a w->(∀a w,gj C.B nt L0 β KE KF S' a w->Q e a w)->cd.wpIn tj 0 P Q a w
 |.skip,R,an,KE,KF,S,K,r,h=>⟨.normal,S,h,λf _ _ _ j n=>wpIn_skip (n _ _ j)⟩
 |.exit id,R,an,KE,KF,S,K,r,h=>by obtain⟨S',u,v⟩:=BL (nt:=nt) (show B7 C.B KE KF an.gh S (K.x id)=some r from h);exact⟨.exit id,S',u,λf _ _ _ j n=>wpIn_exit (n _ _ (v f _ _ j))⟩
 |.ret,R,an,KE,KF,S,K,r,h=>by obtain⟨S',u,v⟩:=BL (nt:=nt) (show B7 C.B KE KF an.gh S K.r=some r from h);exact⟨.ret,S',u,λf _ _ _ j n=>wpIn_ret (n _ _ (v f _ _ j))⟩
 |.region id ops Y,R,an,KE,KF,S,K,r,h=>by obtain⟨S0,h0,h00⟩:=BL (nt:=nt) (show B7 C.B KE KF an.gh S (λS'=>Gg (C.dk (an.kd (S'.E++KE) (S'.F++live S'.d KF)) an.fo) nt Y ops.toList KE KF S' λM=>B7 C.B KE KF an.pg M K.n)=some r from h);obtain⟨S',h1',v⟩:=adR (Cx.dk_ok E _ _) F h0;obtain⟨M,u,h3⟩:=BL (nt:=nt) h1';refine⟨.normal,M,u,λ{L0 β} f {Q a w} j n=>?_⟩;have:=v f id Q a w (h00 f a w j) (λa w g=>n a w (h3 f a w g));simp_all
 | .cond c x y,R,an,KE,KF,S,K,r,h=>by
  simp only[mI]at h;split at h
  ·rename_i b O;cases b with
   |true=>
    obtain⟨e,S',u,v⟩:=iv E F x h;refine⟨e,S',u,λ{L0 β} f {Q a w} j n=>?_⟩;have g:=j;obtain⟨η,cc,ρ,ha,hE,_,_⟩:=g;exact wpIn_cond_split (t:=true) (by rw[ha.eval];exact aK hE O) (λ_=>v f j n) (λhf=>by cases hf)
   |false=>
    obtain⟨e,S',u,v⟩:=iv E F y h;refine⟨e,S',u,λ{L0 β} f {Q a w} j n=>?_⟩;have g:=j;obtain⟨η,cc,ρ,ha,hE,_,_⟩:=g;exact wpIn_cond_split (t:=false) (by rw[ha.eval];exact aK hE O) (λhf=>by cases hf) (λ_=>v f j n)
  ·cases h
 | .block id x,R,an,KE,KF,S,K,r,h=>by
  simp only[mI]at h;obtain⟨e,S',u,v⟩:=iv E F x h;cases e with
  |normal=>exact⟨.normal,S',u,λf _ _ _ j n=>wpIn_block (v f j λa w g=>n a w g)⟩
  |ret=>exact⟨.ret,S',u,λf _ _ _ j n=>wpIn_block (v f j λa w g=>n a w g)⟩
  |exit i=>
   simp only[Kn.ap]at u;cases O:Nat.beq i id
   ·rw[O]at u;have U:i≠id:=afY O;refine⟨.exit i,S',u,λf _ _ _ j n=>wpIn_block (v f j λa w g => ?_)⟩;simp only[Exit.inBlock,if_neg U];grind
   ·rw[O]at u;obtain rfl:=f9 O;refine⟨.normal,S',u,λf _ _ _ j n=>wpIn_block (v f j λa w g => ?_)⟩;simp only[Exit.inBlock,aeP];grind
  |goto l=>cases u
  |panic N=>cases u
  |outgrown=>cases u
 | .seq x y,R,an,KE,KF,S,K,r,h=>by
  simp only[mI]at h;split at h
  ·rename_i sh ne aa ab;cases hd:Hz KE S
   ·grind
   ·rw[hd]at h;simp only[abv]at h;cases ne with
    |true=>
     simp only[abv]at h;obtain⟨d,u,v⟩:=bind_some h;obtain⟨H,S1,o,A⟩:=iv E F x u;obtain⟨I,S2,J,L⟩:=iv E F y v;cases H with
     |normal=>exact⟨I,S2,J,λf _ _ _ j n=>wpIn_seq (A f (j.split (sh:=sh) hd) λa w g=>L f (DA f o g).push n)⟩
     |ret=>cases o
     |exit i=>cases o
     |goto l=>cases o
     |panic N=>cases o
     |outgrown=>cases o
    | false=>
     simp only[ab7]at h;obtain⟨z,u,v⟩:=bind_some h;obtain⟨H,S1,o,A⟩:=iv E F x u;cases H with
     |normal=>
      simp only[Kn.ap,afe]at o;obtain⟨d,T,rfl⟩:=o;obtain⟨I,S2,J,L⟩:=iv E F y v;exact⟨I,S2,J,λf _ _ _ j n=>wpIn_seq (A f (j.split (sh:=sh) hd) λa w g=>L f (DA f T g).push n)⟩
     |ret=>
      simp only[Kn.ap,afe]at o;obtain⟨r',D,rfl⟩:=o;simp only[no]at v;subst v;exact⟨.ret,_,D,λf _ _ _ j n=>wpIn_seq (A f (j.split (sh:=sh) hd) λa w g=>n a w g.push)⟩
     |exit i=>
      simp only[Kn.ap,afe]at o;obtain⟨r',D,rfl⟩:=o;simp only[no]at v;subst v;exact⟨.exit i,_,D,λf _ _ _ j n=>wpIn_seq (A f (j.split (sh:=sh) hd) λa w g=>n a w g.push)⟩
     |goto l=>cases o
     |panic N=>cases o
     |outgrown=>cases o
  ·obtain⟨H,S1,o,A⟩:=iv E F x h;cases H with
   |normal=>
    obtain⟨I,S2,J,L⟩:=iv E F y o;exact⟨I,S2,J,λf _ _ _ j n=>wpIn_seq (A f j λa w g=>L f g n)⟩
   |ret=>exact⟨.ret,S1,o,λf _ _ _ j n=>wpIn_seq (A f j n)⟩
   |exit i=>exact⟨.exit i,S1,o,λf _ _ _ j n=>wpIn_seq (A f j n)⟩
   |goto l=>cases o
   |panic N=>cases o
   |outgrown=>cases o
 | .loop x,R,an,KE,KF,S,K,r,h=>by
  simp only[mI]at h;split at h
  ·rename_i sh aa;cases hd:Hz KE S
   ·grind
   ·rw [hd]at h;simp only[abv]at h;obtain⟨d0,u,v⟩:=bind_some h;have hI1:∀{L0:List HA} {β:Vn},L0ok L0->∀a w,gj C.B nt L0 β KE KF S a w->gj C.B nt L0 β (vV sh S++KE) (DX C.B sh KE KF S++live S.d KF) (uA sh (vV sh S++KE) (DX C.B sh KE KF S++live S.d KF) S.nn S.nc d0) a w:=λ{L0 β} f a w j=>DA f u (j.split (sh:=sh) hd);clear h u;generalize vV sh S=V at *;generalize DX C.B sh KE KF S=W at *;replace v:=Itr.ok _ _ _ v;obtain⟨Z,v⟩:=v;have key:∃e S' m,K.ap e S'=some r/\e≠.normal/\∀{L0:List HA} {β:Vn},L0ok L0->∀{Q:Exit->Act->World->Prop} {a:Act} {w:World},gj C.B nt L0 β (V++KE) (W++live S.d KF) (uA sh (V++KE) (W++live S.d KF) S.nn S.nc d0) a w->(∀a w,gj C.B nt L0 β KE KF S' a w->Q e a w)->Code.roundsIn tj 0 P x Q m a w:=by
     clear hI1;induction Z generalizing d0 with
     |zero=>simp[ov]at v
     | succ k ih=>
      simp only[ov]at v;obtain⟨z,hz,hk⟩:=bind_some v;obtain⟨H,S1,o,A⟩:=iv E F x hz;have out:∀{e:Exit} {S':SS},e≠.normal->K.ap e S'=some r->(∀{L0:List HA} {β:Vn},L0ok L0->∀{Q:Exit->Act->World->Prop} {a:Act} {w:World},gj C.B nt L0 β (V++KE) (W++live S.d KF) (uA sh (V++KE) (W++live S.d KF) S.nn S.nc d0) a w->(∀a w,gj C.B nt L0 β KE KF S' a w->Q e a w)->x.wpIn tj 0 P Q a w) ->
        ∃e S' m,K.ap e S'=some r/\e≠.normal/\∀{L0:List HA} {β:Vn},L0ok L0->∀{Q:Exit->Act->World->Prop} {a:Act} {w:World},gj C.B nt L0 β (V++KE) (W++live S.d KF) (uA sh (V++KE) (W++live S.d KF) S.nn S.nc d0) a w->(∀a w,gj C.B nt L0 β KE KF S' a w->Q e a w)->Code.roundsIn tj 0 P x Q m a w:=by
       intro e S' U hap hwp;refine⟨e,S',1,hap,U,λ{L0 β} f {Q a w} j n=>?_⟩;rw[roundsIn_succ];refine hwp f j λa w g => ?_;cases e with
       |normal=>grind
       |ret=>exact n a w g
       |exit i=>exact n a w g
       |goto l=>exact n a w g
       |panic N=>exact n a w g
       |outgrown=>exact n a w g
      cases H with
      |normal=>
       simp only[Kn.ap,afe]at o;obtain⟨d,T,rfl⟩:=o;obtain⟨I,S2,m,J,g5,L⟩:=ih d hk;refine⟨I,S2,m+1,J,g5,λ{L0 β} f {Q a w} j n=>?_⟩;rw[roundsIn_succ];exact A f j λa w g=>L f (DA f T g) n
      |ret=>
       simp only[Kn.ap,afe]at o;obtain⟨r',D,rfl⟩:=o;simp only[no]at hk;subst hk;exact out (e:=.ret) (by simp) D λf _ _ _ j n=>A f j λa w g=>n a w g.push
      |exit i=>
       simp only[Kn.ap,afe]at o;obtain⟨r',D,rfl⟩:=o;simp only[no]at hk;subst hk;exact out (e:=.exit i) (by simp) D λf _ _ _ j n=>A f j λa w g=>n a w g.push
      |goto l=>cases o
      |panic N=>cases o
      |outgrown=>cases o
    obtain⟨e,S',m,h3,_,h4⟩:=key;exact⟨e,S',h3,λ{L0 β} f {Q a w} j n=>wpIn_loop_rounds m (h4 f (hI1 f a w j) n)⟩
  ·rename_i p q;generalize An.s p q=an at h;have key:∃e S' m,K.ap e S'=some r/\∀{L0:List HA} {β:Vn},L0ok L0->∀{Q:Exit->Act->World->Prop} {a:Act} {w:World},gj C.B nt L0 β KE KF S a w->(∀a w,gj C.B nt L0 β KE KF S' a w->Q e a w)->Code.roundsIn tj 0 P x Q m a w:=by
    induction an generalizing S with
    | s p q _ ih=>
     simp only[unr]at h;obtain⟨H,S1,o,A⟩:=iv E F x h;cases H with
     |normal=>
      obtain⟨I,S2,m,J,L⟩:=ih S1 o;exact⟨I,S2,m+1,J,λf _ _ _ j n=>A f j λa w g=>L f g n⟩
     |ret=>exact⟨.ret,S1,1,o,λf _ _ _ j n=>A f j n⟩
     |exit i=>exact⟨.exit i,S1,1,o,λf _ _ _ j n=>A f j n⟩
     |goto l=>cases o
     |panic N=>cases o
     |outgrown=>cases o
    |_=>cases h
   obtain⟨e,S',m,h3,h4⟩:=key;exact⟨e,S',h3,λf _ _ _ j n=>wpIn_loop_rounds m (h4 f j n)⟩
  ·cases h
 |.rangeFunc _ _ _ _,R,an,KE,KF,S,K,r,h=>by cases h
 |.scope x,R,an,KE,KF,S,K,r,h=>by
  obtain⟨e,S',u,v⟩:=iv E F x (by simpa only[mI]using h);refine⟨e,S',u,λf _ _ _ j n=>tD (v f j λa w g => ?_)⟩;have hq:=n a w g;cases e with
  |normal=>exact hq
  |ret=>exact hq
  |exit i=>exact hq
  |goto l=>cases u
  |panic N=>cases u
  |outgrown=>cases u
 |.label _,R,an,KE,KF,S,K,r,h=>⟨.normal,S,h,λf _ _ _ j n=>wpIn_label (n _ _ j)⟩
 |.goto _,R,an,KE,KF,S,K,r,h=>by cases h
 |.refuse _,R,an,KE,KF,S,K,r,h=>by cases h
theorem Pp[Itr][Rd](j:C.ok P)(m:P.follows .mixedOrders=true)(f:L0ok L0)(d:Code){R:Type}{an:An}{KE:SE}{KF:List AF}{S:SS}{K:Kn R}{r:R}(h:mI C nt d R an KE KF S K=some r)
  {Q:Exit->Act->World->Prop}   (k:gj C.B nt L0 β KE KF S a w)
  (n:∀S',K.n S'=some r->∀a w,gj C.B nt L0 β KE KF S' a w->Q .normal a w) (o:∀S',K.r S'=some r->∀a w,gj C.B nt L0 β KE KF S' a w->Q .ret a w)
  (p:∀i S',K.x i S'=some r->∀a w,gj C.B nt L0 β KE KF S' a w->Q (.exit i) a w):d.wpIn tj 0 P Q a w:=by
 obtain⟨e,S',c,g⟩:=iv j m d h;refine g f k λa w b => ?_;cases e with
 |normal=>exact n S' c a w b
 |ret=>exact o S' c a w b
 |exit i=>exact p i S' c a w b
 |goto l=>cases c
 |panic q=>cases c
 |outgrown=>cases c
end
end
end Go.Sm
