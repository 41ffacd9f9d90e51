/- Laws for the row. No condition. -/
import Derived.Test.YtgghcmbaidihjaaGreatDoorRfR
import Derived.ProofKit
namespace Go.Sm
set_option linter.unusedSectionVars false
set_option linter.unusedVariables false
section
variable [X:XTab] [G:GTab] [Yc:GCx]
def AF.recol(m:Nat->Nat):AF->AF
 |.rep t K xs h=>.rep t (K.map m) xs h
 |.own t e i K xs h=>.own t e (m i) (K.map m) xs h
 |.box i b cs=>.box (m i) b cs
 |.isn h b=>.isn h b
 |.ag B=>.ag B
 |.prt a b s l h=>.prt a b s l h
 |.pbx a b s l h=>.pbx a b s l h
 |.hol t e i xs h k cs=>.hol t e (m i) xs h k cs
 |.mp k v i xs h=>.mp k v (m i) xs h
 |.pt t e i K xs h k=>.pt t e (m i) (K.map m) xs h k
theorem Pg{m:Nat->Nat}{η:Vn}{w:World}{c:aS}:(f:AF)->(f.ha η).holds w c->((f.recol m).ha η).holds w (λb=>m (c b))
 |.rep t K xs h,hh=>bD.keep (S:=λb=>c b∈K) (λb _ hb=>⟨ZA.2 ⟨_,hb,rfl⟩,rfl⟩) (.slice t.ty) xs (η.h h) hh
 |.own t e i K xs h,hh=>KG (λb _ hb=>by grind) (λb _ hb=>ZA.2 ⟨_,hb,rfl⟩) hh
 |.box i b cs,hh=>⟨hh.1,by show m (c _)=m i;rw[hh.2]⟩
 |.isn h b,hh=>hh
 |.ag B,hh=>hh
 |.prt a b s l h,hh=>hh
 |.pbx a b s l h,hh=>hh
 |.hol t e i xs h k cs,hh=>jf.keep (λb _ (hb:c b=i)=>⟨by grind,rfl⟩) hh
 |.pt t e i K xs h k,hh=>xb.keep (S:=λb=>c b=i) (SK:=λb=>c b∈K) (λb _ (hb:c b=i)=>⟨by grind,rfl⟩) (λb _ hb=>⟨ZA.2 ⟨_,hb,rfl⟩,rfl⟩) hh
 |.mp k v i xs h,hh=>sZ.keep (S:=λb=>c b=i) (S':=λb=>m (c b)=m i) (λb _ (hb:c b=i)=>⟨by grind,rfl⟩) hh
theorem X0{g:Nat->Nat}{η:Vn}:(f:AF)->(f.recol g).ha η=(f.ha η).ren g
 |.rep t K xs h=>rfl
 |.own t e i K xs h=>YO.symm
 |.box i b cs=>rfl
 |.isn h b=>rfl
 |.ag B=>rfl
 |.prt a b s l h=>rfl
 |.pbx a b s l h=>rfl
 |.hol t e i xs h k cs=>rfl
 |.mp k v i xs h=>rfl
 |.pt t e i K xs h k=>rfl
theorem aj.recol{m:Nat->Nat}{η:Vn}{w:World}{c:aS}{F:List AF}(h:aj w c (F.map (AF.ha η))):aj w (λb=>m (c b)) ((F.map (AF.recol m)).map (AF.ha η)):=by intro A hA;obtain⟨B,hB,rfl⟩:=ZA.1 hA;obtain⟨f,hf,rfl⟩:=ZA.1 hB;exact Pg f (h _ (ZA.2 ⟨f,hf,rfl⟩))
def AF.colI(N:Nat)(Ka:List Nat):AF->AF
 |.rep t K xs h=>.rep t (instK N Ka K) xs h
 |.own t e i K xs h=>.own t e (N+(i-2)) (instK N Ka K) xs h
 |.box i b cs=>.box (N+(i-2)) b cs
 |.isn h b=>.isn h b
 |.ag B=>.ag B
 |.prt a b s l h=>.prt a b s l h
 |.pbx a b s l h=>.pbx a b s l h
 |.hol t e i xs h k cs=>.hol t e (N+(i-2)) xs h k cs
 |.mp k v i xs h=>.mp k v (N+(i-2)) xs h
 |.pt t e i K xs h k=>.pt t e (N+(i-2)) (instK N Ka K) xs h k
theorem alc{N:Nat}{Ka:List Nat}{η:Vn}:(f:AF)->HA.inst N Ka (f.ha η)=(f.colI N Ka).ha η
 |.rep t K xs h=>rfl
 |.own t e i K xs h=>zZ
 |.box i b cs=>rfl
 |.isn h b=>rfl
 |.ag B=>rfl
 |.prt a b s l h=>rfl
 |.pbx a b s l h=>rfl
 |.hol t e i xs h k cs=>rfl
 |.mp k v i xs h=>rfl
 |.pt t e i K xs h k=>rfl
def AF.lvB:AF->Bool
 |.rep _ K _ _=>K.all λk=>Nat.ble 1 k
 |.own _ _ i K _ _=>Nat.ble 2 i&&K.all λk=>Nat.ble 1 k
 |.box i _ _=>Nat.ble 2 i
 |.isn _ _=>true
 |.ag _=>true
 |.prt _ _ _ _ _=>true
 |.pbx _ _ _ _ _=>true
 |.hol _ _ i _ _ _ _=>Nat.ble 2 i
 |.mp _ _ i _ _=>Nat.ble 2 i
 |.pt _ _ i K _ _ _=>Nat.ble 2 i&&K.all λk=>Nat.ble 1 k
theorem ane{η:Vn}:(f:AF)->(f.ha η).leaves=f.lvB
 |.rep t K xs h=>rfl
 |.own t e i K xs h=>wR
 |.box i b cs=>rfl
 |.isn h b=>rfl
 |.ag B=>rfl
 |.prt a b s l h=>rfl
 |.pbx a b s l h=>rfl
 |.hol t e i xs h k cs=>rfl
 |.mp k v i xs h=>rfl
 |.pt t e i K xs h k=>rfl
theorem QQ{w w':World}{c:aS}{Ka:List Nat}{μ:List (Nat×Nat)}{N:Nat}{Y:Type}{val:Y->Value}{fcts:Y->List HA}{e:Ending}(hq:μ.all (λp=>Nat.ble 2 p.2)=true)(hN:2<=N)(hl:∀y,(fcts y).all HA.leaves=true)
  (h:tS w (λb=>mu μ Ka (c b)) val fcts e w'):∃y c'',e=.returned (val y)/\Stp (μ.map (·.1)) w c w' c''/\aj w' c'' ((fcts y).map (HA.inst N Ka)):=by
 obtain⟨y,c',rfl,henv,h1,hold,hnew,hF⟩:=h;refine⟨y,tg w c (μ.map (·.1)) N c',rfl,⟨h1,λb hb hn=>by simp only[tg];grind,λb hb hn=>(hold b hb (xD hn).1).1,λb hb hb' => ?_,henv⟩,?_⟩
 ·simp only[tg];grind
 ·intro A hA;obtain⟨B,hB,rfl⟩:=ZA.1 hA;refine instC_holds (λb hb hn=>?_) (λb hb hn=>hnew b hb λhlt=>Ua hq (hn hlt)) B (Zy.1 (hl y) B hB) (hF B hB);grind[xD]
def uL(m:Nat):List Nat->Nat
 |[]=>0
 |a::r=>bif Nat.beq m a then 0 else uL m r+1
theorem Mb{m:Nat}:∀{l:List Nat},bQ m l=true->uL m l<l.length/\l.getD (uL m l) 0=m
 |[],h=>by simp[bQ]at h
 | a::r,h=>by
  simp only[uL];cases hb:Nat.beq m a
  ·have hm:bQ m r=true:=by
    simp only[bQ,amG,hb,ajF]at h;exact h
   obtain⟨h1,h2⟩:=Mb hm;grind
  simp_all
def mn(n:Nat)(l:List Nat)(m:Nat):Nat:=bif Nat.blt m n then m else n+uL m l
def okR(n:Nat)(l:List Nat)(m:Nat):Bool:=Nat.blt m n||bQ m l
def Vn.rn(n:Nat)(l:List Nat)(η ηe:Vn):Vn:=⟨λx=>bif Nat.blt x n||Nat.ble (n+64) x then η.h x else ηe.h (l.getD (x-n) 0),λx=>bif Nat.blt x n||Nat.ble (n+64) x then η.b x else ηe.b (l.getD (x-n) 0)⟩
theorem Vn.rn_agr{n:Nat}{l:List Nat}{η ηe:Vn}:η.agr n (Vn.rn n l η ηe):=λm hm=>by have h:(Nat.blt m n||Nat.ble (n+64) m)=true:=hm;simp only[Vn.rn,h,Ze,and_self]
def A7(n:Nat)(l:List Nat)(η' ηe:Vn):Prop:=∀m,okR n l m=true->η'.h (mn n l m)=ηe.h m/\η'.b (mn n l m)=ηe.b m
theorem apN{n:Nat}{l:List Nat}{η ηe:Vn}(hl:l.length<=64)(hlow:∀m,m<n->ηe.b m=η.b m/\ηe.h m=η.h m):A7 n l (Vn.rn n l η ηe) ηe:=by
 intro m hm;cases hb:Nat.blt m n
 ·have hm':bQ m l=true:=by simpa[okR,hb]using hm
  obtain⟨h1,h2⟩:=Mb hm';have e1:(Nat.blt (n+uL m l) n||Nat.ble (n+64) (n+uL m l))=false:=by
   rw[abW];refine⟨?_,?_⟩
   ·cases hh:Nat.blt (n+uL m l) n
    ·rfl
    ·have:n+uL m l+1<=n:=Zh hh;omega
   ·cases hh:Nat.ble (n+64) (n+uL m l)
    ·rfl
    ·have:=Zh hh;omega
  grind[Vn.rn,mn,uL]
 ·have h1:m+1<=n:=Zh hb;grind[Vn.rn,mn]
def Lf.rn(n:Nat)(l:List Nat):Lf->Lf
 |.sl h=>.sl (mn n l h)
 |.bp b off=>.bp (mn n l b) off
 |.bq b off m s j=>.bq (mn n l b) off m s j
 |.rp h t i u p=>.rp (mn n l h) t i u p
 |.clo f bs=>.clo f (bs.map (mn n l))
 |.mp h=>.mp (mn n l h)
 |x=>x
def Lf.okR(n:Nat)(l:List Nat):Lf->Bool
 |.sl h=>Go.Sm.okR n l h
 |.bp b _=>Go.Sm.okR n l b
 |.bq b _ _ _ _=>Go.Sm.okR n l b
 |.rp h _ _ _ _=>Go.Sm.okR n l h
 |.clo _ bs=>bs.all (Go.Sm.okR n l)
 |.mp h=>Go.Sm.okR n l h
 |_=>true
mutual
def AV.rn(n:Nat)(l:List Nat):AV->AV
 |.lf x=>.lf (x.rn n l)
 |.ag ls=>.ag (ls.map (Lf.rn n l))
 |.tu vs=>.tu (AV.rns n l vs)
def AV.rns(n:Nat)(l:List Nat):List AV->List AV
 |[]=>[]
 |v::r=>v.rn n l::AV.rns n l r
end
mutual
def AV.okR(n:Nat)(l:List Nat):AV->Bool
 |.lf x=>x.okR n l
 |.ag ls=>ls.all (Lf.okR n l)
 |.tu vs=>AV.okRs n l vs
def AV.okRs(n:Nat)(l:List Nat):List AV->Bool
 |[]=>true
 |v::r=>v.okR n l&&AV.okRs n l r
end
def AF.rn(n:Nat)(l:List Nat):AF->AF
 |.rep t K xs h=>.rep t K xs (mn n l h)
 |.own t e i K xs h=>.own t e i K xs (mn n l h)
 |.box i b cs=>.box i (mn n l b) (cs.map (Lf.rn n l))
 |.isn h b=>.isn (mn n l h) b
 |.ag B=>.ag B
 |.prt a b s lo hi=>.prt (mn n l a) (mn n l b) s lo hi
 |.pbx a b s lo hi=>.pbx (mn n l a) (mn n l b) s lo hi
 |.hol t e i xs h k cs=>.hol t e i xs (mn n l h) k (cs.map (Lf.rn n l))
 |.mp k v i xs h=>.mp k v i xs (mn n l h)
 |.pt t e i K xs h k=>.pt t e i K xs (mn n l h) k
def AF.okR(n:Nat)(l:List Nat):AF->Bool
 |.rep _ _ _ h=>Go.Sm.okR n l h
 |.own _ _ _ _ _ h=>Go.Sm.okR n l h
 |.box _ b cs=>Go.Sm.okR n l b&&cs.all (Lf.okR n l)
 |.isn h _=>Go.Sm.okR n l h
 |.ag B=>Nat.ble B n
 |.prt a b _ _ _=>Go.Sm.okR n l a&&Go.Sm.okR n l b
 |.pbx a b _ _ _=>Go.Sm.okR n l a&&Go.Sm.okR n l b
 |.hol _ _ _ _ h _ cs=>Go.Sm.okR n l h&&cs.all (Lf.okR n l)
 |.mp _ _ _ _ h=>Go.Sm.okR n l h
 |.pt _ _ _ _ _ h _=>Go.Sm.okR n l h
section
variable {n:Nat} {l:List Nat} {η' ηe:Vn}
theorem Lf.rn_cells(hr:A7 n l η' ηe):(x:Lf)->x.okR n l=true->(x.rn n l).cells η'=x.cells ηe
 |.sl h,hh=>by simp only[Lf.rn,Lf.cells,(hr h hh).1]
 |.bp b off,hh=>by simp only[Lf.rn,Lf.cells,(hr b hh).2]
 |.bq b off m s j,hh=>by simp only[Lf.rn,Lf.cells,(hr b hh).2]
 |.rp h t i u p,hh=>by simp only[Lf.rn,Lf.cells,(hr h hh).1]
 |.clo f bs,hh=>by
  have:(bs.map (mn n l)).map (λb=>Value.pointer (some ⟨η'.b b,0,none⟩))=bs.map λb=>Value.pointer (some ⟨ηe.b b,0,none⟩):=by rw[adK];exact abw λb hb=>by simp only[ak9,(hr b (Zy.1 hh b hb)).2]
  simp only[Lf.rn,Lf.cells,this]
 |.mp h,hh=>by simp only[Lf.rn,Lf.cells,(hr h hh).1]
 |.c _ _,_=>rfl
 |.ar _ _ _,_=>rfl
 |.nl,_=>rfl
 |.xt _ _,_=>rfl
 |.fn _,_=>rfl
 |.yl,_=>rfl
 |.gp _ _ _ _ _,_=>rfl
 |.ars _ _,_=>rfl
 |.v _,_=>rfl
theorem Lf.rn_val(hr:A7 n l η' ηe):(x:Lf)->x.okR n l=true->(x.rn n l).val η'=x.val ηe
 |.sl h,hh=>by simp only[Lf.rn,Lf.val,(hr h hh).1]
 |.bp b off,hh=>by simp only[Lf.rn,Lf.val,(hr b hh).2]
 |.bq b off m s j,hh=>by simp only[Lf.rn,Lf.val,(hr b hh).2]
 |.rp h t i u p,hh=>by simp only[Lf.rn,Lf.val,(hr h hh).1]
 |.clo f bs,hh=>by
  have:(bs.map (mn n l)).map (λb=>Value.pointer (some ⟨η'.b b,0,none⟩))=bs.map λb=>Value.pointer (some ⟨ηe.b b,0,none⟩):=by rw[adK];exact abw λb hb=>by simp only[ak9,(hr b (Zy.1 hh b hb)).2]
  simp only[Lf.rn,Lf.val,this]
 |.mp h,hh=>by simp only[Lf.rn,Lf.val,(hr h hh).1]
 |.c _ _,_=>rfl
 |.ar _ _ _,_=>rfl
 |.nl,_=>rfl
 |.xt _ _,_=>rfl
 |.fn _,_=>rfl
 |.yl,_=>rfl
 |.gp _ _ _ _ _,_=>rfl
 |.ars _ _,_=>rfl
 |.v _,_=>rfl
theorem vx(hr:A7 n l η' ηe):(ls:List Lf)->ls.all (Lf.okR n l)=true->au η' (ls.map (Lf.rn n l))=au ηe ls
 |[],_=>rfl
 |x::r,h=>by simp only[acw,Y5]at h;simp only[aas,au,Lf.rn_cells hr x h.1,vx hr r h.2]
mutual
theorem AV.rn_val(hr:A7 n l η' ηe):(v:AV)->v.okR n l=true->(v.rn n l).val η'=v.val ηe
 |.lf x,h=>by simp only[AV.rn,AV.val];exact Lf.rn_val hr x h
 |.ag ls,h=>by simp only[AV.rn,AV.val];rw[vx hr ls h]
 |.tu vs,h=>by simp only[AV.rn,AV.val];rw[AV.rns_vals hr vs h]
theorem AV.rns_vals(hr:A7 n l η' ηe):(vs:List AV)->AV.okRs n l vs=true->AV.vals η' (AV.rns n l vs)=AV.vals ηe vs
 |[],_=>rfl
 |v::r,h=>by simp only[AV.okRs,Y5]at h;simp only[AV.rns,AV.vals,AV.rn_val hr v h.1,AV.rns_vals hr r h.2]
end
theorem AF.rn_ha(hr:A7 n l η' ηe):(f:AF)->f.okR n l=true->(f.rn n l).ha η'=f.ha ηe
 |.rep t K xs h,hh=>by simp only[AF.rn,AF.ha,(hr h hh).1]
 |.own t e i K xs h,hh=>by simp only[AF.rn,AF.ha,(hr h hh).1]
 |.box i b cs,hh=>by simp only[AF.okR,Y5]at hh;simp only[AF.rn,AF.ha,(hr b hh.1).2,vx hr cs hh.2]
 |.isn h b,hh=>by simp only[AF.rn,AF.ha,(hr h hh).1]
 |.ag B,hh=>by
  have hB:=Zh hh;have:∀m,m<B->η'.h m=ηe.h m/\η'.b m=ηe.b m:=λm hm=>by have hb:Nat.blt m n=true:=aah (by omega);have:=hr m (by simp[Go.Sm.okR,hb]);simpa[mn,hb]using this
  simp only[AF.rn,AF.ha];congr 1;exact propext ⟨λhh m hm=>by rw[<-(this m hm).1,<-(this m hm).2];exact hh m hm,λhh m hm=>by rw[(this m hm).1,(this m hm).2];exact hh m hm⟩
 |.prt a b s lo hi,hh=>by simp only[AF.okR,Y5]at hh;simp only[AF.rn,AF.ha,(hr a hh.1).1,(hr b hh.2).1]
 |.pbx a b s lo hi,hh=>by simp only[AF.okR,Y5]at hh;simp only[AF.rn,AF.ha,(hr a hh.1).1,(hr b hh.2).2]
 |.hol t e i xs h k cs,hh=>by simp only[AF.okR,Y5]at hh;simp only[AF.rn,AF.ha,(hr h hh.1).1,vx hr cs hh.2]
 |.mp k v i xs h,hh=>by simp only[AF.rn,AF.ha,(hr h hh).1]
 |.pt t e i K xs h k,hh=>by simp only[AF.rn,AF.ha,(hr h hh).1]
end
def kP:List Nat->List Nat
 |[]=>[]
 |a::r=>bif bQ a r then kP r else a::kP r
def Lf.nms(x:Lf):List Nat:=x.hs++x.bs
def AV.nms:AV->List Nat
 |.lf x=>x.nms
 |.ag ls=>ls.flatMap Lf.nms
 |.tu vs=>AV.nmss vs
where AV.nmss:List AV->List Nat
 |[]=>[]
 |v::r=>v.nms++AV.nmss r
def AF.main:AF->Nat
 |.rep _ _ _ h=>h
 |.own _ _ _ _ _ h=>h
 |.box _ b _=>b
 |.isn h _=>h
 |.ag _=>0
 |.prt h _ _ _ _=>h
 |.pbx h _ _ _ _=>h
 |.hol _ _ _ _ h _ _=>h
 |.mp _ _ _ _ h=>h
 |.pt _ _ _ _ _ h _=>h
def AF.inner:AF->List Nat
 |.box _ _ cs=>cs.flatMap Lf.nms
 |.hol _ _ _ _ _ _ cs=>cs.flatMap Lf.nms
 |_=>[]
def afb(n:Nat)(av:AV)(F:List AF):List Nat:=
 let l0:=(av.nms++(F.filter λf=>Nat.blt f.main n).flatMap AF.inner).filter λm=>Nat.ble n m
 let l1:=l0++((F.filter λf=>bQ f.main l0).flatMap AF.inner).filter λm=>Nat.ble n m
 let l2:=l1++((F.filter λf=>bQ f.main l1).flatMap AF.inner).filter λm=>Nat.ble n m
 kP l2
def AF.ownC:AF->List Nat
 |.own _ _ i _ _ _=>[i]
 |.box i _ _=>[i]
 |.hol _ _ i _ _ _ _=>[i]
 |.mp _ _ i _ _=>[i]
 |.pt _ _ i _ _ _ _=>[i]
 |_=>[]
def ke:List AV->AV
 |[v]=>v
 |vs=>.tu vs
def AF.slim:AF->AF
 |.own t e i K xs h=>.own t e i (bif t.ty.pureB||eM e then []else K) xs h
 |f=>f
theorem V0{η:Vn}{w:World}{c:aS}:(f:AF)->(f.ha η).holds w c->(f.slim.ha η).holds w c
 | .own t e i K xs h,hh=>by
  simp only[AF.slim];cases hp:t.ty.pureB
  ·cases htr:eM e
   ·exact hh
   ·simp only[AF.ha,gZ htr,Bool.or_true,Ze]at hh|-;exact hh
  ·cases htr:eM e
   ·simp only[AF.ha,dx htr,Bool.true_or,Ze]at hh|-;exact Ao hp _ _ hh
   ·simp only[AF.ha,gZ htr,Bool.or_true,Ze]at hh|-;exact hh
 |.rep _ _ _ _,h=>h
 |.box _ _ _,h=>h
 |.isn _ _,h=>h
 |.ag _,h=>h
 |.prt _ _ _ _ _,h=>h
 |.pbx _ _ _ _ _,h=>h
 |.hol _ _ _ _ _ _ _,h=>h
 |.mp _ _ _ _ _,h=>h
 |.pt _ _ _ _ _ _ _,h=>h
def EB(n N:Nat)(κs Ka:List Nat)(F1:List AF)(vs:List AV)(S:SS):Option Out:=
 let av:=ke vs
 let FF:=S.F++(live S.d F1).filter λf=>f.uses.any λk=>Nat.ble 2 k
 let l:=afb n av FF
 let F2:=FF.filter λf=>f.okR n l&&(Nat.blt f.main n||bQ f.main l)
 let cm:=fC (kP ((F2.flatMap AF.uses).filter λk=>Nat.ble 2 k)) 2
 let F3:=F2.map λf=>((f.rn n l).recol (pJ cm 2)).slim
 bif av.okR n l&&Nat.ble l.length 64&&F3.all AF.lvB then some ⟨av.rn n l,F3.map (AF.colI N Ka),κs⟩else none
section
variable [Itr]
def X1(F:List AF):Nat->List Nat->List Nat
 |0,l=>l
 |k+1,l=>X1 F k (kP (l++(F.filter λf=>bQ f.main l).flatMap AF.inner))
def ao8:AV->Bool
 |.lf .yl=>true
 |_=>false
def DZ(vs:List AV)(F:List AF):List Nat:=let l:=X1 F 5 (vs.flatMap AV.nms);kP (((bif vs.any ao8 then F else F.filter λf=>bQ f.main l).flatMap AF.ownC).filter λk=>Nat.ble 2 k)
def aa7(y:Bool)(F:List AF):List AF:=bif y then F.filter λf=>f.uses.any λk=>Nat.ble 2 k else []
def acJ(y:Bool)(F:List AF):List AF:=bif y then F.filter λf=>!(f.uses.any λk=>Nat.ble 2 k)else F
theorem ajU{y:Bool}{F:List AF}{f:AF}(h:f∈aa7 y F++acJ y F):f∈F:=by
 cases y
 ·simpa[aa7,acJ]using h
 ·rcases aad.1 h with h|h
  ·exact(aa0.1 h).1
  ·exact(aa0.1 h).1
def WH(F:List AF):Nat->List Nat->List Nat
 |0,l=>l
 |k+1,l=>WH F k (kP (l++(F.filter λf=>bQ f.main l).flatMap λf=>f.hsIn++f.bsIn))
def FN(vs:List AV)(F:List AF):List AF:=let l:=WH F 6 (vs.flatMap AV.nms);F.filter λf=>match f with
 |.ag _=>true
 |f=>bQ f.main l
theorem Px{vs:List AV}{F:List AF}{f:AF}(h:f∈FN vs F):f∈F:=(aa0.1 h).1
def zU(wr rl:Bool)(C:Cx)(fn:Func)(an:An):Inl:=⟨wr,λ{R} ex n N vs F0 k=>match ex,fn.body with
 | none,some cd=>
  let F:=bif rl then FN vs F0 else F0
  let κs:=bif wr then DZ vs F else []
  let Ka:=kP ((F.flatMap AF.uses).filter λk=>!(bQ k κs))
  let μ:=fC κs 2
  let F1:=F.map (AF.recol (mu μ Ka))
  let y:=vs.any ao8
  let KF:=acJ y F1
  let K:SS->Option R:=λS=>match sR C.Θ S.E (S.F++live S.d KF) fn.results.toList with
   |some rs=>(EB n N κs Ka KF rs S).bind k
   |none=>none
  bif Nat.ble 2 N&&Nat.ble vs.length fn.ntmps then lG (C.at n) fn.ntmps cd R an [] KF ⟨wz vs 0,aa7 y F1,n,256,[]⟩ ⟨K,K,λ_ _=>none⟩else none
 |_,_=>none⟩
def pp(C:Cx)(fn:Func)(an:An):Inl:=zU true false C fn an
def lx(C:Cx)(fn:Func)(an:An):Inl:=zU false false C fn an
def NJ(C:Cx)(fn:Func)(an:An):Inl:=zU true true C fn an
def pZ(C:Cx)(fn:Func)(an:An)(ts:List TC):Inl:=⟨false,λ{R} ex n N vs F k=>match fn.body with
 | some cd=>
  let Ka:=kP (F.flatMap AF.uses)
  let F1:=F.map (AF.recol (mu [] Ka))
  let K:SS->Option (d8 ts):=λS=>match sR C.Θ S.E (S.F++live S.d F1) fn.results.toList with
   |some rs=>match rY (S.F++live S.d F1) ts rs with
    |some (x,[],_)=>some x
    |_=>none
   |none=>none
  bif Nat.ble 2 N&&Nat.ble vs.length fn.ntmps&&Nat.beq (gK ts) 0 then gbind ex (Zl ts) (lG (C.at n) fn.ntmps cd (d8 ts) an [] F1 ⟨wz vs 0,[],n,256,[]⟩ ⟨K,K,λ_ _=>none⟩) λr=>k ⟨ye ts.length ts r n,[],[]⟩else none
 |none=>none⟩
variable {P:Program} {C:Cx}
theorem AU:∀(l:List Nat) (q:Nat),2<=q->(fC l q).all (λp=>Nat.ble 2 p.2)=true
 |[],_,_=>rfl
 |i::r,q,h=>by simp only[fC,acw,Y5];exact⟨aah h,AU r (q+1) (by omega)⟩
theorem wj:∀(l:List Nat) (q:Nat),(fC l q).map (·.1)=l
 |[],_=>rfl
 |i::r,q=>by simp only[fC,aas,wj r (q+1)]
theorem wc{a:Nat}:∀{l:List Nat},a∈kP l->a∈l
 |[],h=>h
 | b::r,h=>by
  simp only[kP]at h;cases hb:bQ b r
  ·rw[hb]at h;simp only[Zr,aaa]at h;rcases h with h|h
   ·grind
   ·exact Zf _ (wc h)
  ·rw[hb]at h;exact Zf _ (wc h)
theorem L7(hC:C.ok P)(hm:P.follows .mixedOrders=true){f:FuncId}{fn:Func}{cd:Code}(hf:P.funcs[f]?=some fn)(hcd:fn.body=some cd){an:An}{n:Nat}{vs:List AV}{SF KF:List AF}{R:Type}{K:SS->Option R}{r:R}(hlen:Nat.ble vs.length fn.ntmps=true)
  (h:lG (C.at n) fn.ntmps cd R an [] KF ⟨wz vs 0,SF,n,256,[]⟩ ⟨K,K,λ_ _=>none⟩=some r) :
  ∃S',K S'=some r/\∀{rs:List AV},sR C.Θ S'.E (S'.F++live S'.d KF) fn.results.toList=some rs->∀(η:Vn) (w:World) (c1:aS),aj w c1 ((SF++KF).map (AF.ha η)++eV) ->
   Calls P f (AV.vals η vs).toArray w (λe w'=>∃(ηe:Vn) (c':aS),e=.returned ((ke rs).val ηe)/\(∀m,m<n->ηe.b m=η.b m/\ηe.h m=η.h m)/\HA.holds w' c' (.old w c1)/\aj w' c' ((S'.F++live S'.d KF).map (AF.ha ηe))):=by
 letI:Rd:=⟨none,[]⟩
 have hlen:=Zh hlen;have hgl:∀(w:World) (c1:aS),L0ok (HA.old w c1::eV):=λw c1=>⟨λA hA=>by
  rcases aaa.1 hA with rfl|hA
  ·intro k hk;simp[HA.uses]at hk;omega
  ·exact DX hA,λA hA=>Zf _ hA⟩
 have hdet:∃S',K S'=some r/\∃e:Exit,(e=.normal\/e=.ret)/\∀(β:Vn) (w0:World) (c0:aS) {Q:Exit->Act->World->Prop} {a:Act} {w:World},fX n fn.ntmps (HA.old w0 c0::eV) β [] KF ⟨wz vs 0,SF,n,256,[]⟩ a w ->
   (∀a w,fX n fn.ntmps (HA.old w0 c0::eV) β [] KF S' a w->Q e a w)->cd.wp P Q a w:=by
  obtain⟨e,S',h1,h2⟩:=ic (Cx.at_ok hC n) hm cd h;cases e with
  |normal=>exact⟨S',h1,.normal,.inl rfl,λβ w0 c0 {Q a w} hI hQ=>(wpIn_wide (n:=0)).1 (h2 (hgl w0 c0) hI hQ)⟩
  |ret=>exact⟨S',h1,.ret,.inr rfl,λβ w0 c0 {Q a w} hI hQ=>(wpIn_wide (n:=0)).1 (h2 (hgl w0 c0) hI hQ)⟩
  |exit i=>cases h1
  |goto l=>cases h1
  |panic ch=>cases h1
  |outgrown=>cases h1
 obtain⟨S',hK,e,he,hS⟩:=hdet;refine⟨S',hK,λ{rs} hres η w c1 hH=>?_⟩;have hvl:∀l:List AV,(AV.vals η l).length=l.length:=λl=>by
  induction l with
  |nil=>rfl
  |cons v r ih=>simp only[AV.vals,aaG,ih]
 refine akK (n:=fn.ntmps) hf hcd rfl _ (aah (by grind)) hH ?_;intro a w1 cc ha hHeap;have hI:fX n fn.ntmps (HA.old w c1::eV) η [] KF ⟨wz vs 0,SF,n,256,[]⟩ a w1:=by
  refine⟨η,cc,_,ha,λt v hlk=>?_,?_,?_,λ_ _=>⟨rfl,rfl⟩⟩
  ·rw[Z2]at hlk;obtain⟨j,hj,hv⟩:=AN (η:=η) hlk;grind
  ·simp only[xT];exactλA hA=>hHeap A (Zf _ (ZW _ hA))
  ·intro A hA;rcases aaa.1 hA with rfl|hA
   ·exact hHeap _ ZO
   ·exact hHeap A (Zf _ (Z7 _ hA))
 refine hS η w c1 hI λa w' hI' => ?_;have post:bodyPost P fn (λe w'=>∃(ηe:Vn) (c':aS),e=.returned ((ke rs).val ηe)/\(∀m,m<n->ηe.b m=η.b m/\ηe.h m=η.h m)/\HA.holds w' c' (.old w c1)/\aj w' c' ((S'.F++live S'.d KF).map (AF.ha ηe))) .ret a w':=by
  obtain⟨ηe,c',ρ,hrel,hE,hFf,hL,hβ⟩:=hI';rw[Z2]at hE;have hres':=BE hC.Θ hE hres;have hrun:=Cb (fn:=fn) (rs:=fn.results.toList) (vs:=AV.vals ηe rs) (by simp) hrel.val hFf hres';refine⟨hrel.defers,_,hrun,ηe,c',?_,hβ,hL _ ZO,hFf⟩;congr 1;have hav:(ke rs).val ηe=(match AV.vals ηe rs with | [v]=>v|vs=>.tuple vs.toArray):=by
   unfold ke;match rs with
   |[]=>rfl
   |[v]=>rfl
   |v::v'::us=>rfl
  rw[hav];generalize AV.vals ηe rs=us;match us with
  |[]=>rfl
  |[v]=>rfl
  |v::v'::us=>
   grind
 rcases he with rfl|rfl
 ·exact post
 ·exact post
theorem P8{n N:Nat}{κs Ka:List Nat}{F KF:List AF}{rs:List AV}{S':SS}{u:Out}{Rn:Vn->World->(Ending->World->Prop)->Prop}(hN:2<=N)(hq1:(fC κs 2).all (λp=>Nat.ble 2 p.1)=true)
 (hmono:∀{η:Vn} {w:World} {R R':Ending->World->Prop},Rn η w R->(∀e w,R e w->R' e w)->Rn η w R')
 (hcall:∀(η:Vn) (w:World) (c1:aS),aj w c1 ((F.map (AF.recol (mu (fC κs 2) Ka))).map (AF.ha η)++eV)->Rn η w (λe w'=>∃(ηe:Vn) (c':aS),e=.returned ((ke rs).val ηe)/\(∀m,m<n->ηe.b m=η.b m/\ηe.h m=η.h m)/\HA.holds w' c' (.old w c1)/\aj w' c' ((S'.F++live S'.d KF).map (AF.ha ηe))))
 (hu:EB n N κs Ka KF rs S'=some u) (η:Vn) (w:World) (c:aS) (hH:aj w c (F.map (AF.ha η)++eV)) :
 Rn η w (λe w'=>∃(y : { η':Vn//η.agr n η'}) (c':aS),e=.returned (u.av.val y.1)/\Stp u.κ w c w' c'/\aj w' c' (u.fs.map (AF.ha y.1))):=by
 unfold EB at hu;simp only at hu;generalize hl:afb n (ke rs) (S'.F++(live S'.d KF).filter λf=>f.uses.any λk=>Nat.ble 2 k)=l at hu;generalize hF2:((S'.F++(live S'.d KF).filter λf=>f.uses.any λk=>Nat.ble 2 k).filter λf=>f.okR n l&&(Nat.blt f.main n||bQ f.main l))=F2 at hu;generalize hcm:fC (kP ((F2.flatMap AF.uses).filter λk=>Nat.ble 2 k)) 2=cm at hu;cases hb:((ke rs).okR n l&&Nat.ble l.length 64&&(F2.map λf=>((f.rn n l).recol (pJ cm 2)).slim).all AF.lvB)
 ·grind
 rw[hb]at hu;simp only[Ze,no]at hu;subst hu;simp only[Y5]at hb;obtain⟨⟨hav,hll⟩,hlv⟩:=hb;have hll:=Zh hll;have hq:=AU κs 2 (Z0 _);have hpre:aj w (λb=>mu (fC κs 2) Ka (c b)) ((F.map (AF.recol (mu (fC κs 2) Ka))).map (AF.ha η)++eV):=
  (aj.recol (λA hA=>hH A (ZW _ hA))).append (DA hq1 λA hA=>hH A (Z7 _ hA))
 refine hmono (hcall η w _ hpre) ?_;rintro e w' ⟨ηe,c',rfl,hβ,⟨o1,o2,o3,o4⟩,hFe⟩;have hg:Gd (pJ cm 2):=by refine KO ?_;simp only[acw,Y5];refine⟨rfl,Zy.2 λz hz=>?_⟩;grind[List.all_eq_true,AU]
 have hrn:=apN (l:=l) (η:=η) hll hβ;have hpost:tS w (λb=>mu (fC κs 2) Ka (c b)) (λy : { η':Vn//η.agr n η'}=>((ke rs).rn n l).val y.1) (λy=>bif true then(F2.map λf=>((f.rn n l).recol (pJ cm 2)).slim).map (AF.ha y.1)else []) (.returned ((ke rs).val ηe)) w':=by
  refine⟨⟨Vn.rn n l η ηe,Vn.rn_agr⟩,λb=>pJ cm 2 (c' b),aae Ending.returned (AV.rn_val hrn _ hav).symm,o4,o1,λb hb' h01=>⟨(o2 b hb' h01).1,?_⟩,λb hb' hb''=>hg.two _ (o3 b hb' hb''),?_⟩
  ·show pJ cm 2 (c' b)=_;rw[(o2 b hb' h01).2];simp only at h01|-;generalize mu (fC κs 2) Ka (c b)=q at h01;rcases(show q=0\/q=1 by omega)with rfl|rfl
   ·exact hg.z
   ·exact hg.o
  ·simp only[Ze];intro A hA;obtain⟨B,hB,rfl⟩:=ZA.1 hA;obtain⟨f,hf2,rfl⟩:=ZA.1 hB;refine V0 _ ?_;rw[X0];refine HA.ren_holds hg _ ?_;rw[<-hF2]at hf2;obtain⟨hm1,hm2⟩:=aa0.1 hf2;simp only[Y5]at hm2;rw[AF.rn_ha hrn f hm2.1];refine hFe _ (ZA.2 ⟨f,?_,rfl⟩);grind
 obtain⟨y,c2,he,hst,hF⟩:=QQ hq hN (λy=>by grind[List.all_eq_true,ane]) hpost;rw[wj]at hst;refine⟨y,c2,he,hst,?_⟩;simp only[Ze,adK]at hF|-;intro A hA;obtain⟨f,hf2,rfl⟩:=ZA.1 hA;simp only[ak9];rw[<-alc];exact hF _ (ZA.2 ⟨f,hf2,rfl⟩)
theorem Bs(wr rl:Bool)(hC:C.ok P)(hm:P.follows .mixedOrders=true){f:FuncId}{fn:Func}(hf:P.funcs[f]?=some fn)(hname:(fn.name == "runtime.NumGoroutine")=false)(hbody:fn.body.isSome=true)(an:An):(zU wr rl C fn an).sound P f:=by
 obtain⟨cd,hcd⟩:=ad6.1 hbody;refine⟨⟨fn,cd,hf,hcd,hname⟩,λ{R} ex n N vs F0 k r hr=>?_⟩;cases ex with
 |some b=>simp[zU]at hr
 | none=>
  simp only[zU,hcd]at hr;have hsub:∀f∈(bif rl then FN vs F0 else F0),f∈F0:=λf hf=>by
   cases rl
   ·exact hf
   ·exact Px hf
  generalize(bif rl then FN vs F0 else F0)=F at hr hsub;generalize hκ:(bif wr then DZ vs F else [])=κs at hr;generalize hKa:kP ((F.flatMap AF.uses).filter λk=>!(bQ k κs))=Ka at hr;cases hc:(Nat.ble 2 N&&Nat.ble vs.length fn.ntmps)
  ·grind
  rw[hc]at hr;simp only[Ze]at hr;simp only[Y5]at hc;obtain⟨hN,hlen⟩:=hc;have hN:=Zh hN;obtain⟨S',hK,hcall⟩:=L7 hC hm hf hcd hlen hr;split at hK
  ·rename_i rs hrs;obtain⟨u,hu,hk⟩:=bind_some hK;refine⟨u,hk,λ_ η w c hH=>?_⟩;refine P8 (F:=F) (Rn:=λη w R=>Calls P f (AV.vals η vs).toArray w R) hN (Zy.2 λp hp=>?_) (λh h'=>h.mono h') (λη w c1 hH=>hcall hrs η w c1 λA hA=>?_) hu η w c λA hA=>?_
   ·have h1:p.1∈κs:=by rw[<-wj κs 2];grind
    rw[<-hκ]at h1;cases wr with
    |true=>exact(aa0.1 (wc h1)).2
    |false=>cases h1
   ·rcases aad.1 hA with hA|hA
    ·obtain⟨f,hf,rfl⟩:=ZA.1 hA;exact hH _ (ZW _ (ZA.2 ⟨f,ajU hf,rfl⟩))
    ·exact hH _ (Z7 _ hA)
   ·rcases aad.1 hA with hA|hA
    ·obtain⟨f,hf,rfl⟩:=ZA.1 hA;exact hH _ (ZW _ (ZA.2 ⟨f,hsub f hf,rfl⟩))
    ·exact hH _ (Z7 _ hA)
  ·cases hK
theorem iE(hC:C.ok P)(hm:P.follows .mixedOrders=true){f:FuncId}{fn:Func}(hf:P.funcs[f]?=some fn)(hname:(fn.name == "runtime.NumGoroutine")=false)(hbody:fn.body.isSome=true)(an:An):(pp C fn an).sound P f:=Bs true false hC hm hf hname hbody an
theorem BA(hC:C.ok P)(hm:P.follows .mixedOrders=true){f:FuncId}{fn:Func}(hf:P.funcs[f]?=some fn)(hname:(fn.name == "runtime.NumGoroutine")=false)(hbody:fn.body.isSome=true)(an:An):(NJ C fn an).sound P f:=Bs true true hC hm hf hname hbody an
theorem fD(hC:C.ok P)(hm:P.follows .mixedOrders=true){f:FuncId}{fn:Func}(hf:P.funcs[f]?=some fn)(hname:(fn.name == "runtime.NumGoroutine")=false)(hbody:fn.body.isSome=true)(an:An):(lx C fn an).sound P f:=Bs false false hC hm hf hname hbody an
theorem jX(hC:C.ok P)(hm:P.follows .mixedOrders=true){f:FuncId}{fn:Func}(hf:P.funcs[f]?=some fn)(hname:(fn.name == "runtime.NumGoroutine")=false)(hbody:fn.body.isSome=true)(an:An)(ts:List TC):(pZ C fn an ts).sound P f:=by
 obtain⟨cd,hcd⟩:=ad6.1 hbody;refine⟨⟨fn,cd,hf,hcd,hname⟩,λ{R} ex n N vs F k r hr=>?_⟩;simp only[pZ,hcd]at hr;generalize hKa:kP (F.flatMap AF.uses)=Ka at hr;cases hc:(Nat.ble 2 N&&Nat.ble vs.length fn.ntmps&&Nat.beq (gK ts) 0)
 ·grind
 rw[hc]at hr;simp only[Ze]at hr;simp only[Y5]at hc;obtain⟨⟨hN,hlen⟩,hnh⟩:=hc;have hN:=Zh hN;have hnh:=f9 hnh
 have fin:∀x,k ⟨ye ts.length ts x n,[],[]⟩=some r->(fH ex->∃S':SS,(match sR C.Θ S'.E (S'.F++live S'.d (F.map (AF.recol (mu [] Ka)))) fn.results.toList with
   |some rs=>match rY (S'.F++live S'.d (F.map (AF.recol (mu [] Ka)))) ts rs with
    |some (x,[],_)=>some x
    |_=>none
   |none=>none)=some x/\∀{rs:List AV},sR C.Θ S'.E (S'.F++live S'.d (F.map (AF.recol (mu [] Ka)))) fn.results.toList=some rs->∀(η:Vn) (w:World) (c1:aS),aj w c1 ((F.map (AF.recol (mu [] Ka))).map (AF.ha η)++eV) ->
   Calls P f (AV.vals η vs).toArray w (λe w'=>∃(ηe:Vn) (c':aS),e=.returned ((ke rs).val ηe)/\(∀m,m<n->ηe.b m=η.b m/\ηe.h m=η.h m)/\HA.holds w' c' (.old w c1)/\aj w' c' ((S'.F++live S'.d (F.map (AF.recol (mu [] Ka)))).map (AF.ha ηe)))) ->
   ∃u,k u=some r/\(fH ex->ahC P f vs F n u):=by
  intro x hk hx;refine⟨_,hk,λhe η w c hH=>?_⟩;obtain⟨S',hK,hcall⟩:=hx he;split at hK
  ·rename_i rs hrs;split at hK
   ·rename_i x' Kx hd;simp only[no]at hK;subst hK;have hpre:aj w (λb=>mu [] Ka (c b)) ((F.map (AF.recol (mu [] Ka))).map (AF.ha η)++eV):=
     (aj.recol (λA hA=>hH A (ZW _ hA))).append (DA rfl λA hA=>hH A (Z7 _ hA))
    refine(hcall hrs η w _ hpre).mono ?_;rintro e w' ⟨ηe,c',rfl,hβ,⟨o1,o2,o3,o4⟩,hFe⟩;have hval:(ke rs).val ηe=(ye ts.length ts x' n).val η:=by
     obtain⟨g1,g2⟩:=MJ (η:=ηe) hd;have e1:=Gu (η:=η) (nr:=ts.length) ts x' [] n (λj h hj=>by simp at hj) (by grind);rw[e1];have hlen2:(jz ts x' []).length=ts.length:=by
      have gen:∀(ts:List TC) (x:d8 ts) (l:List Hd),(jz ts x l).length=ts.length:=by
       intro ts;induction ts with
       |nil=>intro x l;rfl
       |cons t r ih=>
        intro x l;cases r with
        |nil=>rfl
        |cons t' r=>simp only[jz,aaG,ih]
      grind
     unfold wB;rw[aaU (by omega)];have g1':AV.vals ηe rs=jz ts x' []:=g1;rw[<-g1'];unfold ke;match rs with
     |[]=>rfl
     |[v]=>rfl
     |v::v'::us=>rfl
    have hpost:tS w (λb=>mu [] Ka (c b)) (λy : { η':Vn//η.agr n η'}=>(ye ts.length ts x' n).val y.1) (λ_=>[]) (.returned ((ke rs).val ηe)) w':=by refine⟨⟨η,Vn.agr_refl n η⟩,c',by rw[hval],o4,o1,λb hb' h01=>o2 b hb' h01,o3,aj.nil _ _⟩
    obtain⟨y,c2,he,hst,hF⟩:=QQ (μ:=[]) (N:=N) rfl hN (λy=>rfl) hpost;grind
   ·cases hK
  ·cases hK
 cases ex with
 |none=>
  simp only[gbind]at hr;obtain⟨x,hx,hk⟩:=bind_some hr;obtain⟨S',hK,hcall⟩:=L7 hC hm hf hcd hlen hx;exact fin x hk λ_=>⟨S',hK,hcall⟩
 | some b=>
  simp only[gbind]at hr;obtain⟨x,hx,hk⟩:=bind_some hr;cases b with
  |false=>exact fin x hk λhe=>by cases he
  |true=>
   simp only[Ze]at hx;obtain⟨S',hK,hcall⟩:=L7 hC hm hf hcd hlen hx;exact fin x hk λ_=>⟨S',hK,hcall⟩
def UD(C:Cx)(f:FuncId)(fn:Func)(an:An):Cx:={ C with T:=λg=>bif Nat.beq g f then some (λJ=>zU true false { C with Y:=some J} fn an)else C.T g}
theorem ale(hC:C.ok P)(hm:P.follows .mixedOrders=true){J:Inl}(hJ:J.yields P){f:FuncId}{fn:Func}(hf:P.funcs[f]?=some fn)(hname:(fn.name == "runtime.NumGoroutine")=false)(hbody:fn.body.isSome=true)(an:An):(zU true false { C with Y:=some J} fn an).sound P f:=
 Bs (C:={ C with Y:=some J}) true false ⟨hC.Γ,hC.Θ,hC.G,hC.D,hC.I,λJ' h=>by simp only[no]at h;subst h;exact hJ,hC.T⟩ hm hf hname hbody an
theorem Rh(h0:Yc.ex=[])(hC:∀Y:GCx,Cx.ok (Yc:=Y) C P)(hm:P.follows .mixedOrders=true){f:FuncId}{fn:Func}(hf:P.funcs[f]?=some fn)(hname:(fn.name == "runtime.NumGoroutine")=false)(hbody:fn.body.isSome=true)(an:An):(UD C f fn an).ok P:=by
 have h:=hC Yc;have hT:=h.T;refine⟨h.Γ,h.Θ,h.G,h.D,h.I,h.Y,λg T hg=>?_⟩;simp only[UD]at hg;cases hb:Nat.beq g f
 ·rw[hb]at hg;exact hT g T hg
 ·rw[hb]at hg;have:=f9 hb;subst this;simp only[Ze,no]at hg;subst hg;exact⟨h0,λY J hJ=>ale (Yc:=Y) (hC Y) hm hJ hf hname hbody an⟩
def cK(C:Cx)(f:FuncId)(J:Inl):Cx:={ C with I:=λg=>bif Nat.beq g f then some J else C.I g}
theorem bA(hC:C.ok P){f:FuncId}{J:Inl}(h:J.sound P f):(cK C f J).ok P:=by
 refine⟨hC.Γ,hC.Θ,hC.G,hC.D,λg j hg=>?_,hC.Y,hC.T⟩;simp only[cK]at hg;cases hb:Nat.beq g f
 ·rw[hb]at hg;exact hC.I g j hg
 simp_all
end
end
open Go.ChangeShapes Go.WideShapes Go.ChangeAt Go.RowKit Go.WideElems
section
variable [X:XTab] [G:GTab] [Yc:GCx]
abbrev wL:Nat->Prop:=λ_=>True
theorem adm(b:Nat):ph wL b∈[1]:=by simp[ph]
def yY:TD->SC->Bool
 |.int k,.int k'=>decide (k=k')
 |.bool,.bool=>true
 |.str,.str=>true
 |_,_=>false
def yT(Θ:Tb)(t:TypeId)(sz:Nat):Bool:=match Θ t with
 |some i=>Nat.beq i.sz sz
 |none=>false
def ou(M:TypeId->TC->Bool)(Θ:Tb):List (TypeId×Nat)->TC->Nat->Bool
 |[(t,off)],tc,pos=>Nat.beq off pos&&M t tc&&yT Θ t tc.ty.sz
 |(t,off)::f::r,.pair a b,pos=>Nat.beq off pos&&M t a&&yT Θ t a.ty.sz&&ou M Θ (f::r) b (pos+a.ty.sz)
 |_,_,_=>false
def stB(M:TypeId->TC->Bool)(Θ:Tb)(fs:List (TypeId×Nat))(tc:TC):Bool:=match fs,tc with
 |[f],.st a=>ou M Θ [f] a 0
 |f::g::r,tc=>ou M Θ (f::g::r) tc 0
 |_,_=>false
def y6(Θ:Tb):Nat->TypeId->TC->Bool
 |0,_,_=>false
 | n+1,t,tc=>match Θ t with
  | some i=>match i.d,tc with
   |.arr m e,.arr m' s=>Nat.beq m m'&&Nat.beq i.sz m&&match Θ e with
    |some ie=>yY ie.d s&&Nat.beq ie.sz 1
    |none=>false
   |.slice e,.slice te=>y6 Θ n e te&&yT Θ e te.ty.sz&&Nat.ble 1 te.ty.sz
   |.st fs,tc=>stB (y6 Θ n) Θ fs tc&&Nat.beq i.sz tc.ty.sz
   |d,.sc s=>yY d s
   |_,_=>false
  |none=>false
def QB:(s:SC)->s.den->Prop
 |.int k,n=>(Lit.int k n).wf=true
 |.str,s=>s.length<=maxLen
 |.bool,_=>True
 |.fnc,_=>True
def Bd:(t:TC)->t.den->Prop
 |.sc s,x=>QB s x
 |.arr n s,xs=>List.length (α:=s.den) xs=n/\∀x∈(show List s.den from xs),QB s x
 |.unit,_=>True
 |.pair a b,x=>Bd a x.1/\Bd b x.2
 |.slice t,xs=>List.length (α:=t.den) xs<=maxLen/\∀x∈(show List t.den from xs),Bd t x
 |.st t,x=>Bd t x
 |.ext _,_=>True
 |.node,_=>True
 |.mp _ _,_=>True
section
variable {P:Program} {H:Type} {enc:TypeId×Value->H} {w:World} {Θ:Tb}
theorem lV(hΘ:Θ.ok P){t:TypeId}{sz:Nat}(h:yT Θ t sz=true):P.cellsOf t=sz:=by
 unfold yT at h;split at h
 ·rename_i i hi;obtain⟨inf,h1,_,h2,_⟩:=(hΘ t i hi).1.get;simp only[Program.cellsOf,h1,al3,aeQ,h2];simp_all
 ·cases h
theorem pz{α β:Type}{f:α->Option β}:∀{l:List α} {r:List β},l.mapM f=some r->r.length=l.length/\∀(i:Nat) (a:α),l[i]?=some a->∃b,r[i]?=some b/\f a=some b
 |[],r,h=>by grind
 |x::l,r,h=>by simp only[amo,Option.bind_eq_bind,aeh,Option.pure_def,no]at h;obtain⟨b,hb,r',hr',rfl⟩:=h;obtain⟨h1,h2⟩:=pz hr';grind
def Fe(w:World)(tc:TC)(cs:List Value):Prop:=∃(x:tc.den) (y:tc.ty.Refs),cs=tc.ty.fill x y/\bD w wL tc.ty x y/\Bd tc x
theorem Pu{t:TypeId}{i:TInf}{s:SC}(hi:TInf.fits P t i.d)(hs:yY i.d s=true){fuel:Nat}{cs:List Value}{r:DataW H×List MemPlace}(h:DataW.trod enc P w 0 (λ_=>true) true fuel t cs=some r):∃x:s.den,cs=[s.val x]/\QB s x:=by
 cases fuel with
 |zero=>simp[DataW.trod]at h
 | succ fuel=>
  generalize i.d=d at hi hs;cases d<;>cases s<;>simp only[yY,acK]at hs<;>try cases hs
  ·rename_i k;have hi:P.underlying t=some (.int k):=hi;unfold DataW.trod at h;rw[hi]at h;match cs,h with
   |[.int k' n],h=>
    simp only at h;split at h
    ·rename_i hk;obtain⟨rfl,hw⟩:=hk;exact⟨n,rfl,hw⟩
    ·cases h
  ·have hi:P.underlying t=some .bool:=hi;unfold DataW.trod at h;rw[hi]at h;match cs,h with
   |[.bool b],_=>exact⟨b,rfl,trivial⟩
  ·have hi:P.underlying t=some .string:=hi;unfold DataW.trod at h;rw[hi]at h;match cs,h with
   |[.string s],h=>
    simp only at h;split at h
    ·rename_i hl;exact⟨s.data.toList,rfl,by show s.data.toList.length<=maxLen;simpa using hl⟩
    ·cases h
theorem ac3{w:World}{a:Addr}{v:Value}(h:w.cell? a=some v):∃arr ty fz,a.spot=none/\w.heap[a.block]?=some (.cells arr ty fz)/\arr[a.off]?=some v:=by
 unfold World.cell? at h;split at h
 ·simp_all
 ·cases h
theorem Wu{w:World}{b off n:Nat}{cs:List Value}{arr:Array Value}{ty:TypeId}{fz:Nat×Nat}(hb:w.heap[b]?=some (.cells arr ty fz))(h:w.cells? 0 ⟨b,off,none⟩ n=some cs):cs.length=n/\(arr.toList.drop off).take n=cs/\(1<=n->off+n<=arr.size):=by
 unfold World.cells? at h;rw[if_pos (aen _)]at h;obtain⟨h1,h2⟩:=pz h;rw[alo]at h1;have hat:∀i,i<n->arr[off+i]?=cs[i]?:=λi hi=>by obtain⟨v,hv,hc⟩:=h2 i i (by simp[hi]);rw[eN]at hc;unfold World.cell? at hc;grind
 have hsz:1<=n->off+n<=arr.size:=λhn=>by have e:=hat (n-1) (by omega);grind
 refine⟨h1,?_,hsz⟩;apply ace;grind
theorem wT(hΘ:Θ.ok P){n:Nat}(ih:∀(t:TypeId) (tc:TC) (fuel:Nat) (cs:List Value) (r:DataW H×List MemPlace),y6 Θ n t tc=true->DataW.trod enc P w 0 (λ_=>true) true fuel t cs=some r->Fe w tc cs){fuel:Nat}{cs:List Value} :
  ∀(fs:List (TypeId×Nat)) (tc:TC) (pos:Nat),ou (y6 Θ n) Θ fs tc pos=true ->
   (∀f∈fs,∃r,DataW.trod enc P w 0 (λ_=>true) true fuel f.1 ((cs.drop f.2).take (P.cellsOf f.1))=some r)->Fe w tc ((cs.drop pos).take tc.ty.sz)
 |[],_,_,h,_=>by simp[ou]at h
 |[(t,off)],tc,pos,h,hr=>by grind[ou,List.mem_cons_self,lV,Nat.eq_of_beq_eq_true]
 |(t,off)::f::fs,.pair a b,pos,h,hr=>by simp only[ou,Y5]at h;obtain⟨⟨⟨h1,h2⟩,h3⟩,h4⟩:=h;obtain⟨r,hr1⟩:=hr (t,off) ZO;simp only at hr1;rw[lV hΘ h3,f9 h1]at hr1;obtain⟨x,y,e1,r1,w1⟩:=ih t a fuel _ r h2 hr1;obtain⟨x2,y2,e2,r2,w2⟩:=wT hΘ ih (f::fs) b (pos+a.ty.sz) h4 λg hg=>hr g (Zf _ hg);refine⟨(x,x2),(y,y2),?_,⟨r1,r2⟩,⟨w1,w2⟩⟩;show(cs.drop pos).take (a.ty.sz+b.ty.sz)=a.ty.fill x y++b.ty.fill x2 y2;rw[<-e1,<-e2,amK,adg]
 |_::_::_,.sc _,_,h,_=>by simp[ou]at h
 |_::_::_,.arr _ _,_,h,_=>by simp[ou]at h
 |_::_::_,.unit,_,h,_=>by simp[ou]at h
 |_::_::_,.slice _,_,h,_=>by simp[ou]at h
 |_::_::_,.st _,_,h,_=>by simp[ou]at h
 |_::_::_,.ext _,_,h,_=>by simp[ou]at h
 |_::_::_,.node,_,h,_=>by simp[ou]at h
 |_::_::_,.mp _ _,_,h,_=>by simp[ou]at h
theorem RR{tc:TC}{sz:Nat}(hsz:sz=tc.ty.sz)(h1:1<=sz){a:Addr}{len cap:Nat}(hle:len<=cap)(hm:cap<=maxLen)(hall:∀i,i<cap->∃cs,w.cells? 0 (a.add (i*sz)) sz=some cs/\(i<len->Fe w tc cs)) :
  Fe w (.slice tc) [.slice (some a) len cap]:=by
 by_cases h0:cap=0
 ·have hl0:len=0:=by omega
  subst hl0;exact⟨([]:List tc.den),(⟨some a,0,cap⟩:Hd),rfl,⟨[],trivial,rfl,by simp,hm,.inl ⟨trivial,h0⟩⟩,by simp[Bd,maxLen]⟩
 ·obtain⟨cs0,hc0,_⟩:=hall 0 (by omega);have hcell:∃v,w.cell? a=some v:=by
   unfold World.cells? at hc0;rw[if_pos (aen _)]at hc0;obtain⟨_,h2⟩:=pz hc0;obtain⟨v,_,hv⟩:=h2 0 0 (by grind);exact⟨v,by simpa[Addr.add]using hv⟩
  obtain⟨v,hv⟩:=hcell;obtain⟨arr,ty,fz,hspot,hb,_⟩:=ac3 hv;obtain⟨b,off,spot⟩:=a;simp only at hspot hb;subst hspot;have hrow:∀i,i<cap->∃cs,(arr.toList.drop (off+i*sz)).take sz=cs/\off+i*sz+sz<=arr.size/\(i<len->Fe w tc cs):=λi hi=>by obtain⟨cs,hc,hr⟩:=hall i hi;rw[eN]at hc;obtain⟨_,k2,k3⟩:=Wu hb hc;grind
  have gen:∀k,k<=len->∃(xs:List tc.den) (ys:List tc.ty.Refs),xs.length=k/\bX (bD w wL tc.ty) xs ys/\(arr.toList.drop off).take (k*sz)=cellsOf tc.ty xs ys/\∀x∈xs,Bd tc x:=by
   intro k;induction k with
   |zero=>intro _;exact⟨[],[],rfl,trivial,by simp[cellsOf],by simp⟩
   |succ k ih=>
    intro hk;obtain⟨xs,ys,e1,r1,c1,w1⟩:=ih (by omega);obtain⟨cs,hcs,_,hr⟩:=hrow k (by omega);obtain⟨x,y,e2,r2,w2⟩:=hr (by omega);refine⟨xs++[x],ys++[y],by simp[e1],r1.append ⟨r2,trivial⟩,?_,λz hz=>?_⟩
    ·rw[dU tc.ty r1.length,<-c1,show(k+1)*sz=k*sz+sz by grind,amK,adg];congr 1;rw[hcs,e2];simp[cellsOf]
    grind
  obtain⟨xs,ys,e1,r1,c1,w1⟩:=gen len (Z0 _);obtain⟨_,_,hlast,_⟩:=hrow (cap-1) (by omega);refine⟨xs,(⟨some ⟨b,off,none⟩,len,cap⟩:Hd),rfl,⟨ys,r1,e1.symm,(show xs.length<=cap by omega),hm,.inr ⟨b,off,arr,ty,fz,rfl,trivial,hb,?_,?_⟩⟩,⟨show xs.length<=maxLen by omega,w1⟩⟩
  ·show off+cap*tc.ty.sz<=arr.size;rw[<-hsz];have:cap*sz=(cap-1)*sz+sz:=by
    conv=>lhs;rw[show cap=(cap-1)+1 by omega,acG]
    omega
   omega
  grind
theorem N2(hΘ:Θ.ok P):∀(n:Nat) (t:TypeId) (tc:TC) (fuel:Nat) (cs:List Value) (r:DataW H×List MemPlace),y6 Θ n t tc=true->DataW.trod enc P w 0 (λ_=>true) true fuel t cs=some r->Fe w tc cs
 |0,_,_,_,_,_,h,_=>by simp[y6]at h
 | n+1,t,tc,fuel,cs,r,hm,h=>by
  have ih:=N2 hΘ n;simp only[y6]at hm;split at hm
  ·rename_i i hi;obtain⟨hti,hfit,_,_⟩:=hΘ t i hi;split at hm
   ·rename_i m e m' s hd;simp only[Y5]at hm;obtain⟨⟨hmm,hsz⟩,he⟩:=hm;obtain rfl:=f9 hmm;split at he
    ·rename_i ie hie;simp only[Y5]at he;rw[hd]at hfit;have hu:P.underlying t=some (.array m e):=hfit;have hce:P.cellsOf e=1:=lV hΘ (by simp only[yT,hie];exact he.2);have hct:P.cellsOf t=m:=lV hΘ (by simp only[yT,hi];exact hsz);cases fuel with
     |zero=>simp[DataW.trod]at h
     | succ fuel=>
      unfold DataW.trod at h;rw[hu]at h;simp only at h;split at h
      ·rename_i hlen;rw[hct]at hlen;simp only[aa8]at h;obtain⟨xs,hxs,_⟩:=h;obtain⟨_,h2⟩:=pz hxs;have hel:∀j,j<m->∃x:s.den,cs[j]?=some (s.val x)/\QB s x:=λj hj=>by
        obtain⟨b,_,hb⟩:=h2 j j (by simp[hj]);obtain⟨x,e1,e2⟩:=Pu (hΘ e ie hie).2.1 he.1 hb;rw[hce,aep]at e1;have:=aae (·[0]?) e1;grind
       have gen:∀k,k<=m->∃xs:List s.den,xs.length=k/\cs.take k=xs.map s.val/\∀x∈xs,QB s x:=by
        intro k;induction k with
        |zero=>simp_all
        |succ k ihk=>
         intro hk;obtain⟨xs,e1,e2,e3⟩:=ihk (by omega);obtain⟨x,e4,e5⟩:=hel k (by omega);refine⟨xs++[x],by simp[e1],?_,λz hz=>?_⟩
         ·rw[alr,e4,e2];simp
         grind
       obtain⟨ys,e1,e2,e3⟩:=gen m (Z0 _);refine⟨ys,(),?_,trivial,⟨e1,e3⟩⟩;have:cs=ys.map s.val:=by grind
       rw[this];apply ace;grind[uR,List.getElem?_eq_getElem,List.getElem?_eq_none,Ty.fill_length]
      ·cases h
    ·cases he
   ·rename_i e te hd;simp only[Y5]at hm;obtain⟨⟨hme,hse⟩,h1⟩:=hm;rw[hd]at hfit;have hu:P.underlying t=some (.slice e):=hfit;have hce:=lV hΘ hse;have h1:=Zh h1;cases fuel with
    |zero=>simp[DataW.trod]at h
    | succ fuel=>
     unfold DataW.trod at h;rw[hu]at h;match cs,h with
     |[.slice none 0 0],_=>exact⟨([]:List te.den),(⟨none,0,0⟩:Hd),rfl,⟨[],trivial,rfl,by simp,by simp[maxLen],.inl ⟨trivial,rfl⟩⟩,by simp[Bd,maxLen]⟩
     | [.slice (some a) len cap],h=>
      simp only at h;split at h
      ·rename_i hb;obtain⟨_,hle,hmx⟩:=hb;simp only[aeh]at h;obtain⟨elems,hel,h⟩:=h;simp only[aaL,aa8]at h;obtain⟨rest,hrest,_⟩:=h;obtain⟨_,k1⟩:=pz hel;obtain⟨_,k2⟩:=pz hrest;refine RR (tc:=te) rfl h1 hle hmx λi hi=>?_
       rw[<-hce];by_cases hil:i<len
       ·obtain⟨b,_,hb⟩:=k1 i i (by simp[hil]);simp only[aeh]at hb;obtain⟨cs',hc,ht⟩:=hb;exact⟨cs',hc,λ_=>ih e te fuel cs' b hme ht⟩
       ·obtain⟨b,_,hb⟩:=k2 (i-len) (i-len) (by rw[ae9 (by omega)]);rw[show len+(i-len)=i by omega]at hb;simp only[aeh]at hb;obtain⟨cs',hc,_⟩:=hb;exact⟨cs',hc,λhh=>absurd hh hil⟩
      ·cases h
   ·rename_i tc _ _ fs hd;simp only[Y5]at hm;obtain⟨hst,hsz⟩:=hm;rw[hd]at hfit;obtain⟨Fd,hu,hfs⟩:=hfit;have hct:P.cellsOf t=tc.ty.sz:=lV hΘ (by simp only[yT,hi];exact hsz);cases fuel with
    |zero=>simp[DataW.trod]at h
    | succ fuel=>
     unfold DataW.trod at h;rw[hu]at h;simp only at h;split at h
     ·rename_i hlen;rw[hct]at hlen;simp only[aa8]at h;obtain⟨xs,hxs,_⟩:=h;obtain⟨_,h2⟩:=pz hxs;have hall:∀f∈fs,∃r,DataW.trod enc P w 0 (λ_=>true) true fuel f.1 ((cs.drop f.2).take (P.cellsOf f.1))=some r:=λf hf=>by
       grind[List.mem_iff_getElem?]
      unfold stB at hst;split at hst
      ·rename_i f a;have:=wT hΘ ih [f] a 0 hst hall;rw[adq,aaU (by grind)]at this;exact this
      ·rename_i f g r;have:=wT hΘ ih (f::g::r) tc 0 hst hall;grind
      ·cases hst
     ·cases h
   ·rename_i s _ _ _;obtain⟨x,e1,e2⟩:=Pu hfit hm h;exact⟨x,(),e1,trivial,e2⟩
   ·cases hm
  ·cases hm
end
end
end Go.Sm
