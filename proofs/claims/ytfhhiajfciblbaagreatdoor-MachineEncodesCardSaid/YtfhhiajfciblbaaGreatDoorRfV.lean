/- Laws for the row. No condition. -/
import Derived.Test.YtfhhiajfciblbaaGreatDoorRfR
namespace Go.Sm
set_option linter.unusedSectionVars false
set_option linter.unusedVariables false
variable {fn:Func} {w:World} {n:Nat}
section
variable [X:XTab] [G:GTab]
def AF.recol(m:Nat->Nat):AF->AF
 |.rep t K xs h=>.rep t (K.map m) xs h
 |.own t e i K xs h=>.own t e (m i) (K.map m) xs h
 |.box i b cs=>.box (m i) b cs
 |.isn h b=>.isn h b
 |.prt a b s l h=>.prt a b s l h
 |.pbx a b s l h=>.pbx a b s l h
 |.hol t e i xs h k cs=>.hol t e (m i) xs h k cs
 |.mp k v i xs h=>.mp k v (m i) xs h
 |.pt t e i K xs h k=>.pt t e (m i) (K.map m) xs h k
theorem Qa{m:Nat->Nat}{η:Vn}{c:bu}:(f:AF)->(f.ha η).holds w c->((f.recol m).ha η).holds w (λb=>m (c b))
 |.rep t K xs h,hh=>bU.keep (S:=λb=>c b∈K) (λb _ hb=>⟨aaG.2 ⟨_,hb,rfl⟩,rfl⟩) (.slice t.ty) xs (η.h h) hh
 |.own t e i K xs h,hh=>N4 (λb _ hb=>by grind) (λb _ hb=>aaG.2 ⟨_,hb,rfl⟩) hh
 |.box i b cs,hh=>⟨hh.1,by show m (c _)=m i;rw[hh.2]⟩
 |.isn h b,hh=>hh
 |.prt a b s l h,hh=>hh
 |.pbx a b s l h,hh=>hh
 |.hol t e i xs h k cs,hh=>kU.keep (λb _ (hb:c b=i)=>⟨by grind,rfl⟩) hh
 |.pt t e i K xs h k,hh=>xY.keep (S:=λb=>c b=i) (SK:=λb=>c b∈K) (λb _ (hb:c b=i)=>⟨by grind,rfl⟩) (λb _ hb=>⟨aaG.2 ⟨_,hb,rfl⟩,rfl⟩) hh
 |.mp k v i xs h,hh=>um.keep (S:=λb=>c b=i) (S':=λb=>m (c b)=m i) (λb _ (hb:c b=i)=>⟨by grind,rfl⟩) hh
theorem aan{g:Nat->Nat}{η:Vn}:(f:AF)->(f.recol g).ha η=(f.ha η).ren g
 |.rep t K xs h=>rfl
 |.own t e i K xs h=>adh.symm
 |.box i b cs=>rfl
 |.isn h b=>rfl
 |.prt a b s l h=>rfl
 |.pbx a b s l h=>rfl
 |.hol t e i xs h k cs=>rfl
 |.mp k v i xs h=>rfl
 |.pt t e i K xs h k=>rfl
theorem aq.recol{m:Nat->Nat}{η:Vn}{c:bu}{F:List AF}(h:aq w c (F.map (AF.ha η))):aq w (λb=>m (c b)) ((F.map (AF.recol m)).map (AF.ha η)):=by intro A hA;obtain⟨B,hB,rfl⟩:=aaG.1 hA;obtain⟨f,hf,rfl⟩:=aaG.1 hB;exact Qa f (h _ (aaG.2 ⟨f,hf,rfl⟩))
def AF.colI(N:Nat)(Ka:List Nat):AF->AF
 |.rep t K xs h=>.rep t (instK N Ka K) xs h
 |.own t e i K xs h=>.own t e (N+(i-2)) (instK N Ka K) xs h
 |.box i b cs=>.box (N+(i-2)) b cs
 |.isn h b=>.isn h b
 |.prt a b s l h=>.prt a b s l h
 |.pbx a b s l h=>.pbx a b s l h
 |.hol t e i xs h k cs=>.hol t e (N+(i-2)) xs h k cs
 |.mp k v i xs h=>.mp k v (N+(i-2)) xs h
 |.pt t e i K xs h k=>.pt t e (N+(i-2)) (instK N Ka K) xs h k
theorem amw{N:Nat}{Ka:List Nat}{η:Vn}:(f:AF)->HA.inst N Ka (f.ha η)=(f.colI N Ka).ha η
 |.rep t K xs h=>rfl
 |.own t e i K xs h=>A6
 |.box i b cs=>rfl
 |.isn h b=>rfl
 |.prt a b s l h=>rfl
 |.pbx a b s l h=>rfl
 |.hol t e i xs h k cs=>rfl
 |.mp k v i xs h=>rfl
 |.pt t e i K xs h k=>rfl
def AF.lvB:AF->Bool
 |.rep _ K _ _=>K.all λk=>Nat.ble 1 k
 |.own _ _ i K _ _=>Nat.ble 2 i&&K.all λk=>Nat.ble 1 k
 |.box i _ _=>Nat.ble 2 i
 |.isn _ _=>true
 |.prt _ _ _ _ _=>true
 |.pbx _ _ _ _ _=>true
 |.hol _ _ i _ _ _ _=>Nat.ble 2 i
 |.mp _ _ i _ _=>Nat.ble 2 i
 |.pt _ _ i K _ _ _=>Nat.ble 2 i&&K.all λk=>Nat.ble 1 k
theorem ann{η:Vn}:(f:AF)->(f.ha η).leaves=f.lvB
 |.rep t K xs h=>rfl
 |.own t e i K xs h=>xl
 |.box i b cs=>rfl
 |.isn h b=>rfl
 |.prt a b s l h=>rfl
 |.pbx a b s l h=>rfl
 |.hol t e i xs h k cs=>rfl
 |.mp k v i xs h=>rfl
 |.pt t e i K xs h k=>rfl
theorem Sr{w':World}{c:bu}{Ka:List Nat}{μ:List (Nat×Nat)}{N:Nat}{Y:Type}{val:Y->Value}{fcts:Y->List HA}{e:Ending}(hq:μ.all (λp=>Nat.ble 2 p.2)=true)(hN:2<=N)(hl:∀y,(fcts y).all HA.leaves=true)
  (h:zb w (λb=>mu μ Ka (c b)) val fcts e w'):∃y c'',e=.returned (val y)/\Stp (μ.map (·.1)) w c w' c''/\aq w' c'' ((fcts y).map (HA.inst N Ka)):=by
 obtain⟨y,c',rfl,henv,h1,hold,hnew,hF⟩:=h;refine⟨y,uv w c (μ.map (·.1)) N c',rfl,⟨h1,λb hb hn=>by simp only[uv];grind,λb hb hn=>(hold b hb (xX hn).1).1,λb hb hb' => ?_,henv⟩,?_⟩
 ·simp only[uv];grind
 ·intro A hA;obtain⟨B,hB,rfl⟩:=aaG.1 hA;refine instC_holds (λb hb hn=>?_) (λb hb hn=>hnew b hb λhlt=>TU hq (hn hlt)) B (aaB.1 (hl y) B hB) (hF B hB);grind[xX]
def vO(m:Nat):List Nat->Nat
 |[]=>0
 |a::r=>bif Nat.beq m a then 0 else vO m r+1
theorem OU{m:Nat}:∀{l:List Nat},cq m l=true->vO m l<l.length/\l.getD (vO m l) 0=m
 |[],h=>by simp[cq]at h
 | a::r,h=>by
  simp only[vO];cases hb:Nat.beq m a
  ·have hm:cq m r=true:=by
    simp only[cq,List.any_cons,hb,akq]at h;exact h
   obtain⟨h1,h2⟩:=OU hm;grind
  simp_all
def qv(n:Nat)(l:List Nat)(m:Nat):Nat:=bif Nat.blt m n then m else n+vO m l
def okR(n:Nat)(l:List Nat)(m:Nat):Bool:=Nat.blt m n||cq m l
def Vn.rn(n:Nat)(l:List Nat)(η ηe:Vn):Vn:=⟨λx=>bif Nat.blt x n||Nat.ble (n+64) x then η.h x else ηe.h (l.getD (x-n) 0),λx=>bif Nat.blt x n||Nat.ble (n+64) x then η.b x else ηe.b (l.getD (x-n) 0)⟩
theorem Vn.rn_agr{l:List Nat}{η ηe:Vn}:η.agr n (Vn.rn n l η ηe):=λm hm=>by have h:(Nat.blt m n||Nat.ble (n+64) m)=true:=hm;simp only[Vn.rn,h,f9,and_self]
def CL(n:Nat)(l:List Nat)(η' ηe:Vn):Prop:=∀m,okR n l m=true->η'.h (qv n l m)=ηe.h m/\η'.b (qv n l m)=ηe.b m
theorem aqV{l:List Nat}{η ηe:Vn}(hl:l.length<=64)(hlow:∀m,m<n->ηe.b m=η.b m/\ηe.h m=η.h m):CL n l (Vn.rn n l η ηe) ηe:=by
 intro m hm;cases hb:Nat.blt m n
 ·have hm':cq m l=true:=by simpa[okR,hb]using hm
  obtain⟨h1,h2⟩:=OU hm';have e1:(Nat.blt (n+vO m l) n||Nat.ble (n+64) (n+vO m l))=false:=by
   rw[acV];refine⟨?_,?_⟩
   ·cases hh:Nat.blt (n+vO m l) n
    ·rfl
    ·have:n+vO m l+1<=n:=aaA hh;omega
   ·cases hh:Nat.ble (n+64) (n+vO m l)
    ·rfl
    ·have:=aaA hh;omega
  grind[Vn.rn,qv,vO]
 ·have h1:m+1<=n:=aaA hb;grind[Vn.rn,qv]
def Lf.rn(n:Nat)(l:List Nat):Lf->Lf
 |.sl h=>.sl (qv n l h)
 |.bp b off=>.bp (qv n l b) off
 |.bq b off m s j=>.bq (qv n l b) off m s j
 |.rp h t i u p=>.rp (qv n l h) t i u p
 |.clo f b=>.clo f (qv n l b)
 |.mp h=>.mp (qv n l h)
 |x=>x
def Lf.okR(n:Nat)(l:List Nat):Lf->Bool
 |.sl h=>Go.Sm.okR n l h
 |.bp b _=>Go.Sm.okR n l b
 |.bq b _ _ _ _=>Go.Sm.okR n l b
 |.rp h _ _ _ _=>Go.Sm.okR n l h
 |.clo _ b=>Go.Sm.okR n l b
 |.mp h=>Go.Sm.okR n l h
 |_=>true
mutual
def AV.rn(n:Nat)(l:List Nat):AV->AV
 |.lf x=>.lf (x.rn n l)
 |.ag ls=>.ag (ls.map (Lf.rn n l))
 |.tu vs=>.tu (AV.rns n l vs)
def AV.rns(n:Nat)(l:List Nat):List AV->List AV
 |[]=>[]
 |v::r=>v.rn n l::AV.rns n l r
end
mutual
def AV.okR(n:Nat)(l:List Nat):AV->Bool
 |.lf x=>x.okR n l
 |.ag ls=>ls.all (Lf.okR n l)
 |.tu vs=>AV.okRs n l vs
def AV.okRs(n:Nat)(l:List Nat):List AV->Bool
 |[]=>true
 |v::r=>v.okR n l&&AV.okRs n l r
end
def AF.rn(n:Nat)(l:List Nat):AF->AF
 |.rep t K xs h=>.rep t K xs (qv n l h)
 |.own t e i K xs h=>.own t e i K xs (qv n l h)
 |.box i b cs=>.box i (qv n l b) (cs.map (Lf.rn n l))
 |.isn h b=>.isn (qv n l h) b
 |.prt a b s lo hi=>.prt (qv n l a) (qv n l b) s lo hi
 |.pbx a b s lo hi=>.pbx (qv n l a) (qv n l b) s lo hi
 |.hol t e i xs h k cs=>.hol t e i xs (qv n l h) k (cs.map (Lf.rn n l))
 |.mp k v i xs h=>.mp k v i xs (qv n l h)
 |.pt t e i K xs h k=>.pt t e i K xs (qv n l h) k
def AF.okR(n:Nat)(l:List Nat):AF->Bool
 |.rep _ _ _ h=>Go.Sm.okR n l h
 |.own _ _ _ _ _ h=>Go.Sm.okR n l h
 |.box _ b cs=>Go.Sm.okR n l b&&cs.all (Lf.okR n l)
 |.isn h _=>Go.Sm.okR n l h
 |.prt a b _ _ _=>Go.Sm.okR n l a&&Go.Sm.okR n l b
 |.pbx a b _ _ _=>Go.Sm.okR n l a&&Go.Sm.okR n l b
 |.hol _ _ _ _ h _ cs=>Go.Sm.okR n l h&&cs.all (Lf.okR n l)
 |.mp _ _ _ _ h=>Go.Sm.okR n l h
 |.pt _ _ _ _ _ h _=>Go.Sm.okR n l h
section
variable {n:Nat} {l:List Nat} {η' ηe:Vn}
theorem Lf.rn_cells(hr:CL n l η' ηe):(x:Lf)->x.okR n l=true->(x.rn n l).cells η'=x.cells ηe
 |.sl h,hh=>by simp only[Lf.rn,Lf.cells,(hr h hh).1]
 |.bp b off,hh=>by simp only[Lf.rn,Lf.cells,(hr b hh).2]
 |.bq b off m s j,hh=>by simp only[Lf.rn,Lf.cells,(hr b hh).2]
 |.rp h t i u p,hh=>by simp only[Lf.rn,Lf.cells,(hr h hh).1]
 |.clo f b,hh=>by simp only[Lf.rn,Lf.cells,(hr b hh).2]
 |.mp h,hh=>by simp only[Lf.rn,Lf.cells,(hr h hh).1]
 |.c _ _,_=>rfl
 |.ar _ _ _,_=>rfl
 |.nl,_=>rfl
 |.xt _ _,_=>rfl
 |.fn _,_=>rfl
 |.gp _ _ _ _ _,_=>rfl
 |.ars _ _,_=>rfl
 |.v _,_=>rfl
theorem Lf.rn_val(hr:CL n l η' ηe):(x:Lf)->x.okR n l=true->(x.rn n l).val η'=x.val ηe
 |.sl h,hh=>by simp only[Lf.rn,Lf.val,(hr h hh).1]
 |.bp b off,hh=>by simp only[Lf.rn,Lf.val,(hr b hh).2]
 |.bq b off m s j,hh=>by simp only[Lf.rn,Lf.val,(hr b hh).2]
 |.rp h t i u p,hh=>by simp only[Lf.rn,Lf.val,(hr h hh).1]
 |.clo f b,hh=>by simp only[Lf.rn,Lf.val,(hr b hh).2]
 |.mp h,hh=>by simp only[Lf.rn,Lf.val,(hr h hh).1]
 |.c _ _,_=>rfl
 |.ar _ _ _,_=>rfl
 |.nl,_=>rfl
 |.xt _ _,_=>rfl
 |.fn _,_=>rfl
 |.gp _ _ _ _ _,_=>rfl
 |.ars _ _,_=>rfl
 |.v _,_=>rfl
theorem wy(hr:CL n l η' ηe):(ls:List Lf)->ls.all (Lf.okR n l)=true->ay η' (ls.map (Lf.rn n l))=ay ηe ls
 |[],_=>rfl
 |x::r,h=>by simp only[adD,aas]at h;simp only[aa4,ay,Lf.rn_cells hr x h.1,wy hr r h.2]
mutual
theorem AV.rn_val(hr:CL n l η' ηe):(v:AV)->v.okR n l=true->(v.rn n l).val η'=v.val ηe
 |.lf x,h=>by simp only[AV.rn,AV.val];exact Lf.rn_val hr x h
 |.ag ls,h=>by simp only[AV.rn,AV.val];rw[wy hr ls h]
 |.tu vs,h=>by simp only[AV.rn,AV.val];rw[AV.rns_vals hr vs h]
theorem AV.rns_vals(hr:CL n l η' ηe):(vs:List AV)->AV.okRs n l vs=true->AV.vals η' (AV.rns n l vs)=AV.vals ηe vs
 |[],_=>rfl
 |v::r,h=>by simp only[AV.okRs,aas]at h;simp only[AV.rns,AV.vals,AV.rn_val hr v h.1,AV.rns_vals hr r h.2]
end
theorem AF.rn_ha(hr:CL n l η' ηe):(f:AF)->f.okR n l=true->(f.rn n l).ha η'=f.ha ηe
 |.rep t K xs h,hh=>by simp only[AF.rn,AF.ha,(hr h hh).1]
 |.own t e i K xs h,hh=>by simp only[AF.rn,AF.ha,(hr h hh).1]
 |.box i b cs,hh=>by simp only[AF.okR,aas]at hh;simp only[AF.rn,AF.ha,(hr b hh.1).2,wy hr cs hh.2]
 |.isn h b,hh=>by simp only[AF.rn,AF.ha,(hr h hh).1]
 |.prt a b s lo hi,hh=>by simp only[AF.okR,aas]at hh;simp only[AF.rn,AF.ha,(hr a hh.1).1,(hr b hh.2).1]
 |.pbx a b s lo hi,hh=>by simp only[AF.okR,aas]at hh;simp only[AF.rn,AF.ha,(hr a hh.1).1,(hr b hh.2).2]
 |.hol t e i xs h k cs,hh=>by simp only[AF.okR,aas]at hh;simp only[AF.rn,AF.ha,(hr h hh.1).1,wy hr cs hh.2]
 |.mp k v i xs h,hh=>by simp only[AF.rn,AF.ha,(hr h hh).1]
 |.pt t e i K xs h k,hh=>by simp only[AF.rn,AF.ha,(hr h hh).1]
end
def pM:List Nat->List Nat
 |[]=>[]
 |a::r=>bif cq a r then pM r else a::pM r
def Lf.nms(x:Lf):List Nat:=x.hs++x.bs
def AV.nms:AV->List Nat
 |.lf x=>x.nms
 |.ag ls=>ls.flatMap Lf.nms
 |.tu vs=>AV.nmss vs
where AV.nmss:List AV->List Nat
 |[]=>[]
 |v::r=>v.nms++AV.nmss r
def AF.main:AF->Nat
 |.rep _ _ _ h=>h
 |.own _ _ _ _ _ h=>h
 |.box _ b _=>b
 |.isn h _=>h
 |.prt h _ _ _ _=>h
 |.pbx h _ _ _ _=>h
 |.hol _ _ _ _ h _ _=>h
 |.mp _ _ _ _ h=>h
 |.pt _ _ _ _ _ h _=>h
def AF.inner:AF->List Nat
 |.box _ _ cs=>cs.flatMap Lf.nms
 |.hol _ _ _ _ _ _ cs=>cs.flatMap Lf.nms
 |_=>[]
def ai5(n:Nat)(av:AV)(F:List AF):List Nat:=
 let l0:=(av.nms++(F.filter λf=>Nat.blt f.main n).flatMap AF.inner).filter λm=>Nat.ble n m
 let l1:=l0++((F.filter λf=>cq f.main l0).flatMap AF.inner).filter λm=>Nat.ble n m
 let l2:=l1++((F.filter λf=>cq f.main l1).flatMap AF.inner).filter λm=>Nat.ble n m
 pM l2
def AF.ownC:AF->List Nat
 |.own _ _ i _ _ _=>[i]
 |.box i _ _=>[i]
 |.hol _ _ i _ _ _ _=>[i]
 |.mp _ _ i _ _=>[i]
 |.pt _ _ i _ _ _ _=>[i]
 |_=>[]
def m9:List AV->AV
 |[v]=>v
 |vs=>.tu vs
def AF.slim:AF->AF
 |.own t e i K xs h=>.own t e i (bif t.ty.pureB||fQ e then []else K) xs h
 |f=>f
theorem Wh{η:Vn}{c:bu}:(f:AF)->(f.ha η).holds w c->(f.slim.ha η).holds w c
 | .own t e i K xs h,hh=>by
  simp only[AF.slim];cases hp:t.ty.pureB
  ·cases htr:fQ e
   ·exact hh
   ·simp only[AF.ha,jB htr,Bool.or_true,f9]at hh|-;exact hh
  ·cases htr:fQ e
   ·simp only[AF.ha,eH htr,Bool.true_or,f9]at hh|-;exact A2 hp _ _ hh
   ·simp only[AF.ha,jB htr,Bool.or_true,f9]at hh|-;exact hh
 |.rep _ _ _ _,h=>h
 |.box _ _ _,h=>h
 |.isn _ _,h=>h
 |.prt _ _ _ _ _,h=>h
 |.pbx _ _ _ _ _,h=>h
 |.hol _ _ _ _ _ _ _,h=>h
 |.mp _ _ _ _ _,h=>h
 |.pt _ _ _ _ _ _ _,h=>h
def Yo(n N:Nat)(κs Ka:List Nat)(F1:List AF)(vs:List AV)(S:SS):Option Out:=
 let av:=m9 vs
 let FF:=S.F++(live S.d F1).filter λf=>f.uses.any λk=>Nat.ble 2 k
 let l:=ai5 n av FF
 let F2:=FF.filter λf=>f.okR n l&&(Nat.blt f.main n||cq f.main l)
 let cm:=gB (pM ((F2.flatMap AF.uses).filter λk=>Nat.ble 2 k)) 2
 let F3:=F2.map λf=>((f.rn n l).recol (rj cm 2)).slim
 bif av.okR n l&&Nat.ble l.length 64&&F3.all AF.lvB then some ⟨av.rn n l,F3.map (AF.colI N Ka),κs⟩else none
section
variable [Itr]
def XT(F:List AF):Nat->List Nat->List Nat
 |0,l=>l
 |k+1,l=>XT F k (pM (l++(F.filter λf=>cq f.main l).flatMap AF.inner))
def YE(vs:List AV)(F:List AF):List Nat:=let l:=XT F 5 (vs.flatMap AV.nms);pM (((F.filter λf=>cq f.main l).flatMap AF.ownC).filter λk=>Nat.ble 2 k)
def Lp(wr:Bool)(C:Cx)(fn:Func)(an:An):Inl:=⟨wr,λ{R} ex n N vs F k=>match ex,fn.body with
 | none,some cd=>
  let κs:=bif wr then YE vs F else []
  let Ka:=pM ((F.flatMap AF.uses).filter λk=>!(cq k κs))
  let μ:=gB κs 2
  let F1:=F.map (AF.recol (mu μ Ka))
  let K:SS->Option R:=λS=>match uq C.Θ S.E (S.F++live S.d F1) fn.results.toList with
   |some rs=>(Yo n N κs Ka F1 rs S).bind k
   |none=>none
  bif Nat.ble 2 N&&Nat.ble vs.length fn.ntmps then qa (C.at n) fn.ntmps cd R an [] F1 ⟨xb vs 0,[],n,256,[]⟩ ⟨K,K,λ_ _=>none⟩else none
 |_,_=>none⟩
def qM(C:Cx)(fn:Func)(an:An):Inl:=Lp true C fn an
def kL(C:Cx)(fn:Func)(an:An):Inl:=Lp false C fn an
def rR(C:Cx)(fn:Func)(an:An)(ts:List TC):Inl:=⟨false,λ{R} ex n N vs F k=>match fn.body with
 | some cd=>
  let Ka:=pM (F.flatMap AF.uses)
  let F1:=F.map (AF.recol (mu [] Ka))
  let K:SS->Option (eS ts):=λS=>match uq C.Θ S.E (S.F++live S.d F1) fn.results.toList with
   |some rs=>match tg (S.F++live S.d F1) ts rs with
    |some (x,[],_)=>some x
    |_=>none
   |none=>none
  bif Nat.ble 2 N&&Nat.ble vs.length fn.ntmps&&Nat.beq (jJ ts) 0 then gbind ex (acs ts) (qa (C.at n) fn.ntmps cd (eS ts) an [] F1 ⟨xb vs 0,[],n,256,[]⟩ ⟨K,K,λ_ _=>none⟩) λr=>k ⟨zy ts.length ts r n,[],[]⟩else none
 |none=>none⟩
variable {P:Program} {C:Cx}
theorem AK:∀(l:List Nat) (q:Nat),2<=q->(gB l q).all (λp=>Nat.ble 2 p.2)=true
 |[],_,_=>rfl
 |i::r,q,h=>by simp only[gB,adD,aas];exact⟨abu h,AK r (q+1) (by omega)⟩
theorem AY:∀(l:List Nat) (q:Nat),(gB l q).map (·.1)=l
 |[],_=>rfl
 |i::r,q=>by simp only[gB,aa4,AY r (q+1)]
theorem Am{a:Nat}:∀{l:List Nat},a∈pM l->a∈l
 |[],h=>h
 | b::r,h=>by
  simp only[pM]at h;cases hb:cq b r
  ·rw[hb]at h;simp only[aax,aaK]at h;rcases h with h|h
   ·grind
   ·exact aaw _ (Am h)
  ·rw[hb]at h;exact aaw _ (Am h)
theorem Po(hC:C.ok P)(hm:P.follows .mixedOrders=true){f:FuncId}{cd:Code}(hf:P.funcs[f]?=some fn)(hcd:fn.body=some cd){an:An}{vs:List AV}{F1:List AF}{R:Type}{K:SS->Option R}{r:R}(hlen:Nat.ble vs.length fn.ntmps=true)
  (h:qa (C.at n) fn.ntmps cd R an [] F1 ⟨xb vs 0,[],n,256,[]⟩ ⟨K,K,λ_ _=>none⟩=some r) :
  ∃S',K S'=some r/\∀{rs:List AV},uq C.Θ S'.E (S'.F++live S'.d F1) fn.results.toList=some rs->∀(η:Vn) (w:World) (c1:bu),aq w c1 (F1.map (AF.ha η)++oL) ->
   Calls P f (AV.vals η vs).toArray w (λe w'=>∃(ηe:Vn) (c':bu),e=.returned ((m9 rs).val ηe)/\(∀m,m<n->ηe.b m=η.b m/\ηe.h m=η.h m)/\HA.holds w' c' (.old w c1)/\aq w' c' ((S'.F++live S'.d F1).map (AF.ha ηe))):=by
 have hlen:=aaA hlen;have hgl:∀(w:World) (c1:bu),L0ok (HA.old w c1::oL):=λw c1=>⟨λA hA=>by
  rcases aaK.1 hA with rfl|hA
  ·intro k hk;simp[HA.uses]at hk;omega
  ·obtain⟨e,_,rfl⟩:=aaG.1 hA;intro k hk;simp[GEnt.ha,HA.uses]at hk;omega,λA hA=>aaw _ hA⟩
 have hdet:∃S',K S'=some r/\∃e:Exit,(e=.normal\/e=.ret)/\∀(β:Vn) (w0:World) (c0:bu) {Q:Exit->Act->World->Prop} {a:Act} {w:World},jX n fn.ntmps (HA.old w0 c0::oL) β [] F1 ⟨xb vs 0,[],n,256,[]⟩ a w ->
   (∀a w,jX n fn.ntmps (HA.old w0 c0::oL) β [] F1 S' a w->Q e a w)->cd.wp P Q a w:=by
  obtain⟨e,S',h1,h2⟩:=kZ (Cx.at_ok hC n) hm cd h;cases e with
  |normal=>exact⟨S',h1,.normal,.inl rfl,λβ w0 c0 {Q a w} hI hQ=>h2 (hgl w0 c0) hI hQ⟩
  |ret=>exact⟨S',h1,.ret,.inr rfl,λβ w0 c0 {Q a w} hI hQ=>h2 (hgl w0 c0) hI hQ⟩
  |exit i=>cases h1
  |goto l=>cases h1
  |panic ch=>cases h1
  |outgrown=>cases h1
 obtain⟨S',hK,e,he,hS⟩:=hdet;refine⟨S',hK,λ{rs} hres η w c1 hH=>?_⟩;have hvl:∀l:List AV,(AV.vals η l).length=l.length:=λl=>by
  induction l with
  |nil=>rfl
  |cons v r ih=>simp only[AV.vals,acn,ih]
 refine QQ (n:=fn.ntmps) hf hcd rfl _ (abu (by grind)) hH ?_;intro a w1 cc ha hHeap;have hI:jX n fn.ntmps (HA.old w c1::oL) η [] F1 ⟨xb vs 0,[],n,256,[]⟩ a w1:=by
  refine⟨η,cc,_,ha,λt v hlk=>?_,?_,?_,λ_ _=>⟨rfl,rfl⟩⟩
  ·rw[abd]at hlk;obtain⟨j,hj,hv⟩:=Ak (η:=η) hlk;grind
  ·grind[aq,live,AF.ha]
  ·intro A hA;rcases aaK.1 hA with rfl|hA
   ·exact hHeap _ aaQ
   ·exact hHeap A (aaw _ (abr _ hA))
 refine hS η w c1 hI λa w' hI' => ?_;have post:bodyPost P fn (λe w'=>∃(ηe:Vn) (c':bu),e=.returned ((m9 rs).val ηe)/\(∀m,m<n->ηe.b m=η.b m/\ηe.h m=η.h m)/\HA.holds w' c' (.old w c1)/\aq w' c' ((S'.F++live S'.d F1).map (AF.ha ηe))) .ret a w':=by
  obtain⟨ηe,c',ρ,hrel,hE,hFf,hL,hβ⟩:=hI';rw[abd]at hE;have hres':=B6 hC.Θ hE hres;have hrun:=Cg (fn:=fn) (rs:=fn.results.toList) (vs:=AV.vals ηe rs) (by simp) hrel.val hFf hres';refine⟨hrel.defers,_,hrun,ηe,c',?_,hβ,hL _ aaQ,hFf⟩;congr 1;have hav:(m9 rs).val ηe=(match AV.vals ηe rs with | [v]=>v|vs=>.tuple vs.toArray):=by
   unfold m9;match rs with
   |[]=>rfl
   |[v]=>rfl
   |v::v'::us=>rfl
  rw[hav];generalize AV.vals ηe rs=us;match us with
  |[]=>rfl
  |[v]=>rfl
  |v::v'::us=>
   grind
 rcases he with rfl|rfl
 ·exact post
 ·exact post
theorem Qz(wr:Bool)(hC:C.ok P)(hm:P.follows .mixedOrders=true){f:FuncId}(hf:P.funcs[f]?=some fn)(hname:(fn.name == "runtime.NumGoroutine")=false)(hbody:fn.body.isSome=true)(an:An):(Lp wr C fn an).sound P f:=by
 obtain⟨cd,hcd⟩:=afd.1 hbody;refine⟨⟨fn,cd,hf,hcd,hname⟩,λ{R} ex n N vs F k r hr=>?_⟩;cases ex with
 |some b=>simp[Lp]at hr
 | none=>
  simp only[Lp,hcd]at hr;generalize hκ:(bif wr then YE vs F else [])=κs at hr;generalize hKa:pM ((F.flatMap AF.uses).filter λk=>!(cq k κs))=Ka at hr;cases hc:(Nat.ble 2 N&&Nat.ble vs.length fn.ntmps)
  ·grind
  rw[hc]at hr;simp only[f9]at hr;simp only[aas]at hc;obtain⟨hN,hlen⟩:=hc;have hN:=aaA hN;obtain⟨S',hK,hcall⟩:=Po hC hm hf hcd hlen hr;split at hK
  ·rename_i rs hrs;obtain⟨u,hu,hk⟩:=bind_some hK;refine⟨u,hk,λ_ η w c hH=>?_⟩;unfold Yo at hu;simp only at hu;generalize hl:ai5 n (m9 rs) (S'.F++(live S'.d (F.map (AF.recol (mu (gB κs 2) Ka)))).filter λf=>f.uses.any λk=>Nat.ble 2 k)=l at hu;generalize hF2:((S'.F++(live S'.d (F.map (AF.recol (mu (gB κs 2) Ka)))).filter λf=>f.uses.any λk=>Nat.ble 2 k).filter λf=>f.okR n l&&(Nat.blt f.main n||cq f.main l))=F2 at hu;generalize hcm:gB (pM ((F2.flatMap AF.uses).filter λk=>Nat.ble 2 k)) 2=cm at hu;cases hb:((m9 rs).okR n l&&Nat.ble l.length 64&&(F2.map λf=>((f.rn n l).recol (rj cm 2)).slim).all AF.lvB)
   ·grind
   rw[hb]at hu;simp only[f9,no]at hu;subst hu;simp only[aas]at hb;obtain⟨⟨hav,hll⟩,hlv⟩:=hb;have hll:=aaA hll;have hq:=AK κs 2 (aaT _);have hq1:(gB κs 2).all (λp=>Nat.ble 2 p.1)=true:=aaB.2 λp hp=>by
    have h1:p.1∈κs:=by rw[<-AY κs 2];grind
    rw[<-hκ]at h1;cases wr with
    |true=>exact(ac0.1 (Am h1)).2
    |false=>cases h1
   have hpre:aq w (λb=>mu (gB κs 2) Ka (c b)) ((F.map (AF.recol (mu (gB κs 2) Ka))).map (AF.ha η)++oL):=
    (aq.recol (λA hA=>hH A (abm _ hA))).append (LH hq1 λA hA=>hH A (abr _ hA))
   refine(hcall hrs η w _ hpre).mono ?_;rintro e w' ⟨ηe,c',rfl,hβ,⟨o1,o2,o3,o4⟩,hFe⟩;have hg:Gd (rj cm 2):=by refine OE ?_;simp only[adD,aas];refine⟨rfl,aaB.2 λz hz=>?_⟩;grind[List.all_eq_true,AK]
   have hrn:=aqV (l:=l) (η:=η) hll hβ;have hpost:zb w (λb=>mu (gB κs 2) Ka (c b)) (λy : { η':Vn//η.agr n η'}=>((m9 rs).rn n l).val y.1) (λy=>bif true then(F2.map λf=>((f.rn n l).recol (rj cm 2)).slim).map (AF.ha y.1)else []) (.returned ((m9 rs).val ηe)) w':=by
    refine⟨⟨Vn.rn n l η ηe,Vn.rn_agr⟩,λb=>rj cm 2 (c' b),aba Ending.returned (AV.rn_val hrn _ hav).symm,o4,o1,λb hb' h01=>⟨(o2 b hb' h01).1,?_⟩,λb hb' hb''=>hg.two _ (o3 b hb' hb''),?_⟩
    ·show rj cm 2 (c' b)=_;rw[(o2 b hb' h01).2];simp only at h01|-;generalize mu (gB κs 2) Ka (c b)=q at h01;rcases(show q=0\/q=1 by omega)with rfl|rfl
     ·exact hg.z
     ·exact hg.o
    ·simp only[f9];intro A hA;obtain⟨B,hB,rfl⟩:=aaG.1 hA;obtain⟨f,hf2,rfl⟩:=aaG.1 hB;refine Wh _ ?_;rw[aan];refine HA.ren_holds hg _ ?_;rw[<-hF2]at hf2;obtain⟨hm1,hm2⟩:=ac0.1 hf2;simp only[aas]at hm2;rw[AF.rn_ha hrn f hm2.1];refine hFe _ (aaG.2 ⟨f,?_,rfl⟩);grind
   obtain⟨y,c2,he,hst,hF⟩:=Sr hq hN (λy=>by grind[List.all_eq_true,ann]) hpost;rw[AY]at hst;refine⟨y,c2,he,hst,?_⟩;simp only[f9,aeU]at hF|-;intro A hA;obtain⟨f,hf2,rfl⟩:=aaG.1 hA;simp only[Function.comp_apply];rw[<-amw];exact hF _ (aaG.2 ⟨f,hf2,rfl⟩)
  ·cases hK
theorem jZ(hC:C.ok P)(hm:P.follows .mixedOrders=true){f:FuncId}(hf:P.funcs[f]?=some fn)(hname:(fn.name == "runtime.NumGoroutine")=false)(hbody:fn.body.isSome=true)(an:An):(qM C fn an).sound P f:=Qz true hC hm hf hname hbody an
theorem eA(hC:C.ok P)(hm:P.follows .mixedOrders=true){f:FuncId}(hf:P.funcs[f]?=some fn)(hname:(fn.name == "runtime.NumGoroutine")=false)(hbody:fn.body.isSome=true)(an:An):(kL C fn an).sound P f:=Qz false hC hm hf hname hbody an
theorem lY(hC:C.ok P)(hm:P.follows .mixedOrders=true){f:FuncId}(hf:P.funcs[f]?=some fn)(hname:(fn.name == "runtime.NumGoroutine")=false)(hbody:fn.body.isSome=true)(an:An)(ts:List TC):(rR C fn an ts).sound P f:=by
 obtain⟨cd,hcd⟩:=afd.1 hbody;refine⟨⟨fn,cd,hf,hcd,hname⟩,λ{R} ex n N vs F k r hr=>?_⟩;simp only[rR,hcd]at hr;generalize hKa:pM (F.flatMap AF.uses)=Ka at hr;cases hc:(Nat.ble 2 N&&Nat.ble vs.length fn.ntmps&&Nat.beq (jJ ts) 0)
 ·grind
 rw[hc]at hr;simp only[f9]at hr;simp only[aas]at hc;obtain⟨⟨hN,hlen⟩,hnh⟩:=hc;have hN:=aaA hN;have hnh:=amb hnh
 have fin:∀x,k ⟨zy ts.length ts x n,[],[]⟩=some r->(ge ex->∃S':SS,(match uq C.Θ S'.E (S'.F++live S'.d (F.map (AF.recol (mu [] Ka)))) fn.results.toList with
   |some rs=>match tg (S'.F++live S'.d (F.map (AF.recol (mu [] Ka)))) ts rs with
    |some (x,[],_)=>some x
    |_=>none
   |none=>none)=some x/\∀{rs:List AV},uq C.Θ S'.E (S'.F++live S'.d (F.map (AF.recol (mu [] Ka)))) fn.results.toList=some rs->∀(η:Vn) (w:World) (c1:bu),aq w c1 ((F.map (AF.recol (mu [] Ka))).map (AF.ha η)++oL) ->
   Calls P f (AV.vals η vs).toArray w (λe w'=>∃(ηe:Vn) (c':bu),e=.returned ((m9 rs).val ηe)/\(∀m,m<n->ηe.b m=η.b m/\ηe.h m=η.h m)/\HA.holds w' c' (.old w c1)/\aq w' c' ((S'.F++live S'.d (F.map (AF.recol (mu [] Ka)))).map (AF.ha ηe)))) ->
   ∃u,k u=some r/\(ge ex->aiX P f vs F n u):=by
  intro x hk hx;refine⟨_,hk,λhe η w c hH=>?_⟩;obtain⟨S',hK,hcall⟩:=hx he;split at hK
  ·rename_i rs hrs;split at hK
   ·rename_i x' Kx hd;simp only[no]at hK;subst hK;have hpre:aq w (λb=>mu [] Ka (c b)) ((F.map (AF.recol (mu [] Ka))).map (AF.ha η)++oL):=
     (aq.recol (λA hA=>hH A (abm _ hA))).append (LH rfl λA hA=>hH A (abr _ hA))
    refine(hcall hrs η w _ hpre).mono ?_;rintro e w' ⟨ηe,c',rfl,hβ,⟨o1,o2,o3,o4⟩,hFe⟩;have hval:(m9 rs).val ηe=(zy ts.length ts x' n).val η:=by
     obtain⟨g1,g2⟩:=LP (η:=ηe) hd;have e1:=HX (η:=η) (nr:=ts.length) ts x' [] n (λj h hj=>by simp at hj) (by grind);rw[e1];have hlen2:(lw ts x' []).length=ts.length:=by
      have gen:∀(ts:List TC) (x:eS ts) (l:List Hd),(lw ts x l).length=ts.length:=by
       intro ts;induction ts with
       |nil=>intro x l;rfl
       |cons t r ih=>
        intro x l;cases r with
        |nil=>rfl
        |cons t' r=>simp only[lw,acn,ih]
      grind
     unfold DH;rw[ab4 (by omega)];have g1':AV.vals ηe rs=lw ts x' []:=g1;rw[<-g1'];unfold m9;match rs with
     |[]=>rfl
     |[v]=>rfl
     |v::v'::us=>rfl
    have hpost:zb w (λb=>mu [] Ka (c b)) (λy : { η':Vn//η.agr n η'}=>(zy ts.length ts x' n).val y.1) (λ_=>[]) (.returned ((m9 rs).val ηe)) w':=by refine⟨⟨η,Vn.agr_refl n η⟩,c',by rw[hval],o4,o1,λb hb' h01=>o2 b hb' h01,o3,aq.nil _ _⟩
    obtain⟨y,c2,he,hst,hF⟩:=Sr (μ:=[]) (N:=N) rfl hN (λy=>rfl) hpost;grind
   ·cases hK
  ·cases hK
 cases ex with
 |none=>
  simp only[gbind]at hr;obtain⟨x,hx,hk⟩:=bind_some hr;obtain⟨S',hK,hcall⟩:=Po hC hm hf hcd hlen hx;exact fin x hk λ_=>⟨S',hK,hcall⟩
 | some b=>
  simp only[gbind]at hr;obtain⟨x,hx,hk⟩:=bind_some hr;cases b with
  |false=>exact fin x hk λhe=>by cases he
  |true=>
   simp only[f9]at hx;obtain⟨S',hK,hcall⟩:=Po hC hm hf hcd hlen hx;exact fin x hk λ_=>⟨S',hK,hcall⟩
def dm(C:Cx)(f:FuncId)(J:Inl):Cx:=⟨C.Γ,C.Θ,C.G,C.D,C.W,λg=>bif Nat.beq g f then some J else C.I g,C.B,C.K,C.O⟩
theorem bL(hC:C.ok P){f:FuncId}{J:Inl}(h:J.sound P f):(dm C f J).ok P:=by
 refine⟨hC.Γ,hC.Θ,hC.G,hC.D,λg j hg=>?_⟩;simp only[dm]at hg;cases hb:Nat.beq g f
 ·rw[hb]at hg;exact hC.I g j hg
 simp_all
end
end
end Go.Sm
