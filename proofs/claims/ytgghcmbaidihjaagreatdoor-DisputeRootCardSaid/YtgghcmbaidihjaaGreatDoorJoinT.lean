/- Laws for the row. No condition. -/
import Derived.Test.YtgghcmbaidihjaaGreatDoorRfR
import Derived.ProofKit
namespace Go.Sm
set_option linter.unusedSectionVars false
set_option linter.unusedVariables false
variable {fn:Func} {w:World} {N:Nat} {Ka:List Nat}
section
variable [X:XTab] [G:GTab] [Yc:GCx]
def AF.recol(m:Nat->Nat):AF->AF
 |.rep t K xs h=>.rep t (K.map m) xs h
 |.own t e i K xs h=>.own t e (m i) (K.map m) xs h
 |.box i b cs=>.box (m i) b cs
 |.isn h b=>.isn h b
 |.ag B=>.ag B
 |.prt a b s l h=>.prt a b s l h
 |.pbx a b s l h=>.pbx a b s l h
 |.hol t e i xs h k cs=>.hol t e (m i) xs h k cs
 |.mp k v i xs h=>.mp k v (m i) xs h
 |.pt t e i K xs h k=>.pt t e (m i) (K.map m) xs h k
theorem Ti{m:Nat->Nat}{j:Vn}{c:aS}:(f:AF)->(f.ha j).holds w c->((f.recol m).ha j).holds w (λb=>m (c b))
 |.rep t K xs h,d=>bH.keep (S:=λb=>c b∈K) (λb _ g=>⟨acG.2 ⟨_,g,rfl⟩,rfl⟩) (.slice t.ty) xs (j.h h) d
 |.own t e i K xs h,d=>PV (λb _ g=>by grind) (λb _ g=>acG.2 ⟨_,g,rfl⟩) d
 |.box i b cs,d=>⟨d.1,by show m (c _)=m i;rw[d.2]⟩
 |.isn h b,d=>d
 |.ag B,d=>d
 |.prt a b s l h,d=>d
 |.pbx a b s l h,d=>d
 |.hol t e i xs h k cs,d=>ka.keep (λb _ (g:c b=i)=>⟨by grind,rfl⟩) d
 |.pt t e i K xs h k,d=>zN.keep (S:=λb=>c b=i) (SK:=λb=>c b∈K) (λb _ (g:c b=i)=>⟨by grind,rfl⟩) (λb _ g=>⟨acG.2 ⟨_,g,rfl⟩,rfl⟩) d
 |.mp k v i xs h,d=>vG.keep (S:=λb=>c b=i) (S':=λb=>m (c b)=m i) (λb _ (g:c b=i)=>⟨by grind,rfl⟩) d
theorem ack{g:Nat->Nat}{c:Vn}:(f:AF)->(f.recol g).ha c=(f.ha c).ren g
 |.rep t K xs h=>rfl
 |.own t e i K xs h=>akH.symm
 |.box i b cs=>rfl
 |.isn h b=>rfl
 |.ag B=>rfl
 |.prt a b s l h=>rfl
 |.pbx a b s l h=>rfl
 |.hol t e i xs h k cs=>rfl
 |.mp k v i xs h=>rfl
 |.pt t e i K xs h k=>rfl
theorem ao.recol{m:Nat->Nat}{η:Vn}{c:aS}{F:List AF}(h:ao w c (F.map (AF.ha η))):ao w (λb=>m (c b)) ((F.map (AF.recol m)).map (AF.ha η)):=by intro A a;obtain⟨B,d,rfl⟩:=acG.1 a;obtain⟨f,hf,rfl⟩:=acG.1 d;exact Ti f (h _ (acG.2 ⟨f,hf,rfl⟩))
def AF.colI(N:Nat)(Ka:List Nat):AF->AF
 |.rep t K xs h=>.rep t (instK N Ka K) xs h
 |.own t e i K xs h=>.own t e (N+(i-2)) (instK N Ka K) xs h
 |.box i b cs=>.box (N+(i-2)) b cs
 |.isn h b=>.isn h b
 |.ag B=>.ag B
 |.prt a b s l h=>.prt a b s l h
 |.pbx a b s l h=>.pbx a b s l h
 |.hol t e i xs h k cs=>.hol t e (N+(i-2)) xs h k cs
 |.mp k v i xs h=>.mp k v (N+(i-2)) xs h
 |.pt t e i K xs h k=>.pt t e (N+(i-2)) (instK N Ka K) xs h k
theorem arL{c:Vn}:(f:AF)->HA.inst N Ka (f.ha c)=(f.colI N Ka).ha c
 |.rep t K xs h=>rfl
 |.own t e i K xs h=>CA
 |.box i b cs=>rfl
 |.isn h b=>rfl
 |.ag B=>rfl
 |.prt a b s l h=>rfl
 |.pbx a b s l h=>rfl
 |.hol t e i xs h k cs=>rfl
 |.mp k v i xs h=>rfl
 |.pt t e i K xs h k=>rfl
def AF.lvB:AF->Bool
 |.rep _ K _ _=>K.all λk=>Nat.ble 1 k
 |.own _ _ i K _ _=>Nat.ble 2 i&&K.all λk=>Nat.ble 1 k
 |.box i _ _=>Nat.ble 2 i
 |.isn _ _=>true
 |.ag _=>true
 |.prt _ _ _ _ _=>true
 |.pbx _ _ _ _ _=>true
 |.hol _ _ i _ _ _ _=>Nat.ble 2 i
 |.mp _ _ i _ _=>Nat.ble 2 i
 |.pt _ _ i K _ _ _=>Nat.ble 2 i&&K.all λk=>Nat.ble 1 k
theorem avy{c:Vn}:(f:AF)->(f.ha c).leaves=f.lvB
 |.rep t K xs h=>rfl
 |.own t e i K xs h=>zd
 |.box i b cs=>rfl
 |.isn h b=>rfl
 |.ag B=>rfl
 |.prt a b s l h=>rfl
 |.pbx a b s l h=>rfl
 |.hol t e i xs h k cs=>rfl
 |.mp k v i xs h=>rfl
 |.pt t e i K xs h k=>rfl
theorem TY{w':World}{c:aS}{μ:List (Nat×Nat)}{Y:Type}{val:Y->Value}{fcts:Y->List HA}{e:Ending}(hq:μ.all (λp=>Nat.ble 2 p.2)=true)(t:2<=N)(hl:∀y,(fcts y).all HA.leaves=true)
  (h:vT w (λb=>mu μ Ka (c b)) val fcts e w'):∃y d,e=.returned (val y)/\Stp (μ.map (·.1)) w c w' d/\ao w' d ((fcts y).map (HA.inst N Ka)):=by
 obtain⟨y,c',rfl,f,o,j,i,r⟩:=h;refine⟨y,vq w c (μ.map (·.1)) N c',rfl,⟨o,λb a g=>by simp only[vq];grind,λb a g=>(j b a (zT g).1).1,λb a s => ?_,f⟩,?_⟩
 ·simp only[vq];grind
 ·intro A q;obtain⟨B,m,rfl⟩:=acG.1 q;refine instC_holds (λb a g=>?_) (λb a g=>i b a λk=>XQ hq (g k)) B (acr.1 (hl y) B m) (r B m);grind[zT]
def xp(m:Nat):List Nat->Nat
 |[]=>0
 |a::r=>bif Nat.beq m a then 0 else xp m r+1
theorem Sz{m:Nat}:∀{l:List Nat},bU m l=true->xp m l<l.length/\l.getD (xp m l) 0=m
 |[],h=>by simp[bU]at h
 | a::r,h=>by
  simp only[xp];cases b:Nat.beq m a
  ·have c:bU m r=true:=by
    simp only[bU,aq3,b,ajU]at h;exact h
   obtain⟨d,e⟩:=Sz c;grind
  simp_all
def oe(n:Nat)(l:List Nat)(m:Nat):Nat:=bif Nat.blt m n then m else n+xp m l
def okR(n:Nat)(l:List Nat)(m:Nat):Bool:=Nat.blt m n||bU m l
def Vn.rn(n:Nat)(l:List Nat)(a ηe:Vn):Vn:=⟨λx=>bif Nat.blt x n||Nat.ble (n+64) x then a.h x else ηe.h (l.getD (x-n) 0),λx=>bif Nat.blt x n||Nat.ble (n+64) x then a.b x else ηe.b (l.getD (x-n) 0)⟩
theorem Vn.rn_agr{n:Nat}{l:List Nat}{a ηe:Vn}:a.agr n (Vn.rn n l a ηe):=λm b=>by have h:(Nat.blt m n||Nat.ble (n+64) m)=true:=b;simp only[Vn.rn,h,abv,and_self]
def CL(n:Nat)(l:List Nat)(η' ηe:Vn):Prop:=∀m,okR n l m=true->η'.h (oe n l m)=ηe.h m/\η'.b (oe n l m)=ηe.b m
theorem axU{n:Nat}{l:List Nat}{η ηe:Vn}(hl:l.length<=64)(d:∀m,m<n->ηe.b m=η.b m/\ηe.h m=η.h m):CL n l (Vn.rn n l η ηe) ηe:=by
 intro m f;cases c:Nat.blt m n
 ·have b:bU m l=true:=by simpa[okR,c]using f
  obtain⟨e,h⟩:=Sz b;have g:(Nat.blt (n+xp m l) n||Nat.ble (n+64) (n+xp m l))=false:=by
   rw[afJ];refine⟨?_,?_⟩
   ·cases a:Nat.blt (n+xp m l) n
    ·rfl
    ·have:n+xp m l+1<=n:=abM a;omega
   ·cases a:Nat.ble (n+64) (n+xp m l)
    ·rfl
    ·have:=abM a;omega
  grind[Vn.rn,oe,xp]
 ·have e:m+1<=n:=abM c;grind[Vn.rn,oe]
def Lf.rn(n:Nat)(l:List Nat):Lf->Lf
 |.sl h=>.sl (oe n l h)
 |.bp b off=>.bp (oe n l b) off
 |.bq b off m s j=>.bq (oe n l b) off m s j
 |.rp h t i u p=>.rp (oe n l h) t i u p
 |.clo f bs=>.clo f (bs.map (oe n l))
 |.mp h=>.mp (oe n l h)
 |x=>x
def Lf.okR(n:Nat)(l:List Nat):Lf->Bool
 |.sl h=>Go.Sm.okR n l h
 |.bp b _=>Go.Sm.okR n l b
 |.bq b _ _ _ _=>Go.Sm.okR n l b
 |.rp h _ _ _ _=>Go.Sm.okR n l h
 |.clo _ bs=>bs.all (Go.Sm.okR n l)
 |.mp h=>Go.Sm.okR n l h
 |_=>true
mutual
def AV.rn(n:Nat)(l:List Nat):AV->AV
 |.lf x=>.lf (x.rn n l)
 |.ag ls=>.ag (ls.map (Lf.rn n l))
 |.tu vs=>.tu (AV.rns n l vs)
def AV.rns(n:Nat)(l:List Nat):List AV->List AV
 |[]=>[]
 |v::r=>v.rn n l::AV.rns n l r
end
mutual
def AV.okR(n:Nat)(l:List Nat):AV->Bool
 |.lf x=>x.okR n l
 |.ag ls=>ls.all (Lf.okR n l)
 |.tu vs=>AV.okRs n l vs
def AV.okRs(n:Nat)(l:List Nat):List AV->Bool
 |[]=>true
 |v::r=>v.okR n l&&AV.okRs n l r
end
def AF.rn(n:Nat)(l:List Nat):AF->AF
 |.rep t K xs h=>.rep t K xs (oe n l h)
 |.own t e i K xs h=>.own t e i K xs (oe n l h)
 |.box i b cs=>.box i (oe n l b) (cs.map (Lf.rn n l))
 |.isn h b=>.isn (oe n l h) b
 |.ag B=>.ag B
 |.prt a b s lo hi=>.prt (oe n l a) (oe n l b) s lo hi
 |.pbx a b s lo hi=>.pbx (oe n l a) (oe n l b) s lo hi
 |.hol t e i xs h k cs=>.hol t e i xs (oe n l h) k (cs.map (Lf.rn n l))
 |.mp k v i xs h=>.mp k v i xs (oe n l h)
 |.pt t e i K xs h k=>.pt t e i K xs (oe n l h) k
def AF.okR(n:Nat)(l:List Nat):AF->Bool
 |.rep _ _ _ h=>Go.Sm.okR n l h
 |.own _ _ _ _ _ h=>Go.Sm.okR n l h
 |.box _ b cs=>Go.Sm.okR n l b&&cs.all (Lf.okR n l)
 |.isn h _=>Go.Sm.okR n l h
 |.ag B=>Nat.ble B n
 |.prt a b _ _ _=>Go.Sm.okR n l a&&Go.Sm.okR n l b
 |.pbx a b _ _ _=>Go.Sm.okR n l a&&Go.Sm.okR n l b
 |.hol _ _ _ _ h _ cs=>Go.Sm.okR n l h&&cs.all (Lf.okR n l)
 |.mp _ _ _ _ h=>Go.Sm.okR n l h
 |.pt _ _ _ _ _ h _=>Go.Sm.okR n l h
section
variable {n:Nat} {l:List Nat} {η' ηe:Vn}
theorem Lf.rn_cells(c:CL n l η' ηe):(x:Lf)->x.okR n l=true->(x.rn n l).cells η'=x.cells ηe
 |.sl h,a=>by simp only[Lf.rn,Lf.cells,(c h a).1]
 |.bp b off,a=>by simp only[Lf.rn,Lf.cells,(c b a).2]
 |.bq b off m s j,a=>by simp only[Lf.rn,Lf.cells,(c b a).2]
 |.rp h t i u p,a=>by simp only[Lf.rn,Lf.cells,(c h a).1]
 |.clo f bs,a=>by
  have:(bs.map (oe n l)).map (λb=>Value.pointer (some ⟨η'.b b,0,none⟩))=bs.map λb=>Value.pointer (some ⟨ηe.b b,0,none⟩):=by rw[ag1];exact afA λb d=>by simp only[ame,(c b (acr.1 a b d)).2]
  simp only[Lf.rn,Lf.cells,this]
 |.mp h,a=>by simp only[Lf.rn,Lf.cells,(c h a).1]
 |.c _ _,_=>rfl
 |.ar _ _ _,_=>rfl
 |.nl,_=>rfl
 |.xt _ _,_=>rfl
 |.fn _,_=>rfl
 |.yl,_=>rfl
 |.gp _ _ _ _ _,_=>rfl
 |.ars _ _,_=>rfl
 |.v _,_=>rfl
theorem Lf.rn_val(c:CL n l η' ηe):(x:Lf)->x.okR n l=true->(x.rn n l).val η'=x.val ηe
 |.sl h,a=>by simp only[Lf.rn,Lf.val,(c h a).1]
 |.bp b off,a=>by simp only[Lf.rn,Lf.val,(c b a).2]
 |.bq b off m s j,a=>by simp only[Lf.rn,Lf.val,(c b a).2]
 |.rp h t i u p,a=>by simp only[Lf.rn,Lf.val,(c h a).1]
 |.clo f bs,a=>by
  have:(bs.map (oe n l)).map (λb=>Value.pointer (some ⟨η'.b b,0,none⟩))=bs.map λb=>Value.pointer (some ⟨ηe.b b,0,none⟩):=by rw[ag1];exact afA λb d=>by simp only[ame,(c b (acr.1 a b d)).2]
  simp only[Lf.rn,Lf.val,this]
 |.mp h,a=>by simp only[Lf.rn,Lf.val,(c h a).1]
 |.c _ _,_=>rfl
 |.ar _ _ _,_=>rfl
 |.nl,_=>rfl
 |.xt _ _,_=>rfl
 |.fn _,_=>rfl
 |.yl,_=>rfl
 |.gp _ _ _ _ _,_=>rfl
 |.ars _ _,_=>rfl
 |.v _,_=>rfl
theorem yk(a:CL n l η' ηe):(ls:List Lf)->ls.all (Lf.okR n l)=true->aw η' (ls.map (Lf.rn n l))=aw ηe ls
 |[],_=>rfl
 |x::r,h=>by simp only[afR,abF]at h;simp only[aev,aw,Lf.rn_cells a x h.1,yk a r h.2]
mutual
theorem AV.rn_val(a:CL n l η' ηe):(v:AV)->v.okR n l=true->(v.rn n l).val η'=v.val ηe
 |.lf x,h=>by simp only[AV.rn,AV.val];exact Lf.rn_val a x h
 |.ag ls,h=>by simp only[AV.rn,AV.val];rw[yk a ls h]
 |.tu vs,h=>by simp only[AV.rn,AV.val];rw[AV.rns_vals a vs h]
theorem AV.rns_vals(a:CL n l η' ηe):(vs:List AV)->AV.okRs n l vs=true->AV.vals η' (AV.rns n l vs)=AV.vals ηe vs
 |[],_=>rfl
 |v::r,h=>by simp only[AV.okRs,abF]at h;simp only[AV.rns,AV.vals,AV.rn_val a v h.1,AV.rns_vals a r h.2]
end
theorem AF.rn_ha(d:CL n l η' ηe):(f:AF)->f.okR n l=true->(f.rn n l).ha η'=f.ha ηe
 |.rep t K xs h,c=>by simp only[AF.rn,AF.ha,(d h c).1]
 |.own t e i K xs h,c=>by simp only[AF.rn,AF.ha,(d h c).1]
 |.box i b cs,c=>by simp only[AF.okR,abF]at c;simp only[AF.rn,AF.ha,(d b c.1).2,yk d cs c.2]
 |.isn h b,c=>by simp only[AF.rn,AF.ha,(d h c).1]
 |.ag B,c=>by
  have o:=abM c;have:∀m,m<B->η'.h m=ηe.h m/\η'.b m=ηe.b m:=λm g=>by have j:Nat.blt m n=true:=aeo (by omega);have:=d m (by simp[Go.Sm.okR,j]);simpa[oe,j]using this
  simp only[AF.rn,AF.ha];congr 1;exact propext ⟨λc m g=>by rw[<-(this m g).1,<-(this m g).2];exact c m g,λc m g=>by rw[(this m g).1,(this m g).2];exact c m g⟩
 |.prt a b s lo hi,c=>by simp only[AF.okR,abF]at c;simp only[AF.rn,AF.ha,(d a c.1).1,(d b c.2).1]
 |.pbx a b s lo hi,c=>by simp only[AF.okR,abF]at c;simp only[AF.rn,AF.ha,(d a c.1).1,(d b c.2).2]
 |.hol t e i xs h k cs,c=>by simp only[AF.okR,abF]at c;simp only[AF.rn,AF.ha,(d h c.1).1,yk d cs c.2]
 |.mp k v i xs h,c=>by simp only[AF.rn,AF.ha,(d h c).1]
 |.pt t e i K xs h k,c=>by simp only[AF.rn,AF.ha,(d h c).1]
end
def mB:List Nat->List Nat
 |[]=>[]
 |a::r=>bif bU a r then mB r else a::mB r
def Lf.nms(x:Lf):List Nat:=x.hs++x.bs
def AV.nms:AV->List Nat
 |.lf x=>x.nms
 |.ag ls=>ls.flatMap Lf.nms
 |.tu vs=>AV.nmss vs
where AV.nmss:List AV->List Nat
 |[]=>[]
 |v::r=>v.nms++AV.nmss r
def AF.main:AF->Nat
 |.rep _ _ _ h=>h
 |.own _ _ _ _ _ h=>h
 |.box _ b _=>b
 |.isn h _=>h
 |.ag _=>0
 |.prt h _ _ _ _=>h
 |.pbx h _ _ _ _=>h
 |.hol _ _ _ _ h _ _=>h
 |.mp _ _ _ _ h=>h
 |.pt _ _ _ _ _ h _=>h
def AF.inner:AF->List Nat
 |.box _ _ cs=>cs.flatMap Lf.nms
 |.hol _ _ _ _ _ _ cs=>cs.flatMap Lf.nms
 |_=>[]
def aoO(n:Nat)(av:AV)(F:List AF):List Nat:=
 let a:=(av.nms++(F.filter λf=>Nat.blt f.main n).flatMap AF.inner).filter λm=>Nat.ble n m
 let b:=a++((F.filter λf=>bU f.main a).flatMap AF.inner).filter λm=>Nat.ble n m
 let c:=b++((F.filter λf=>bU f.main b).flatMap AF.inner).filter λm=>Nat.ble n m
 mB c
def AF.ownC:AF->List Nat
 |.own _ _ i _ _ _=>[i]
 |.box i _ _=>[i]
 |.hol _ _ i _ _ _ _=>[i]
 |.mp _ _ i _ _=>[i]
 |.pt _ _ i _ _ _ _=>[i]
 |_=>[]
def lV:List AV->AV
 |[v]=>v
 |vs=>.tu vs
def AF.slim:AF->AF
 |.own t e i K xs h=>.own t e i (bif t.ty.pureB||fk e then []else K) xs h
 |f=>f
theorem aaV{d:Vn}{c:aS}:(f:AF)->(f.ha d).holds w c->(f.slim.ha d).holds w c
 | .own t e i K xs h,b=>by
  simp only[AF.slim];cases g:t.ty.pureB
  ·cases a:fk e
   ·exact b
   ·simp only[AF.ha,iT a,Bool.or_true,abv]at b|-;exact b
  ·cases a:fk e
   ·simp only[AF.ha,dK a,Bool.true_or,abv]at b|-;exact CB g _ _ b
   ·simp only[AF.ha,iT a,Bool.or_true,abv]at b|-;exact b
 |.rep _ _ _ _,h=>h
 |.box _ _ _,h=>h
 |.isn _ _,h=>h
 |.ag _,h=>h
 |.prt _ _ _ _ _,h=>h
 |.pbx _ _ _ _ _,h=>h
 |.hol _ _ _ _ _ _ _,h=>h
 |.mp _ _ _ _ _,h=>h
 |.pt _ _ _ _ _ _ _,h=>h
def GF(n N:Nat)(a Ka:List Nat)(e:List AF)(vs:List AV)(S:SS):Option Out:=
 let av:=lV vs
 let d:=S.F++(live S.d e).filter λf=>f.uses.any λk=>Nat.ble 2 k
 let l:=aoO n av d
 let b:=d.filter λf=>f.okR n l&&(Nat.blt f.main n||bU f.main l)
 let g:=fZ (mB ((b.flatMap AF.uses).filter λk=>Nat.ble 2 k)) 2
 let c:=b.map λf=>((f.rn n l).recol (ry g 2)).slim
 bif av.okR n l&&Nat.ble l.length 64&&c.all AF.lvB then some ⟨av.rn n l,c.map (AF.colI N Ka),a⟩else none
section
variable [Itr]
def acQ(F:List AF):Nat->List Nat->List Nat
 |0,l=>l
 |k+1,l=>acQ F k (mB (l++(F.filter λf=>bU f.main l).flatMap AF.inner))
def aty:AV->Bool
 |.lf .yl=>true
 |_=>false
def FO(vs:List AV)(F:List AF):List Nat:=let l:=acQ F 5 (vs.flatMap AV.nms);mB (((bif vs.any aty then F else F.filter λf=>bU f.main l).flatMap AF.ownC).filter λk=>Nat.ble 2 k)
def ah3(y:Bool)(F:List AF):List AF:=bif y then F.filter λf=>f.uses.any λk=>Nat.ble 2 k else []
def akG(y:Bool)(F:List AF):List AF:=bif y then F.filter λf=>!(f.uses.any λk=>Nat.ble 2 k)else F
theorem ark{y:Bool}{F:List AF}{f:AF}(h:f∈ah3 y F++akG y F):f∈F:=by
 cases y
 ·simpa[ah3,akG]using h
 ·rcases aef.1 h with h|h
  ·exact(ae2.1 h).1
  ·exact(ae2.1 h).1
def aby(F:List AF):Nat->List Nat->List Nat
 |0,l=>l
 |k+1,l=>aby F k (mB (l++(F.filter λf=>bU f.main l).flatMap λf=>f.hsIn++f.bsIn))
def HR(vs:List AV)(F:List AF):List AF:=let l:=aby F 6 (vs.flatMap AV.nms);F.filter λf=>match f with
 |.ag _=>true
 |f=>bU f.main l
theorem VH{vs:List AV}{F:List AF}{f:AF}(h:f∈HR vs F):f∈F:=(ae2.1 h).1
def Dj(wr rl:Bool)(C:Cx)(fn:Func)(an:An):Inl:=⟨wr,λ{R} ex n N vs c k=>match ex,fn.body with
 | none,some e=>
  let F:=bif rl then HR vs c else c
  let a:=bif wr then FO vs F else []
  let Ka:=mB ((F.flatMap AF.uses).filter λk=>!(bU k a))
  let f:=fZ a 2
  let d:=F.map (AF.recol (mu f Ka))
  let y:=vs.any aty
  let b:=akG y d
  let K:SS->Option R:=λS=>match vu C.Θ S.E (S.F++live S.d b) fn.results.toList with
   |some rs=>(GF n N a Ka b rs S).bind k
   |none=>none
  bif Nat.ble 2 N&&Nat.ble vs.length fn.ntmps then mI (C.at n) fn.ntmps e R an [] b ⟨yQ vs 0,ah3 y d,n,256,[]⟩ ⟨K,K,λ_ _=>none⟩else none
 |_,_=>none⟩
def qT(C:Cx)(fn:Func)(an:An):Inl:=Dj true false C fn an
def mj(C:Cx)(fn:Func)(an:An):Inl:=Dj false false C fn an
def Qe(C:Cx)(fn:Func)(an:An):Inl:=Dj true true C fn an
def qv(C:Cx)(fn:Func)(an:An)(ts:List TC):Inl:=⟨false,λ{R} ex n N vs F k=>match fn.body with
 | some b=>
  let Ka:=mB (F.flatMap AF.uses)
  let a:=F.map (AF.recol (mu [] Ka))
  let K:SS->Option (eJ ts):=λS=>match vu C.Θ S.E (S.F++live S.d a) fn.results.toList with
   |some rs=>match uk (S.F++live S.d a) ts rs with
    |some (x,[],_)=>some x
    |_=>none
   |none=>none
  bif Nat.ble 2 N&&Nat.ble vs.length fn.ntmps&&Nat.beq (iC ts) 0 then gbind ex (ahr ts) (mI (C.at n) fn.ntmps b (eJ ts) an [] a ⟨yQ vs 0,[],n,256,[]⟩ ⟨K,K,λ_ _=>none⟩) λr=>k ⟨Ao ts.length ts r n,[],[]⟩else none
 |none=>none⟩
variable {P:Program} {C:Cx}
theorem BV:∀(l:List Nat) (q:Nat),2<=q->(fZ l q).all (λp=>Nat.ble 2 p.2)=true
 |[],_,_=>rfl
 |i::r,q,h=>by simp only[fZ,afR,abF];exact⟨aeo h,BV r (q+1) (by omega)⟩
theorem xM:∀(l:List Nat) (q:Nat),(fZ l q).map (·.1)=l
 |[],_=>rfl
 |i::r,q=>by simp only[fZ,aev,xM r (q+1)]
theorem xU{a:Nat}:∀{l:List Nat},a∈mB l->a∈l
 |[],h=>h
 | b::r,h=>by
  simp only[mB]at h;cases c:bU b r
  ·rw[c]at h;simp only[ab7,aen]at h;rcases h with h|h
   ·grind
   ·exact abJ _ (xU h)
  ·rw[c]at h;exact abJ _ (xU h)
theorem N0(U:C.ok P)(hm:P.follows .mixedOrders=true){f:FuncId}{F:Code}(hf:P.funcs[f]?=some fn)(M:fn.body=some F){an:An}{n:Nat}{vs:List AV}{E g:List AF}{R:Type}{K:SS->Option R}{r:R}(o:Nat.ble vs.length fn.ntmps=true)
  (h:mI (C.at n) fn.ntmps F R an [] g ⟨yQ vs 0,E,n,256,[]⟩ ⟨K,K,λ_ _=>none⟩=some r) :
  ∃S',K S'=some r/\∀{rs:List AV},vu C.Θ S'.E (S'.F++live S'.d g) fn.results.toList=some rs->∀(η:Vn) (w:World) (d:aS),ao w d ((E++g).map (AF.ha η)++fH) ->
   Calls P f (AV.vals η vs).toArray w (λe w'=>∃(ηe:Vn) (c':aS),e=.returned ((lV rs).val ηe)/\(∀m,m<n->ηe.b m=η.b m/\ηe.h m=η.h m)/\HA.holds w' c' (.old w d)/\ao w' c' ((S'.F++live S'.d g).map (AF.ha ηe))):=by
 letI:Rd:=⟨none,[]⟩
 have o:=abM o;have y:∀(w:World) (d:aS),L0ok (HA.old w d::fH):=λw d=>⟨λA c=>by
  rcases aen.1 c with rfl|c
  ·intro k hk;simp[HA.uses]at hk;omega
  ·exact FW c,λA c=>abJ _ c⟩
 have x:∃S',K S'=some r/\∃e:Exit,(e=.normal\/e=.ret)/\∀(β:Vn) (w0:World) (c0:aS) {Q:Exit->Act->World->Prop} {a:Act} {w:World},gj n fn.ntmps (HA.old w0 c0::fH) β [] g ⟨yQ vs 0,E,n,256,[]⟩ a w ->
   (∀a w,gj n fn.ntmps (HA.old w0 c0::fH) β [] g S' a w->Q e a w)->F.wp P Q a w:=by
  obtain⟨e,S',q,T⟩:=iv (Cx.at_ok U n) hm F h;cases e with
  |normal=>exact⟨S',q,.normal,.inl rfl,λβ w0 c0 {Q a w} u J=>(wpIn_wide (n:=0)).1 (T (y w0 c0) u J)⟩
  |ret=>exact⟨S',q,.ret,.inr rfl,λβ w0 c0 {Q a w} u J=>(wpIn_wide (n:=0)).1 (T (y w0 c0) u J)⟩
  |exit i=>cases q
  |goto l=>cases q
  |panic ch=>cases q
  |outgrown=>cases q
 obtain⟨S',Z,e,he,hS⟩:=x;refine⟨S',Z,λ{rs} B η w d Y=>?_⟩;have hvl:∀l:List AV,(AV.vals η l).length=l.length:=λl=>by
  induction l with
  |nil=>rfl
  |cons v r ih=>simp only[AV.vals,aeH,ih]
 refine asV (n:=fn.ntmps) hf M rfl _ (aeo (by grind)) Y ?_;intro a w1 W ha b;have u:gj n fn.ntmps (HA.old w d::fH) η [] g ⟨yQ vs 0,E,n,256,[]⟩ a w1:=by
  refine⟨η,W,_,ha,λt v z=>?_,?_,?_,λ_ _=>⟨rfl,rfl⟩⟩
  ·rw[ad0]at z;obtain⟨j,hj,hv⟩:=Cs (η:=η) z;grind
  ·simp only[Az];exactλA c=>b A (abJ _ (ad2 _ c))
  ·intro A c;rcases aen.1 c with rfl|c
   ·exact b _ adT
   ·exact b A (abJ _ (adF _ c))
 refine hS η w d u λa w' I => ?_;have post:bodyPost P fn (λe w'=>∃(ηe:Vn) (c':aS),e=.returned ((lV rs).val ηe)/\(∀m,m<n->ηe.b m=η.b m/\ηe.h m=η.h m)/\HA.holds w' c' (.old w d)/\ao w' c' ((S'.F++live S'.d g).map (AF.ha ηe))) .ret a w':=by
  obtain⟨ηe,c',ρ,hrel,V,s,hL,O⟩:=I;rw[ad0]at V;have p:=DF U.Θ V B;have D:=Ec (fn:=fn) (rs:=fn.results.toList) (vs:=AV.vals ηe rs) (by simp) hrel.val s p;refine⟨hrel.defers,_,D,ηe,c',?_,O,hL _ adT,s⟩;congr 1;have L:(lV rs).val ηe=(match AV.vals ηe rs with | [v]=>v|vs=>.tuple vs.toArray):=by
   unfold lV;match rs with
   |[]=>rfl
   |[v]=>rfl
   |v::v'::S=>rfl
  rw[L];generalize AV.vals ηe rs=S;match S with
  |[]=>rfl
  |[v]=>rfl
  |v::v'::S=>
   grind
 rcases he with rfl|rfl
 ·exact post
 ·exact post
theorem VM{n:Nat}{a:List Nat}{F K:List AF}{rs:List AV}{S':SS}{u:Out}{Rn:Vn->World->(Ending->World->Prop)->Prop}(hN:2<=N)(U:(fZ a 2).all (λp=>Nat.ble 2 p.1)=true)
 (s:∀{η:Vn} {w:World} {R W:Ending->World->Prop},Rn η w R->(∀e w,R e w->W e w)->Rn η w W)
 (o:∀(η:Vn) (w:World) (Y:aS),ao w Y ((F.map (AF.recol (mu (fZ a 2) Ka))).map (AF.ha η)++fH)->Rn η w (λe w'=>∃(ηe:Vn) (c':aS),e=.returned ((lV rs).val ηe)/\(∀m,m<n->ηe.b m=η.b m/\ηe.h m=η.h m)/\HA.holds w' c' (.old w Y)/\ao w' c' ((S'.F++live S'.d K).map (AF.ha ηe))))
 (i:GF n N a Ka K rs S'=some u) (η:Vn) (w:World) (c:aS) (hH:ao w c (F.map (AF.ha η)++fH)) :
 Rn η w (λe w'=>∃(y : { η':Vn//η.agr n η'}) (c':aS),e=.returned (u.av.val y.1)/\Stp u.κ w c w' c'/\ao w' c' (u.fs.map (AF.ha y.1))):=by
 unfold GF at i;simp only at i;generalize hl:aoO n (lV rs) (S'.F++(live S'.d K).filter λf=>f.uses.any λk=>Nat.ble 2 k)=l at i;generalize O:((S'.F++(live S'.d K).filter λf=>f.uses.any λk=>Nat.ble 2 k).filter λf=>f.okR n l&&(Nat.blt f.main n||bU f.main l))=M at i;generalize hcm:fZ (mB ((M.flatMap AF.uses).filter λk=>Nat.ble 2 k)) 2=v at i;cases T:((lV rs).okR n l&&Nat.ble l.length 64&&(M.map λf=>((f.rn n l).recol (ry v 2)).slim).all AF.lvB)
 ·grind
 rw[T]at i;simp only[abv,no]at i;subst i;simp only[abF]at T;obtain⟨⟨S,r⟩,hlv⟩:=T;have r:=abM r;have hq:=BV a 2 (ad3 _);have E:ao w (λb=>mu (fZ a 2) Ka (c b)) ((F.map (AF.recol (mu (fZ a 2) Ka))).map (AF.ha η)++fH):=
  (ao.recol (λA j=>hH A (ad2 _ j))).append (R4 U λA j=>hH A (adF _ j))
 refine s (o η w _ E) ?_;rintro e w' ⟨ηe,c',rfl,V,⟨o1,o2,o3,o4⟩,Q⟩;have L:Gd (ry v 2):=by refine Pl ?_;simp only[afR,abF];refine⟨rfl,acr.2 λz hz=>?_⟩;grind[List.all_eq_true,BV]
 have I:=axU (l:=l) (η:=η) r V;have t:vT w (λb=>mu (fZ a 2) Ka (c b)) (λy : { η':Vn//η.agr n η'}=>((lV rs).rn n l).val y.1) (λy=>bif true then(M.map λf=>((f.rn n l).recol (ry v 2)).slim).map (AF.ha y.1)else []) (.returned ((lV rs).val ηe)) w':=by
  refine⟨⟨Vn.rn n l η ηe,Vn.rn_agr⟩,λb=>ry v 2 (c' b),aei Ending.returned (AV.rn_val I _ S).symm,o4,o1,λb g d=>⟨(o2 b g d).1,?_⟩,λb g x=>L.two _ (o3 b g x),?_⟩
  ·show ry v 2 (c' b)=_;rw[(o2 b g d).2];simp only at d|-;generalize mu (fZ a 2) Ka (c b)=q at d;rcases(show q=0\/q=1 by omega)with rfl|rfl
   ·exact L.z
   ·exact L.o
  ·simp only[abv];intro A j;obtain⟨B,hB,rfl⟩:=acG.1 j;obtain⟨f,h,rfl⟩:=acG.1 hB;refine aaV _ ?_;rw[ack];refine HA.ren_holds L _ ?_;rw[<-O]at h;obtain⟨hm1,D⟩:=ae2.1 h;simp only[abF]at D;rw[AF.rn_ha I f D.1];refine Q _ (acG.2 ⟨f,?_,rfl⟩);grind
 obtain⟨y,c2,he,J,Z⟩:=TY hq hN (λy=>by grind[List.all_eq_true,avy]) t;rw[xM]at J;refine⟨y,c2,he,J,?_⟩;simp only[abv,ag1]at Z|-;intro A j;obtain⟨f,h,rfl⟩:=acG.1 j;simp only[ame];rw[<-arL];exact Z _ (acG.2 ⟨f,h,rfl⟩)
theorem DN(wr rl:Bool)(K:C.ok P)(O:P.follows .mixedOrders=true){f:FuncId}(hf:P.funcs[f]?=some fn)(m:(fn.name == "runtime.NumGoroutine")=false)(g:fn.body.isSome=true)(an:An):(Dj wr rl C fn an).sound P f:=by
 obtain⟨J,j⟩:=ahy.1 g;refine⟨⟨fn,J,hf,j,m⟩,λ{R} ex n N vs q k r d=>?_⟩;cases ex with
 |some b=>simp[Dj]at d
 | none=>
  simp only[Dj,j]at d;have e:∀f∈(bif rl then HR vs q else q),f∈q:=λf hf=>by
   cases rl
   ·exact hf
   ·exact VH hf
  generalize(bif rl then HR vs q else q)=F at d e;generalize E:(bif wr then FO vs F else [])=o at d;generalize L:mB ((F.flatMap AF.uses).filter λk=>!(bU k o))=Ka at d;cases B:(Nat.ble 2 N&&Nat.ble vs.length fn.ntmps)
  ·grind
  rw[B]at d;simp only[abv]at d;simp only[abF]at B;obtain⟨z,t⟩:=B;have z:=abM z;obtain⟨S',y,i⟩:=N0 K O hf j t d;split at y
  ·rename_i rs D;obtain⟨u,Q,M⟩:=bind_some y;refine⟨u,M,λ_ v w c s=>?_⟩;refine VM (F:=F) (Rn:=λv w R=>Calls P f (AV.vals v vs).toArray w R) z (acr.2 λp S=>?_) (λh h'=>h.mono h') (λv w I s=>i D v w I λA a=>?_) Q v w c λA a=>?_
   ·have x:p.1∈o:=by rw[<-xM o 2];grind
    rw[<-E]at x;cases wr with
    |true=>exact(ae2.1 (xU x)).2
    |false=>cases x
   ·rcases aef.1 a with a|a
    ·obtain⟨f,hf,rfl⟩:=acG.1 a;exact s _ (ad2 _ (acG.2 ⟨f,ark hf,rfl⟩))
    ·exact s _ (adF _ a)
   ·rcases aef.1 a with a|a
    ·obtain⟨f,hf,rfl⟩:=acG.1 a;exact s _ (ad2 _ (acG.2 ⟨f,e f hf,rfl⟩))
    ·exact s _ (adF _ a)
  ·cases y
theorem jF(c:C.ok P)(d:P.follows .mixedOrders=true){f:FuncId}(hf:P.funcs[f]?=some fn)(b:(fn.name == "runtime.NumGoroutine")=false)(a:fn.body.isSome=true)(an:An):(qT C fn an).sound P f:=DN true false c d hf b a an
theorem DR(c:C.ok P)(d:P.follows .mixedOrders=true){f:FuncId}(hf:P.funcs[f]?=some fn)(b:(fn.name == "runtime.NumGoroutine")=false)(a:fn.body.isSome=true)(an:An):(Qe C fn an).sound P f:=DN true true c d hf b a an
theorem fG(c:C.ok P)(d:P.follows .mixedOrders=true){f:FuncId}(hf:P.funcs[f]?=some fn)(b:(fn.name == "runtime.NumGoroutine")=false)(a:fn.body.isSome=true)(an:An):(mj C fn an).sound P f:=DN false false c d hf b a an
theorem jD(Z:C.ok P)(hm:P.follows .mixedOrders=true){f:FuncId}(hf:P.funcs[f]?=some fn)(s:(fn.name == "runtime.NumGoroutine")=false)(q:fn.body.isSome=true)(an:An)(ts:List TC):(qv C fn an ts).sound P f:=by
 obtain⟨cd,g⟩:=ahy.1 q;refine⟨⟨fn,cd,hf,g,s⟩,λ{R} ex n N vs F k r o=>?_⟩;simp only[qv,g]at o;generalize hKa:mB (F.flatMap AF.uses)=Ka at o;cases U:(Nat.ble 2 N&&Nat.ble vs.length fn.ntmps&&Nat.beq (iC ts) 0)
 ·grind
 rw[U]at o;simp only[abv]at o;simp only[abF]at U;obtain⟨⟨S,i⟩,E⟩:=U;have S:=abM S;have E:=f9 E
 have p : ∀x,k ⟨Ao ts.length ts x n,[],[]⟩=some r->(ga ex->∃S':SS,(match vu C.Θ S'.E (S'.F++live S'.d (F.map (AF.recol (mu [] Ka)))) fn.results.toList with
   |some rs=>match uk (S'.F++live S'.d (F.map (AF.recol (mu [] Ka)))) ts rs with
    |some (x,[],_)=>some x
    |_=>none
   |none=>none)=some x/\∀{rs:List AV},vu C.Θ S'.E (S'.F++live S'.d (F.map (AF.recol (mu [] Ka)))) fn.results.toList=some rs->∀(η:Vn) (w:World) (Y:aS),ao w Y ((F.map (AF.recol (mu [] Ka))).map (AF.ha η)++fH) ->
   Calls P f (AV.vals η vs).toArray w (λe w'=>∃(ηe:Vn) (c':aS),e=.returned ((lV rs).val ηe)/\(∀m,m<n->ηe.b m=η.b m/\ηe.h m=η.h m)/\HA.holds w' c' (.old w Y)/\ao w' c' ((S'.F++live S'.d (F.map (AF.recol (mu [] Ka)))).map (AF.ha ηe)))) ->
   ∃u,k u=some r/\(ga ex->aog P f vs F n u):=by
  intro x B D;refine⟨_,B,λL η w c hH=>?_⟩;obtain⟨S',d,a⟩:=D L;split at d
  ·rename_i rs W;split at d
   ·rename_i K Kx hd;simp only[no]at d;subst d;have I:ao w (λb=>mu [] Ka (c b)) ((F.map (AF.recol (mu [] Ka))).map (AF.ha η)++fH):=
     (ao.recol (λA Q=>hH A (ad2 _ Q))).append (R4 rfl λA Q=>hH A (adF _ Q))
    refine(a W η w _ I).mono ?_;rintro e w' ⟨ηe,c',rfl,hβ,⟨o1,o2,o3,o4⟩,hFe⟩;have J:(lV rs).val ηe=(Ao ts.length ts K n).val η:=by
     obtain⟨g1,g2⟩:=Qj (η:=ηe) hd;have e1:=Jj (η:=η) (nr:=ts.length) ts K [] n (λj h hj=>by simp at hj) (by grind);rw[e1];have V:(kU ts K []).length=ts.length:=by
      have gen:∀(ts:List TC) (x:eJ ts) (l:List Hd),(kU ts x l).length=ts.length:=by
       intro ts;induction ts with
       |nil=>intro x l;rfl
       |cons t r ih=>
        intro x l;cases r with
        |nil=>rfl
        |cons t' r=>simp only[kU,aeH,ih]
      grind
     unfold yV;rw[aeQ (by omega)];have M:AV.vals ηe rs=kU ts K []:=g1;rw[<-M];unfold lV;match rs with
     |[]=>rfl
     |[v]=>rfl
     |v::v'::us=>rfl
    have z:vT w (λb=>mu [] Ka (c b)) (λy : { η':Vn//η.agr n η'}=>(Ao ts.length ts K n).val y.1) (λ_=>[]) (.returned ((lV rs).val ηe)) w':=by refine⟨⟨η,Vn.agr_refl n η⟩,c',by rw[J],o4,o1,λb T O=>o2 b T O,o3,ao.nil _ _⟩
    obtain⟨y,c2,L,hst,hF⟩:=TY (μ:=[]) (N:=N) rfl S (λy=>rfl) z;grind
   ·cases d
  ·cases d
 cases ex with
 |none=>
  simp only[gbind]at o;obtain⟨x,D,B⟩:=bind_some o;obtain⟨S',d,a⟩:=N0 Z hm hf g i D;exact p x B λ_=>⟨S',d,a⟩
 | some b=>
  simp only[gbind]at o;obtain⟨x,D,B⟩:=bind_some o;cases b with
  |false=>exact p x B λL=>by cases L
  |true=>
   simp only[abv]at D;obtain⟨S',d,a⟩:=N0 Z hm hf g i D;exact p x B λ_=>⟨S',d,a⟩
def Yd(C:Cx)(f:FuncId)(fn:Func)(an:An):Cx:={ C with T:=λg=>bif Nat.beq g f then some (λJ=>Dj true false { C with Y:=some J} fn an)else C.T g}
theorem asX(c:C.ok P)(e:P.follows .mixedOrders=true){J:Inl}(d:J.yields P){f:FuncId}(hf:P.funcs[f]?=some fn)(b:(fn.name == "runtime.NumGoroutine")=false)(a:fn.body.isSome=true)(an:An):(Dj true false { C with Y:=some J} fn an).sound P f:=
 DN (C:={ C with Y:=some J}) true false ⟨c.Γ,c.Θ,c.G,c.D,c.I,λg h=>by simp only[no]at h;subst h;exact d,c.T⟩ e hf b a an
theorem U4(i:Yc.ex=[])(e:∀Y:GCx,Cx.ok (Yc:=Y) C P)(m:P.follows .mixedOrders=true){f:FuncId}(hf:P.funcs[f]?=some fn)(b:(fn.name == "runtime.NumGoroutine")=false)(a:fn.body.isSome=true)(an:An):(Yd C f fn an).ok P:=by
 have h:=e Yc;have k:=h.T;refine⟨h.Γ,h.Θ,h.G,h.D,h.I,h.Y,λg T c=>?_⟩;simp only[Yd]at c;cases d:Nat.beq g f
 ·rw[d]at c;exact k g T c
 ·rw[d]at c;have:=f9 d;subst this;simp only[abv,no]at c;subst c;exact⟨i,λY J j=>asX (Yc:=Y) (e Y) m j hf b a an⟩
def cM(C:Cx)(f:FuncId)(J:Inl):Cx:={ C with I:=λg=>bif Nat.beq g f then some J else C.I g}
theorem bz(a:C.ok P){f:FuncId}{J:Inl}(h:J.sound P f):(cM C f J).ok P:=by
 refine⟨a.Γ,a.Θ,a.G,a.D,λg j b=>?_,a.Y,a.T⟩;simp only[cM]at b;cases c:Nat.beq g f
 ·rw[c]at b;exact a.I g j b
 simp_all
end
end
open Go.ChangeShapes Go.WideShapes Go.ChangeAt Go.RowKit Go.WideElems
section
variable [X:XTab] [G:GTab] [Yc:GCx]
abbrev yX:Nat->Prop:=λ_=>True
theorem afH(b:Nat):qS yX b∈[1]:=by simp[qS]
def Bb:TD->SC->Bool
 |.int k,.int a=>decide (k=a)
 |.bool,.bool=>true
 |.str,.str=>true
 |_,_=>false
def AY(Θ:Tb)(t:TypeId)(sz:Nat):Bool:=match Θ t with
 |some i=>Nat.beq i.sz sz
 |none=>false
def qu(M:TypeId->TC->Bool)(Θ:Tb):List (TypeId×Nat)->TC->Nat->Bool
 |[(t,off)],tc,pos=>Nat.beq off pos&&M t tc&&AY Θ t tc.ty.sz
 |(t,off)::f::r,.pair a b,pos=>Nat.beq off pos&&M t a&&AY Θ t a.ty.sz&&qu M Θ (f::r) b (pos+a.ty.sz)
 |_,_,_=>false
def stB(M:TypeId->TC->Bool)(Θ:Tb)(fs:List (TypeId×Nat))(tc:TC):Bool:=match fs,tc with
 |[f],.st a=>qu M Θ [f] a 0
 |f::g::r,tc=>qu M Θ (f::g::r) tc 0
 |_,_=>false
def Bj(Θ:Tb):Nat->TypeId->TC->Bool
 |0,_,_=>false
 | n+1,t,tc=>match Θ t with
  | some i=>match i.d,tc with
   |.arr m e,.arr b s=>Nat.beq m b&&Nat.beq i.sz m&&match Θ e with
    |some a=>Bb a.d s&&Nat.beq a.sz 1
    |none=>false
   |.slice e,.slice te=>Bj Θ n e te&&AY Θ e te.ty.sz&&Nat.ble 1 te.ty.sz
   |.st fs,tc=>stB (Bj Θ n) Θ fs tc&&Nat.beq i.sz tc.ty.sz
   |d,.sc s=>Bb d s
   |_,_=>false
  |none=>false
def VY:(s:SC)->s.den->Prop
 |.int k,n=>(Lit.int k n).wf=true
 |.str,s=>s.length<=maxLen
 |.bool,_=>True
 |.fnc,_=>True
def Bz:(t:TC)->t.den->Prop
 |.sc s,x=>VY s x
 |.arr n s,xs=>List.length (α:=s.den) xs=n/\∀x∈(show List s.den from xs),VY s x
 |.unit,_=>True
 |.pair a b,x=>Bz a x.1/\Bz b x.2
 |.slice t,xs=>List.length (α:=t.den) xs<=maxLen/\∀x∈(show List t.den from xs),Bz t x
 |.st t,x=>Bz t x
 |.ext _,_=>True
 |.node,_=>True
 |.mp _ _,_=>True
section
variable {P:Program} {H:Type} {enc:TypeId×Value->H} {w:World} {Θ:Tb}
theorem nN(a:Θ.ok P){t:TypeId}{sz:Nat}(h:AY Θ t sz=true):P.cellsOf t=sz:=by
 unfold AY at h;split at h
 ·rename_i i hi;obtain⟨d,b,_,c,_⟩:=(a t i hi).1.get;simp only[Program.cellsOf,b,aqJ,aiJ,c];simp_all
 ·cases h
theorem rz{α β:Type}{f:α->Option β}:∀{l:List α} {r:List β},l.mapM f=some r->r.length=l.length/\∀(i:Nat) (a:α),l[i]?=some a->∃b,r[i]?=some b/\f a=some b
 |[],r,h=>by grind
 |x::l,r,h=>by simp only[aqT,Option.bind_eq_bind,ahA,Option.pure_def,no]at h;obtain⟨b,g,r',c,rfl⟩:=h;obtain⟨d,e⟩:=rz c;grind
def Ih(w:World)(tc:TC)(cs:List Value):Prop:=∃(x:tc.den) (y:tc.ty.Refs),cs=tc.ty.fill x y/\bH w yX tc.ty x y/\Bz tc x
theorem Uc{t:TypeId}{i:TInf}{s:SC}(hi:TInf.fits P t i.d)(hs:Bb i.d s=true){a:Nat}{cs:List Value}{r:DataW H×List MemPlace}(h:DataW.trod enc P w 0 (λ_=>true) true a t cs=some r):∃x:s.den,cs=[s.val x]/\VY s x:=by
 cases a with
 |zero=>simp[DataW.trod]at h
 | succ a=>
  generalize i.d=d at hi hs;cases d<;>cases s<;>simp only[Bb,agD]at hs<;>try cases hs
  ·rename_i k;have hi:P.underlying t=some (.int k):=hi;unfold DataW.trod at h;rw[hi]at h;match cs,h with
   |[.int f n],h=>
    simp only at h;split at h
    ·rename_i c;obtain⟨rfl,e⟩:=c;exact⟨n,rfl,e⟩
    ·cases h
  ·have hi:P.underlying t=some .bool:=hi;unfold DataW.trod at h;rw[hi]at h;match cs,h with
   |[.bool b],_=>exact⟨b,rfl,trivial⟩
  ·have hi:P.underlying t=some .string:=hi;unfold DataW.trod at h;rw[hi]at h;match cs,h with
   |[.string s],h=>
    simp only at h;split at h
    ·rename_i hl;exact⟨s.data.toList,rfl,by show s.data.toList.length<=maxLen;simpa using hl⟩
    ·cases h
theorem aio{a:Addr}{v:Value}(h:w.cell? a=some v):∃arr ty b,a.spot=none/\w.heap[a.block]?=some (.cells arr ty b)/\arr[a.off]?=some v:=by
 unfold World.cell? at h;split at h
 ·simp_all
 ·cases h
theorem abr{b off n:Nat}{cs:List Value}{arr:Array Value}{ty:TypeId}{g:Nat×Nat}(k:w.heap[b]?=some (.cells arr ty g))(h:w.cells? 0 ⟨b,off,none⟩ n=some cs):cs.length=n/\(arr.toList.drop off).take n=cs/\(1<=n->off+n<=arr.size):=by
 unfold World.cells? at h;rw[if_pos (ahT _)]at h;obtain⟨d,j⟩:=rz h;rw[aks]at d;have a:∀i,i<n->arr[off+i]?=cs[i]?:=λi hi=>by obtain⟨v,o,f⟩:=j i i (by simp[hi]);rw[eT]at f;unfold World.cell? at f;grind
 have c:1<=n->off+n<=arr.size:=λm=>by have e:=a (n-1) (by omega);grind
 refine⟨d,?_,c⟩;apply afQ;grind
theorem zg(e:Θ.ok P){n:Nat}(j:∀(t:TypeId) (tc:TC) (c:Nat) (cs:List Value) (r:DataW H×List MemPlace),Bj Θ n t tc=true->DataW.trod enc P w 0 (λ_=>true) true c t cs=some r->Ih w tc cs){c:Nat}{cs:List Value} :
  ∀(fs:List (TypeId×Nat)) (tc:TC) (pos:Nat),qu (Bj Θ n) Θ fs tc pos=true ->
   (∀f∈fs,∃r,DataW.trod enc P w 0 (λ_=>true) true c f.1 ((cs.drop f.2).take (P.cellsOf f.1))=some r)->Ih w tc ((cs.drop pos).take tc.ty.sz)
 |[],_,_,h,_=>by simp[qu]at h
 |[(t,off)],tc,pos,h,i=>by grind[qu,List.mem_cons_self,nN,Nat.eq_of_beq_eq_true]
 |(t,off)::f::fs,.pair a b,pos,h,i=>by simp only[qu,abF]at h;obtain⟨⟨⟨q,s⟩,u⟩,v⟩:=h;obtain⟨r,d⟩:=i (t,off) adT;simp only at d;rw[nN e u,f9 q]at d;obtain⟨x,y,o,r1,B⟩:=j t a c _ r s d;obtain⟨k,m,p,A,D⟩:=zg e j (f::fs) b (pos+a.ty.sz) v λg z=>i g (abJ _ z);refine⟨(x,k),(y,m),?_,⟨r1,A⟩,⟨B,D⟩⟩;show(cs.drop pos).take (a.ty.sz+b.ty.sz)=a.ty.fill x y++b.ty.fill k m;rw[<-o,<-p,aq7,agG]
 |_::_::_,.sc _,_,h,_=>by simp[qu]at h
 |_::_::_,.arr _ _,_,h,_=>by simp[qu]at h
 |_::_::_,.unit,_,h,_=>by simp[qu]at h
 |_::_::_,.slice _,_,h,_=>by simp[qu]at h
 |_::_::_,.st _,_,h,_=>by simp[qu]at h
 |_::_::_,.ext _,_,h,_=>by simp[qu]at h
 |_::_::_,.node,_,h,_=>by simp[qu]at h
 |_::_::_,.mp _ _,_,h,_=>by simp[qu]at h
theorem Xj{tc:TC}{sz:Nat}(q:sz=tc.ty.sz)(Q:1<=sz){a:Addr}{len cap:Nat}(L:len<=cap)(u:cap<=maxLen)(d:∀i,i<cap->∃cs,w.cells? 0 (a.add (i*sz)) sz=some cs/\(i<len->Ih w tc cs)) :
  Ih w (.slice tc) [.slice (some a) len cap]:=by
 by_cases J:cap=0
 ·have o:len=0:=by omega
  subst o;exact⟨([]:List tc.den),(⟨some a,0,cap⟩:Hd),rfl,⟨[],trivial,rfl,by simp,u,.inl ⟨trivial,J⟩⟩,by simp[Bz,maxLen]⟩
 ·obtain⟨E,f,_⟩:=d 0 (by omega);have g:∃v,w.cell? a=some v:=by
   unfold World.cells? at f;rw[if_pos (ahT _)]at f;obtain⟨_,K⟩:=rz f;obtain⟨v,_,r⟩:=K 0 0 (by grind);exact⟨v,by simpa[Addr.add]using r⟩
  obtain⟨v,r⟩:=g;obtain⟨arr,ty,I,c,j,_⟩:=aio r;obtain⟨b,off,B⟩:=a;simp only at c j;subst c;have e:∀i,i<cap->∃cs,(arr.toList.drop (off+i*sz)).take sz=cs/\off+i*sz+sz<=arr.size/\(i<len->Ih w tc cs):=λi hi=>by obtain⟨cs,t,A⟩:=d i hi;rw[eT]at t;obtain⟨_,T,U⟩:=abr j t;grind
  have gen:∀k,k<=len->∃(xs:List tc.den) (ys:List tc.ty.Refs),xs.length=k/\cf (bH w yX tc.ty) xs ys/\(arr.toList.drop off).take (k*sz)=cellsOf tc.ty xs ys/\∀x∈xs,Bz tc x:=by
   intro k;induction k with
   |zero=>intro _;exact⟨[],[],rfl,trivial,by simp[cellsOf],by simp⟩
   |succ k M=>
    intro R;obtain⟨xs,ys,h,r1,s,D⟩:=M (by omega);obtain⟨cs,m,_,A⟩:=e k (by omega);obtain⟨x,y,F,O,V⟩:=A (by omega);refine⟨xs++[x],ys++[y],by simp[h],r1.append ⟨O,trivial⟩,?_,λz S=>?_⟩
    ·rw[eF tc.ty r1.length,<-s,show(k+1)*sz=k*sz+sz by grind,aq7,agG];congr 1;rw[m,F];simp[cellsOf]
    grind
  obtain⟨xs,ys,h,r1,s,D⟩:=gen len (ad3 _);obtain⟨_,_,p,_⟩:=e (cap-1) (by omega);refine⟨xs,(⟨some ⟨b,off,none⟩,len,cap⟩:Hd),rfl,⟨ys,r1,h.symm,(show xs.length<=cap by omega),u,.inr ⟨b,off,arr,ty,I,rfl,trivial,j,?_,?_⟩⟩,⟨show xs.length<=maxLen by omega,D⟩⟩
  ·show off+cap*tc.ty.sz<=arr.size;rw[<-q];have:cap*sz=(cap-1)*sz+sz:=by
    conv=>lhs;rw[show cap=(cap-1)+1 by omega,ago]
    omega
   omega
  grind
theorem QP(o:Θ.ok P):∀(n:Nat) (t:TypeId) (tc:TC) (c:Nat) (cs:List Value) (r:DataW H×List MemPlace),Bj Θ n t tc=true->DataW.trod enc P w 0 (λ_=>true) true c t cs=some r->Ih w tc cs
 |0,_,_,_,_,_,h,_=>by simp[Bj]at h
 | n+1,t,tc,c,cs,r,p,h=>by
  have ih:=QP o n;simp only[Bj]at p;split at p
  ·rename_i i hi;obtain⟨hti,d,_,_⟩:=o t i hi;split at p
   ·rename_i m e m' s hd;simp only[abF]at p;obtain⟨⟨W,I⟩,L⟩:=p;obtain rfl:=f9 W;split at L
    ·rename_i ie M;simp only[abF]at L;rw[hd]at d;have Q:P.underlying t=some (.array m e):=d;have B:P.cellsOf e=1:=nN o (by simp only[AY,M];exact L.2);have D:P.cellsOf t=m:=nN o (by simp only[AY,hi];exact I);cases c with
     |zero=>simp[DataW.trod]at h
     | succ c=>
      unfold DataW.trod at h;rw[Q]at h;simp only at h;split at h
      ·rename_i q;rw[D]at q;simp only[afe]at h;obtain⟨xs,J,_⟩:=h;obtain⟨_,h2⟩:=rz J;have E:∀j,j<m->∃x:s.den,cs[j]?=some (s.val x)/\VY s x:=λj hj=>by
        obtain⟨b,_,v⟩:=h2 j j (by simp[hj]);obtain⟨x,y,K⟩:=Uc (o e ie M).2.1 L.1 v;rw[B,ahv]at y;have:=aei (·[0]?) y;grind
       have gen:∀k,k<=m->∃xs:List s.den,xs.length=k/\cs.take k=xs.map s.val/\∀x∈xs,VY s x:=by
        intro k;induction k with
        |zero=>simp_all
        |succ k ihk=>
         intro hk;obtain⟨xs,y,K,e3⟩:=ihk (by omega);obtain⟨x,e4,e5⟩:=E k (by omega);refine⟨xs++[x],by simp[y],?_,λz hz=>?_⟩
         ·rw[aqb,e4,K];simp
         grind
       obtain⟨ys,y,K,e3⟩:=gen m (ad3 _);refine⟨ys,(),?_,trivial,⟨y,e3⟩⟩;have:cs=ys.map s.val:=by grind
       rw[this];apply afQ;grind[xb,List.getElem?_eq_getElem,List.getElem?_eq_none,Ty.fill_length]
      ·cases h
    ·cases L
   ·rename_i e te hd;simp only[abF]at p;obtain⟨⟨V,Z⟩,S⟩:=p;rw[hd]at d;have Q:P.underlying t=some (.slice e):=d;have B:=nN o Z;have S:=abM S;cases c with
    |zero=>simp[DataW.trod]at h
    | succ c=>
     unfold DataW.trod at h;rw[Q]at h;match cs,h with
     |[.slice none 0 0],_=>exact⟨([]:List te.den),(⟨none,0,0⟩:Hd),rfl,⟨[],trivial,rfl,by simp,by simp[maxLen],.inl ⟨trivial,rfl⟩⟩,by simp[Bz,maxLen]⟩
     | [.slice (some a) len cap],h=>
      simp only at h;split at h
      ·rename_i v;obtain⟨_,U,Y⟩:=v;simp only[ahA]at h;obtain⟨R,E,h⟩:=h;simp only[aeP,afe]at h;obtain⟨rest,F,_⟩:=h;obtain⟨_,k1⟩:=rz E;obtain⟨_,k2⟩:=rz F;refine Xj (tc:=te) rfl S U Y λi hi=>?_
       rw[<-B];by_cases O:i<len
       ·obtain⟨b,_,v⟩:=k1 i i (by simp[O]);simp only[ahA]at v;obtain⟨cs',T,ht⟩:=v;exact⟨cs',T,λ_=>ih e te c cs' b V ht⟩
       ·obtain⟨b,_,v⟩:=k2 (i-len) (i-len) (by rw[ahF (by omega)]);rw[show len+(i-len)=i by omega]at v;simp only[ahA]at v;obtain⟨cs',T,_⟩:=v;exact⟨cs',T,λhh=>absurd hh O⟩
      ·cases h
   ·rename_i tc _ _ fs hd;simp only[abF]at p;obtain⟨u,I⟩:=p;rw[hd]at d;obtain⟨Fd,Q,hfs⟩:=d;have D:P.cellsOf t=tc.ty.sz:=nN o (by simp only[AY,hi];exact I);cases c with
    |zero=>simp[DataW.trod]at h
    | succ c=>
     unfold DataW.trod at h;rw[Q]at h;simp only at h;split at h
     ·rename_i q;rw[D]at q;simp only[afe]at h;obtain⟨xs,J,_⟩:=h;obtain⟨_,h2⟩:=rz J;have A:∀f∈fs,∃r,DataW.trod enc P w 0 (λ_=>true) true c f.1 ((cs.drop f.2).take (P.cellsOf f.1))=some r:=λf hf=>by
       grind[List.mem_iff_getElem?]
      unfold stB at u;split at u
      ·rename_i f a;have:=zg o ih [f] a 0 u A;rw[agY,aeQ (by grind)]at this;exact this
      ·rename_i f g r;have:=zg o ih (f::g::r) tc 0 u A;grind
      ·cases u
     ·cases h
   ·rename_i s _ _ _;obtain⟨x,y,K⟩:=Uc d p h;exact⟨x,(),y,trivial,K⟩
   ·cases p
  ·cases p
end
end
end Go.Sm
