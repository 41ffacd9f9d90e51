/- Laws for the row. No condition. -/
import Derived.Test.YtfhhiajfciblbaaGreatDoorRfR
namespace Go.Sm
set_option linter.unusedSectionVars false
set_option linter.unusedVariables false
variable {fn:Func} {w:World} {n:Nat}
section
variable [X:XTab] [G:GTab]
def AF.recol (m:Nat→Nat):AF→AF
 | .rep t K xs h=>.rep t (K.map m) xs h
 | .own t e i K xs h=>.own t e (m i) (K.map m) xs h
 | .box i b cs=>.box (m i) b cs
 | .isn h b=>.isn h b
 | .prt a b s l h=>.prt a b s l h
 | .hol t e i xs h k cs=>.hol t e (m i) xs h k cs
 | .mp k v i xs h=>.mp k v (m i) xs h
 | .pt t e i K xs h k=>.pt t e (m i) (K.map m) xs h k
theorem LV {m:Nat→Nat} {η:Vn} {c:bu}:(f:AF)→(f.ha η).holds w c→((f.recol m).ha η).holds w (fun b=>m (c b))
 | .rep t K xs h,hh=>bM.keep (S:=fun b=>c b∈K) (fun b _ hb=>⟨VO.2 ⟨_,hb,rfl⟩,rfl⟩) (.slice t.ty) xs (η.h h) hh
 | .own t e i K xs h,hh=>KC (fun b _ hb=>by show m (c b)=m i; rw [hb]) (fun b _ hb=>VO.2 ⟨_,hb,rfl⟩) hh
 | .box i b cs,hh=>⟨hh.1,by show m (c _)=m i; rw [hh.2]⟩
 | .isn h b,hh=>hh
 | .prt a b s l h,hh=>hh
 | .hol t e i xs h k cs,hh=>ke.keep (fun b _ (hb:c b=i)=>⟨by show m (c b)=m i; rw [hb],rfl⟩) hh
 | .pt t e i K xs h k,hh=>vJ.keep (S:=fun b=>c b=i) (SK:=fun b=>c b∈K) (fun b _ (hb:c b=i)=>⟨by show m (c b)=m i; rw [hb],rfl⟩) (fun b _ hb=>⟨VO.2 ⟨_,hb,rfl⟩,rfl⟩) hh
 | .mp k v i xs h,hh=>sw.keep (S:=fun b=>c b=i) (S' := fun b=>m (c b)=m i) (fun b _ (hb:c b=i)=>⟨by show m (c b)=m i; rw [hb],rfl⟩) hh
theorem TF {g:Nat→Nat} {η:Vn}:(f:AF)→(f.recol g).ha η=(f.ha η).ren g
 | .rep t K xs h=>rfl
 | .own t e i K xs h=>WH.symm
 | .box i b cs=>rfl
 | .isn h b=>rfl
 | .prt a b s l h=>rfl
 | .hol t e i xs h k cs=>rfl
 | .mp k v i xs h=>rfl
 | .pt t e i K xs h k=>rfl
theorem am.recol {m:Nat→Nat} {η:Vn} {c:bu} {F:List AF} (h:am w c (F.map (AF.ha η))):am w (fun b=>m (c b)) ((F.map (AF.recol m)).map (AF.ha η)):=by
 intro A hA
 obtain ⟨B,hB,rfl⟩:=VO.1 hA
 obtain ⟨f,hf,rfl⟩:=VO.1 hB
 exact LV f (h _ (VO.2 ⟨f,hf,rfl⟩))
def AF.colI (N:Nat) (Ka:List Nat):AF→AF
 | .rep t K xs h=>.rep t (instK N Ka K) xs h
 | .own t e i K xs h=>.own t e (N+(i - 2)) (instK N Ka K) xs h
 | .box i b cs=>.box (N+(i - 2)) b cs
 | .isn h b=>.isn h b
 | .prt a b s l h=>.prt a b s l h
 | .hol t e i xs h k cs=>.hol t e (N+(i - 2)) xs h k cs
 | .mp k v i xs h=>.mp k v (N+(i - 2)) xs h
 | .pt t e i K xs h k=>.pt t e (N+(i - 2)) (instK N Ka K) xs h k
theorem afn {N:Nat} {Ka:List Nat} {η:Vn}:(f:AF)→HA.inst N Ka (f.ha η)=(f.colI N Ka).ha η
 | .rep t K xs h=>rfl
 | .own t e i K xs h=>yC
 | .box i b cs=>rfl
 | .isn h b=>rfl
 | .prt a b s l h=>rfl
 | .hol t e i xs h k cs=>rfl
 | .mp k v i xs h=>rfl
 | .pt t e i K xs h k=>rfl
def AF.lvB:AF→Bool
 | .rep _ K _ _=>K.all fun k=>Nat.ble 1 k
 | .own _ _ i K _ _=>Nat.ble 2 i&&K.all fun k=>Nat.ble 1 k
 | .box i _ _=>Nat.ble 2 i
 | .isn _ _=>true
 | .prt _ _ _ _ _=>true
 | .hol _ _ i _ _ _ _=>Nat.ble 2 i
 | .mp _ _ i _ _=>Nat.ble 2 i
 | .pt _ _ i K _ _ _=>Nat.ble 2 i&&K.all fun k=>Nat.ble 1 k
theorem ahT {η:Vn}:(f:AF)→(f.ha η).leaves=f.lvB
 | .rep t K xs h=>rfl
 | .own t e i K xs h=>vq
 | .box i b cs=>rfl
 | .isn h b=>rfl
 | .prt a b s l h=>rfl
 | .hol t e i xs h k cs=>rfl
 | .mp k v i xs h=>rfl
 | .pt t e i K xs h k=>rfl
theorem MH {w':World} {c:bu} {Ka:List Nat} {μ:List (Nat×Nat)} {N:Nat} {Y:Type} {val:Y→Value} {fcts:Y→List HA} {e:Ending} (hq:μ.all (fun p=>Nat.ble 2 p.2)=true) (hN:2≤N) (hl : ∀ y,(fcts y).all HA.leaves=true)
  (h:wX w (fun b=>mu μ Ka (c b)) val fcts e w') : ∃ y c'',e = .returned (val y)∧Stp (μ.map (·.1)) w c w' c'' ∧ am w' c'' ((fcts y).map (HA.inst N Ka)):=by
 obtain ⟨y,c',rfl,henv,h1,hold,hnew,hF⟩:=h
 refine ⟨y,sF w c (μ.map (·.1)) N c',rfl,⟨h1,fun b hb hn=>by simp only [sF]; rw [if_pos ⟨hb,hn⟩],fun b hb hn=>(hold b hb (sa hn).1).1,fun b hb hb' => ?_,henv⟩,?_⟩
 ·simp only [sF]
  rw [if_neg (fun h=>h.2 (hb' h.1).1)]; omega
 ·intro A hA
  obtain ⟨B,hB,rfl⟩:=VO.1 hA
  refine instC_holds (fun b hb hn=>?_) (fun b hb hn=>hnew b hb fun hlt=>RX hq (hn hlt)) B (Vx.1 (hl y) B hB) (hF B hB)
  have:=(hold b hb (sa hn).1).2
  rw [this]; exact sa hn
def sD (m:Nat):List Nat→Nat
 | []=>0
 | a::r=>bif Nat.beq m a then 0 else sD m r+1
theorem Iz {m:Nat} : ∀ {l:List Nat},bZ m l=true→sD m l<l.length∧l.getD (sD m l) 0=m
 | [],h=>by simp [bZ] at h
 | a::r,h=>by
  simp only [sD]
  cases hb:Nat.beq m a
  ·have hm:bZ m r=true:=by
    simp only [bZ,agF,hb,adH] at h
    exact h
   obtain ⟨h1,h2⟩:=Iz hm
   simp only [no,Ws]
   exact ⟨by omega,by simpa using h2⟩
  ·simp only [f9,Ws]
   exact ⟨by omega,by simpa using (Vb hb).symm⟩
def qL (n:Nat) (l:List Nat) (m:Nat):Nat:=bif Nat.blt m n then m else n+sD m l
def okR (n:Nat) (l:List Nat) (m:Nat):Bool:=Nat.blt m n||bZ m l
def Vn.rn (n:Nat) (l:List Nat) (η ηe:Vn):Vn:=⟨fun x=>bif Nat.blt x n||Nat.ble (n+64) x then η.h x else ηe.h (l.getD (x - n) 0),fun x=>bif Nat.blt x n||Nat.ble (n+64) x then η.b x else ηe.b (l.getD (x - n) 0)⟩
theorem Vn.rn_agr {l:List Nat} {η ηe:Vn}:η.agr n (Vn.rn n l η ηe):=fun m hm=>by
 have h:(Nat.blt m n||Nat.ble (n+64) m)=true:=hm
 simp only [Vn.rn,h,f9,ajt]
def Ag (n:Nat) (l:List Nat) (η' ηe:Vn):Prop:=∀ m,okR n l m=true→η'.h (qL n l m)=ηe.h m∧η'.b (qL n l m)=ηe.b m
theorem aiD {l:List Nat} {η ηe:Vn} (hl:l.length≤64) (hlow : ∀ m,m<n→ηe.b m=η.b m∧ηe.h m=η.h m):Ag n l (Vn.rn n l η ηe) ηe:=by
 intro m hm
 cases hb:Nat.blt m n
 ·have hm' : bZ m l=true:=by simpa [okR,hb] using hm
  obtain ⟨h1,h2⟩:=Iz hm'
  have e1:(Nat.blt (n+sD m l) n||Nat.ble (n+64) (n+sD m l))=false:=by
   rw [Ys]
   refine ⟨?_,?_⟩
   ·cases hh:Nat.blt (n+sD m l) n
    ·rfl
    ·have:n+sD m l+1≤n:=Vg hh
     omega
   ·cases hh:Nat.ble (n+64) (n+sD m l)
    ·rfl
    ·have:=Vg hh
     omega
  simp only [Vn.rn,qL,hb,no,e1,show n+sD m l - n=sD m l by omega,h2,ajt]
 ·have h1:m+1≤n:=Vg hb
  have:=hlow m (by omega)
  simp only [Vn.rn,qL,hb,f9,Bool.true_or]
  exact ⟨this.2.symm,this.1.symm⟩
def Lf.rn (n:Nat) (l:List Nat):Lf→Lf
 | .sl h=>.sl (qL n l h)
 | .bp b off=>.bp (qL n l b) off
 | .bq b off m s j=>.bq (qL n l b) off m s j
 | .rp h t i u p=>.rp (qL n l h) t i u p
 | .clo f b=>.clo f (qL n l b)
 | .mp h=>.mp (qL n l h)
 | x=>x
def Lf.okR (n:Nat) (l:List Nat):Lf→Bool
 | .sl h=>Go.Sm.okR n l h
 | .bp b _=>Go.Sm.okR n l b
 | .bq b _ _ _ _=>Go.Sm.okR n l b
 | .rp h _ _ _ _=>Go.Sm.okR n l h
 | .clo _ b=>Go.Sm.okR n l b
 | .mp h=>Go.Sm.okR n l h
 | _=>true
mutual
def AV.rn (n:Nat) (l:List Nat):AV→AV
 | .lf x=>.lf (x.rn n l)
 | .ag ls=>.ag (ls.map (Lf.rn n l))
 | .tu vs=>.tu (AV.rns n l vs)
def AV.rns (n:Nat) (l:List Nat):List AV→List AV
 | []=>[]
 | v::r=>v.rn n l::AV.rns n l r
end
mutual
def AV.okR (n:Nat) (l:List Nat):AV→Bool
 | .lf x=>x.okR n l
 | .ag ls=>ls.all (Lf.okR n l)
 | .tu vs=>AV.okRs n l vs
def AV.okRs (n:Nat) (l:List Nat):List AV→Bool
 | []=>true
 | v::r=>v.okR n l&&AV.okRs n l r
end
def AF.rn (n:Nat) (l:List Nat):AF→AF
 | .rep t K xs h=>.rep t K xs (qL n l h)
 | .own t e i K xs h=>.own t e i K xs (qL n l h)
 | .box i b cs=>.box i (qL n l b) (cs.map (Lf.rn n l))
 | .isn h b=>.isn (qL n l h) b
 | .prt a b s lo hi=>.prt (qL n l a) (qL n l b) s lo hi
 | .hol t e i xs h k cs=>.hol t e i xs (qL n l h) k (cs.map (Lf.rn n l))
 | .mp k v i xs h=>.mp k v i xs (qL n l h)
 | .pt t e i K xs h k=>.pt t e i K xs (qL n l h) k
def AF.okR (n:Nat) (l:List Nat):AF→Bool
 | .rep _ _ _ h=>Go.Sm.okR n l h
 | .own _ _ _ _ _ h=>Go.Sm.okR n l h
 | .box _ b cs=>Go.Sm.okR n l b&&cs.all (Lf.okR n l)
 | .isn h _=>Go.Sm.okR n l h
 | .prt a b _ _ _=>Go.Sm.okR n l a&&Go.Sm.okR n l b
 | .hol _ _ _ _ h _ cs=>Go.Sm.okR n l h&&cs.all (Lf.okR n l)
 | .mp _ _ _ _ h=>Go.Sm.okR n l h
 | .pt _ _ _ _ _ h _=>Go.Sm.okR n l h
section
variable {n:Nat} {l:List Nat} {η' ηe:Vn}
theorem Lf.rn_cells (hr:Ag n l η' ηe):(x:Lf)→x.okR n l=true→(x.rn n l).cells η' = x.cells ηe
 | .sl h,hh=>by simp only [Lf.rn,Lf.cells,(hr h hh).1]
 | .bp b off,hh=>by simp only [Lf.rn,Lf.cells,(hr b hh).2]
 | .bq b off m s j,hh=>by simp only [Lf.rn,Lf.cells,(hr b hh).2]
 | .rp h t i u p,hh=>by simp only [Lf.rn,Lf.cells,(hr h hh).1]
 | .clo f b,hh=>by simp only [Lf.rn,Lf.cells,(hr b hh).2]
 | .mp h,hh=>by simp only [Lf.rn,Lf.cells,(hr h hh).1]
 | .c _ _,_=>rfl
 | .ar _ _ _,_=>rfl
 | .nl,_=>rfl
 | .xt _ _,_=>rfl
 | .fn _,_=>rfl
 | .gp _ _ _ _ _,_=>rfl
 | .ars _ _,_=>rfl
 | .v _,_=>rfl
theorem Lf.rn_val (hr:Ag n l η' ηe):(x:Lf)→x.okR n l=true→(x.rn n l).val η' = x.val ηe
 | .sl h,hh=>by simp only [Lf.rn,Lf.val,(hr h hh).1]
 | .bp b off,hh=>by simp only [Lf.rn,Lf.val,(hr b hh).2]
 | .bq b off m s j,hh=>by simp only [Lf.rn,Lf.val,(hr b hh).2]
 | .rp h t i u p,hh=>by simp only [Lf.rn,Lf.val,(hr h hh).1]
 | .clo f b,hh=>by simp only [Lf.rn,Lf.val,(hr b hh).2]
 | .mp h,hh=>by simp only [Lf.rn,Lf.val,(hr h hh).1]
 | .c _ _,_=>rfl
 | .ar _ _ _,_=>rfl
 | .nl,_=>rfl
 | .xt _ _,_=>rfl
 | .fn _,_=>rfl
 | .gp _ _ _ _ _,_=>rfl
 | .ars _ _,_=>rfl
 | .v _,_=>rfl
theorem u7 (hr:Ag n l η' ηe):(ls:List Lf)→ls.all (Lf.okR n l)=true→au η' (ls.map (Lf.rn n l))=au ηe ls
 | [],_=>rfl
 | x::r,h=>by
  simp only [ZN,Vf] at h
  simp only [WD,au,Lf.rn_cells hr x h.1,u7 hr r h.2]
mutual
theorem AV.rn_val (hr:Ag n l η' ηe):(v:AV)→v.okR n l=true→(v.rn n l).val η' = v.val ηe
 | .lf x,h=>by simp only [AV.rn,AV.val]; exact Lf.rn_val hr x h
 | .ag ls,h=>by simp only [AV.rn,AV.val]; rw [u7 hr ls h]
 | .tu vs,h=>by simp only [AV.rn,AV.val]; rw [AV.rns_vals hr vs h]
theorem AV.rns_vals (hr:Ag n l η' ηe):(vs:List AV)→AV.okRs n l vs=true→AV.vals η' (AV.rns n l vs)=AV.vals ηe vs
 | [],_=>rfl
 | v::r,h=>by
  simp only [AV.okRs,Vf] at h
  simp only [AV.rns,AV.vals,AV.rn_val hr v h.1,AV.rns_vals hr r h.2]
end
theorem AF.rn_ha (hr:Ag n l η' ηe):(f:AF)→f.okR n l=true→(f.rn n l).ha η' = f.ha ηe
 | .rep t K xs h,hh=>by simp only [AF.rn,AF.ha,(hr h hh).1]
 | .own t e i K xs h,hh=>by simp only [AF.rn,AF.ha,(hr h hh).1]
 | .box i b cs,hh=>by
  simp only [AF.okR,Vf] at hh
  simp only [AF.rn,AF.ha,(hr b hh.1).2,u7 hr cs hh.2]
 | .isn h b,hh=>by simp only [AF.rn,AF.ha,(hr h hh).1]
 | .prt a b s lo hi,hh=>by
  simp only [AF.okR,Vf] at hh
  simp only [AF.rn,AF.ha,(hr a hh.1).1,(hr b hh.2).1]
 | .hol t e i xs h k cs,hh=>by
  simp only [AF.okR,Vf] at hh
  simp only [AF.rn,AF.ha,(hr h hh.1).1,u7 hr cs hh.2]
 | .mp k v i xs h,hh=>by simp only [AF.rn,AF.ha,(hr h hh).1]
 | .pt t e i K xs h k,hh=>by simp only [AF.rn,AF.ha,(hr h hh).1]
end
def oE:List Nat→List Nat
 | []=>[]
 | a::r=>bif bZ a r then oE r else a::oE r
def Lf.nms (x:Lf):List Nat:=x.hs++x.bs
def AV.nms:AV→List Nat
 | .lf x=>x.nms
 | .ag ls=>ls.flatMap Lf.nms
 | .tu vs=>AV.nmss vs
where AV.nmss:List AV→List Nat
 | []=>[]
 | v::r=>v.nms++AV.nmss r
def AF.main:AF→Nat
 | .rep _ _ _ h=>h
 | .own _ _ _ _ _ h=>h
 | .box _ b _=>b
 | .isn h _=>h
 | .prt h _ _ _ _=>h
 | .hol _ _ _ _ h _ _=>h
 | .mp _ _ _ _ h=>h
 | .pt _ _ _ _ _ h _=>h
def AF.inner:AF→List Nat
 | .box _ _ cs=>cs.flatMap Lf.nms
 | .hol _ _ _ _ _ _ cs=>cs.flatMap Lf.nms
 | _=>[]
def ab7 (n:Nat) (av:AV) (F:List AF):List Nat:=
 let l0:=(av.nms++(F.filter fun f=>Nat.blt f.main n).flatMap AF.inner).filter fun m=>Nat.ble n m
 let l1:=l0++((F.filter fun f=>bZ f.main l0).flatMap AF.inner).filter fun m=>Nat.ble n m
 let l2:=l1++((F.filter fun f=>bZ f.main l1).flatMap AF.inner).filter fun m=>Nat.ble n m
 oE l2
def AF.ownC:AF→List Nat
 | .own _ _ i _ _ _=>[i]
 | .box i _ _=>[i]
 | .hol _ _ i _ _ _ _=>[i]
 | .mp _ _ i _ _=>[i]
 | .pt _ _ i _ _ _ _=>[i]
 | _=>[]
def mf:List AV→AV
 | [v]=>v
 | vs=>.tu vs
def AF.slim:AF→AF
 | .own t e i K xs h=>.own t e i (bif t.ty.pureB||eW e then [] else K) xs h
 | f=>f
theorem Ox {η:Vn} {c:bu}:(f:AF)→(f.ha η).holds w c→(f.slim.ha η).holds w c
 | .own t e i K xs h,hh=>by
  simp only [AF.slim]
  cases hp:t.ty.pureB
  ·cases htr:eW e
   ·exact hh
   ·simp only [AF.ha,jb htr,afq,f9] at hh ⊢
    exact hh
  ·cases htr:eW e
   ·simp only [AF.ha,d7 htr,Bool.true_or,f9] at hh ⊢
    exact yQ hp _ _ hh
   ·simp only [AF.ha,jb htr,afq,f9] at hh ⊢
    exact hh
 | .rep _ _ _ _,h=>h
 | .box _ _ _,h=>h
 | .isn _ _,h=>h
 | .prt _ _ _ _ _,h=>h
 | .hol _ _ _ _ _ _ _,h=>h
 | .mp _ _ _ _ _,h=>h
 | .pt _ _ _ _ _ _ _,h=>h
def UB (n N:Nat) (κs Ka:List Nat) (F1:List AF) (vs:List AV) (S:SS):Option Out:=
 let av:=mf vs
 let FF:=S.F++(bD S.d F1).filter fun f=>f.uses.any fun k=>Nat.ble 2 k
 let l:=ab7 n av FF
 let F2:=FF.filter fun f=>f.okR n l&&(Nat.blt f.main n||bZ f.main l)
 let cm:=gi (oE ((F2.flatMap AF.uses).filter fun k=>Nat.ble 2 k)) 2
 let F3:=F2.map fun f=>((f.rn n l).recol (pX cm 2)).slim
 bif av.okR n l&&Nat.ble l.length 64&&F3.all AF.lvB then some ⟨av.rn n l,F3.map (AF.colI N Ka),κs⟩ else none
section
variable [Itr]
def T8 (F:List AF):Nat→List Nat→List Nat
 | 0,l=>l
 | k+1,l=>T8 F k (oE (l++(F.filter fun f=>bZ f.main l).flatMap AF.inner))
def Um (vs:List AV) (F:List AF):List Nat:=let l:=T8 F 5 (vs.flatMap AV.nms); oE (((F.filter fun f=>bZ f.main l).flatMap AF.ownC).filter fun k=>Nat.ble 2 k)
def Ho (wr:Bool) (C:Cx) (fn:Func) (an:An):Inl:=⟨wr,fun {R} ex n N vs F k=>match ex,fn.body with
 | none,some cd=>
  let κs:=bif wr then Um vs F else []
  let Ka:=oE ((F.flatMap AF.uses).filter fun k=>!(bZ k κs))
  let μ:=gi κs 2
  let F1:=F.map (AF.recol (mu μ Ka))
  let K:SS→Option R:=fun S=>match sH C.Θ S.E (S.F++bD S.d F1) fn.results.toList with
   | some rs=>(UB n N κs Ka F1 rs S).bind k
   | none=>none
  bif Nat.ble 2 N&&Nat.ble vs.length fn.ntmps then oP (C.at n) fn.ntmps cd R an [] F1 ⟨vm vs 0,[],n,256,[]⟩ ⟨K,K,fun _ _=>none⟩ else none
 | _,_=>none⟩
def pC (C:Cx) (fn:Func) (an:An):Inl:=Ho true C fn an
def jR (C:Cx) (fn:Func) (an:An):Inl:=Ho false C fn an
def qy (C:Cx) (fn:Func) (an:An) (ts:List TC):Inl:=⟨false,fun {R} ex n N vs F k=>match fn.body with
 | some cd=>
  let Ka:=oE (F.flatMap AF.uses)
  let F1:=F.map (AF.recol (mu [] Ka))
  let K:SS→Option (eC ts):=fun S=>match sH C.Θ S.E (S.F++bD S.d F1) fn.results.toList with
   | some rs=>match rJ (S.F++bD S.d F1) ts rs with
    | some (x,[],_)=>some x
    | _=>none
   | none=>none
  bif Nat.ble 2 N&&Nat.ble vs.length fn.ntmps&&Nat.beq (i9 ts) 0 then gbind ex (X7 ts) (oP (C.at n) fn.ntmps cd (eC ts) an [] F1 ⟨vm vs 0,[],n,256,[]⟩ ⟨K,K,fun _ _=>none⟩) fun r=>k ⟨xb ts.length ts r n,[],[]⟩ else none
 | none=>none⟩
variable {P:Program} {C:Cx}
theorem xP : ∀ (l:List Nat) (q:Nat),2≤q→(gi l q).all (fun p=>Nat.ble 2 p.2)=true
 | [],_,_=>rfl
 | i::r,q,h=>by
  simp only [gi,ZN,Vf]
  exact ⟨Wo h,xP r (q+1) (by omega)⟩
theorem yX : ∀ (l:List Nat) (q:Nat),(gi l q).map (·.1)=l
 | [],_=>rfl
 | i::r,q=>by simp only [gi,WD,yX r (q+1)]
theorem xD {a:Nat} : ∀ {l:List Nat},a∈oE l→a∈l
 | [],h=>h
 | b::r,h=>by
  simp only [oE] at h
  cases hb:bZ b r
  ·rw [hb] at h
   simp only [no,Wd] at h
   rcases h with h | h
   ·rw [h]; exact VU
   ·exact Vi _ (xD h)
  ·rw [hb] at h
   exact Vi _ (xD h)
theorem ID (hC:C.ok P) (hm:P.follows .mixedOrders=true) {f:FuncId} {cd:Code} (hf:P.funcs[f]? = some fn) (hcd:fn.body=some cd) {an:An}  {vs:List AV} {F1:List AF} {R:Type} {K:SS→Option R} {r:R} (hlen:Nat.ble vs.length fn.ntmps=true)
  (h:oP (C.at n) fn.ntmps cd R an [] F1 ⟨vm vs 0,[],n,256,[]⟩ ⟨K,K,fun _ _=>none⟩=some r) :
  ∃ S',K S' = some r∧∀ {rs:List AV},sH C.Θ S'.E (S'.F++bD S'.d F1) fn.results.toList=some rs→∀ (η:Vn) (w:World) (c1:bu),am w c1 (F1.map (AF.ha η)++nR) →
   Calls P f (AV.vals η vs).toArray w (fun e w' => ∃ (ηe:Vn) (c' : bu),e = .returned ((mf rs).val ηe)∧(∀ m,m<n→ηe.b m=η.b m∧ηe.h m=η.h m)∧HA.holds w' c' (.old w c1)∧am w' c' ((S'.F++bD S'.d F1).map (AF.ha ηe))):=by
 have hlen:=Vg hlen
 have hgl : ∀ (w:World) (c1:bu),L0ok (HA.old w c1::nR):=fun w c1=>⟨fun A hA=>by
  rcases Wd.1 hA with rfl | hA
  ·intro k hk
   simp [HA.uses] at hk
   omega
  ·obtain ⟨e,_,rfl⟩:=VO.1 hA
   intro k hk
   simp [GEnt.ha,HA.uses] at hk
   omega,fun A hA=>Vi _ hA⟩
 have hdet : ∃ S',K S' = some r∧∃ e:Exit,(e = .normal∨e = .ret)∧∀ (β:Vn) (w0:World) (c0:bu) {Q:Exit→Act→World→Prop} {a:Act} {w:World},jz n fn.ntmps (HA.old w0 c0::nR) β [] F1 ⟨vm vs 0,[],n,256,[]⟩ a w →
   (∀ a w,jz n fn.ntmps (HA.old w0 c0::nR) β [] F1 S' a w→Q e a w)→cd.wp P Q a w:=by
  obtain ⟨e,S',h1,h2⟩:=kn (Cx.at_ok hC n) hm cd h
  cases e with
  | normal=>exact ⟨S',h1, .normal, .inl rfl,fun β w0 c0 {Q a w} hI hQ=>h2 (hgl w0 c0) hI hQ⟩
  | ret=>exact ⟨S',h1, .ret, .inr rfl,fun β w0 c0 {Q a w} hI hQ=>h2 (hgl w0 c0) hI hQ⟩
  | exit i=>cases h1
  | goto l=>cases h1
  | panic ch=>cases h1
  | outgrown=>cases h1
 obtain ⟨S',hK,e,he,hS⟩:=hdet
 refine ⟨S',hK,fun {rs} hres η w c1 hH=>?_⟩
 have hvl : ∀ l:List AV,(AV.vals η l).length=l.length:=fun l=>by
  induction l with
  | nil=>rfl
  | cons v r ih=>simp only [AV.vals,Ws,ih]
 refine Nr (n:=fn.ntmps) hf hcd rfl _ (Wo (by rw [hvl]; exact hlen)) hH ?_
 intro a w1 cc ha hHeap
 have hI:jz n fn.ntmps (HA.old w c1::nR) η [] F1 ⟨vm vs 0,[],n,256,[]⟩ a w1:=by
  refine ⟨η,cc,_,ha,fun t v hlk=>?_,?_,?_,fun _ _=>⟨rfl,rfl⟩⟩
  ·rw [Wm] at hlk
   obtain ⟨j,hj,hv⟩:=yq (η:=η) hlk
   rw [YK] at hj
   subst hj
   show (AV.vals η vs).getD _ undef=_
   rw [WT,hv]; rfl
  ·show am w1 cc (([]++bD [] F1).map (AF.ha η))
   rw [A1,XI]
   exact fun A hA=>hHeap A (Vi _ (Ww _ hA))
  ·intro A hA
   rcases Wd.1 hA with rfl | hA
   ·exact hHeap _ VU
   ·exact hHeap A (Vi _ (WQ _ hA))
 refine hS η w c1 hI fun a w' hI' => ?_
 have post:bodyPost P fn (fun e w' => ∃ (ηe:Vn) (c' : bu),e = .returned ((mf rs).val ηe)∧(∀ m,m<n→ηe.b m=η.b m∧ηe.h m=η.h m)∧HA.holds w' c' (.old w c1)∧am w' c' ((S'.F++bD S'.d F1).map (AF.ha ηe))) .ret a w' := by
  obtain ⟨ηe,c',ρ,hrel,hE,hFf,hL,hβ⟩:=hI'
  rw [Wm] at hE
  have hres' := zn hC.Θ hE hres
  have hrun:=zP (fn:=fn) (rs:=fn.results.toList) (vs:=AV.vals ηe rs) (by simp) hrel.val hFf hres'
  refine ⟨hrel.defers,_,hrun,ηe,c',?_,hβ,hL _ VU,hFf⟩
  congr 1
  have hav:(mf rs).val ηe=(match AV.vals ηe rs with | [v]=>v | vs=>.tuple vs.toArray):=by
   unfold mf
   match rs with
   | []=>rfl
   | [v]=>rfl
   | v::v' :: us=>rfl
  rw [hav]
  generalize AV.vals ηe rs=us
  match us with
  | []=>rfl
  | [v]=>rfl
  | v::v' :: us=>
   simp only
   rw [dif_neg (by simp)]
 rcases he with rfl | rfl
 ·exact post
 ·exact post
theorem N0 (wr:Bool) (hC:C.ok P) (hm:P.follows .mixedOrders=true) {f:FuncId} (hf:P.funcs[f]? = some fn) (hname:(fn.name == "runtime.NumGoroutine")=false) (hbody:fn.body.isSome=true) (an:An):(Ho wr C fn an).sound P f:=by
 obtain ⟨cd,hcd⟩:=adE.1 hbody
 refine ⟨⟨fn,cd,hf,hcd,hname⟩,fun {R} ex n N vs F k r hr=>?_⟩
 cases ex with
 | some b=>simp [Ho] at hr
 | none=>
  simp only [Ho,hcd] at hr
  generalize hκ:(bif wr then Um vs F else [])=κs at hr
  generalize hKa:oE ((F.flatMap AF.uses).filter fun k=>!(bZ k κs))=Ka at hr
  cases hc:(Nat.ble 2 N&&Nat.ble vs.length fn.ntmps)
  ·rw [hc] at hr; cases hr
  rw [hc] at hr
  simp only [f9] at hr
  simp only [Vf] at hc
  obtain ⟨hN,hlen⟩:=hc
  have hN:=Vg hN
  obtain ⟨S',hK,hcall⟩:=ID hC hm hf hcd hlen hr
  split at hK
  ·rename_i rs hrs
   obtain ⟨u,hu,hk⟩:=bind_some hK
   refine ⟨u,hk,fun _ η w c hH=>?_⟩
   unfold UB at hu
   simp only at hu
   generalize hl:ab7 n (mf rs) (S'.F++(bD S'.d (F.map (AF.recol (mu (gi κs 2) Ka)))).filter fun f=>f.uses.any fun k=>Nat.ble 2 k)=l at hu
   generalize hF2:((S'.F++(bD S'.d (F.map (AF.recol (mu (gi κs 2) Ka)))).filter fun f=>f.uses.any fun k=>Nat.ble 2 k).filter fun f=>f.okR n l&&(Nat.blt f.main n||bZ f.main l))=F2 at hu
   generalize hcm:gi (oE ((F2.flatMap AF.uses).filter fun k=>Nat.ble 2 k)) 2=cm at hu
   cases hb:((mf rs).okR n l&&Nat.ble l.length 64&&(F2.map fun f=>((f.rn n l).recol (pX cm 2)).slim).all AF.lvB)
   ·rw [hb] at hu; cases hu
   rw [hb] at hu
   simp only [f9,Va] at hu
   subst hu
   simp only [Vf] at hb
   obtain ⟨⟨hav,hll⟩,hlv⟩:=hb
   have hll:=Vg hll
   have hq:=xP κs 2 (Wb _)
   have hq1:(gi κs 2).all (fun p=>Nat.ble 2 p.1)=true:=Vx.2 fun p hp=>by
    have h1:p.1∈κs:=by rw [← yX κs 2]; exact VO.2 ⟨p,hp,rfl⟩
    rw [← hκ] at h1
    cases wr with
    | true=>exact (Yc.1 (xD h1)).2
    | false=>cases h1
   have hpre:am w (fun b=>mu (gi κs 2) Ka (c b)) ((F.map (AF.recol (mu (gi κs 2) Ka))).map (AF.ha η)++nR):=
    (am.recol (fun A hA=>hH A (Ww _ hA))).append (HH hq1 fun A hA=>hH A (WQ _ hA))
   refine (hcall hrs η w _ hpre).mono ?_
   rintro e w' ⟨ηe,c',rfl,hβ,⟨o1,o2,o3,o4⟩,hFe⟩
   have hg:Gd (pX cm 2):=by
    refine HN ?_
    simp only [ZN,Vf]
    refine ⟨rfl,Vx.2 fun z hz=>?_⟩
    obtain ⟨p,hp,rfl⟩:=VO.1 hz
    rw [← hcm] at hp
    exact Vx.1 (xP _ 2 (Wb _)) p hp
   have hrn:=aiD (l:=l) (η:=η) hll hβ
   have hpost:wX w (fun b=>mu (gi κs 2) Ka (c b)) (fun y : { η' : Vn // η.agr n η' }=>((mf rs).rn n l).val y.1) (fun y=>bif true then (F2.map fun f=>((f.rn n l).recol (pX cm 2)).slim).map (AF.ha y.1) else []) (.returned ((mf rs).val ηe)) w' := by
    refine ⟨⟨Vn.rn n l η ηe,Vn.rn_agr⟩,fun b=>pX cm 2 (c' b),Xw Ending.returned (AV.rn_val hrn _ hav).symm,o4,o1,fun b hb' h01=>⟨(o2 b hb' h01).1,?_⟩,fun b hb' hb'' => hg.two _ (o3 b hb' hb''),?_⟩
    ·show pX cm 2 (c' b)=_
     rw [(o2 b hb' h01).2]
     simp only at h01 ⊢
     generalize mu (gi κs 2) Ka (c b)=q at h01
     rcases (show q=0∨q=1 by omega) with rfl | rfl
     ·exact hg.z
     ·exact hg.o
    ·simp only [f9]
     intro A hA
     obtain ⟨B,hB,rfl⟩:=VO.1 hA
     obtain ⟨f,hf2,rfl⟩:=VO.1 hB
     refine Ox _ ?_
     rw [TF]
     refine HA.ren_holds hg _ ?_
     rw [← hF2] at hf2
     obtain ⟨hm1,hm2⟩:=Yc.1 hf2
     simp only [Vf] at hm2
     rw [AF.rn_ha hrn f hm2.1]
     refine hFe _ (VO.2 ⟨f,?_,rfl⟩)
     rcases Wc.1 hm1 with h | h
     ·exact Ww _ h
     ·exact WQ _ (Yc.1 h).1
   obtain ⟨y,c2,he,hst,hF⟩:=MH hq hN (fun y=>by
    simp only [f9]
    refine Vx.2 fun A hA=>?_
    obtain ⟨f,hf2,rfl⟩:=VO.1 hA
    rw [ahT]
    exact Vx.1 hlv f hf2) hpost
   rw [yX] at hst
   refine ⟨y,c2,he,hst,?_⟩
   simp only [f9,ad1] at hF ⊢
   intro A hA
   obtain ⟨f,hf2,rfl⟩:=VO.1 hA
   simp only [Function.comp_apply]
   rw [← afn]
   exact hF _ (VO.2 ⟨f,hf2,rfl⟩)
  ·cases hK
theorem ji (hC:C.ok P) (hm:P.follows .mixedOrders=true) {f:FuncId} (hf:P.funcs[f]? = some fn) (hname:(fn.name == "runtime.NumGoroutine")=false) (hbody:fn.body.isSome=true) (an:An):(pC C fn an).sound P f:=N0 true hC hm hf hname hbody an
theorem dZ (hC:C.ok P) (hm:P.follows .mixedOrders=true) {f:FuncId} (hf:P.funcs[f]? = some fn) (hname:(fn.name == "runtime.NumGoroutine")=false) (hbody:fn.body.isSome=true) (an:An):(jR C fn an).sound P f:=N0 false hC hm hf hname hbody an
theorem ln (hC:C.ok P) (hm:P.follows .mixedOrders=true) {f:FuncId} (hf:P.funcs[f]? = some fn) (hname:(fn.name == "runtime.NumGoroutine")=false) (hbody:fn.body.isSome=true) (an:An) (ts:List TC):(qy C fn an ts).sound P f:=by
 obtain ⟨cd,hcd⟩:=adE.1 hbody
 refine ⟨⟨fn,cd,hf,hcd,hname⟩,fun {R} ex n N vs F k r hr=>?_⟩
 simp only [qy,hcd] at hr
 generalize hKa:oE (F.flatMap AF.uses)=Ka at hr
 cases hc:(Nat.ble 2 N&&Nat.ble vs.length fn.ntmps&&Nat.beq (i9 ts) 0)
 ·rw [hc] at hr; cases hr
 rw [hc] at hr
 simp only [f9] at hr
 simp only [Vf] at hc
 obtain ⟨⟨hN,hlen⟩,hnh⟩:=hc
 have hN:=Vg hN
 have hnh:=Vb hnh
 have fin : ∀ x,k ⟨xb ts.length ts x n,[],[]⟩=some r→(fD ex→∃ S' : SS,(match sH C.Θ S'.E (S'.F++bD S'.d (F.map (AF.recol (mu [] Ka)))) fn.results.toList with
   | some rs=>match rJ (S'.F++bD S'.d (F.map (AF.recol (mu [] Ka)))) ts rs with
    | some (x,[],_)=>some x
    | _=>none
   | none=>none)=some x∧∀ {rs:List AV},sH C.Θ S'.E (S'.F++bD S'.d (F.map (AF.recol (mu [] Ka)))) fn.results.toList=some rs→∀ (η:Vn) (w:World) (c1:bu),am w c1 ((F.map (AF.recol (mu [] Ka))).map (AF.ha η)++nR) →
   Calls P f (AV.vals η vs).toArray w (fun e w' => ∃ (ηe:Vn) (c' : bu),e = .returned ((mf rs).val ηe)∧(∀ m,m<n→ηe.b m=η.b m∧ηe.h m=η.h m)∧HA.holds w' c' (.old w c1)∧am w' c' ((S'.F++bD S'.d (F.map (AF.recol (mu [] Ka)))).map (AF.ha ηe)))) →
   ∃ u,k u=some r∧(fD ex→abM P f vs F n u):=by
  intro x hk hx
  refine ⟨_,hk,fun he η w c hH=>?_⟩
  obtain ⟨S',hK,hcall⟩:=hx he
  split at hK
  ·rename_i rs hrs
   split at hK
   ·rename_i x' Kx hd
    simp only [Va] at hK
    subst hK
    have hpre:am w (fun b=>mu [] Ka (c b)) ((F.map (AF.recol (mu [] Ka))).map (AF.ha η)++nR):=
     (am.recol (fun A hA=>hH A (Ww _ hA))).append (HH rfl fun A hA=>hH A (WQ _ hA))
    refine (hcall hrs η w _ hpre).mono ?_
    rintro e w' ⟨ηe,c',rfl,hβ,⟨o1,o2,o3,o4⟩,hFe⟩
    have hval:(mf rs).val ηe=(xb ts.length ts x' n).val η:=by
     obtain ⟨g1,g2⟩:=Ko (η:=ηe) hd
     have e1:=DS (η:=η) (nr:=ts.length) ts x' [] n (fun j h hj=>by simp at hj) (by rw [hnh]; exact adq _)
     rw [e1]
     have hlen2:(kI ts x' []).length=ts.length:=by
      have gen : ∀ (ts:List TC) (x:eC ts) (l:List Hd),(kI ts x l).length=ts.length:=by
       intro ts
       induction ts with
       | nil=>intro x l; rfl
       | cons t r ih=>
        intro x l
        cases r with
        | nil=>rfl
        | cons t' r=>simp only [kI,Ws,ih]
      exact gen ts x' []
     unfold AZ
     rw [WF (by omega)]
     have g1' : AV.vals ηe rs=kI ts x' []:=g1
     rw [← g1']
     unfold mf
     match rs with
     | []=>rfl
     | [v]=>rfl
     | v::v' :: us=>rfl
    have hpost:wX w (fun b=>mu [] Ka (c b)) (fun y : { η' : Vn // η.agr n η' }=>(xb ts.length ts x' n).val y.1) (fun _=>[]) (.returned ((mf rs).val ηe)) w' := by
     refine ⟨⟨η,Vn.agr_refl n η⟩,c',by rw [hval],o4,o1,fun b hb' h01=>o2 b hb' h01,o3,am.nil _ _⟩
    obtain ⟨y,c2,he,hst,hF⟩:=MH (μ:=[]) (N:=N) rfl hN (fun y=>rfl) hpost
    exact ⟨y,c2,he,hst,hF⟩
   ·cases hK
  ·cases hK
 cases ex with
 | none=>
  simp only [gbind] at hr
  obtain ⟨x,hx,hk⟩:=bind_some hr
  obtain ⟨S',hK,hcall⟩:=ID hC hm hf hcd hlen hx
  exact fin x hk fun _=>⟨S',hK,hcall⟩
 | some b=>
  simp only [gbind] at hr
  obtain ⟨x,hx,hk⟩:=bind_some hr
  cases b with
  | false=>exact fin x hk fun he=>by cases he
  | true=>
   simp only [f9] at hx
   obtain ⟨S',hK,hcall⟩:=ID hC hm hf hcd hlen hx
   exact fin x hk fun _=>⟨S',hK,hcall⟩
def cW (C:Cx) (f:FuncId) (J:Inl):Cx:=⟨C.Γ,C.Θ,C.G,C.D,C.W,fun g=>bif Nat.beq g f then some J else C.I g,C.B,C.K,C.O⟩
theorem bH (hC:C.ok P) {f:FuncId} {J:Inl} (h:J.sound P f):(cW C f J).ok P:=by
 refine ⟨hC.Γ,hC.Θ,hC.G,hC.D,fun g j hg=>?_⟩
 simp only [cW] at hg
 cases hb:Nat.beq g f
 ·rw [hb] at hg; exact hC.I g j hg
 ·rw [hb] at hg
  simp only [f9,Va] at hg
  subst hg
  rw [Vb hb]; exact h
end
end
end Go.Sm
