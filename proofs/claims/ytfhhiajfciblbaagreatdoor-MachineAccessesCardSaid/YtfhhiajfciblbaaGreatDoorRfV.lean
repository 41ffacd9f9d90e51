/- Laws for the row. No condition. -/
import Derived.Test.YtfhhiajfciblbaaGreatDoorRfR
namespace Go.Sm
set_option linter.unusedSectionVars false
set_option linter.unusedVariables false
variable {fn:Func} {w:World} {n:Nat}
section
variable [X:XTab] [G:GTab]
def AF.recol (m:Nat→Nat):AF→AF
 | .rep t K xs h=>.rep t (K.map m) xs h
 | .own t e i K xs h=>.own t e (m i) (K.map m) xs h
 | .box i b cs=>.box (m i) b cs
 | .isn h b=>.isn h b
 | .prt a b s l h=>.prt a b s l h
 | .hol t e i xs h k cs=>.hol t e (m i) xs h k cs
 | .mp k v i xs h=>.mp k v (m i) xs h
 | .pt t e i K xs h k=>.pt t e (m i) (K.map m) xs h k
theorem MB {m:Nat→Nat} {η:Vn} {c:bD}:(f:AF)→(f.ha η).holds w c→((f.recol m).ha η).holds w (fun b=>m (c b))
 | .rep t K xs h,hh=>bT.keep (S:=fun b=>c b∈K) (fun b _ hb=>⟨W6.2 ⟨_,hb,rfl⟩,rfl⟩) (.slice t.ty) xs (η.h h) hh
 | .own t e i K xs h,hh=>J3 (fun b _ hb=>by grind) (fun b _ hb=>W6.2 ⟨_,hb,rfl⟩) hh
 | .box i b cs,hh=>⟨hh.1,by show m (c _)=m i; rw [hh.2]⟩
 | .isn h b,hh=>hh
 | .prt a b s l h,hh=>hh
 | .hol t e i xs h k cs,hh=>kG.keep (fun b _ (hb:c b=i)=>⟨by grind,rfl⟩) hh
 | .pt t e i K xs h k,hh=>wy.keep (S:=fun b=>c b=i) (SK:=fun b=>c b∈K) (fun b _ (hb:c b=i)=>⟨by grind,rfl⟩) (fun b _ hb=>⟨W6.2 ⟨_,hb,rfl⟩,rfl⟩) hh
 | .mp k v i xs h,hh=>tj.keep (S:=fun b=>c b=i) (S' := fun b=>m (c b)=m i) (fun b _ (hb:c b=i)=>⟨by grind,rfl⟩) hh
theorem VY {g:Nat→Nat} {η:Vn}:(f:AF)→(f.recol g).ha η=(f.ha η).ren g
 | .rep t K xs h=>rfl
 | .own t e i K xs h=>WK.symm
 | .box i b cs=>rfl
 | .isn h b=>rfl
 | .prt a b s l h=>rfl
 | .hol t e i xs h k cs=>rfl
 | .mp k v i xs h=>rfl
 | .pt t e i K xs h k=>rfl
theorem am.recol {m:Nat→Nat} {η:Vn} {c:bD} {F:List AF} (h:am w c (F.map (AF.ha η))):am w (fun b=>m (c b)) ((F.map (AF.recol m)).map (AF.ha η)):=by
 intro A hA
 obtain ⟨B,hB,rfl⟩:=W6.1 hA
 obtain ⟨f,hf,rfl⟩:=W6.1 hB
 exact MB f (h _ (W6.2 ⟨f,hf,rfl⟩))
def AF.colI (N:Nat) (Ka:List Nat):AF→AF
 | .rep t K xs h=>.rep t (instK N Ka K) xs h
 | .own t e i K xs h=>.own t e (N+(i - 2)) (instK N Ka K) xs h
 | .box i b cs=>.box (N+(i - 2)) b cs
 | .isn h b=>.isn h b
 | .prt a b s l h=>.prt a b s l h
 | .hol t e i xs h k cs=>.hol t e (N+(i - 2)) xs h k cs
 | .mp k v i xs h=>.mp k v (N+(i - 2)) xs h
 | .pt t e i K xs h k=>.pt t e (N+(i - 2)) (instK N Ka K) xs h k
theorem afK {N:Nat} {Ka:List Nat} {η:Vn}:(f:AF)→HA.inst N Ka (f.ha η)=(f.colI N Ka).ha η
 | .rep t K xs h=>rfl
 | .own t e i K xs h=>yY
 | .box i b cs=>rfl
 | .isn h b=>rfl
 | .prt a b s l h=>rfl
 | .hol t e i xs h k cs=>rfl
 | .mp k v i xs h=>rfl
 | .pt t e i K xs h k=>rfl
def AF.lvB:AF→Bool
 | .rep _ K _ _=>K.all fun k=>Nat.ble 1 k
 | .own _ _ i K _ _=>Nat.ble 2 i&&K.all fun k=>Nat.ble 1 k
 | .box i _ _=>Nat.ble 2 i
 | .isn _ _=>true
 | .prt _ _ _ _ _=>true
 | .hol _ _ i _ _ _ _=>Nat.ble 2 i
 | .mp _ _ i _ _=>Nat.ble 2 i
 | .pt _ _ i K _ _ _=>Nat.ble 2 i&&K.all fun k=>Nat.ble 1 k
theorem ajC {η:Vn}:(f:AF)→(f.ha η).leaves=f.lvB
 | .rep t K xs h=>rfl
 | .own t e i K xs h=>vP
 | .box i b cs=>rfl
 | .isn h b=>rfl
 | .prt a b s l h=>rfl
 | .hol t e i xs h k cs=>rfl
 | .mp k v i xs h=>rfl
 | .pt t e i K xs h k=>rfl
theorem NR {w':World} {c:bD} {Ka:List Nat} {μ:List (Nat×Nat)} {N:Nat} {Y:Type} {val:Y→Value} {fcts:Y→List HA} {e:Ending} (hq:μ.all (fun p=>Nat.ble 2 p.2)=true) (hN:2≤N) (hl : ∀ y,(fcts y).all HA.leaves=true)
  (h:xJ w (fun b=>mu μ Ka (c b)) val fcts e w') : ∃ y c'',e = .returned (val y)∧Stp (μ.map (·.1)) w c w' c'' ∧ am w' c'' ((fcts y).map (HA.inst N Ka)):=by
 obtain ⟨y,c',rfl,henv,h1,hold,hnew,hF⟩:=h
 refine ⟨y,ta w c (μ.map (·.1)) N c',rfl,⟨h1,fun b hb hn=>by simp only [ta]; grind,fun b hb hn=>(hold b hb (sQ hn).1).1,fun b hb hb' => ?_,henv⟩,?_⟩
 ·simp only [ta]
  grind
 ·intro A hA
  obtain ⟨B,hB,rfl⟩:=W6.1 hA
  refine instC_holds (fun b hb hn=>?_) (fun b hb hn=>hnew b hb fun hlt=>P2 hq (hn hlt)) B (W3.1 (hl y) B hB) (hF B hB)
  have:=(hold b hb (sQ hn).1).2
  rw [this]; exact sQ hn
def tk (m:Nat):List Nat→Nat
 | []=>0
 | a::r=>bif Nat.beq m a then 0 else tk m r+1
theorem Lw {m:Nat} : ∀ {l:List Nat},cf m l=true→tk m l<l.length∧l.getD (tk m l) 0=m
 | [],h=>by simp [cf] at h
 | a::r,h=>by
  simp only [tk]
  cases hb:Nat.beq m a
  ·have hm:cf m r=true:=by
    simp only [cf,ag7,hb,aeF] at h
    exact h
   obtain ⟨h1,h2⟩:=Lw hm
   grind
  simp_all
def qP (n:Nat) (l:List Nat) (m:Nat):Nat:=bif Nat.blt m n then m else n+tk m l
def okR (n:Nat) (l:List Nat) (m:Nat):Bool:=Nat.blt m n||cf m l
def Vn.rn (n:Nat) (l:List Nat) (η ηe:Vn):Vn:=⟨fun x=>bif Nat.blt x n||Nat.ble (n+64) x then η.h x else ηe.h (l.getD (x - n) 0),fun x=>bif Nat.blt x n||Nat.ble (n+64) x then η.b x else ηe.b (l.getD (x - n) 0)⟩
theorem Vn.rn_agr {l:List Nat} {η ηe:Vn}:η.agr n (Vn.rn n l η ηe):=fun m hm=>by
 have h:(Nat.blt m n||Nat.ble (n+64) m)=true:=hm
 simp only [Vn.rn,h,f9,ai8]
def A8 (n:Nat) (l:List Nat) (η' ηe:Vn):Prop:=∀ m,okR n l m=true→η'.h (qP n l m)=ηe.h m∧η'.b (qP n l m)=ηe.b m
theorem akj {l:List Nat} {η ηe:Vn} (hl:l.length≤64) (hlow : ∀ m,m<n→ηe.b m=η.b m∧ηe.h m=η.h m):A8 n l (Vn.rn n l η ηe) ηe:=by
 intro m hm
 cases hb:Nat.blt m n
 ·have hm' : cf m l=true:=by simpa [okR,hb] using hm
  obtain ⟨h1,h2⟩:=Lw hm'
  have e1:(Nat.blt (n+tk m l) n||Nat.ble (n+64) (n+tk m l))=false:=by
   rw [Zp]
   refine ⟨?_,?_⟩
   ·cases hh:Nat.blt (n+tk m l) n
    ·rfl
    ·have:n+tk m l+1≤n:=Wt hh
     omega
   ·cases hh:Nat.ble (n+64) (n+tk m l)
    ·rfl
    ·have:=Wt hh
     omega
  simp only [Vn.rn,qP,hb,no,e1,show n+tk m l - n=tk m l by omega,h2,ai8]
 ·have h1:m+1≤n:=Wt hb
  have:=hlow m (by omega)
  simp only [Vn.rn,qP,hb,f9,Bool.true_or]
  grind
def Lf.rn (n:Nat) (l:List Nat):Lf→Lf
 | .sl h=>.sl (qP n l h)
 | .bp b off=>.bp (qP n l b) off
 | .bq b off m s j=>.bq (qP n l b) off m s j
 | .rp h t i u p=>.rp (qP n l h) t i u p
 | .clo f b=>.clo f (qP n l b)
 | .mp h=>.mp (qP n l h)
 | x=>x
def Lf.okR (n:Nat) (l:List Nat):Lf→Bool
 | .sl h=>Go.Sm.okR n l h
 | .bp b _=>Go.Sm.okR n l b
 | .bq b _ _ _ _=>Go.Sm.okR n l b
 | .rp h _ _ _ _=>Go.Sm.okR n l h
 | .clo _ b=>Go.Sm.okR n l b
 | .mp h=>Go.Sm.okR n l h
 | _=>true
mutual
def AV.rn (n:Nat) (l:List Nat):AV→AV
 | .lf x=>.lf (x.rn n l)
 | .ag ls=>.ag (ls.map (Lf.rn n l))
 | .tu vs=>.tu (AV.rns n l vs)
def AV.rns (n:Nat) (l:List Nat):List AV→List AV
 | []=>[]
 | v::r=>v.rn n l::AV.rns n l r
end
mutual
def AV.okR (n:Nat) (l:List Nat):AV→Bool
 | .lf x=>x.okR n l
 | .ag ls=>ls.all (Lf.okR n l)
 | .tu vs=>AV.okRs n l vs
def AV.okRs (n:Nat) (l:List Nat):List AV→Bool
 | []=>true
 | v::r=>v.okR n l&&AV.okRs n l r
end
def AF.rn (n:Nat) (l:List Nat):AF→AF
 | .rep t K xs h=>.rep t K xs (qP n l h)
 | .own t e i K xs h=>.own t e i K xs (qP n l h)
 | .box i b cs=>.box i (qP n l b) (cs.map (Lf.rn n l))
 | .isn h b=>.isn (qP n l h) b
 | .prt a b s lo hi=>.prt (qP n l a) (qP n l b) s lo hi
 | .hol t e i xs h k cs=>.hol t e i xs (qP n l h) k (cs.map (Lf.rn n l))
 | .mp k v i xs h=>.mp k v i xs (qP n l h)
 | .pt t e i K xs h k=>.pt t e i K xs (qP n l h) k
def AF.okR (n:Nat) (l:List Nat):AF→Bool
 | .rep _ _ _ h=>Go.Sm.okR n l h
 | .own _ _ _ _ _ h=>Go.Sm.okR n l h
 | .box _ b cs=>Go.Sm.okR n l b&&cs.all (Lf.okR n l)
 | .isn h _=>Go.Sm.okR n l h
 | .prt a b _ _ _=>Go.Sm.okR n l a&&Go.Sm.okR n l b
 | .hol _ _ _ _ h _ cs=>Go.Sm.okR n l h&&cs.all (Lf.okR n l)
 | .mp _ _ _ _ h=>Go.Sm.okR n l h
 | .pt _ _ _ _ _ h _=>Go.Sm.okR n l h
section
variable {n:Nat} {l:List Nat} {η' ηe:Vn}
theorem Lf.rn_cells (hr:A8 n l η' ηe):(x:Lf)→x.okR n l=true→(x.rn n l).cells η' = x.cells ηe
 | .sl h,hh=>by simp only [Lf.rn,Lf.cells,(hr h hh).1]
 | .bp b off,hh=>by simp only [Lf.rn,Lf.cells,(hr b hh).2]
 | .bq b off m s j,hh=>by simp only [Lf.rn,Lf.cells,(hr b hh).2]
 | .rp h t i u p,hh=>by simp only [Lf.rn,Lf.cells,(hr h hh).1]
 | .clo f b,hh=>by simp only [Lf.rn,Lf.cells,(hr b hh).2]
 | .mp h,hh=>by simp only [Lf.rn,Lf.cells,(hr h hh).1]
 | .c _ _,_=>rfl
 | .ar _ _ _,_=>rfl
 | .nl,_=>rfl
 | .xt _ _,_=>rfl
 | .fn _,_=>rfl
 | .gp _ _ _ _ _,_=>rfl
 | .ars _ _,_=>rfl
 | .v _,_=>rfl
theorem Lf.rn_val (hr:A8 n l η' ηe):(x:Lf)→x.okR n l=true→(x.rn n l).val η' = x.val ηe
 | .sl h,hh=>by simp only [Lf.rn,Lf.val,(hr h hh).1]
 | .bp b off,hh=>by simp only [Lf.rn,Lf.val,(hr b hh).2]
 | .bq b off m s j,hh=>by simp only [Lf.rn,Lf.val,(hr b hh).2]
 | .rp h t i u p,hh=>by simp only [Lf.rn,Lf.val,(hr h hh).1]
 | .clo f b,hh=>by simp only [Lf.rn,Lf.val,(hr b hh).2]
 | .mp h,hh=>by simp only [Lf.rn,Lf.val,(hr h hh).1]
 | .c _ _,_=>rfl
 | .ar _ _ _,_=>rfl
 | .nl,_=>rfl
 | .xt _ _,_=>rfl
 | .fn _,_=>rfl
 | .gp _ _ _ _ _,_=>rfl
 | .ars _ _,_=>rfl
 | .v _,_=>rfl
theorem vK (hr:A8 n l η' ηe):(ls:List Lf)→ls.all (Lf.okR n l)=true→aw η' (ls.map (Lf.rn n l))=aw ηe ls
 | [],_=>rfl
 | x::r,h=>by
  simp only [aas,Wp] at h
  simp only [XH,aw,Lf.rn_cells hr x h.1,vK hr r h.2]
mutual
theorem AV.rn_val (hr:A8 n l η' ηe):(v:AV)→v.okR n l=true→(v.rn n l).val η' = v.val ηe
 | .lf x,h=>by simp only [AV.rn,AV.val]; exact Lf.rn_val hr x h
 | .ag ls,h=>by simp only [AV.rn,AV.val]; rw [vK hr ls h]
 | .tu vs,h=>by simp only [AV.rn,AV.val]; rw [AV.rns_vals hr vs h]
theorem AV.rns_vals (hr:A8 n l η' ηe):(vs:List AV)→AV.okRs n l vs=true→AV.vals η' (AV.rns n l vs)=AV.vals ηe vs
 | [],_=>rfl
 | v::r,h=>by
  simp only [AV.okRs,Wp] at h
  simp only [AV.rns,AV.vals,AV.rn_val hr v h.1,AV.rns_vals hr r h.2]
end
theorem AF.rn_ha (hr:A8 n l η' ηe):(f:AF)→f.okR n l=true→(f.rn n l).ha η' = f.ha ηe
 | .rep t K xs h,hh=>by simp only [AF.rn,AF.ha,(hr h hh).1]
 | .own t e i K xs h,hh=>by simp only [AF.rn,AF.ha,(hr h hh).1]
 | .box i b cs,hh=>by
  simp only [AF.okR,Wp] at hh
  simp only [AF.rn,AF.ha,(hr b hh.1).2,vK hr cs hh.2]
 | .isn h b,hh=>by simp only [AF.rn,AF.ha,(hr h hh).1]
 | .prt a b s lo hi,hh=>by
  simp only [AF.okR,Wp] at hh
  simp only [AF.rn,AF.ha,(hr a hh.1).1,(hr b hh.2).1]
 | .hol t e i xs h k cs,hh=>by
  simp only [AF.okR,Wp] at hh
  simp only [AF.rn,AF.ha,(hr h hh.1).1,vK hr cs hh.2]
 | .mp k v i xs h,hh=>by simp only [AF.rn,AF.ha,(hr h hh).1]
 | .pt t e i K xs h k,hh=>by simp only [AF.rn,AF.ha,(hr h hh).1]
end
def pm:List Nat→List Nat
 | []=>[]
 | a::r=>bif cf a r then pm r else a::pm r
def Lf.nms (x:Lf):List Nat:=x.hs++x.bs
def AV.nms:AV→List Nat
 | .lf x=>x.nms
 | .ag ls=>ls.flatMap Lf.nms
 | .tu vs=>AV.nmss vs
where AV.nmss:List AV→List Nat
 | []=>[]
 | v::r=>v.nms++AV.nmss r
def AF.main:AF→Nat
 | .rep _ _ _ h=>h
 | .own _ _ _ _ _ h=>h
 | .box _ b _=>b
 | .isn h _=>h
 | .prt h _ _ _ _=>h
 | .hol _ _ _ _ h _ _=>h
 | .mp _ _ _ _ h=>h
 | .pt _ _ _ _ _ h _=>h
def AF.inner:AF→List Nat
 | .box _ _ cs=>cs.flatMap Lf.nms
 | .hol _ _ _ _ _ _ cs=>cs.flatMap Lf.nms
 | _=>[]
def acO (n:Nat) (av:AV) (F:List AF):List Nat:=
 let l0:=(av.nms++(F.filter fun f=>Nat.blt f.main n).flatMap AF.inner).filter fun m=>Nat.ble n m
 let l1:=l0++((F.filter fun f=>cf f.main l0).flatMap AF.inner).filter fun m=>Nat.ble n m
 let l2:=l1++((F.filter fun f=>cf f.main l1).flatMap AF.inner).filter fun m=>Nat.ble n m
 pm l2
def AF.ownC:AF→List Nat
 | .own _ _ i _ _ _=>[i]
 | .box i _ _=>[i]
 | .hol _ _ i _ _ _ _=>[i]
 | .mp _ _ i _ _=>[i]
 | .pt _ _ i _ _ _ _=>[i]
 | _=>[]
def mZ:List AV→AV
 | [v]=>v
 | vs=>.tu vs
def AF.slim:AF→AF
 | .own t e i K xs h=>.own t e i (bif t.ty.pureB||fG e then [] else K) xs h
 | f=>f
theorem QH {η:Vn} {c:bD}:(f:AF)→(f.ha η).holds w c→(f.slim.ha η).holds w c
 | .own t e i K xs h,hh=>by
  simp only [AF.slim]
  cases hp:t.ty.pureB
  ·cases htr:fG e
   ·exact hh
   ·simp only [AF.ha,jE htr,agH,f9] at hh ⊢
    exact hh
  ·cases htr:fG e
   ·simp only [AF.ha,eD htr,Bool.true_or,f9] at hh ⊢
    exact zj hp _ _ hh
   ·simp only [AF.ha,jE htr,agH,f9] at hh ⊢
    exact hh
 | .rep _ _ _ _,h=>h
 | .box _ _ _,h=>h
 | .isn _ _,h=>h
 | .prt _ _ _ _ _,h=>h
 | .hol _ _ _ _ _ _ _,h=>h
 | .mp _ _ _ _ _,h=>h
 | .pt _ _ _ _ _ _ _,h=>h
def VP (n N:Nat) (κs Ka:List Nat) (F1:List AF) (vs:List AV) (S:SS):Option Out:=
 let av:=mZ vs
 let FF:=S.F++(live S.d F1).filter fun f=>f.uses.any fun k=>Nat.ble 2 k
 let l:=acO n av FF
 let F2:=FF.filter fun f=>f.okR n l&&(Nat.blt f.main n||cf f.main l)
 let cm:=gC (pm ((F2.flatMap AF.uses).filter fun k=>Nat.ble 2 k)) 2
 let F3:=F2.map fun f=>((f.rn n l).recol (qE cm 2)).slim
 bif av.okR n l&&Nat.ble l.length 64&&F3.all AF.lvB then some ⟨av.rn n l,F3.map (AF.colI N Ka),κs⟩ else none
section
variable [Itr]
def UY (F:List AF):Nat→List Nat→List Nat
 | 0,l=>l
 | k+1,l=>UY F k (pm (l++(F.filter fun f=>cf f.main l).flatMap AF.inner))
def UM (vs:List AV) (F:List AF):List Nat:=let l:=UY F 5 (vs.flatMap AV.nms); pm (((F.filter fun f=>cf f.main l).flatMap AF.ownC).filter fun k=>Nat.ble 2 k)
def Lk (wr:Bool) (C:Cx) (fn:Func) (an:An):Inl:=⟨wr,fun {R} ex n N vs F k=>match ex,fn.body with
 | none,some cd=>
  let κs:=bif wr then UM vs F else []
  let Ka:=pm ((F.flatMap AF.uses).filter fun k=>!(cf k κs))
  let μ:=gC κs 2
  let F1:=F.map (AF.recol (mu μ Ka))
  let K:SS→Option R:=fun S=>match tg C.Θ S.E (S.F++live S.d F1) fn.results.toList with
   | some rs=>(VP n N κs Ka F1 rs S).bind k
   | none=>none
  bif Nat.ble 2 N&&Nat.ble vs.length fn.ntmps then pA (C.at n) fn.ntmps cd R an [] F1 ⟨wc vs 0,[],n,256,[]⟩ ⟨K,K,fun _ _=>none⟩ else none
 | _,_=>none⟩
def qb (C:Cx) (fn:Func) (an:An):Inl:=Lk true C fn an
def kM (C:Cx) (fn:Func) (an:An):Inl:=Lk false C fn an
def rl (C:Cx) (fn:Func) (an:An) (ts:List TC):Inl:=⟨false,fun {R} ex n N vs F k=>match fn.body with
 | some cd=>
  let Ka:=pm (F.flatMap AF.uses)
  let F1:=F.map (AF.recol (mu [] Ka))
  let K:SS→Option (eL ts):=fun S=>match tg C.Θ S.E (S.F++live S.d F1) fn.results.toList with
   | some rs=>match sr (S.F++live S.d F1) ts rs with
    | some (x,[],_)=>some x
    | _=>none
   | none=>none
  bif Nat.ble 2 N&&Nat.ble vs.length fn.ntmps&&Nat.beq (jC ts) 0 then gbind ex (aaF ts) (pA (C.at n) fn.ntmps cd (eL ts) an [] F1 ⟨wc vs 0,[],n,256,[]⟩ ⟨K,K,fun _ _=>none⟩) fun r=>k ⟨xT ts.length ts r n,[],[]⟩ else none
 | none=>none⟩
variable {P:Program} {C:Cx}
theorem zG : ∀ (l:List Nat) (q:Nat),2≤q→(gC l q).all (fun p=>Nat.ble 2 p.2)=true
 | [],_,_=>rfl
 | i::r,q,h=>by
  simp only [gC,aas,Wp]
  exact ⟨Yb h,zG r (q+1) (by omega)⟩
theorem yQ : ∀ (l:List Nat) (q:Nat),(gC l q).map (·.1)=l
 | [],_=>rfl
 | i::r,q=>by simp only [gC,XH,yQ r (q+1)]
theorem zD {a:Nat} : ∀ {l:List Nat},a∈pm l→a∈l
 | [],h=>h
 | b::r,h=>by
  simp only [pm] at h
  cases hb:cf b r
  ·rw [hb] at h
   simp only [no,Xb] at h
   rcases h with h | h
   ·grind
   ·exact Wq _ (zD h)
  ·rw [hb] at h
   exact Wq _ (zD h)
theorem Kf (hC:C.ok P) (hm:P.follows .mixedOrders=true) {f:FuncId} {cd:Code} (hf:P.funcs[f]? = some fn) (hcd:fn.body=some cd) {an:An}  {vs:List AV} {F1:List AF} {R:Type} {K:SS→Option R} {r:R} (hlen:Nat.ble vs.length fn.ntmps=true)
  (h:pA (C.at n) fn.ntmps cd R an [] F1 ⟨wc vs 0,[],n,256,[]⟩ ⟨K,K,fun _ _=>none⟩=some r) :
  ∃ S',K S' = some r∧∀ {rs:List AV},tg C.Θ S'.E (S'.F++live S'.d F1) fn.results.toList=some rs→∀ (η:Vn) (w:World) (c1:bD),am w c1 (F1.map (AF.ha η)++ov) →
   Calls P f (AV.vals η vs).toArray w (fun e w' => ∃ (ηe:Vn) (c' : bD),e = .returned ((mZ rs).val ηe)∧(∀ m,m<n→ηe.b m=η.b m∧ηe.h m=η.h m)∧HA.holds w' c' (.old w c1)∧am w' c' ((S'.F++live S'.d F1).map (AF.ha ηe))):=by
 have hlen:=Wt hlen
 have hgl : ∀ (w:World) (c1:bD),L0ok (HA.old w c1::ov):=fun w c1=>⟨fun A hA=>by
  rcases Xb.1 hA with rfl | hA
  ·intro k hk
   simp [HA.uses] at hk
   omega
  ·obtain ⟨e,_,rfl⟩:=W6.1 hA
   intro k hk
   simp [GEnt.ha,HA.uses] at hk
   omega,fun A hA=>Wq _ hA⟩
 have hdet : ∃ S',K S' = some r∧∃ e:Exit,(e = .normal∨e = .ret)∧∀ (β:Vn) (w0:World) (c0:bD) {Q:Exit→Act→World→Prop} {a:Act} {w:World},jH n fn.ntmps (HA.old w0 c0::ov) β [] F1 ⟨wc vs 0,[],n,256,[]⟩ a w →
   (∀ a w,jH n fn.ntmps (HA.old w0 c0::ov) β [] F1 S' a w→Q e a w)→cd.wp P Q a w:=by
  obtain ⟨e,S',h1,h2⟩:=kR (Cx.at_ok hC n) hm cd h
  cases e with
  | normal=>exact ⟨S',h1, .normal, .inl rfl,fun β w0 c0 {Q a w} hI hQ=>h2 (hgl w0 c0) hI hQ⟩
  | ret=>exact ⟨S',h1, .ret, .inr rfl,fun β w0 c0 {Q a w} hI hQ=>h2 (hgl w0 c0) hI hQ⟩
  | exit i=>cases h1
  | goto l=>cases h1
  | panic ch=>cases h1
  | outgrown=>cases h1
 obtain ⟨S',hK,e,he,hS⟩:=hdet
 refine ⟨S',hK,fun {rs} hres η w c1 hH=>?_⟩
 have hvl : ∀ l:List AV,(AV.vals η l).length=l.length:=fun l=>by
  induction l with
  | nil=>rfl
  | cons v r ih=>simp only [AV.vals,XM,ih]
 refine O5 (n:=fn.ntmps) hf hcd rfl _ (Yb (by grind)) hH ?_
 intro a w1 cc ha hHeap
 have hI:jH n fn.ntmps (HA.old w c1::ov) η [] F1 ⟨wc vs 0,[],n,256,[]⟩ a w1:=by
  refine ⟨η,cc,_,ha,fun t v hlk=>?_,?_,?_,fun _ _=>⟨rfl,rfl⟩⟩
  ·rw [XE] at hlk
   obtain ⟨j,hj,hv⟩:=zg (η:=η) hlk
   grind
  ·show am w1 cc (([]++live [] F1).map (AF.ha η))
   rw [B0,Yv]
   exact fun A hA=>hHeap A (Wq _ (XP _ hA))
  ·intro A hA
   rcases Xb.1 hA with rfl | hA
   ·exact hHeap _ W7
   ·exact hHeap A (Wq _ (X5 _ hA))
 refine hS η w c1 hI fun a w' hI' => ?_
 have post:bodyPost P fn (fun e w' => ∃ (ηe:Vn) (c' : bD),e = .returned ((mZ rs).val ηe)∧(∀ m,m<n→ηe.b m=η.b m∧ηe.h m=η.h m)∧HA.holds w' c' (.old w c1)∧am w' c' ((S'.F++live S'.d F1).map (AF.ha ηe))) .ret a w' := by
  obtain ⟨ηe,c',ρ,hrel,hE,hFf,hL,hβ⟩:=hI'
  rw [XE] at hE
  have hres' := Al hC.Θ hE hres
  have hrun:=AZ (fn:=fn) (rs:=fn.results.toList) (vs:=AV.vals ηe rs) (by simp) hrel.val hFf hres'
  refine ⟨hrel.defers,_,hrun,ηe,c',?_,hβ,hL _ W7,hFf⟩
  congr 1
  have hav:(mZ rs).val ηe=(match AV.vals ηe rs with | [v]=>v | vs=>.tuple vs.toArray):=by
   unfold mZ
   match rs with
   | []=>rfl
   | [v]=>rfl
   | v::v' :: us=>rfl
  rw [hav]
  generalize AV.vals ηe rs=us
  match us with
  | []=>rfl
  | [v]=>rfl
  | v::v' :: us=>
   grind
 rcases he with rfl | rfl
 ·exact post
 ·exact post
theorem OY (wr:Bool) (hC:C.ok P) (hm:P.follows .mixedOrders=true) {f:FuncId} (hf:P.funcs[f]? = some fn) (hname:(fn.name == "runtime.NumGoroutine")=false) (hbody:fn.body.isSome=true) (an:An):(Lk wr C fn an).sound P f:=by
 obtain ⟨cd,hcd⟩:=aez.1 hbody
 refine ⟨⟨fn,cd,hf,hcd,hname⟩,fun {R} ex n N vs F k r hr=>?_⟩
 cases ex with
 | some b=>simp [Lk] at hr
 | none=>
  simp only [Lk,hcd] at hr
  generalize hκ:(bif wr then UM vs F else [])=κs at hr
  generalize hKa:pm ((F.flatMap AF.uses).filter fun k=>!(cf k κs))=Ka at hr
  cases hc:(Nat.ble 2 N&&Nat.ble vs.length fn.ntmps)
  ·grind
  rw [hc] at hr
  simp only [f9] at hr
  simp only [Wp] at hc
  obtain ⟨hN,hlen⟩:=hc
  have hN:=Wt hN
  obtain ⟨S',hK,hcall⟩:=Kf hC hm hf hcd hlen hr
  split at hK
  ·rename_i rs hrs
   obtain ⟨u,hu,hk⟩:=bind_some hK
   refine ⟨u,hk,fun _ η w c hH=>?_⟩
   unfold VP at hu
   simp only at hu
   generalize hl:acO n (mZ rs) (S'.F++(live S'.d (F.map (AF.recol (mu (gC κs 2) Ka)))).filter fun f=>f.uses.any fun k=>Nat.ble 2 k)=l at hu
   generalize hF2:((S'.F++(live S'.d (F.map (AF.recol (mu (gC κs 2) Ka)))).filter fun f=>f.uses.any fun k=>Nat.ble 2 k).filter fun f=>f.okR n l&&(Nat.blt f.main n||cf f.main l))=F2 at hu
   generalize hcm:gC (pm ((F2.flatMap AF.uses).filter fun k=>Nat.ble 2 k)) 2=cm at hu
   cases hb:((mZ rs).okR n l&&Nat.ble l.length 64&&(F2.map fun f=>((f.rn n l).recol (qE cm 2)).slim).all AF.lvB)
   ·grind
   rw [hb] at hu
   simp only [f9,Wn] at hu
   subst hu
   simp only [Wp] at hb
   obtain ⟨⟨hav,hll⟩,hlv⟩:=hb
   have hll:=Wt hll
   have hq:=zG κs 2 (Xw _)
   have hq1:(gC κs 2).all (fun p=>Nat.ble 2 p.1)=true:=W3.2 fun p hp=>by
    have h1:p.1∈κs:=by rw [← yQ κs 2]; grind
    rw [← hκ] at h1
    cases wr with
    | true=>exact (ZP.1 (zD h1)).2
    | false=>cases h1
   have hpre:am w (fun b=>mu (gC κs 2) Ka (c b)) ((F.map (AF.recol (mu (gC κs 2) Ka))).map (AF.ha η)++ov):=
    (am.recol (fun A hA=>hH A (XP _ hA))).append (LH hq1 fun A hA=>hH A (X5 _ hA))
   refine (hcall hrs η w _ hpre).mono ?_
   rintro e w' ⟨ηe,c',rfl,hβ,⟨o1,o2,o3,o4⟩,hFe⟩
   have hg:Gd (qE cm 2):=by
    refine Lv ?_
    simp only [aas,Wp]
    refine ⟨rfl,W3.2 fun z hz=>?_⟩
    obtain ⟨p,hp,rfl⟩:=W6.1 hz
    rw [← hcm] at hp
    exact W3.1 (zG _ 2 (Xw _)) p hp
   have hrn:=akj (l:=l) (η:=η) hll hβ
   have hpost:xJ w (fun b=>mu (gC κs 2) Ka (c b)) (fun y : { η' : Vn // η.agr n η' }=>((mZ rs).rn n l).val y.1) (fun y=>bif true then (F2.map fun f=>((f.rn n l).recol (qE cm 2)).slim).map (AF.ha y.1) else []) (.returned ((mZ rs).val ηe)) w' := by
    refine ⟨⟨Vn.rn n l η ηe,Vn.rn_agr⟩,fun b=>qE cm 2 (c' b),XZ Ending.returned (AV.rn_val hrn _ hav).symm,o4,o1,fun b hb' h01=>⟨(o2 b hb' h01).1,?_⟩,fun b hb' hb'' => hg.two _ (o3 b hb' hb''),?_⟩
    ·show qE cm 2 (c' b)=_
     rw [(o2 b hb' h01).2]
     simp only at h01 ⊢
     generalize mu (gC κs 2) Ka (c b)=q at h01
     rcases (show q=0∨q=1 by omega) with rfl | rfl
     ·exact hg.z
     ·exact hg.o
    ·simp only [f9]
     intro A hA
     obtain ⟨B,hB,rfl⟩:=W6.1 hA
     obtain ⟨f,hf2,rfl⟩:=W6.1 hB
     refine QH _ ?_
     rw [VY]
     refine HA.ren_holds hg _ ?_
     rw [← hF2] at hf2
     obtain ⟨hm1,hm2⟩:=ZP.1 hf2
     simp only [Wp] at hm2
     rw [AF.rn_ha hrn f hm2.1]
     refine hFe _ (W6.2 ⟨f,?_,rfl⟩)
     grind
   obtain ⟨y,c2,he,hst,hF⟩:=NR hq hN (fun y=>by
    simp only [f9]
    refine W3.2 fun A hA=>?_
    obtain ⟨f,hf2,rfl⟩:=W6.1 hA
    rw [ajC]
    grind) hpost
   rw [yQ] at hst
   refine ⟨y,c2,he,hst,?_⟩
   simp only [f9,afG] at hF ⊢
   intro A hA
   obtain ⟨f,hf2,rfl⟩:=W6.1 hA
   simp only [Function.comp_apply]
   rw [← afK]
   exact hF _ (W6.2 ⟨f,hf2,rfl⟩)
  ·cases hK
theorem jW (hC:C.ok P) (hm:P.follows .mixedOrders=true) {f:FuncId} (hf:P.funcs[f]? = some fn) (hname:(fn.name == "runtime.NumGoroutine")=false) (hbody:fn.body.isSome=true) (an:An):(qb C fn an).sound P f:=OY true hC hm hf hname hbody an
theorem eC (hC:C.ok P) (hm:P.follows .mixedOrders=true) {f:FuncId} (hf:P.funcs[f]? = some fn) (hname:(fn.name == "runtime.NumGoroutine")=false) (hbody:fn.body.isSome=true) (an:An):(kM C fn an).sound P f:=OY false hC hm hf hname hbody an
theorem lU (hC:C.ok P) (hm:P.follows .mixedOrders=true) {f:FuncId} (hf:P.funcs[f]? = some fn) (hname:(fn.name == "runtime.NumGoroutine")=false) (hbody:fn.body.isSome=true) (an:An) (ts:List TC):(rl C fn an ts).sound P f:=by
 obtain ⟨cd,hcd⟩:=aez.1 hbody
 refine ⟨⟨fn,cd,hf,hcd,hname⟩,fun {R} ex n N vs F k r hr=>?_⟩
 simp only [rl,hcd] at hr
 generalize hKa:pm (F.flatMap AF.uses)=Ka at hr
 cases hc:(Nat.ble 2 N&&Nat.ble vs.length fn.ntmps&&Nat.beq (jC ts) 0)
 ·grind
 rw [hc] at hr
 simp only [f9] at hr
 simp only [Wp] at hc
 obtain ⟨⟨hN,hlen⟩,hnh⟩:=hc
 have hN:=Wt hN
 have hnh:=Wo hnh
 have fin : ∀ x,k ⟨xT ts.length ts x n,[],[]⟩=some r→(gi ex→∃ S' : SS,(match tg C.Θ S'.E (S'.F++live S'.d (F.map (AF.recol (mu [] Ka)))) fn.results.toList with
   | some rs=>match sr (S'.F++live S'.d (F.map (AF.recol (mu [] Ka)))) ts rs with
    | some (x,[],_)=>some x
    | _=>none
   | none=>none)=some x∧∀ {rs:List AV},tg C.Θ S'.E (S'.F++live S'.d (F.map (AF.recol (mu [] Ka)))) fn.results.toList=some rs→∀ (η:Vn) (w:World) (c1:bD),am w c1 ((F.map (AF.recol (mu [] Ka))).map (AF.ha η)++ov) →
   Calls P f (AV.vals η vs).toArray w (fun e w' => ∃ (ηe:Vn) (c' : bD),e = .returned ((mZ rs).val ηe)∧(∀ m,m<n→ηe.b m=η.b m∧ηe.h m=η.h m)∧HA.holds w' c' (.old w c1)∧am w' c' ((S'.F++live S'.d (F.map (AF.recol (mu [] Ka)))).map (AF.ha ηe)))) →
   ∃ u,k u=some r∧(gi ex→acK P f vs F n u):=by
  intro x hk hx
  refine ⟨_,hk,fun he η w c hH=>?_⟩
  obtain ⟨S',hK,hcall⟩:=hx he
  split at hK
  ·rename_i rs hrs
   split at hK
   ·rename_i x' Kx hd
    simp only [Wn] at hK
    subst hK
    have hpre:am w (fun b=>mu [] Ka (c b)) ((F.map (AF.recol (mu [] Ka))).map (AF.ha η)++ov):=
     (am.recol (fun A hA=>hH A (XP _ hA))).append (LH rfl fun A hA=>hH A (X5 _ hA))
    refine (hcall hrs η w _ hpre).mono ?_
    rintro e w' ⟨ηe,c',rfl,hβ,⟨o1,o2,o3,o4⟩,hFe⟩
    have hval:(mZ rs).val ηe=(xT ts.length ts x' n).val η:=by
     obtain ⟨g1,g2⟩:=I1 (η:=ηe) hd
     have e1:=EU (η:=η) (nr:=ts.length) ts x' [] n (fun j h hj=>by simp at hj) (by grind)
     rw [e1]
     have hlen2:(li ts x' []).length=ts.length:=by
      have gen : ∀ (ts:List TC) (x:eL ts) (l:List Hd),(li ts x l).length=ts.length:=by
       intro ts
       induction ts with
       | nil=>intro x l; rfl
       | cons t r ih=>
        intro x l
        cases r with
        | nil=>rfl
        | cons t' r=>simp only [li,XM,ih]
      grind
     unfold BS
     rw [Yr (by omega)]
     have g1' : AV.vals ηe rs=li ts x' []:=g1
     rw [← g1']
     unfold mZ
     match rs with
     | []=>rfl
     | [v]=>rfl
     | v::v' :: us=>rfl
    have hpost:xJ w (fun b=>mu [] Ka (c b)) (fun y : { η' : Vn // η.agr n η' }=>(xT ts.length ts x' n).val y.1) (fun _=>[]) (.returned ((mZ rs).val ηe)) w' := by
     refine ⟨⟨η,Vn.agr_refl n η⟩,c',by rw [hval],o4,o1,fun b hb' h01=>o2 b hb' h01,o3,am.nil _ _⟩
    obtain ⟨y,c2,he,hst,hF⟩:=NR (μ:=[]) (N:=N) rfl hN (fun y=>rfl) hpost
    grind
   ·cases hK
  ·cases hK
 cases ex with
 | none=>
  simp only [gbind] at hr
  obtain ⟨x,hx,hk⟩:=bind_some hr
  obtain ⟨S',hK,hcall⟩:=Kf hC hm hf hcd hlen hx
  exact fin x hk fun _=>⟨S',hK,hcall⟩
 | some b=>
  simp only [gbind] at hr
  obtain ⟨x,hx,hk⟩:=bind_some hr
  cases b with
  | false=>exact fin x hk fun he=>by cases he
  | true=>
   simp only [f9] at hx
   obtain ⟨S',hK,hcall⟩:=Kf hC hm hf hcd hlen hx
   exact fin x hk fun _=>⟨S',hK,hcall⟩
def da (C:Cx) (f:FuncId) (J:Inl):Cx:=⟨C.Γ,C.Θ,C.G,C.D,C.W,fun g=>bif Nat.beq g f then some J else C.I g,C.B,C.K,C.O⟩
theorem bN (hC:C.ok P) {f:FuncId} {J:Inl} (h:J.sound P f):(da C f J).ok P:=by
 refine ⟨hC.Γ,hC.Θ,hC.G,hC.D,fun g j hg=>?_⟩
 simp only [da] at hg
 cases hb:Nat.beq g f
 ·rw [hb] at hg; exact hC.I g j hg
 simp_all
end
end
end Go.Sm
