/- Laws for the row. No condition. -/
import Derived.Test.YtfhhiajfciblbaaGreatDoorRfG
namespace Go.Sm
set_option linter.unusedSectionVars false
variable {t e:TypeId} {x y:Operand} {h N:Nat} {w:World} {i:Int}
section
variable [X:XTab] [G:GTab]
def EI.eqb:EI→EI→Bool
 | .leaf, .leaf=>true
 | .pair a b, .pair a' b' => a.eqb a' && b.eqb b'
 | .row e s, .row e' s' => Nat.beq e e' && s.eqb s'
 | _,_=>false
theorem EI.eqb_eq : ∀ {a b:EI},a.eqb b=true→a=b
 | .leaf, .leaf,_=>rfl
 | .pair a b, .pair a' b',h=>by
  simp only [EI.eqb,Vf] at h
  rw [EI.eqb_eq h.1,EI.eqb_eq h.2]
 | .row e s, .row e' s',h=>by
  simp only [EI.eqb,Vf] at h
  rw [Vb h.1,EI.eqb_eq h.2]
 | .leaf, .pair _ _,h=>by cases h
 | .leaf, .row _ _,h=>by cases h
 | .pair _ _, .leaf,h=>by cases h
 | .pair _ _, .row _ _,h=>by cases h
 | .row _ _, .leaf,h=>by cases h
 | .row _ _, .pair _ _,h=>by cases h
def D0 (t:TC) (e:TypeId) (ε:EI):Bool:=bif eW e then (gd e).eqb ε else Nat.blt e 1048576&&t.ty.pureB&&(match ε with | .row e' _=>Nat.beq e e' | _=>false)
theorem adF {t:TC} {ε:EI} (h:D0 t e ε=true)  {c:bu} {i:Nat} {K:List Nat} {xs:List t.den} {v:Hd} (hH:HA.holds w c (dR t.ty e i K xs v)):cJ w (fun b=>c b=i) (.slice t.ty) ε xs v:=by
 unfold D0 at h
 cases htr:eW e
 ·rw [htr] at h
  rw [d7 htr] at hH
  simp only [no,Vf] at h
  obtain ⟨⟨h1,h2⟩,h3⟩:=h
  cases ε with
  | row e' s=>
   obtain rfl:=Vb h3
   exact cJ.of_plain h2 h1 hH
  | leaf=>cases h3
  | pair _ _=>cases h3
 ·rw [htr] at h
  rw [jb htr] at hH
  simp only [f9] at h
  rw [← EI.eqb_eq h]
  exact hH
def mn (F:List AF):(t:TC)→EI→List Lf→Option (t.den×List Lf×List Nat×List Lf)
 | .pair a b,ε,r=>match mn F a ε.fst r with
  | some (x,l1,K1,r1)=>match mn F b ε.snd r1 with
   | some (y,l2,K2,r2)=>bif K1.all (fun k=>!(bZ k K2)) then some ((x,y),l1++l2,K1++K2,r2) else none
   | none=>none
  | none=>none
 | .slice t,ε, .sl h::r=>match my t h F with
  | some ⟨some (e,i),_,xs⟩=>bif D0 t e ε then some (xs,[.sl h],[i],r) else none
  | _=>none
 | .slice _,_, .nl::r=>some ([],[.nl],[],r)
 | .st t,ε,r=>mn F t ε r
 | .sc s,_,r=>bW F (.sc s) r
 | .arr n s,_,r=>bW F (.arr n s) r
 | .unit,_,r=>bW F .unit r
 | .ext n,_,r=>bW F (.ext n) r
 | _,_,_=>none
theorem cJ.mono {S S' : Nat→Prop} {t:Ty} {ε:EI} {x:t.den} {y:t.Refs} (hk : ∀ b,S b→S' b) (h:cJ w S t ε x y):cJ w S' t ε x y:=h.keep (jj.of hk)
theorem ro {F:List AF} {η:Vn} : ∀ (t:TC) {ε:EI} {ls:List Lf} {x:t.den} {l:List Lf} {K:List Nat} {r:List Lf},mn F t ε ls=some (x,l,K,r) →
  au η ls=t.ty.fill x (aN t (aS η l))++au η r∧l.length=t.nh∧∀ (w:World) (c:bu),am w c (F.map (AF.ha η))→cJ w (fun b=>c b∈K) t.ty ε x (aN t (aS η l))
 | .sc s,ε,ls,x,l,K,r,h=>by
  simp only [mn] at h
  exact ⟨(dP (.sc s) h).1,d9 (.sc s) h,fun _ _ _=>cJ.of_pure rfl⟩
 | .arr n s,ε,ls,x,l,K,r,h=>by
  simp only [mn] at h
  exact ⟨(dP (.arr n s) h).1,d9 (.arr n s) h,fun _ _ _=>cJ.of_pure rfl⟩
 | .unit,ε,ls,x,l,K,r,h=>by
  simp only [mn] at h
  exact ⟨(dP .unit h).1,d9 .unit h,fun _ _ _=>cJ.of_pure rfl⟩
 | .ext n,ε,ls,x,l,K,r,h=>by
  simp only [mn] at h
  exact ⟨(dP (.ext n) h).1,d9 (.ext n) h,fun _ _ _=>cJ.of_pure rfl⟩
 | .st t,ε,ls,x,l,K,r,h=>ro t h
 | .node,ε,ls,x,l,K,r,h=>by simp [mn] at h
 | .mp _ _,ε,ls,x,l,K,r,h=>by simp [mn] at h
 | .pair a b,ε,ls,x,l,K,r,h=>by
  simp only [mn] at h
  split at h
  ·rename_i x1 l1 K1 r1 h1
   split at h
   ·rename_i x2 l2 K2 r2 h2
    cases hd:K1.all (fun k=>!(bZ k K2))
    ·rw [hd] at h; cases h
    rw [hd] at h
    simp only [f9,Va,VI] at h
    obtain ⟨rfl,rfl,rfl,rfl⟩:=h
    obtain ⟨c1,n1,f1⟩:=ro (η:=η) a h1
    obtain ⟨c2,n2,f2⟩:=ro (η:=η) b h2
    have hn:(aS η l1).length=a.nh:=by simp [aS,n1]
    have e1:aN a (aS η (l1++l2))=aN a (aS η l1):=by
     rw [show aS η (l1++l2)=aS η l1++aS η l2 by simp [aS],dK a _ _ hn]
    have e2:aN b ((aS η (l1++l2)).drop a.nh)=aN b (aS η l2):=by
     rw [show aS η (l1++l2)=aS η l1++aS η l2 by simp [aS],W6,Wq (by omega),show a.nh - (aS η l1).length=0 by omega]
     rfl
    refine ⟨?_,by simp [TC.nh,n1,n2],fun w c hF=>?_⟩
    ·simp only [aN,Ty.fill]
     rw [e1,e2,c1,c2,V8]
    ·refine cJ.pair (Sa:=fun b=>c b∈K1) (Sb:=fun b=>c b∈K2) (fun g hg hg2=>?_) (fun g hg=>Ww _ hg) (fun g hg=>WQ _ hg) ?_ ?_
     ·have:=Vx.1 hd _ hg
      rw [mem_iff.2 hg2] at this
      cases this
     ·simp only [aN]
      rw [e1]; exact f1 w c hF
     ·simp only [aN]
      rw [e2]; exact f2 w c hF
   ·cases h
  ·cases h
 | .slice t,ε,ls,x,l,K,r,h=>by
  cases ls with
  | nil=>simp [mn] at h
  | cons a ls=>
   cases a with
   | sl hh=>
    simp only [mn] at h
    split at h
    ·rename_i e i K' xs hs
     cases hg:D0 t e ε
     ·rw [hg] at h; cases h
     rw [hg] at h
     simp only [f9,Va,VI] at h
     obtain ⟨rfl,rfl,rfl,rfl⟩:=h
     refine ⟨rfl,rfl,fun w c hF=>?_⟩
     have hm:=hF _ (VO.2 ⟨_,gt hs,rfl⟩)
     exact (adF hg hm).mono fun b (hb:c b=i)=>by simp [hb]
    ·cases h
   | nl=>
    simp only [mn,Va,VI] at h
    obtain ⟨rfl,rfl,rfl,rfl⟩:=h
    exact ⟨rfl,rfl,fun w c hF=>cJ.nil⟩
   | _=>simp [mn] at h
def zs (F:List AF) (t:TC) (ε:EI):Nat→List Lf→Option (List t.den×List (List Lf)×List Nat)
 | 0,[]=>some ([],[],[])
 | 0,_::_=>none
 | m+1,ls=>match mn F t ε ls with
  | some (x,l,K,r)=>match zs F t ε m r with
   | some (xs,ll,K2)=>bif K.all (fun k=>!(bZ k K2)) then some (x::xs,l::ll,K++K2) else none
   | none=>none
  | none=>none
theorem IY {F:List AF} {t:TC} {ε:EI} {η:Vn} : ∀ {m:Nat} {ls:List Lf} {xs:List t.den} {ll:List (List Lf)} {K:List Nat},zs F t ε m ls=some (xs,ll,K) →
  xs.length=m∧ll.length=m∧au η ls=cellsOf t.ty xs (ll.map fun l=>aN t (aS η l)) ∧
  ∀ (w:World) (c:bu),am w c (F.map (AF.ha η))→jg w (fun b=>c b∈K) t.ty ε xs (ll.map fun l=>aN t (aS η l))
 | 0,[],xs,ll,K,h=>by
  simp only [zs,Va,VI] at h
  obtain ⟨rfl,rfl,rfl⟩:=h
  exact ⟨rfl,rfl,rfl,fun _ _ _=>jg.nil⟩
 | 0,_::_,xs,ll,K,h=>by simp [zs] at h
 | m+1,ls,xs,ll,K,h=>by
  simp only [zs] at h
  split at h
  ·rename_i x l K1 r h1
   split at h
   ·rename_i xs' ll' K2 h2
    cases hd:K1.all (fun k=>!(bZ k K2))
    ·rw [hd] at h; cases h
    rw [hd] at h
    simp only [f9,Va,VI] at h
    obtain ⟨rfl,rfl,rfl⟩:=h
    obtain ⟨c1,_,f1⟩:=ro (η:=η) t h1
    obtain ⟨e1,e2,c2,f2⟩:=IY (η:=η) h2
    refine ⟨by simp [e1],by simp [e2],?_,fun w c hF=>?_⟩
    ·simp only [WD,cellsOf]
     rw [c1,c2]
    ·have:=jg.append (S:=fun b=>c b∈K1++K2) (S1:=fun b=>c b∈K1) (S2:=fun b=>c b∈K2) (xs:=[x]) (ys:=[aN t (aS η l)]) rfl (fun g hg hg2=>by
      have:=Vx.1 hd _ hg
      rw [mem_iff.2 hg2] at this
      cases this) (fun g hg=>Ww _ hg) (fun g hg=>WQ _ hg) (jg.one (f1 w c hF)) (f2 w c hF)
     exact this
   ·cases h
  ·cases h
structure HI (t:TC) where
 e:TypeId
 i:Nat
 xs:List t.den
 k:Int
 cs:List Lf
def og (t:TC) (h:Nat):List AF→Option (HI t)
 | []=>none
 | .hol t' e i xs h' k cs::r=>bif Nat.beq h h' then (if he:t' = t then some ⟨e,i,BV he xs,k,cs⟩ else none) else og t h r
 | _::r=>og t h r
theorem kz {t:TC} {h:Nat} : ∀ {F:List AF} {s:HI t},og t h F=some s→.hol t s.e s.i s.xs h s.k s.cs∈F
 | [],s,hs=>by simp [og] at hs
 | .hol t' e i xs h' k cs::r,s,hs=>by
  simp only [og] at hs
  cases hb:Nat.beq h h'
  ·rw [hb] at hs; exact Vi _ (kz hs)
  ·rw [hb] at hs
   simp only [f9] at hs
   split at hs
   ·rename_i he
    subst he
    simp only [Va] at hs
    subst hs
    rw [Vb hb]
    exact VU
   ·cases hs
 | .own _ _ _ _ _ _::r,s,hs=>Vi _ (kz (F:=r) hs)
 | .rep _ _ _ _::r,s,hs=>Vi _ (kz (F:=r) hs)
 | .box _ _ _::r,s,hs=>Vi _ (kz (F:=r) hs)
 | .isn _ _::r,s,hs=>Vi _ (kz (F:=r) hs)
 | .prt _ _ _ _ _::r,s,hs=>Vi _ (kz (F:=r) hs)
 | .mp _ _ _ _ _::r,s,hs=>Vi _ (kz (F:=r) hs)
 | .pt _ _ _ _ _ _ _::r,s,hs=>Vi _ (kz (F:=r) hs)
theorem wy {t:TC} {F:List AF} {s:HI t} (hs:og t h F=some s) {η:Vn}  {c:bu} (hF:am w c (F.map (AF.ha η))):HA.holds w c (.hol t.ty s.e s.i s.xs (η.h h) s.k.toNat (au η s.cs)):=
 hF _ (VO.2 ⟨_,kz hs,rfl⟩)
section
variable {R:Type} {P:Program} {o:Oper} {E:SE} {F:List AF} {n:Nat} {Θ:Tb} {ex:Option Bool}
def Hx (Θ:Tb) (ex:Option Bool) (t:TypeId) (te:TC) (i:Int) (u:TC) (p:Pa te u) (s:HI te) (k:Out→Option R):Option R:=match Θ t,p.needs with
 | some inf,none=>match cut p.off inf.sz s.cs with
  | some (_,m,_)=>match EB inf.d.agg m with
   | some v=>gchk ex (i==s.k) (k (br v))
   | none=>none
  | none=>none
 | _,_=>none
theorem Tj (hΘ:Θ.ok P) {te:TC}  {u:TC} {p:Pa te u} {s:HI te} (hs:og te h F=some s) (ho:o.op = .load t x) (h1:ev E x=some (.lf (.rp h te i u p))) (k:Out→Option R) :
  ao ex P o E F n (Hx Θ ex t te i u p s k) k:=by
 unfold Hx
 split
 ·rename_i inf hi _
  split
  ·rename_i a m r hc
   split
   ·rename_i v hv
    refine ao.gchk fun hik=>ao.of fun hx=>(dw.pure fun η ρ hE=>?_)
    have hik:=eq_of_beq (hik hx)
    obtain ⟨g1,g2,_,_⟩:=hΘ t inf hi
    obtain ⟨td,ht,hd⟩:=mN g2
    obtain ⟨j,hj⟩:=mj (kz hs) η
    obtain ⟨e,hl⟩:=wb hc
    obtain ⟨l1,l2⟩:=hl η
    have hp:aQ ρ x = .pointer (some (eu (η.h h) (s.k.toNat * te.ty.sz+p.off))):=by rw [← hik]; exact aM hE h1
    have hcell:((au η s.cs).drop p.off).take inf.sz=au η m:=by
     rw [e,bc,bc,V8,W6,Wq (by omega),show p.off - (au η a).length=0 by omega,Yw,XI,X9,WF (by omega),
      show inf.sz - (au η m).length=0 by omega,ZS,Wm]
    cases hag:inf.d.agg
    ·rw [hag] at hv hd
     obtain ⟨l,rfl,rfl,hl1⟩:=y5 hv η
     refine QW j hj ho ht hd hp ?_
     have h5:au η [l]=[(AV.lf l).val η]:=by simp [au,hl1]
     rw [h5] at hcell l2
     have:=Xw (·[0]?) hcell
     simp only [Xc,Xl,W4,Vp] at this l2
     simpa [← l2] using this
    ·rw [hag] at hv hd
     rw [zp hv η]
     refine Ly j hj ho ht hd g1 hp hcell (by simp [l2]) ?_
     rw [e,bc,bc]
     simp only [Vs]; omega
   ·exact ao.none
  ·exact ao.none
 ·exact ao.none
def Dh (Θ:Tb) (ex:Option Bool) (t:TypeId) (h:Nat) (te:TC) (i:Int) (u:TC) (p:Pa te u) (v:AV) (s:HI te) (k:Out→Option R):Option R:=match Θ t,p.needs,v.lvs with
 | some inf,none,some ls=>match cut p.off inf.sz s.cs,mI ls inf.sz with
  | some (a,_,r),some (_,[])=>gchk ex (i==s.k) (k ⟨.lf (.v undef),[.hol te s.e s.i s.xs h s.k (a++ls++r)],[s.i]⟩)
  | _,_=>none
 | _,_,_=>none
theorem Pr (hΘ:Θ.ok P) {te:TC}  {u:TC} {p:Pa te u} {v:AV} {s:HI te} (hs:og te h F=some s) (ho:o.op = .store t x y) (h1:ev E x=some (.lf (.rp h te i u p))) (h2:ev E y=some v) (k:Out→Option R) :
  ao ex P o E F n (Dh Θ ex t h te i u p v s k) k:=by
 unfold Dh
 split
 ·rename_i inf ls hi _ hl
  split
  ·rename_i a m r q hc hs2
   refine ao.gchk fun hik=>ao.of fun hx η ρ hE=>?_
   have hik:=eq_of_beq (hik hx)
   obtain ⟨g1,g2,_,_⟩:=hΘ t inf hi
   obtain ⟨j,hj⟩:=mj (kz hs) η
   obtain ⟨e,hll⟩:=wb hc
   obtain ⟨l1,l2⟩:=hll η
   obtain ⟨e2,l3⟩:=jG hs2
   rw [Wm] at e2
   subst e2
   have l3:=l3 η
   have hp:aQ ρ x = .pointer (some (eu (η.h h) (s.k.toNat * te.ty.sz+p.off))):=by rw [← hik]; exact aM hE h1
   refine (Ky (cs' := au η (a++ls++r)) j hj ho g1 hp (aM hE h2) (v.lvs_cells hl η) (by simp [l3]) (Vx.2 (nF (AV.lvs_one hl))) ?_ ?_).map (fun _=>⟨η,Vn.agr_refl n η⟩) (fun _=>rfl) (fun _=>rfl)
   ·rw [e,bc,bc]
    refine Wo ?_
    simp only [Vs]
    omega
   ·rw [e,bc,bc,bc,bc]
    congr 1
    ·congr 1
     rw [V8,X9,WF (by omega),show p.off - (au η a).length=0 by omega]
     simp
    ·rw [V8,W6,Wq (by omega),XI,W6,Wq (by omega),XI,
      show p.off+(au η ls).length - (au η a).length - (au η m).length=0 by omega,Yw]
  ·exact ao.none
 ·exact ao.none
def vV {te u:TC} (p:Pa te u) (ε:EI) (F:List AF) (ls:List Lf) (x:te.den):Option (te.den×List Nat):=match te,u,p,x with
 | te,_, .here,_=>match mn F te ε ls with
  | some (y,_,K,[])=>some (y,K)
  | _=>none
 | .pair a u,_, .snd q,x=>match u,q,x with
  | u, .here,x=>bif a.ty.pureB then (match mn F u ε.snd ls with
   | some (y,_,K,[])=>some ((x.1,y),K)
   | _=>none) else none
  | _,_,_=>none
 | _,_,_,_=>none
theorem TG {F:List AF} {η:Vn} {te u:TC} {p:Pa te u} {ε:EI} {ls:List Lf} {x xn:te.den} {Kn:List Nat} (h:vV p ε F ls x=some (xn,Kn)):p.off+(au η ls).length≤te.ty.sz ∧
  ∀ yo:te.ty.Refs,∃ yn:te.ty.Refs,te.ty.fill xn yn=(te.ty.fill x yo).take p.off++au η ls++(te.ty.fill x yo).drop (p.off+(au η ls).length)∧∀ w c,am w c (F.map (AF.ha η))→cJ w (fun b=>c b∈Kn) te.ty ε xn yn:=by
 cases p with
 | here=>
  simp only [vV] at h
  split at h
  ·rename_i y l K hd
   simp only [Va,VI] at h
   obtain ⟨rfl,rfl⟩:=h
   obtain ⟨d1,d2,d3⟩:=ro (η:=η) _ hd
   simp only [au,Wm] at d1
   have hl:(au η ls).length=te.ty.sz:=by rw [d1]; exact Ty.fill_length _ _ _
   refine ⟨by simp only [Pa.off]; omega,fun yo=>⟨_,?_,d3⟩⟩
   rw [← d1]
   simp only [Pa.off,ZS,XI,YK]
   rw [Wq (by rw [Ty.fill_length]; omega),Wm]
  ·cases h
 | @snd a b u q=>
  cases q with
  | here=>
   simp only [vV] at h
   cases ha:a.ty.pureB
   ·rw [ha] at h; cases h
   rw [ha] at h
   simp only [f9] at h
   split at h
   ·rename_i y l K hd
    simp only [Va,VI] at h
    obtain ⟨rfl,rfl⟩:=h
    obtain ⟨d1,d2,d3⟩:=ro (η:=η) _ hd
    simp only [au,Wm] at d1
    have hl:(au η ls).length=u.ty.sz:=by rw [d1]; exact Ty.fill_length _ _ _
    refine ⟨by simp only [Pa.off,TC.ty,Ty.sz]; omega,fun yo=>⟨(yo.1,aN _ (aS η l)),?_,fun w c hH=>cJ.pair (Sa:=fun _=>False) (Sb:=fun g=>c g∈K) (fun _ h=>h.elim) (fun _ h=>h.elim) (fun _ h=>h) (cJ.of_pure ha) (d3 w c hH)⟩⟩
    have hfa:(a.ty.fill x.1 yo.1).length=a.ty.sz:=Ty.fill_length _ _ _
    have hfu:(u.ty.fill x.2 yo.2).length=u.ty.sz:=Ty.fill_length _ _ _
    show a.ty.fill x.1 yo.1++u.ty.fill y (aN u (aS η l))=(a.ty.fill x.1 yo.1++u.ty.fill x.2 yo.2).take (a.ty.sz+0)++au η ls++(a.ty.fill x.1 yo.1++u.ty.fill x.2 yo.2).drop (a.ty.sz+0+(au η ls).length)
    rw [← d1,W4,X9,WF (by omega),hfa,ad2,ZS,Wm,Wq (by rw [Vs]; omega),Wm]
   ·cases h
  | _=>simp [vV] at h
 | _=>simp [vV] at h
def DK (Θ:Tb) (ex:Option Bool) (t:TypeId) (h:Nat) (te:TC) (i:Int) (u:TC) (p:Pa te u) (v:AV) (s:PI te) (F:List AF) (k:Out→Option R):Option R:=match Θ t,gd s.e,v.lvs with
 | some inf, .row _ ε,some ls=>match mI ls inf.sz with
  | some (_,[])=>gchk ex (i==s.m) (gbind ex te.dft (ac s.xs i) fun x=>match vV p ε F ls x with
   | some (xn,Kn)=>bif Nat.ble 2 s.i && !(bZ s.i Kn)&&s.K.all (fun q=>!(bZ q (s.i::Kn))) then
     k ⟨.lf (.v undef),[.pt te s.e s.i s.K (s.xs.set i.toNat xn) h (s.m+1), .rep te (s.i::s.K) (s.xs.set i.toNat xn) h],s.i::Kn⟩ else none
   | none=>none)
  | _=>none
 | _,_,_=>none
theorem Pp (hΘ:Θ.ok P) {te:TC}  {u:TC} {p:Pa te u} {v:AV} {s:PI te} (hs:yU te h F=some s) (ho:o.op = .store t x y) (h1:ev E x=some (.lf (.rp h te i u p))) (h2:ev E y=some v) (k:Out→Option R) :
  ao ex P o E F n (DK Θ ex t h te i u p v s F k) k:=by
 unfold DK
 split
 ·rename_i inf e0 ε ls hi hei hl
  split
  ·rename_i q hc
   refine ao.gchk fun hik=>ao.gbind fun xo hxo=>?_
   split
   ·rename_i xn Kn hsp
    refine ao.bif fun hb=>ao.of fun hx η ρ hE=>?_
    simp only [Vf,X8] at hb
    obtain ⟨⟨b1,b2⟩,b3⟩:=hb
    have hik:=eq_of_beq (hik hx)
    obtain ⟨i1,i2,i3⟩:=nj (hxo hx)
    obtain ⟨g1,g2,_,_⟩:=hΘ t inf hi
    obtain ⟨e2,l3⟩:=jG hc
    rw [Wm] at e2
    subst e2
    have l3:=l3 η
    have hm:s.m=(i.toNat:Int):=by rw [← hik]; omega
    have hmem:=nD hs
    rw [hm] at hmem
    obtain ⟨j,hj⟩:=mj hmem η
    obtain ⟨s1,s2⟩:=TG (η:=η) hsp
    have hp:aQ ρ x = .pointer (some (eu (η.h h) (i.toNat * te.ty.sz+p.off))):=aM hE h1
    have:=(LE (L:=F.map (AF.ha η)) j hj hei ho g1 hp (aM hE h2) (v.lvs_cells hl η) (by simp [l3]) (Vx.2 (nF (AV.lvs_one hl))) s1 i2 s2 b1 b2 b3).map (Y' := { η' : Vn // η.agr n η' }) (fun _=>⟨η,Vn.agr_refl n η⟩) (val' := fun y=>(AV.lf (.v undef)).val y.1) (fun _=>rfl) (Φ' := fun y=>[AF.pt te s.e s.i s.K (s.xs.set i.toNat xn) h (s.m+1), .rep te (s.i::s.K) (s.xs.set i.toNat xn) h].map (AF.ha y.1)) (fun _=>by
     simp only [WD,Zy,AF.ha,hm]
     rfl)
    exact this
   ·exact ao.none
  ·exact ao.none
 ·exact ao.none
theorem Mn {c:bu} {t:Ty}  {i:Nat} {xs:List t.den} {v:Hd} {k:Nat} {cs:List Value} (h:HA.holds w c (.hol t e i xs v k cs)):v.n=xs.length∧∃ g,v.a=some ⟨g,0,none⟩:=by
 obtain ⟨d,e0,s,ys,he,hl,hk,hcs,⟨g,cap,cur,rfl,_⟩,h3⟩:=(show ke w (fun b=>c b=i) t e xs v k cs from h)
 exact ⟨rfl,g,rfl⟩
theorem adX {c:bu} {t:Ty}  {i:Nat} {xs:List t.den} {v:Hd} {k:Nat} {cs:List Value} (h:HA.holds w c (.hol t e i xs v k cs)) (sz:Nat):pz v v sz 0 xs.length:=by
 obtain ⟨h1,g,h2⟩:=Mn h
 exact ⟨ad0 _,by omega,fun _=>⟨g,0,h2,by simp [eu,h2]⟩⟩
def Sz (Θ:Tb) (ex:Option Bool) (t:TypeId) (h:Nat) (i:Int) (F:List AF) (k:Out→Option R) (alt:Option R):Option R:=match Θ t with
 | some ⟨.slice e,_,_,_,_⟩=>match Θ e with
  | some ie=>match og ie.tc h F with
   | some s=>bif Nat.beq ie.sz ie.tc.ty.sz then gchk ex (decide (0≤i∧i<(s.xs.length:Int) - 0)) (k (br (.lf (.rp h ie.tc (0+i) ie.tc .here)))) else none
   | none=>alt
  | none=>alt
 | _=>alt
theorem Xa (hΘ:Θ.ok P) {ix:Operand}  {ki:IntKind}  (ho:o.op = .indexAddr t x ix) (h1:ev E x=some (.lf (.sl h))) (h2:ev E ix=some (ge ki i)) (k:Out→Option R) {alt:Option R} (halt:ao ex P o E F n alt k) :
  ao ex P o E F n (Sz Θ ex t h i F k alt) k:=by
 unfold Sz
 split
 ·rename_i e _ _ _ _ ht
  split
  ·rename_i ie he
   split
   ·rename_i s hs
    refine ao.bif fun hsz=>ao.gchk fun hb=>ao.of fun hx=>(dw.pure fun η ρ hE=>?_)
    have:=Ed (o:=o) (ρ:=ρ) (L:=F.map (AF.ha η)) (v:=η.h h) (u:=η.h h) (lo:=0) (hi:=s.xs.length) (fun w c hH=>adX (wy hs hH) _) ho (hΘ t _ ht).2.1 (hΘ e ie he).1 (aM hE h1) (aM hE h2) (hb hx)
    simp only [AV.val,Lf.val,Pa.off,W4]
    rw [← Vb hsz]
    exact this
   ·exact halt
  ·exact halt
 ·exact halt
def PA (Θ:Tb) (t:TypeId) (h:Nat) (F:List AF) (k:Out→Option R) (alt:Option R):Option R:=match Θ t with
 | some ⟨.slice e,_,_,_,_⟩=>match Θ e with
  | some ie=>match og ie.tc h F with
   | some s=>k (br (ge .i64 s.xs.length))
   | none=>alt
  | none=>alt
 | _=>alt
theorem Vm (hΘ:Θ.ok P) (ho:o.op = .call { callee:=.builtin .len,args:=#[x],argTypes:=#[t] }) (h1:ev E x=some (.lf (.sl h))) (k:Out→Option R) {alt:Option R} (halt:ao ex P o E F n alt k) :
  ao ex P o E F n (PA Θ t h F k alt) k:=by
 unfold PA
 split
 ·rename_i e _ _ _ _ ht
  split
  ·rename_i ie he
   split
   ·rename_i s hs
    refine ao.of fun hx=>(dw.pure fun η ρ hE=>?_)
    intro ev w c hev hH
    have:=RF (P:=P) (ρ:=ρ) (L:=F.map (AF.ha η)) (h:=η.h h) ho (hΘ t _ ht).2.1 (aM hE h1) ev w c hev hH
    rw [(Mn (wy hs hH)).1] at this
    exact this
   ·exact halt
  ·exact halt
 ·exact halt
def QN (Θ:Tb) (ex:Option Bool) (n N:Nat) (t:TypeId) (v1 v2:AV) (F:List AF) (k:Out→Option R) (alt:Option R):Option R:=match Θ t with
 | some ⟨.slice e,_,_,_,_⟩=>match eW (X.tr e),Θ e,v1,v2 with
  | true,some ie, .lf l1, .lf l2=>match gf ie.tc (X.tr e) N F l1,gf ie.tc (X.tr e) (N+1) F l2,gd (X.tr e) with
   | some (ci,_,xs),some (cj,_,ys), .row e' _=>bif Nat.beq e' e&&Nat.beq ie.sz ie.tc.ty.sz&&Nat.ble 1 ie.sz&&Nat.beq ie.zv.cells.size ie.sz&&Nat.ble 2 ci&&Nat.ble 2 N&&Nat.blt e 1048576 && !(Nat.beq ci cj) && !(Nat.beq ci (N+2)) && !(Nat.beq cj (N+2)) then
     gchk ex (aJ xs.length ys.length ie.by_) (k ⟨.lf (.sl n),[.own ie.tc (X.tr e) ci [] (xs++ys) n],[ci,cj,N+2]⟩) else none
   | _,_,_=>alt
  | _,_,_,_=>alt
 | _=>alt
theorem Wg (hΘ:Θ.ok P) {v1 v2:AV} (ho:o.op = .call { callee:=.builtin .append,args:=#[x,y],argTypes:=#[t,t] }) (h1:ev E x=some v1) (h2:ev E y=some v2) (k:Out→Option R) {alt:Option R} (halt:ao ex P o E F n alt k) :
  ao ex P o E F n (QN Θ ex n N t v1 v2 F k alt) k:=by
 unfold QN
 split
 ·rename_i e _ _ _ _ ht
  split
  ·rename_i ie l1 l2 htr he
   split
   ·rename_i ci K1 xs cj K2 ys e' s' hs1 hs2 hei
    refine ao.bif fun hc=>ao.gchk fun hr=>ao.of fun hx η ρ hE=>?_
    simp only [Vf] at hc
    obtain ⟨⟨⟨⟨⟨⟨⟨⟨⟨hee,hsz⟩,h0⟩,hzs⟩,hci⟩,hN⟩,hel⟩,hd⟩,hd1⟩,hd2⟩:=hc
    obtain rfl:=Vb hee
    have e1:=aM hE h1
    have e2:=aM hE h2
    simp only [AV.val] at e1 e2
    rw [pK hs1 η] at e1
    rw [pK hs2 η] at e2
    have hH' : ∀ w c,am w c (F.map (AF.ha η))→am w c (.tr ie.tc.ty (X.tr e') ci K1 xs (l1.hd η) :: .tr ie.tc.ty (X.tr e') cj K2 ys (l2.hd η)::F.map (AF.ha η)):=fun w c hH=>by
     have q1:=fR hs1 hH
     have q2:=fR hs2 hH
     rw [jb htr] at q1 q2
     exact am.cons q1 (am.cons q2 hH)
    have:=(KZ (o:=o) (ρ:=ρ) (L:=.tr ie.tc.ty (X.tr e') ci K1 xs (l1.hd η) :: .tr ie.tc.ty (X.tr e') cj K2 ys (l2.hd η)::F.map (AF.ha η)) (N:=N+2) 0 1 rfl rfl hei ho (hΘ t _ ht).2.1 (hΘ e' ie he).1 (Vb hsz) hzs h0 e1 e2 (hr hx) hci (Wo (by omega)) (sf hd) (sf hd1) (sf hd2) hel).from hH'
    refine this.map (fun hh=>⟨η.setH n hh,η.setH_agr n hh⟩) (fun hh=>?_) fun hh=>?_
    ·simp [AV.val,Lf.val,Vn.setH_at]
    ·simp [AF.ha,Vn.setH_at,jb htr]
   ·exact halt
  ·exact halt
 ·exact halt
def CJ (Θ:Tb) (E:SE) (ex:Option Bool) (n:Nat) (t:TypeId) (l:Lf) (lo hi:Option Operand) (F:List AF) (k:Out→Option R) (alt:Option R):Option R:=match Θ t,lo,hi with
 | some ⟨.slice e,_,_,_,_⟩,none,some h=>match eW (X.tr e),Θ e with
  | true,some ie=>match gf ie.tc (X.tr e) 0 F l,ev E h with
   | some (ci,K,xs),some (.lf (.c (.int _) j))=>bif Nat.beq ie.sz ie.tc.ty.sz&&Nat.ble 2 ci then gchk ex (decide (0≤j∧j≤xs.length)) (k ⟨.lf (.sl n),[.own ie.tc (X.tr e) ci K (xs.take j.toNat) n],[]⟩) else none
   | _,_=>alt
  | _,_=>alt
 | _,_,_=>alt
theorem Q1 (hΘ:Θ.ok P) {l:Lf} {lo hi:Option Operand} (ho:o.op = .slice t x lo hi none) (h1:ev E x=some (.lf l)) (k:Out→Option R) {alt:Option R} (halt:ao ex P o E F n alt k):ao ex P o E F n (CJ Θ E ex n t l lo hi F k alt) k:=by
 unfold CJ
 split
 ·rename_i e _ _ _ _ h ht
  split
  ·rename_i ie htr he
   split
   ·rename_i ci K xs kk j hs hj
    refine ao.bif fun hce=>ao.gchk fun hb=>ao.of fun hx η ρ hE=>?_
    simp only [Vf] at hce
    have h2:=aM hE h1
    simp only [AV.val] at h2
    rw [pK hs η] at h2
    have:=(LF (o:=o) (ρ:=ρ) (L:=.tr ie.tc.ty (X.tr e) ci K xs (l.hd η)::F.map (AF.ha η)) 0 rfl ho (hΘ t _ ht).2.1 (hΘ e ie he).1 (Vb hce.1) h2 (aM hE hj) (hb hx)).from (fun w c hH=>am.cons (by
     have:=fR hs hH
     rwa [jb htr] at this) hH)
    refine this.map (fun _=>⟨η.setH n ((l.hd η).cut 0 j.toNat ie.sz),η.setH_agr n _⟩) (fun _=>?_) fun _=>?_
    ·simp [AV.val,Lf.val,Vn.setH_at]
    ·simp [AF.ha,Vn.setH_at,jb htr]
   ·exact halt
  ·exact halt
 ·exact halt
def CO (Θ:Tb) (E:SE) (n N:Nat) (t:TypeId) (m:Nat) (ps:Array (Nat×Operand)) (F:List AF) (k:Out→Option R) (alt:Option R):Option R:=match Θ t with
 | some ⟨.slice e,_,_,_,_⟩=>match eW (X.tr e)&&Nat.ble 1 m,Θ e,tW E ps.toList,gd (X.tr e) with
  | true,some ie,some vals, .row e' s=>match wK (fun i=>some (i * ie.sz,ie.sz)) (Dn ie.zl m) vals with
   | some ls=>match zs F ie.tc s m ls,mI ie.zl ie.sz with
    | some (xs,_,K),some (_,[])=>bif Nat.beq e' e&&Nat.beq ie.sz ie.tc.ty.sz&&Nat.ble 2 N&&Nat.ble (m * ie.sz) 16777216&&Nat.ble 1 ie.sz&&Nat.ble 1 m&&Nat.blt e 1048576 && !(bZ N K) then k ⟨.lf (.sl n),[.own ie.tc (X.tr e) N [] xs n],K⟩ else none
    | _,_=>alt
   | none=>alt
  | _,_,_,_=>alt
 | _=>alt
theorem Qy {η:Vn} {ls:List Lf} {t:TC} {xs:List t.den} {ys:List t.ty.Refs} (h:au η ls=cellsOf t.ty xs ys):pD (au η ls):=by rw [h]; exact kM t.ty
theorem R9 (hΘ:Θ.ok P) {m:Nat} {ps:Array (Nat×Operand)} (ho:o.op = .buildSlice t m ps) (k:Out→Option R) {alt:Option R} (halt:ao ex P o E F n alt k):ao ex P o E F n (CO Θ E n N t m ps F k alt) k:=by
 unfold CO
 split
 ·rename_i e _ _ _ _ ht
  have ht' : P.underlying t=some (.slice e):=(hΘ t _ ht).2.1
  split
  ·rename_i ie vals e' s htr0 he hp hei
   have htr:=(Vf _ _ ▸ htr0:eW (X.tr e)=true∧Nat.ble 1 m=true).1
   split
   ·rename_i ls hls
    split
    ·rename_i xs ll K q hd hcut
     refine ao.bif fun hc=>ao.of fun hx η ρ hE=>?_
     simp only [Vf] at hc
     obtain ⟨⟨⟨⟨⟨⟨⟨hee,hsz⟩,hN⟩,hsm⟩,h1⟩,hm1⟩,hel⟩,hnk⟩:=hc
     obtain rfl:=Vb hee
     obtain ⟨g1,_,g3,g4⟩:=hΘ e' ie he
     obtain ⟨e2,l3⟩:=jG hcut
     rw [Wm] at e2
     subst e2
     have l3:=l3 η
     obtain ⟨d1,d2,d3,d4⟩:=IY (η:=η) hd
     have hpos:=Vg h1
     have hm:=Vg hm1
     have hszz:=Vb hsz
     have hfill:=wS (η:=η) hls
     rw [wW,l3] at hfill
     have hzc:ie.zv.cells.toList=au η ie.zl:=by rw [g3,← g4 η]
     have hlen:(au η ls).length=m * ie.tc.ty.sz:=by
      rw [d3,cx _ (by simp [d1,d2]),d1]
     obtain ⟨rows,r1,r2⟩:=wn ie.tc.ty.sz m (au η ls) (Qy d3) hlen
     have hraw:cU P ρ o (F.map (AF.ha η)) [] Hd.val (fun h=>[.own (iq ie.tc.ty.sz) e' N [] rows h]):=by
      refine xi (cells:=au η ls) (ty:=iq ie.tc.ty.sz) (K:=[]) (xs:=rows) (ys:=List.replicate m ()) ho ht' g1 hszz hsm ?_ (pP hE hp) ?_ (by simp [r1]) (by simp) r2 ?_ hN
      ·refine Wo ?_
       have:1 * 1≤m * ie.sz:=Nat.mul_le_mul hm hpos
       omega
      ·rw [hzc,l3]; exact hfill
      ·have gen : ∀ (a:List (List V1)) (b:List Unit),oG (F.map (AF.ha η)) (ub (iq ie.tc.ty.sz) [] a b):=by
        intro a
        induction a with
        | nil=>intro b; cases b <;> trivial
        | cons x a ih=>
         intro b
         cases b with
         | nil=>trivial
         | cons y b=>exact ih b
       exact gen _ _
     have htree:=cU.tree (K:=[]) (e:=X.tr e') (xs:=xs) (ys:=ll.map fun l=>aN ie.tc (aS η l)) hraw hei hel hN (by simp [d1,d2]) (by rw [r1,d1]) (by rw [d1,r2,d3]) (fun w c hH=>d4 w c hH) (sf hnk)
     refine htree.map (fun hh=>⟨η.setH n hh,η.setH_agr n hh⟩) (fun hh=>?_) fun hh=>?_
     ·simp [AV.val,Lf.val,Vn.setH_at]
     ·simp [AF.ha,Vn.setH_at,jb htr]
    ·exact halt
   ·exact halt
  ·exact halt
 ·exact halt
def J8 (Θ:Tb) (ex:Option Bool) (n N:Nat) (t:TypeId) (x y:Operand) (v1 v2:AV) (k:Out→Option R) (alt:Option R):Option R:=match Θ t,v1,v2 with
 | some ⟨.slice e,_,_,_,_⟩, .lf (.c (.int _) a), .lf (.c (.int _) _)=>match eW (X.tr e),Θ e,gd (X.tr e) with
  | true,some ⟨_,sz,by_,[.nl], .slice tt⟩, .row e' _=>bif Nat.beq e' e&&Nat.beq sz 1&&Nat.ble 2 N&&Bi x y&&Nat.blt e 1048576 then
      gchk ex (decide (0≤a∧a * by_≤281474976710656∧a≤maxLen)) (k ⟨.lf (.sl n),[.own (.slice tt) (X.tr e) N [] (List.replicate a.toNat ([]:List tt.den)) n],[]⟩) else none
  | _,_,_=>alt
 | _,_,_=>alt
theorem SZ (hΘ:Θ.ok P) {v1 v2:AV} (ho:o.op = .makeSlice t x y) (h1:ev E x=some v1) (h2:ev E y=some v2) (k:Out→Option R) {alt:Option R} (halt:ao ex P o E F n alt k):ao ex P o E F n (J8 Θ ex n N t x y v1 v2 k alt) k:=by
 unfold J8
 split
 ·rename_i e _ _ _ _ k1 a k2 b ht
  split
  ·rename_i dd sz by_ tt e' s htr he hei
   refine ao.bif fun hc=>ao.gchk fun hb=>ao.of fun hx η ρ hE=>?_
   simp only [Vf] at hc
   obtain ⟨⟨⟨⟨hee,hsz⟩,hN⟩,hso⟩,hel⟩:=hc
   obtain rfl:=Vb hee
   obtain rfl:=Vb hsz
   have e1:=aM hE h1
   have e2:=aM hE h2
   simp only [AV.val,Lf.val] at e1 e2
   have hab:b=a:=by
    unfold Bi at hso
    split at hso
    ·obtain rfl:=Vb hso
     rw [e1] at e2
     simp only [Value.int.injEq] at e2
     exact e2.2.symm
    ·simp only [aQ,Value.int.injEq] at e1 e2
     exact e2.2.symm.trans ((eq_of_beq hso).symm.trans e1.2)
    ·cases hso
   subst hab
   obtain ⟨g1,_,g3,g4⟩:=hΘ e' _ he
   let v0:V1:=⟨eD.val,rfl⟩
   have hraw:cU P ρ o (F.map (AF.ha η)) [] Hd.val (fun h=>[.own (iq 1) e' N [] (List.replicate b.toNat [v0]) h]):=by
    refine xS (ty:=iq 1) (K:=[]) (v:=[v0]) (r:=()) ho (hΘ t _ ht).2.1 g1 rfl ?_ trivial e1 e2 (hb hx) hN
    rw [g3,← g4 η]
    rfl
   have hcells : ∀ m:Nat,cellsOf (iq 1) (List.replicate m [v0]) (List.replicate m ())=cellsOf (Ty.slice tt.ty) (List.replicate m ([]:List tt.den)) (List.replicate m eD):=by
    intro m
    induction m with
    | zero=>rfl
    | succ m ih=>
     simp only [adl,cellsOf,ih]
     rfl
   have htree:=cU.tree (K:=[]) (Kn:=[]) (ty:=Ty.slice tt.ty) (e:=X.tr e') (xs:=List.replicate b.toNat ([]:List tt.den)) (ys:=List.replicate b.toNat eD) hraw hei hel hN (by simp) (by simp) (by simpa using hcells b.toNat) (fun w c hH=>⟨fun _=>[],fun j x y hx hy=>by
    rw [aer] at hx hy
    split at hx
    ·rename_i hlt
     rw [if_pos hlt] at hy
     cases hx; cases hy
     exact .inl ⟨rfl,rfl⟩
    ·cases hx⟩) rfl
   refine htree.map (fun hh=>⟨η.setH n hh,η.setH_agr n hh⟩) (fun hh=>?_) fun hh=>?_
   ·simp [AV.val,Lf.val,Vn.setH_at]
   ·simp [AF.ha,Vn.setH_at,jb htr]
  ·exact halt
 ·exact halt
end
end
end Go.Sm
