/- Laws for the row. No condition. -/
import Derived.Test.YtfhhiajfciblbaaGreatDoorRfG
namespace Go.Sm
set_option linter.unusedSectionVars false
variable {t e:TypeId} {x y:Operand} {h N:Nat} {w:World} {i:Int}
section
variable [X:XTab] [G:GTab]
def EI.eqb:EI→EI→Bool
 | .leaf, .leaf=>true
 | .pair a b, .pair a' b' => a.eqb a' && b.eqb b'
 | .row e s, .row e' s' => Nat.beq e e' && s.eqb s'
 | _,_=>false
theorem EI.eqb_eq : ∀ {a b:EI},a.eqb b=true→a=b
 | .leaf, .leaf,_=>rfl
 | .pair a b, .pair a' b',h=>by
  simp only [EI.eqb,Wp] at h
  rw [EI.eqb_eq h.1,EI.eqb_eq h.2]
 | .row e s, .row e' s',h=>by
  simp only [EI.eqb,Wp] at h
  rw [Wo h.1,EI.eqb_eq h.2]
 | .leaf, .pair _ _,h=>by cases h
 | .leaf, .row _ _,h=>by cases h
 | .pair _ _, .leaf,h=>by cases h
 | .pair _ _, .row _ _,h=>by cases h
 | .row _ _, .leaf,h=>by cases h
 | .row _ _, .pair _ _,h=>by cases h
def Fl (t:TC) (e:TypeId) (ε:EI):Bool:=bif fG e then (gz e).eqb ε else Nat.blt e 1048576&&t.ty.pureB&&(match ε with | .row e' _=>Nat.beq e e' | _=>false)
theorem afI {t:TC} {ε:EI} (h:Fl t e ε=true)  {c:bD} {i:Nat} {K:List Nat} {xs:List t.den} {v:Hd} (hH:HA.holds w c (eh t.ty e i K xs v)):cM w (fun b=>c b=i) (.slice t.ty) ε xs v:=by
 unfold Fl at h
 cases htr:fG e
 ·rw [htr] at h
  rw [eD htr] at hH
  simp only [no,Wp] at h
  obtain ⟨⟨h1,h2⟩,h3⟩:=h
  cases ε with
  | row e' s=>
   obtain rfl:=Wo h3
   exact cM.of_plain h2 h1 hH
  | leaf=>cases h3
  | pair _ _=>cases h3
 ·rw [htr] at h
  rw [jE htr] at hH
  simp only [f9] at h
  rw [← EI.eqb_eq h]
  exact hH
def mW (F:List AF):(t:TC)→EI→List Lf→Option (t.den×List Lf×List Nat×List Lf)
 | .pair a b,ε,r=>match mW F a ε.fst r with
  | some (x,l1,K1,r1)=>match mW F b ε.snd r1 with
   | some (y,l2,K2,r2)=>bif K1.all (fun k=>!(cf k K2)) then some ((x,y),l1++l2,K1++K2,r2) else none
   | none=>none
  | none=>none
 | .slice t,ε, .sl h::r=>match mY t h F with
  | some ⟨some (e,i),_,xs⟩=>bif Fl t e ε then some (xs,[.sl h],[i],r) else none
  | _=>none
 | .slice _,_, .nl::r=>some ([],[.nl],[],r)
 | .st t,ε,r=>mW F t ε r
 | .sc s,_,r=>bZ F (.sc s) r
 | .arr n s,_,r=>bZ F (.arr n s) r
 | .unit,_,r=>bZ F .unit r
 | .ext n,_,r=>bZ F (.ext n) r
 | _,_,_=>none
theorem cM.mono {S S' : Nat→Prop} {t:Ty} {ε:EI} {x:t.den} {y:t.Refs} (hk : ∀ b,S b→S' b) (h:cM w S t ε x y):cM w S' t ε x y:=h.keep (jG.of hk)
theorem rK {F:List AF} {η:Vn} : ∀ (t:TC) {ε:EI} {ls:List Lf} {x:t.den} {l:List Lf} {K:List Nat} {r:List Lf},mW F t ε ls=some (x,l,K,r) →
  aw η ls=t.ty.fill x (aO t (aS η l))++aw η r∧l.length=t.nh∧∀ (w:World) (c:bD),am w c (F.map (AF.ha η))→cM w (fun b=>c b∈K) t.ty ε x (aO t (aS η l))
 | .sc s,ε,ls,x,l,K,r,h=>by
  simp only [mW] at h
  exact ⟨(dY (.sc s) h).1,eF (.sc s) h,fun _ _ _=>cM.of_pure rfl⟩
 | .arr n s,ε,ls,x,l,K,r,h=>by
  simp only [mW] at h
  exact ⟨(dY (.arr n s) h).1,eF (.arr n s) h,fun _ _ _=>cM.of_pure rfl⟩
 | .unit,ε,ls,x,l,K,r,h=>by
  simp only [mW] at h
  exact ⟨(dY .unit h).1,eF .unit h,fun _ _ _=>cM.of_pure rfl⟩
 | .ext n,ε,ls,x,l,K,r,h=>by
  simp only [mW] at h
  exact ⟨(dY (.ext n) h).1,eF (.ext n) h,fun _ _ _=>cM.of_pure rfl⟩
 | .st t,ε,ls,x,l,K,r,h=>rK t h
 | .node,ε,ls,x,l,K,r,h=>by simp [mW] at h
 | .mp _ _,ε,ls,x,l,K,r,h=>by simp [mW] at h
 | .pair a b,ε,ls,x,l,K,r,h=>by
  simp only [mW] at h
  split at h
  ·rename_i x1 l1 K1 r1 h1
   split at h
   ·rename_i x2 l2 K2 r2 h2
    cases hd:K1.all (fun k=>!(cf k K2))
    ·grind
    rw [hd] at h
    simp only [f9,Wn,W5] at h
    obtain ⟨rfl,rfl,rfl,rfl⟩:=h
    obtain ⟨c1,n1,f1⟩:=rK (η:=η) a h1
    obtain ⟨c2,n2,f2⟩:=rK (η:=η) b h2
    have hn:(aS η l1).length=a.nh:=by simp [aS,n1]
    have e1:aO a (aS η (l1++l2))=aO a (aS η l1):=by
     rw [show aS η (l1++l2)=aS η l1++aS η l2 by simp [aS],dW a _ _ hn]
    have e2:aO b ((aS η (l1++l2)).drop a.nh)=aO b (aS η l2):=by
     rw [show aS η (l1++l2)=aS η l1++aS η l2 by simp [aS],YB,X2 (by omega),show a.nh - (aS η l1).length=0 by omega]
     rfl
    refine ⟨?_,by simp [TC.nh,n1,n2],fun w c hF=>?_⟩
    ·simp only [aO,Ty.fill]
     grind
    ·refine cM.pair (Sa:=fun b=>c b∈K1) (Sb:=fun b=>c b∈K2) (fun g hg hg2=>?_) (fun g hg=>XP _ hg) (fun g hg=>X5 _ hg) ?_ ?_
     ·have:=W3.1 hd _ hg
      rw [mem_iff.2 hg2] at this
      cases this
     ·simp only [aO]
      grind
     ·simp only [aO]
      grind
   ·cases h
  ·cases h
 | .slice t,ε,ls,x,l,K,r,h=>by
  cases ls with
  | nil=>simp [mW] at h
  | cons a ls=>
   cases a with
   | sl hh=>
    simp only [mW] at h
    split at h
    ·rename_i e i K' xs hs
     cases hg:Fl t e ε
     ·grind
     rw [hg] at h
     simp only [f9,Wn,W5] at h
     obtain ⟨rfl,rfl,rfl,rfl⟩:=h
     refine ⟨rfl,rfl,fun w c hF=>?_⟩
     have hm:=hF _ (W6.2 ⟨_,gK hs,rfl⟩)
     exact (afI hg hm).mono fun b (hb:c b=i)=>by simp [hb]
    ·cases h
   | nl=>
    simp only [mW,Wn,W5] at h
    obtain ⟨rfl,rfl,rfl,rfl⟩:=h
    exact ⟨rfl,rfl,fun w c hF=>cM.nil⟩
   | _=>simp [mW] at h
def As (F:List AF) (t:TC) (ε:EI):Nat→List Lf→Option (List t.den×List (List Lf)×List Nat)
 | 0,[]=>some ([],[],[])
 | 0,_::_=>none
 | m+1,ls=>match mW F t ε ls with
  | some (x,l,K,r)=>match As F t ε m r with
   | some (xs,ll,K2)=>bif K.all (fun k=>!(cf k K2)) then some (x::xs,l::ll,K++K2) else none
   | none=>none
  | none=>none
theorem I5 {F:List AF} {t:TC} {ε:EI} {η:Vn} : ∀ {m:Nat} {ls:List Lf} {xs:List t.den} {ll:List (List Lf)} {K:List Nat},As F t ε m ls=some (xs,ll,K) →
  xs.length=m∧ll.length=m∧aw η ls=cellsOf t.ty xs (ll.map fun l=>aO t (aS η l)) ∧
  ∀ (w:World) (c:bD),am w c (F.map (AF.ha η))→jU w (fun b=>c b∈K) t.ty ε xs (ll.map fun l=>aO t (aS η l))
 | 0,[],xs,ll,K,h=>by
  simp only [As,Wn,W5] at h
  obtain ⟨rfl,rfl,rfl⟩:=h
  exact ⟨rfl,rfl,rfl,fun _ _ _=>jU.nil⟩
 | 0,_::_,xs,ll,K,h=>by simp [As] at h
 | m+1,ls,xs,ll,K,h=>by
  simp only [As] at h
  split at h
  ·rename_i x l K1 r h1
   split at h
   ·rename_i xs' ll' K2 h2
    cases hd:K1.all (fun k=>!(cf k K2))
    ·grind
    rw [hd] at h
    simp only [f9,Wn,W5] at h
    obtain ⟨rfl,rfl,rfl⟩:=h
    obtain ⟨c1,_,f1⟩:=rK (η:=η) t h1
    obtain ⟨e1,e2,c2,f2⟩:=I5 (η:=η) h2
    refine ⟨by simp [e1],by simp [e2],?_,fun w c hF=>?_⟩
    ·simp only [XH,cellsOf]
     rw [c1,c2]
    ·have:=jU.append (S:=fun b=>c b∈K1++K2) (S1:=fun b=>c b∈K1) (S2:=fun b=>c b∈K2) (xs:=[x]) (ys:=[aO t (aS η l)]) rfl (fun g hg hg2=>by
      have:=W3.1 hd _ hg
      rw [mem_iff.2 hg2] at this
      cases this) (fun g hg=>XP _ hg) (fun g hg=>X5 _ hg) (jU.one (f1 w c hF)) (f2 w c hF)
     exact this
   ·cases h
  ·cases h
structure HI (t:TC) where
 e:TypeId
 i:Nat
 xs:List t.den
 k:Int
 cs:List Lf
def oI (t:TC) (h:Nat):List AF→Option (HI t)
 | []=>none
 | .hol t' e i xs h' k cs::r=>bif Nat.beq h h' then (if he:t' = t then some ⟨e,i,Dk he xs,k,cs⟩ else none) else oI t h r
 | _::r=>oI t h r
theorem kW {t:TC} {h:Nat} : ∀ {F:List AF} {s:HI t},oI t h F=some s→.hol t s.e s.i s.xs h s.k s.cs∈F
 | [],s,hs=>by simp [oI] at hs
 | .hol t' e i xs h' k cs::r,s,hs=>by
  simp only [oI] at hs
  cases hb:Nat.beq h h'
  ·rw [hb] at hs; exact Wq _ (kW hs)
  ·rw [hb] at hs
   simp only [f9] at hs
   split at hs
   ·rename_i he
    subst he
    simp only [Wn] at hs
    subst hs
    rw [Wo hb]
    exact W7
   ·cases hs
 | .own _ _ _ _ _ _::r,s,hs=>Wq _ (kW (F:=r) hs)
 | .rep _ _ _ _::r,s,hs=>Wq _ (kW (F:=r) hs)
 | .box _ _ _::r,s,hs=>Wq _ (kW (F:=r) hs)
 | .isn _ _::r,s,hs=>Wq _ (kW (F:=r) hs)
 | .prt _ _ _ _ _::r,s,hs=>Wq _ (kW (F:=r) hs)
 | .mp _ _ _ _ _::r,s,hs=>Wq _ (kW (F:=r) hs)
 | .pt _ _ _ _ _ _ _::r,s,hs=>Wq _ (kW (F:=r) hs)
theorem xC {t:TC} {F:List AF} {s:HI t} (hs:oI t h F=some s) {η:Vn}  {c:bD} (hF:am w c (F.map (AF.ha η))):HA.holds w c (.hol t.ty s.e s.i s.xs (η.h h) s.k.toNat (aw η s.cs)):=
 hF _ (W6.2 ⟨_,kW hs,rfl⟩)
section
variable {R:Type} {P:Program} {o:Oper} {E:SE} {F:List AF} {n:Nat} {Θ:Tb} {ex:Option Bool}
def JK (Θ:Tb) (ex:Option Bool) (t:TypeId) (te:TC) (i:Int) (u:TC) (p:Pa te u) (s:HI te) (k:Out→Option R):Option R:=match Θ t,p.needs with
 | some inf,none=>match cut p.off inf.sz s.cs with
  | some (_,m,_)=>match ES inf.d.agg m with
   | some v=>gchk ex (i==s.k) (k (bC v))
   | none=>none
  | none=>none
 | _,_=>none
theorem VA (hΘ:Θ.ok P) {te:TC}  {u:TC} {p:Pa te u} {s:HI te} (hs:oI te h F=some s) (ho:o.op = .load t x) (h1:ev E x=some (.lf (.rp h te i u p))) (k:Out→Option R) :
  ao ex P o E F n (JK Θ ex t te i u p s k) k:=by
 unfold JK
 split
 ·rename_i inf hi _
  split
  ·rename_i a m r hc
   split
   ·rename_i v hv
    refine ao.gchk fun hik=>ao.of fun hx=>(dJ.pure fun η ρ hE=>?_)
    have hik:=eq_of_beq (hik hx)
    obtain ⟨g1,g2,_,_⟩:=hΘ t inf hi
    obtain ⟨td,ht,hd⟩:=nW g2
    obtain ⟨j,hj⟩:=m9 (kW hs) η
    obtain ⟨e,hl⟩:=wO hc
    obtain ⟨l1,l2⟩:=hl η
    have hp:aR ρ x = .pointer (some (eQ (η.h h) (s.k.toNat * te.ty.sz+p.off))):=by rw [← hik]; exact aN hE h1
    have hcell:((aw η s.cs).drop p.off).take inf.sz=aw η m:=by
     rw [e,bd,bd,Yi,YB,X2 (by omega),show p.off - (aw η a).length=0 by omega,Z3,Yv,Z9,Yr (by omega),
      show inf.sz - (aw η m).length=0 by omega,aeO,XE]
    cases hag:inf.d.agg
    ·rw [hag] at hv hd
     obtain ⟨l,rfl,rfl,hl1⟩:=zR hv η
     refine T4 j hj ho ht hd hp ?_
     have h5:aw η [l]=[(AV.lf l).val η]:=by simp [aw,hl1]
     rw [h5] at hcell l2
     have:=XZ (·[0]?) hcell
     grind
    ·rw [hag] at hv hd
     rw [Ao hv η]
     refine MX j hj ho ht hd g1 hp hcell (by simp [l2]) ?_
     rw [e,bd,bd]
     grind
   ·exact ao.none
  ·exact ao.none
 ·exact ao.none
def EF (Θ:Tb) (ex:Option Bool) (t:TypeId) (h:Nat) (te:TC) (i:Int) (u:TC) (p:Pa te u) (v:AV) (s:HI te) (k:Out→Option R):Option R:=match Θ t,p.needs,v.lvs with
 | some inf,none,some ls=>match cut p.off inf.sz s.cs,nq ls inf.sz with
  | some (a,_,r),some (_,[])=>gchk ex (i==s.k) (k ⟨.lf (.v undef),[.hol te s.e s.i s.xs h s.k (a++ls++r)],[s.i]⟩)
  | _,_=>none
 | _,_,_=>none
theorem Ry (hΘ:Θ.ok P) {te:TC}  {u:TC} {p:Pa te u} {v:AV} {s:HI te} (hs:oI te h F=some s) (ho:o.op = .store t x y) (h1:ev E x=some (.lf (.rp h te i u p))) (h2:ev E y=some v) (k:Out→Option R) :
  ao ex P o E F n (EF Θ ex t h te i u p v s k) k:=by
 unfold EF
 split
 ·rename_i inf ls hi _ hl
  split
  ·rename_i a m r q hc hs2
   refine ao.gchk fun hik=>ao.of fun hx η ρ hE=>?_
   have hik:=eq_of_beq (hik hx)
   obtain ⟨g1,g2,_,_⟩:=hΘ t inf hi
   obtain ⟨j,hj⟩:=m9 (kW hs) η
   obtain ⟨e,hll⟩:=wO hc
   obtain ⟨l1,l2⟩:=hll η
   obtain ⟨e2,l3⟩:=jY hs2
   rw [XE] at e2
   subst e2
   have l3:=l3 η
   have hp:aR ρ x = .pointer (some (eQ (η.h h) (s.k.toNat * te.ty.sz+p.off))):=by rw [← hik]; exact aN hE h1
   refine (J2 (cs' := aw η (a++ls++r)) j hj ho g1 hp (aN hE h2) (v.lvs_cells hl η) (by simp [l3]) (W3.2 (og (AV.lvs_one hl))) ?_ ?_).map (fun _=>⟨η,Vn.agr_refl n η⟩) (fun _=>rfl) (fun _=>rfl)
   ·rw [e,bd,bd]
    simp_all
   ·rw [e,bd,bd,bd,bd]
    congr 1
    ·grind
    ·rw [Yi,YB,X2 (by omega),Yv,YB,X2 (by omega),Yv,
      show p.off+(aw η ls).length - (aw η a).length - (aw η m).length=0 by omega,Z3]
  ·exact ao.none
 ·exact ao.none
def ww {te u:TC} (p:Pa te u) (ε:EI) (F:List AF) (ls:List Lf) (x:te.den):Option (te.den×List Nat):=match te,u,p,x with
 | te,_, .here,_=>match mW F te ε ls with
  | some (y,_,K,[])=>some (y,K)
  | _=>none
 | .pair a u,_, .snd q,x=>match u,q,x with
  | u, .here,x=>bif a.ty.pureB then (match mW F u ε.snd ls with
   | some (y,_,K,[])=>some ((x.1,y),K)
   | _=>none) else none
  | _,_,_=>none
 | _,_,_,_=>none
theorem T8 {F:List AF} {η:Vn} {te u:TC} {p:Pa te u} {ε:EI} {ls:List Lf} {x xn:te.den} {Kn:List Nat} (h:ww p ε F ls x=some (xn,Kn)):p.off+(aw η ls).length≤te.ty.sz ∧
  ∀ yo:te.ty.Refs,∃ yn:te.ty.Refs,te.ty.fill xn yn=(te.ty.fill x yo).take p.off++aw η ls++(te.ty.fill x yo).drop (p.off+(aw η ls).length)∧∀ w c,am w c (F.map (AF.ha η))→cM w (fun b=>c b∈Kn) te.ty ε xn yn:=by
 cases p with
 | here=>
  simp only [ww] at h
  split at h
  ·rename_i y l K hd
   simp only [Wn,W5] at h
   obtain ⟨rfl,rfl⟩:=h
   obtain ⟨d1,d2,d3⟩:=rK (η:=η) _ hd
   simp only [aw,XE] at d1
   have hl:(aw η ls).length=te.ty.sz:=by rw [d1]; exact Ty.fill_length _ _ _
   refine ⟨by simp only [Pa.off]; omega,fun yo=>⟨_,?_,d3⟩⟩
   rw [← d1]
   simp only [Pa.off,aeO,Yv,afu]
   rw [X2 (by rw [Ty.fill_length]; omega),XE]
  ·cases h
 | @snd a b u q=>
  cases q with
  | here=>
   simp only [ww] at h
   cases ha:a.ty.pureB
   ·grind
   rw [ha] at h
   simp only [f9] at h
   split at h
   ·rename_i y l K hd
    simp only [Wn,W5] at h
    obtain ⟨rfl,rfl⟩:=h
    obtain ⟨d1,d2,d3⟩:=rK (η:=η) _ hd
    simp only [aw,XE] at d1
    have hl:(aw η ls).length=u.ty.sz:=by rw [d1]; exact Ty.fill_length _ _ _
    refine ⟨by simp only [Pa.off,TC.ty,Ty.sz]; omega,fun yo=>⟨(yo.1,aO _ (aS η l)),?_,fun w c hH=>cM.pair (Sa:=fun _=>False) (Sb:=fun g=>c g∈K) (fun _ h=>h.elim) (fun _ h=>h.elim) (fun _ h=>h) (cM.of_pure ha) (d3 w c hH)⟩⟩
    have hfa:(a.ty.fill x.1 yo.1).length=a.ty.sz:=Ty.fill_length _ _ _
    have hfu:(u.ty.fill x.2 yo.2).length=u.ty.sz:=Ty.fill_length _ _ _
    show a.ty.fill x.1 yo.1++u.ty.fill y (aO u (aS η l))=(a.ty.fill x.1 yo.1++u.ty.fill x.2 yo.2).take (a.ty.sz+0)++aw η ls++(a.ty.fill x.1 yo.1++u.ty.fill x.2 yo.2).drop (a.ty.sz+0+(aw η ls).length)
    simp_all
   ·cases h
  | _=>simp [ww] at h
 | _=>simp [ww] at h
def D7 (Θ:Tb) (ex:Option Bool) (t:TypeId) (h:Nat) (te:TC) (i:Int) (u:TC) (p:Pa te u) (v:AV) (s:PI te) (F:List AF) (k:Out→Option R):Option R:=match Θ t,gz s.e,v.lvs with
 | some inf, .row _ ε,some ls=>match nq ls inf.sz with
  | some (_,[])=>gchk ex (i==s.m) (gbind ex te.dft (ac s.xs i) fun x=>match ww p ε F ls x with
   | some (xn,Kn)=>bif Nat.ble 2 s.i && !(cf s.i Kn)&&s.K.all (fun q=>!(cf q (s.i::Kn))) then
     k ⟨.lf (.v undef),[.pt te s.e s.i s.K (s.xs.set i.toNat xn) h (s.m+1), .rep te (s.i::s.K) (s.xs.set i.toNat xn) h],s.i::Kn⟩ else none
   | none=>none)
  | _=>none
 | _,_,_=>none
theorem Qi (hΘ:Θ.ok P) {te:TC}  {u:TC} {p:Pa te u} {v:AV} {s:PI te} (hs:zI te h F=some s) (ho:o.op = .store t x y) (h1:ev E x=some (.lf (.rp h te i u p))) (h2:ev E y=some v) (k:Out→Option R) :
  ao ex P o E F n (D7 Θ ex t h te i u p v s F k) k:=by
 unfold D7
 split
 ·rename_i inf e0 ε ls hi hei hl
  split
  ·rename_i q hc
   refine ao.gchk fun hik=>ao.gbind fun xo hxo=>?_
   split
   ·rename_i xn Kn hsp
    refine ao.bif fun hb=>ao.of fun hx η ρ hE=>?_
    simp only [Wp,YW] at hb
    obtain ⟨⟨b1,b2⟩,b3⟩:=hb
    have hik:=eq_of_beq (hik hx)
    obtain ⟨i1,i2,i3⟩:=nN (hxo hx)
    obtain ⟨g1,g2,_,_⟩:=hΘ t inf hi
    obtain ⟨e2,l3⟩:=jY hc
    rw [XE] at e2
    subst e2
    have l3:=l3 η
    have hm:s.m=(i.toNat:Int):=by grind
    have hmem:=oj hs
    rw [hm] at hmem
    obtain ⟨j,hj⟩:=m9 hmem η
    obtain ⟨s1,s2⟩:=T8 (η:=η) hsp
    have hp:aR ρ x = .pointer (some (eQ (η.h h) (i.toNat * te.ty.sz+p.off))):=aN hE h1
    have:=(MO (L:=F.map (AF.ha η)) j hj hei ho g1 hp (aN hE h2) (v.lvs_cells hl η) (by simp [l3]) (W3.2 (og (AV.lvs_one hl))) s1 i2 s2 b1 b2 b3).map (Y' := { η' : Vn // η.agr n η' }) (fun _=>⟨η,Vn.agr_refl n η⟩) (val' := fun y=>(AV.lf (.v undef)).val y.1) (fun _=>rfl) (Φ' := fun y=>[AF.pt te s.e s.i s.K (s.xs.set i.toNat xn) h (s.m+1), .rep te (s.i::s.K) (s.xs.set i.toNat xn) h].map (AF.ha y.1)) (fun _=>by
     simp only [XH,aaz,AF.ha,hm]
     rfl)
    exact this
   ·exact ao.none
  ·exact ao.none
 ·exact ao.none
theorem N5 {c:bD} {t:Ty}  {i:Nat} {xs:List t.den} {v:Hd} {k:Nat} {cs:List Value} (h:HA.holds w c (.hol t e i xs v k cs)):v.n=xs.length∧∃ g,v.a=some ⟨g,0,none⟩:=by
 obtain ⟨d,e0,s,ys,he,hl,hk,hcs,⟨g,cap,cur,rfl,_⟩,h3⟩:=(show kG w (fun b=>c b=i) t e xs v k cs from h)
 grind
theorem afl {c:bD} {t:Ty}  {i:Nat} {xs:List t.den} {v:Hd} {k:Nat} {cs:List Value} (h:HA.holds w c (.hol t e i xs v k cs)) (sz:Nat):pX v v sz 0 xs.length:=by
 obtain ⟨h1,g,h2⟩:=N5 h
 exact ⟨aeq _,by omega,fun _=>⟨g,0,h2,by simp [eQ,h2]⟩⟩
def Q4 (Θ:Tb) (ex:Option Bool) (t:TypeId) (h:Nat) (i:Int) (F:List AF) (k:Out→Option R) (alt:Option R):Option R:=match Θ t with
 | some ⟨.slice e,_,_,_,_⟩=>match Θ e with
  | some ie=>match oI ie.tc h F with
   | some s=>bif Nat.beq ie.sz ie.tc.ty.sz then gchk ex (decide (0≤i∧i<(s.xs.length:Int) - 0)) (k (bC (.lf (.rp h ie.tc (0+i) ie.tc .here)))) else none
   | none=>alt
  | none=>alt
 | _=>alt
theorem WO (hΘ:Θ.ok P) {ix:Operand}  {ki:IntKind}  (ho:o.op = .indexAddr t x ix) (h1:ev E x=some (.lf (.sl h))) (h2:ev E ix=some (gt ki i)) (k:Out→Option R) {alt:Option R} (halt:ao ex P o E F n alt k) :
  ao ex P o E F n (Q4 Θ ex t h i F k alt) k:=by
 unfold Q4
 split
 ·rename_i e _ _ _ _ ht
  split
  ·rename_i ie he
   split
   ·rename_i s hs
    refine ao.bif fun hsz=>ao.gchk fun hb=>ao.of fun hx=>(dJ.pure fun η ρ hE=>?_)
    have:=E7 (o:=o) (ρ:=ρ) (L:=F.map (AF.ha η)) (v:=η.h h) (u:=η.h h) (lo:=0) (hi:=s.xs.length) (fun w c hH=>afl (xC hs hH) _) ho (hΘ t _ ht).2.1 (hΘ e ie he).1 (aN hE h1) (aN hE h2) (hb hx)
    simp only [AV.val,Lf.val,Pa.off,Yk]
    simp_all
   ·exact halt
  ·exact halt
 ·exact halt
def P0 (Θ:Tb) (t:TypeId) (h:Nat) (F:List AF) (k:Out→Option R) (alt:Option R):Option R:=match Θ t with
 | some ⟨.slice e,_,_,_,_⟩=>match Θ e with
  | some ie=>match oI ie.tc h F with
   | some s=>k (bC (gt .i64 s.xs.length))
   | none=>alt
  | none=>alt
 | _=>alt
theorem Wx (hΘ:Θ.ok P) (ho:o.op = .call { callee:=.builtin .len,args:=#[x],argTypes:=#[t] }) (h1:ev E x=some (.lf (.sl h))) (k:Out→Option R) {alt:Option R} (halt:ao ex P o E F n alt k) :
  ao ex P o E F n (P0 Θ t h F k alt) k:=by
 unfold P0
 split
 ·rename_i e _ _ _ _ ht
  split
  ·rename_i ie he
   split
   ·rename_i s hs
    refine ao.of fun hx=>(dJ.pure fun η ρ hE=>?_)
    intro ev w c hev hH
    have:=Qu (P:=P) (ρ:=ρ) (L:=F.map (AF.ha η)) (h:=η.h h) ho (hΘ t _ ht).2.1 (aN hE h1) ev w c hev hH
    rw [(N5 (xC hs hH)).1] at this
    exact this
   ·exact halt
  ·exact halt
 ·exact halt
def Rz (Θ:Tb) (ex:Option Bool) (n N:Nat) (t:TypeId) (v1 v2:AV) (F:List AF) (k:Out→Option R) (alt:Option R):Option R:=match Θ t with
 | some ⟨.slice e,_,_,_,_⟩=>match fG (X.tr e),Θ e,v1,v2 with
  | true,some ie, .lf l1, .lf l2=>match gw ie.tc (X.tr e) N F l1,gw ie.tc (X.tr e) (N+1) F l2,gz (X.tr e) with
   | some (ci,_,xs),some (cj,_,ys), .row e' _=>bif Nat.beq e' e&&Nat.beq ie.sz ie.tc.ty.sz&&Nat.ble 1 ie.sz&&Nat.beq ie.zv.cells.size ie.sz&&Nat.ble 2 ci&&Nat.ble 2 N&&Nat.blt e 1048576 && !(Nat.beq ci cj) && !(Nat.beq ci (N+2)) && !(Nat.beq cj (N+2)) then
     gchk ex (aK xs.length ys.length ie.by_) (k ⟨.lf (.sl n),[.own ie.tc (X.tr e) ci [] (xs++ys) n],[ci,cj,N+2]⟩) else none
   | _,_,_=>alt
  | _,_,_,_=>alt
 | _=>alt
theorem Xl (hΘ:Θ.ok P) {v1 v2:AV} (ho:o.op = .call { callee:=.builtin .append,args:=#[x,y],argTypes:=#[t,t] }) (h1:ev E x=some v1) (h2:ev E y=some v2) (k:Out→Option R) {alt:Option R} (halt:ao ex P o E F n alt k) :
  ao ex P o E F n (Rz Θ ex n N t v1 v2 F k alt) k:=by
 unfold Rz
 split
 ·rename_i e _ _ _ _ ht
  split
  ·rename_i ie l1 l2 htr he
   split
   ·rename_i ci K1 xs cj K2 ys e' s' hs1 hs2 hei
    refine ao.bif fun hc=>ao.gchk fun hr=>ao.of fun hx η ρ hE=>?_
    simp only [Wp] at hc
    obtain ⟨⟨⟨⟨⟨⟨⟨⟨⟨hee,hsz⟩,h0⟩,hzs⟩,hci⟩,hN⟩,hel⟩,hd⟩,hd1⟩,hd2⟩:=hc
    obtain rfl:=Wo hee
    have e1:=aN hE h1
    have e2:=aN hE h2
    simp only [AV.val] at e1 e2
    rw [qo hs1 η] at e1
    rw [qo hs2 η] at e2
    have hH' : ∀ w c,am w c (F.map (AF.ha η))→am w c (.tr ie.tc.ty (X.tr e') ci K1 xs (l1.hd η) :: .tr ie.tc.ty (X.tr e') cj K2 ys (l2.hd η)::F.map (AF.ha η)):=fun w c hH=>by
     have q1:=gb hs1 hH
     have q2:=gb hs2 hH
     rw [jE htr] at q1 q2
     exact am.cons q1 (am.cons q2 hH)
    have:=(LD (o:=o) (ρ:=ρ) (L:=.tr ie.tc.ty (X.tr e') ci K1 xs (l1.hd η) :: .tr ie.tc.ty (X.tr e') cj K2 ys (l2.hd η)::F.map (AF.ha η)) (N:=N+2) 0 1 rfl rfl hei ho (hΘ t _ ht).2.1 (hΘ e' ie he).1 (Wo hsz) hzs h0 e1 e2 (hr hx) hci (Yb (by omega)) (sN hd) (sN hd1) (sN hd2) hel).from hH'
    refine this.map (fun hh=>⟨η.setH n hh,η.setH_agr n hh⟩) (fun hh=>?_) fun hh=>?_
    ·simp [AV.val,Lf.val,Vn.setH_at]
    ·simp [AF.ha,Vn.setH_at,jE htr]
   ·exact halt
  ·exact halt
 ·exact halt
def Ee (Θ:Tb) (E:SE) (ex:Option Bool) (n:Nat) (t:TypeId) (l:Lf) (lo hi:Option Operand) (F:List AF) (k:Out→Option R) (alt:Option R):Option R:=match Θ t,lo,hi with
 | some ⟨.slice e,_,_,_,_⟩,none,some h=>match fG (X.tr e),Θ e with
  | true,some ie=>match gw ie.tc (X.tr e) 0 F l,ev E h with
   | some (ci,K,xs),some (.lf (.c (.int _) j))=>bif Nat.beq ie.sz ie.tc.ty.sz&&Nat.ble 2 ci then gchk ex (decide (0≤j∧j≤xs.length)) (k ⟨.lf (.sl n),[.own ie.tc (X.tr e) ci K (xs.take j.toNat) n],[]⟩) else none
   | _,_=>alt
  | _,_=>alt
 | _,_,_=>alt
theorem Qj (hΘ:Θ.ok P) {l:Lf} {lo hi:Option Operand} (ho:o.op = .slice t x lo hi none) (h1:ev E x=some (.lf l)) (k:Out→Option R) {alt:Option R} (halt:ao ex P o E F n alt k):ao ex P o E F n (Ee Θ E ex n t l lo hi F k alt) k:=by
 unfold Ee
 split
 ·rename_i e _ _ _ _ h ht
  split
  ·rename_i ie htr he
   split
   ·rename_i ci K xs kk j hs hj
    refine ao.bif fun hce=>ao.gchk fun hb=>ao.of fun hx η ρ hE=>?_
    simp only [Wp] at hce
    have h2:=aN hE h1
    simp only [AV.val] at h2
    rw [qo hs η] at h2
    have:=(M1 (o:=o) (ρ:=ρ) (L:=.tr ie.tc.ty (X.tr e) ci K xs (l.hd η)::F.map (AF.ha η)) 0 rfl ho (hΘ t _ ht).2.1 (hΘ e ie he).1 (Wo hce.1) h2 (aN hE hj) (hb hx)).from (fun w c hH=>am.cons (by
     have:=gb hs hH
     rwa [jE htr] at this) hH)
    refine this.map (fun _=>⟨η.setH n ((l.hd η).cut 0 j.toNat ie.sz),η.setH_agr n _⟩) (fun _=>?_) fun _=>?_
    ·simp [AV.val,Lf.val,Vn.setH_at]
    ·simp [AF.ha,Vn.setH_at,jE htr]
   ·exact halt
  ·exact halt
 ·exact halt
def Ds (Θ:Tb) (E:SE) (n N:Nat) (t:TypeId) (m:Nat) (ps:Array (Nat×Operand)) (F:List AF) (k:Out→Option R) (alt:Option R):Option R:=match Θ t with
 | some ⟨.slice e,_,_,_,_⟩=>match fG (X.tr e)&&Nat.ble 1 m,Θ e,uo E ps.toList,gz (X.tr e) with
  | true,some ie,some vals, .row e' s=>match xm (fun i=>some (i * ie.sz,ie.sz)) (Ef ie.zl m) vals with
   | some ls=>match As F ie.tc s m ls,nq ie.zl ie.sz with
    | some (xs,_,K),some (_,[])=>bif Nat.beq e' e&&Nat.beq ie.sz ie.tc.ty.sz&&Nat.ble 2 N&&Nat.ble (m * ie.sz) 16777216&&Nat.ble 1 ie.sz&&Nat.ble 1 m&&Nat.blt e 1048576 && !(cf N K) then k ⟨.lf (.sl n),[.own ie.tc (X.tr e) N [] xs n],K⟩ else none
    | _,_=>alt
   | none=>alt
  | _,_,_,_=>alt
 | _=>alt
theorem RC {η:Vn} {ls:List Lf} {t:TC} {xs:List t.den} {ys:List t.ty.Refs} (h:aw η ls=cellsOf t.ty xs ys):qd (aw η ls):=by rw [h]; exact lj t.ty
theorem S7 (hΘ:Θ.ok P) {m:Nat} {ps:Array (Nat×Operand)} (ho:o.op = .buildSlice t m ps) (k:Out→Option R) {alt:Option R} (halt:ao ex P o E F n alt k):ao ex P o E F n (Ds Θ E n N t m ps F k alt) k:=by
 unfold Ds
 split
 ·rename_i e _ _ _ _ ht
  have ht' : P.underlying t=some (.slice e):=(hΘ t _ ht).2.1
  split
  ·rename_i ie vals e' s htr0 he hp hei
   have htr:=(Wp _ _ ▸ htr0:fG (X.tr e)=true∧Nat.ble 1 m=true).1
   split
   ·rename_i ls hls
    split
    ·rename_i xs ll K q hd hcut
     refine ao.bif fun hc=>ao.of fun hx η ρ hE=>?_
     simp only [Wp] at hc
     obtain ⟨⟨⟨⟨⟨⟨⟨hee,hsz⟩,hN⟩,hsm⟩,h1⟩,hm1⟩,hel⟩,hnk⟩:=hc
     obtain rfl:=Wo hee
     obtain ⟨g1,_,g3,g4⟩:=hΘ e' ie he
     obtain ⟨e2,l3⟩:=jY hcut
     rw [XE] at e2
     subst e2
     have l3:=l3 η
     obtain ⟨d1,d2,d3,d4⟩:=I5 (η:=η) hd
     have hpos:=Wt h1
     have hm:=Wt hm1
     have hszz:=Wo hsz
     have hfill:=xZ (η:=η) hls
     rw [xx,l3] at hfill
     have hzc:ie.zv.cells.toList=aw η ie.zl:=by grind
     have hlen:(aw η ls).length=m * ie.tc.ty.sz:=by
      rw [d3,cT _ (by simp [d1,d2]),d1]
     obtain ⟨rows,r1,r2⟩:=xy ie.tc.ty.sz m (aw η ls) (RC d3) hlen
     have hraw:c9 P ρ o (F.map (AF.ha η)) [] Hd.val (fun h=>[.own (iS ie.tc.ty.sz) e' N [] rows h]):=by
      refine ya (cells:=aw η ls) (ty:=iS ie.tc.ty.sz) (K:=[]) (xs:=rows) (ys:=List.replicate m ()) ho ht' g1 hszz hsm ?_ (qC hE hp) ?_ (by simp [r1]) (by simp) r2 ?_ hN
      ·refine Yb ?_
       have:1 * 1≤m * ie.sz:=Nat.mul_le_mul hm hpos
       omega
      ·grind
      ·have gen : ∀ (a:List (List V1)) (b:List Unit),pw (F.map (AF.ha η)) (uD (iS ie.tc.ty.sz) [] a b):=by
        intro a
        induction a with
        | nil=>intro b; cases b <;> trivial
        | cons x a ih=>
         intro b
         cases b with
         | nil=>trivial
         | cons y b=>exact ih b
       exact gen _ _
     have htree:=c9.tree (K:=[]) (e:=X.tr e') (xs:=xs) (ys:=ll.map fun l=>aO ie.tc (aS η l)) hraw hei hel hN (by simp [d1,d2]) (by rw [r1,d1]) (by grind) (fun w c hH=>d4 w c hH) (sN hnk)
     refine htree.map (fun hh=>⟨η.setH n hh,η.setH_agr n hh⟩) (fun hh=>?_) fun hh=>?_
     ·simp [AV.val,Lf.val,Vn.setH_at]
     ·simp [AF.ha,Vn.setH_at,jE htr]
    ·exact halt
   ·exact halt
  ·exact halt
 ·exact halt
def Mc (Θ:Tb) (ex:Option Bool) (n N:Nat) (t:TypeId) (x y:Operand) (v1 v2:AV) (k:Out→Option R) (alt:Option R):Option R:=match Θ t,v1,v2 with
 | some ⟨.slice e,_,_,_,_⟩, .lf (.c (.int _) a), .lf (.c (.int _) _)=>match fG (X.tr e),Θ e,gz (X.tr e) with
  | true,some ⟨_,sz,by_,[.nl], .slice tt⟩, .row e' _=>bif Nat.beq e' e&&Nat.beq sz 1&&Nat.ble 2 N&&C5 x y&&Nat.blt e 1048576 then
      gchk ex (decide (0≤a∧a * by_≤281474976710656∧a≤maxLen)) (k ⟨.lf (.sl n),[.own (.slice tt) (X.tr e) N [] (List.replicate a.toNat ([]:List tt.den)) n],[]⟩) else none
  | _,_,_=>alt
 | _,_,_=>alt
theorem Um (hΘ:Θ.ok P) {v1 v2:AV} (ho:o.op = .makeSlice t x y) (h1:ev E x=some v1) (h2:ev E y=some v2) (k:Out→Option R) {alt:Option R} (halt:ao ex P o E F n alt k):ao ex P o E F n (Mc Θ ex n N t x y v1 v2 k alt) k:=by
 unfold Mc
 split
 ·rename_i e _ _ _ _ k1 a k2 b ht
  split
  ·rename_i dd sz by_ tt e' s htr he hei
   refine ao.bif fun hc=>ao.gchk fun hb=>ao.of fun hx η ρ hE=>?_
   simp only [Wp] at hc
   obtain ⟨⟨⟨⟨hee,hsz⟩,hN⟩,hso⟩,hel⟩:=hc
   obtain rfl:=Wo hee
   obtain rfl:=Wo hsz
   have e1:=aN hE h1
   have e2:=aN hE h2
   simp only [AV.val,Lf.val] at e1 e2
   have hab:b=a:=by
    unfold C5 at hso
    split at hso
    ·simp_all
    ·simp only [aR,Value.int.injEq] at e1 e2
     grind
    ·cases hso
   subst hab
   obtain ⟨g1,_,g3,g4⟩:=hΘ e' _ he
   let v0:V1:=⟨eR.val,rfl⟩
   have hraw:c9 P ρ o (F.map (AF.ha η)) [] Hd.val (fun h=>[.own (iS 1) e' N [] (List.replicate b.toNat [v0]) h]):=by
    refine yR (ty:=iS 1) (K:=[]) (v:=[v0]) (r:=()) ho (hΘ t _ ht).2.1 g1 rfl ?_ trivial e1 e2 (hb hx) hN
    rw [g3,← g4 η]
    rfl
   have hcells : ∀ m:Nat,cellsOf (iS 1) (List.replicate m [v0]) (List.replicate m ())=cellsOf (Ty.slice tt.ty) (List.replicate m ([]:List tt.den)) (List.replicate m eR):=by
    intro m
    induction m with
    | zero=>rfl
    | succ m ih=>
     simp only [adE,cellsOf,ih]
     rfl
   have htree:=c9.tree (K:=[]) (Kn:=[]) (ty:=Ty.slice tt.ty) (e:=X.tr e') (xs:=List.replicate b.toNat ([]:List tt.den)) (ys:=List.replicate b.toNat eR) hraw hei hel hN (by simp) (by simp) (by grind) (fun w c hH=>⟨fun _=>[],fun j x y hx hy=>by
    rw [List.getElem?_replicate] at hx hy
    split at hx
    ·rename_i hlt
     rw [if_pos hlt] at hy
     cases hx; cases hy
     exact .inl ⟨rfl,rfl⟩
    ·cases hx⟩) rfl
   refine htree.map (fun hh=>⟨η.setH n hh,η.setH_agr n hh⟩) (fun hh=>?_) fun hh=>?_
   ·simp [AV.val,Lf.val,Vn.setH_at]
   ·simp [AF.ha,Vn.setH_at,jE htr]
  ·exact halt
 ·exact halt
end
end
end Go.Sm
