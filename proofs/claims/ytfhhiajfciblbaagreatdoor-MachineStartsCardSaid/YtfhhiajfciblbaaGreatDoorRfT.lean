/-
  The symbolic evaluator: rows that own all that they lead to. Nothing of a program is named here; no condition.
-/
import Derived.Test.YtfhhiajfciblbaaGreatDoorRfG
namespace Go.Sm
set_option linter.unusedSectionVars false
section
variable [X:XTab] [G:GTab]
def EI.eqb:EI→EI→Bool
 | .leaf, .leaf=>true
 | .pair a b, .pair a' b' => a.eqb a' && b.eqb b'
 | .row e s, .row e' s' => Nat.beq e e' && s.eqb s'
 | _,_=>false
theorem EI.eqb_eq : ∀ {a b:EI},a.eqb b=true→a=b
 | .leaf, .leaf,_=>rfl
 | .pair a b, .pair a' b',h=>by
  simp only [EI.eqb,Bool.and_eq_true] at h
  rw [EI.eqb_eq h.1,EI.eqb_eq h.2]
 | .row e s, .row e' s',h=>by
  simp only [EI.eqb,Bool.and_eq_true] at h
  rw [Nat.eq_of_beq_eq_true h.1,EI.eqb_eq h.2]
 | .leaf, .pair _ _,h=>by cases h
 | .leaf, .row _ _,h=>by cases h
 | .pair _ _, .leaf,h=>by cases h
 | .pair _ _, .row _ _,h=>by cases h
 | .row _ _, .leaf,h=>by cases h
 | .row _ _, .pair _ _,h=>by cases h
def Ck (t:TC) (e:TypeId) (ε:EI):Bool:=bif ep e then (e6 e).eqb ε else Nat.blt e 1048576&&t.ty.pureB&&(match ε with | .row e' _=>Nat.beq e e' | _=>false)
theorem aaB {t:TC} {e:TypeId} {ε:EI} (h:Ck t e ε=true) {w:World} {c:bd} {i:Nat} {K:List Nat} {xs:List t.den} {v:Hd} (hH:HA.holds w c (dx t.ty e i K xs v)):cp w (fun b=>c b=i) (.slice t.ty) ε xs v:=by
 unfold Ck at h
 cases htr:ep e
 ·rw [htr] at h
  rw [dw htr] at hH
  simp only [cond_false,Bool.and_eq_true] at h
  obtain ⟨⟨h1,h2⟩,h3⟩:=h
  cases ε with
  | row e' s=>
   obtain rfl:=Nat.eq_of_beq_eq_true h3
   exact cp.of_plain h2 h1 hH
  | leaf=>cases h3
  | pair _ _=>cases h3
 ·rw [htr] at h
  rw [gN htr] at hH
  simp only [cond_true] at h
  rw [← EI.eqb_eq h]
  exact hH
def kB (F:List AF):(t:TC)→EI→List Lf→Option (t.den×List Lf×List Nat×List Lf)
 | .pair a b,ε,r=>match kB F a ε.fst r with
  | some (x,l1,K1,r1)=>match kB F b ε.snd r1 with
   | some (y,l2,K2,r2)=>bif K1.all (fun k=>!(bM k K2)) then some ((x,y),l1++l2,K1++K2,r2) else none
   | none=>none
  | none=>none
 | .slice t,ε, .sl h::r=>match kq t h F with
  | some ⟨some (e,i),_,xs⟩=>bif Ck t e ε then some (xs,[.sl h],[i],r) else none
  | _=>none
 | .slice _,_, .nl::r=>some ([],[.nl],[],r)
 | .st t,ε,r=>kB F t ε r
 | .sc s,_,r=>bH F (.sc s) r
 | .arr n s,_,r=>bH F (.arr n s) r
 | .unit,_,r=>bH F .unit r
 | .ext n,_,r=>bH F (.ext n) r
 | _,_,_=>none
theorem cp.mono {w:World} {S S' : Nat→Prop} {t:Ty} {ε:EI} {x:t.den} {y:t.Refs} (hk : ∀ b,S b→S' b) (h:cp w S t ε x y):cp w S' t ε x y:=h.keep (gU.of hk)
theorem oV {F:List AF} {η:Vn} : ∀ (t:TC) {ε:EI} {ls:List Lf} {x:t.den} {l:List Lf} {K:List Nat} {r:List Lf},kB F t ε ls=some (x,l,K,r) →
  aq η ls=t.ty.fill x (aI t (aL η l))++aq η r∧l.length=t.nh∧∀ (w:World) (c:bd),ai w c (F.map (AF.ha η))→cp w (fun b=>c b∈K) t.ty ε x (aI t (aL η l))
 | .sc s,ε,ls,x,l,K,r,h=>by
  simp only [kB] at h
  exact ⟨(cY (.sc s) h).1,dM (.sc s) h,fun _ _ _=>cp.of_pure rfl⟩
 | .arr n s,ε,ls,x,l,K,r,h=>by
  simp only [kB] at h
  exact ⟨(cY (.arr n s) h).1,dM (.arr n s) h,fun _ _ _=>cp.of_pure rfl⟩
 | .unit,ε,ls,x,l,K,r,h=>by
  simp only [kB] at h
  exact ⟨(cY .unit h).1,dM .unit h,fun _ _ _=>cp.of_pure rfl⟩
 | .ext n,ε,ls,x,l,K,r,h=>by
  simp only [kB] at h
  exact ⟨(cY (.ext n) h).1,dM (.ext n) h,fun _ _ _=>cp.of_pure rfl⟩
 | .st t,ε,ls,x,l,K,r,h=>oV t h
 | .node,ε,ls,x,l,K,r,h=>by simp [kB] at h
 | .mp _ _,ε,ls,x,l,K,r,h=>by simp [kB] at h
 | .pair a b,ε,ls,x,l,K,r,h=>by
  simp only [kB] at h
  split at h
  ·rename_i x1 l1 K1 r1 h1
   split at h
   ·rename_i x2 l2 K2 r2 h2
    cases hd:K1.all (fun k=>!(bM k K2))
    ·rw [hd] at h; cases h
    rw [hd] at h
    simp only [cond_true,Option.some.injEq,Prod.mk.injEq] at h
    obtain ⟨rfl,rfl,rfl,rfl⟩:=h
    obtain ⟨c1,n1,f1⟩:=oV (η:=η) a h1
    obtain ⟨c2,n2,f2⟩:=oV (η:=η) b h2
    have hn:(aL η l1).length=a.nh:=by simp [aL,n1]
    have e1:aI a (aL η (l1++l2))=aI a (aL η l1):=by
     rw [show aL η (l1++l2)=aL η l1++aL η l2 by simp [aL],dl a _ _ hn]
    have e2:aI b ((aL η (l1++l2)).drop a.nh)=aI b (aL η l2):=by
     rw [show aL η (l1++l2)=aL η l1++aL η l2 by simp [aL],List.drop_append,List.drop_eq_nil_of_le (by omega),show a.nh - (aL η l1).length=0 by omega]
     rfl
    refine ⟨?_,by simp [TC.nh,n1,n2],fun w c hF=>?_⟩
    ·simp only [aI,Ty.fill]
     rw [e1,e2,c1,c2,List.append_assoc]
    ·refine cp.pair (Sa:=fun b=>c b∈K1) (Sb:=fun b=>c b∈K2) (fun g hg hg2=>?_) (fun g hg=>List.mem_append_left _ hg) (fun g hg=>List.mem_append_right _ hg) ?_ ?_
     ·have:=List.all_eq_true.1 hd _ hg
      rw [mem_iff.2 hg2] at this
      cases this
     ·simp only [aI]
      rw [e1]; exact f1 w c hF
     ·simp only [aI]
      rw [e2]; exact f2 w c hF
   ·cases h
  ·cases h
 | .slice t,ε,ls,x,l,K,r,h=>by
  cases ls with
  | nil=>simp [kB] at h
  | cons a ls=>
   cases a with
   | sl hh=>
    simp only [kB] at h
    split at h
    ·rename_i e i K' xs hs
     cases hg:Ck t e ε
     ·rw [hg] at h; cases h
     rw [hg] at h
     simp only [cond_true,Option.some.injEq,Prod.mk.injEq] at h
     obtain ⟨rfl,rfl,rfl,rfl⟩:=h
     refine ⟨rfl,rfl,fun w c hF=>?_⟩
     have hm:=hF _ (List.mem_map.2 ⟨_,fm hs,rfl⟩)
     exact (aaB hg hm).mono fun b (hb:c b=i)=>by simp [hb]
    ·cases h
   | nl=>
    simp only [kB,Option.some.injEq,Prod.mk.injEq] at h
    obtain ⟨rfl,rfl,rfl,rfl⟩:=h
    exact ⟨rfl,rfl,fun w c hF=>cp.nil⟩
   | _=>simp [kB] at h
def xb (F:List AF) (t:TC) (ε:EI):Nat→List Lf→Option (List t.den×List (List Lf)×List Nat)
 | 0,[]=>some ([],[],[])
 | 0,_::_=>none
 | m+1,ls=>match kB F t ε ls with
  | some (x,l,K,r)=>match xb F t ε m r with
   | some (xs,ll,K2)=>bif K.all (fun k=>!(bM k K2)) then some (x::xs,l::ll,K++K2) else none
   | none=>none
  | none=>none
theorem H1 {F:List AF} {t:TC} {ε:EI} {η:Vn} : ∀ {m:Nat} {ls:List Lf} {xs:List t.den} {ll:List (List Lf)} {K:List Nat},xb F t ε m ls=some (xs,ll,K) →
  xs.length=m∧ll.length=m∧aq η ls=cellsOf t.ty xs (ll.map fun l=>aI t (aL η l)) ∧
  ∀ (w:World) (c:bd),ai w c (F.map (AF.ha η))→gZ w (fun b=>c b∈K) t.ty ε xs (ll.map fun l=>aI t (aL η l))
 | 0,[],xs,ll,K,h=>by
  simp only [xb,Option.some.injEq,Prod.mk.injEq] at h
  obtain ⟨rfl,rfl,rfl⟩:=h
  exact ⟨rfl,rfl,rfl,fun _ _ _=>gZ.nil⟩
 | 0,_::_,xs,ll,K,h=>by simp [xb] at h
 | m+1,ls,xs,ll,K,h=>by
  simp only [xb] at h
  split at h
  ·rename_i x l K1 r h1
   split at h
   ·rename_i xs' ll' K2 h2
    cases hd:K1.all (fun k=>!(bM k K2))
    ·rw [hd] at h; cases h
    rw [hd] at h
    simp only [cond_true,Option.some.injEq,Prod.mk.injEq] at h
    obtain ⟨rfl,rfl,rfl⟩:=h
    obtain ⟨c1,_,f1⟩:=oV (η:=η) t h1
    obtain ⟨e1,e2,c2,f2⟩:=H1 (η:=η) h2
    refine ⟨by simp [e1],by simp [e2],?_,fun w c hF=>?_⟩
    ·simp only [List.map_cons,cellsOf]
     rw [c1,c2]
    ·have:=gZ.append (S:=fun b=>c b∈K1++K2) (S1:=fun b=>c b∈K1) (S2:=fun b=>c b∈K2) (xs:=[x]) (ys:=[aI t (aL η l)]) rfl (fun g hg hg2=>by
      have:=List.all_eq_true.1 hd _ hg
      rw [mem_iff.2 hg2] at this
      cases this) (fun g hg=>List.mem_append_left _ hg) (fun g hg=>List.mem_append_right _ hg) (gZ.one (f1 w c hF)) (f2 w c hF)
     exact this
   ·cases h
  ·cases h
structure HI (t:TC) where
 e:TypeId
 i:Nat
 xs:List t.den
 k:Int
 cs:List Lf
def mc (t:TC) (h:Nat):List AF→Option (HI t)
 | []=>none
 | .hol t' e i xs h' k cs::r=>bif Nat.beq h h' then (if he:t' = t then some ⟨e,i,zf he xs,k,cs⟩ else none) else mc t h r
 | _::r=>mc t h r
theorem iU {t:TC} {h:Nat} : ∀ {F:List AF} {s:HI t},mc t h F=some s→.hol t s.e s.i s.xs h s.k s.cs∈F
 | [],s,hs=>by simp [mc] at hs
 | .hol t' e i xs h' k cs::r,s,hs=>by
  simp only [mc] at hs
  cases hb:Nat.beq h h'
  ·rw [hb] at hs; exact List.mem_cons_of_mem _ (iU hs)
  ·rw [hb] at hs
   simp only [cond_true] at hs
   split at hs
   ·rename_i he
    subst he
    simp only [Option.some.injEq] at hs
    subst hs
    rw [Nat.eq_of_beq_eq_true hb]
    exact List.mem_cons_self
   ·cases hs
 | .own _ _ _ _ _ _::r,s,hs=>List.mem_cons_of_mem _ (iU (F:=r) hs)
 | .rep _ _ _ _::r,s,hs=>List.mem_cons_of_mem _ (iU (F:=r) hs)
 | .box _ _ _::r,s,hs=>List.mem_cons_of_mem _ (iU (F:=r) hs)
 | .isn _ _::r,s,hs=>List.mem_cons_of_mem _ (iU (F:=r) hs)
 | .prt _ _ _ _ _::r,s,hs=>List.mem_cons_of_mem _ (iU (F:=r) hs)
 | .mp _ _ _ _ _::r,s,hs=>List.mem_cons_of_mem _ (iU (F:=r) hs)
 | .pt _ _ _ _ _ _ _::r,s,hs=>List.mem_cons_of_mem _ (iU (F:=r) hs)
theorem uf {t:TC} {h:Nat} {F:List AF} {s:HI t} (hs:mc t h F=some s) {η:Vn} {w:World} {c:bd} (hF:ai w c (F.map (AF.ha η))):HA.holds w c (.hol t.ty s.e s.i s.xs (η.h h) s.k.toNat (aq η s.cs)):=
 hF _ (List.mem_map.2 ⟨_,iU hs,rfl⟩)
section
variable {R:Type} {P:Program} {o:Oper} {E:SE} {F:List AF} {n:Nat} {Θ:Tb} {ex:Option Bool}
def Hy (Θ:Tb) (ex:Option Bool) (t:TypeId) (te:TC) (i:Int) (u:TC) (p:Pa te u) (s:HI te) (k:Out→Option R):Option R:=match Θ t,p.needs with
 | some inf,none=>match cut p.off inf.sz s.cs with
  | some (_,m,_)=>match Ca inf.d.agg m with
   | some v=>gchk ex (i==s.k) (k (bc v))
   | none=>none
  | none=>none
 | _,_=>none
theorem Qd (hΘ:Θ.ok P) {t:TypeId} {x:Operand} {h:Nat} {te:TC} {i:Int} {u:TC} {p:Pa te u} {s:HI te} (hs:mc te h F=some s) (ho:o.op = .load t x) (h1:ev E x=some (.lf (.rp h te i u p))) (k:Out→Option R) :
  aj ex P o E F n (Hy Θ ex t te i u p s k) k:=by
 unfold Hy
 split
 ·rename_i inf hi _
  split
  ·rename_i a m r hc
   split
   ·rename_i v hv
    refine aj.gchk fun hik=>aj.of fun hx=>(cS.pure fun η ρ hE=>?_)
    have hik:=eq_of_beq (hik hx)
    obtain ⟨g1,g2,_,_⟩:=hΘ t inf hi
    obtain ⟨td,ht,hd⟩:=kY g2
    obtain ⟨j,hj⟩:=kz (iU hs) η
    obtain ⟨e,hl⟩:=tY hc
    obtain ⟨l1,l2⟩:=hl η
    have hp:aK ρ x = .pointer (some (dP (η.h h) (s.k.toNat * te.ty.sz+p.off))):=by rw [← hik]; exact aF hE h1
    have hcell:((aq η s.cs).drop p.off).take inf.sz=aq η m:=by
     rw [e,aR,aR,List.append_assoc,List.drop_append,List.drop_eq_nil_of_le (by omega),show p.off - (aq η a).length=0 by omega,List.drop_zero,List.nil_append,List.take_append,List.take_of_length_le (by omega),
      show inf.sz - (aq η m).length=0 by omega,List.take_zero,List.append_nil]
    cases hag:inf.d.agg
    ·rw [hag] at hv hd
     obtain ⟨l,rfl,rfl,hl1⟩:=wN hv η
     refine MR j hj ho ht hd hp ?_
     have h5:aq η [l]=[(AV.lf l).val η]:=by simp [aq,hl1]
     rw [h5] at hcell l2
     have:=congrArg (·[0]?) hcell
     simp only [List.getElem?_take,List.getElem?_drop,Nat.add_zero,List.length_singleton] at this l2
     simpa [← l2] using this
    ·rw [hag] at hv hd
     rw [w8 hv η]
     refine IH j hj ho ht hd g1 hp hcell (by simp [l2]) ?_
     rw [e,aR,aR]
     simp only [List.length_append]; omega
   ·exact aj.none
  ·exact aj.none
 ·exact aj.none
def Bp (Θ:Tb) (ex:Option Bool) (t:TypeId) (h:Nat) (te:TC) (i:Int) (u:TC) (p:Pa te u) (v:AV) (s:HI te) (k:Out→Option R):Option R:=match Θ t,p.needs,v.lvs with
 | some inf,none,some ls=>match cut p.off inf.sz s.cs,kU ls inf.sz with
  | some (a,_,r),some (_,[])=>gchk ex (i==s.k) (k ⟨.lf (.v undef),[.hol te s.e s.i s.xs h s.k (a++ls++r)],[s.i]⟩)
  | _,_=>none
 | _,_,_=>none
theorem N7 (hΘ:Θ.ok P) {t:TypeId} {x y:Operand} {h:Nat} {te:TC} {i:Int} {u:TC} {p:Pa te u} {v:AV} {s:HI te} (hs:mc te h F=some s) (ho:o.op = .store t x y) (h1:ev E x=some (.lf (.rp h te i u p))) (h2:ev E y=some v) (k:Out→Option R) :
  aj ex P o E F n (Bp Θ ex t h te i u p v s k) k:=by
 unfold Bp
 split
 ·rename_i inf ls hi _ hl
  split
  ·rename_i a m r q hc hs2
   refine aj.gchk fun hik=>aj.of fun hx η ρ hE=>?_
   have hik:=eq_of_beq (hik hx)
   obtain ⟨g1,g2,_,_⟩:=hΘ t inf hi
   obtain ⟨j,hj⟩:=kz (iU hs) η
   obtain ⟨e,hll⟩:=tY hc
   obtain ⟨l1,l2⟩:=hll η
   obtain ⟨e2,l3⟩:=il hs2
   rw [List.append_nil] at e2
   subst e2
   have l3:=l3 η
   have hp:aK ρ x = .pointer (some (dP (η.h h) (s.k.toNat * te.ty.sz+p.off))):=by rw [← hik]; exact aF hE h1
   refine (FX (cs' := aq η (a++ls++r)) j hj ho g1 hp (aF hE h2) (v.lvs_cells hl η) (by simp [l3]) (List.all_eq_true.2 (lr (AV.lvs_one hl))) ?_ ?_).map (fun _=>⟨η,Vn.agr_refl n η⟩) (fun _=>rfl) (fun _=>rfl)
   ·rw [e,aR,aR]
    refine Nat.ble_eq_true_of_le ?_
    simp only [List.length_append]
    omega
   ·rw [e,aR,aR,aR,aR]
    congr 1
    ·congr 1
     rw [List.append_assoc,List.take_append,List.take_of_length_le (by omega),show p.off - (aq η a).length=0 by omega]
     simp
    ·rw [List.append_assoc,List.drop_append,List.drop_eq_nil_of_le (by omega),List.nil_append,List.drop_append,List.drop_eq_nil_of_le (by omega),List.nil_append,
      show p.off+(aq η ls).length - (aq η a).length - (aq η m).length=0 by omega,List.drop_zero]
  ·exact aj.none
 ·exact aj.none
def tz {te u:TC} (p:Pa te u) (ε:EI) (F:List AF) (ls:List Lf) (x:te.den):Option (te.den×List Nat):=match te,u,p,x with
 | te,_, .here,_=>match kB F te ε ls with
  | some (y,_,K,[])=>some (y,K)
  | _=>none
 | .pair a u,_, .snd q,x=>match u,q,x with
  | u, .here,x=>bif a.ty.pureB then (match kB F u ε.snd ls with
   | some (y,_,K,[])=>some ((x.1,y),K)
   | _=>none) else none
  | _,_,_=>none
 | _,_,_,_=>none
theorem Pe {F:List AF} {η:Vn} {te u:TC} {p:Pa te u} {ε:EI} {ls:List Lf} {x xn:te.den} {Kn:List Nat} (h:tz p ε F ls x=some (xn,Kn)):p.off+(aq η ls).length≤te.ty.sz ∧
  ∀ yo:te.ty.Refs,∃ yn:te.ty.Refs,te.ty.fill xn yn=(te.ty.fill x yo).take p.off++aq η ls++(te.ty.fill x yo).drop (p.off+(aq η ls).length)∧∀ w c,ai w c (F.map (AF.ha η))→cp w (fun b=>c b∈Kn) te.ty ε xn yn:=by
 cases p with
 | here=>
  simp only [tz] at h
  split at h
  ·rename_i y l K hd
   simp only [Option.some.injEq,Prod.mk.injEq] at h
   obtain ⟨rfl,rfl⟩:=h
   obtain ⟨d1,d2,d3⟩:=oV (η:=η) _ hd
   simp only [aq,List.append_nil] at d1
   have hl:(aq η ls).length=te.ty.sz:=by rw [d1]; exact Ty.fill_length _ _ _
   refine ⟨by simp only [Pa.off]; omega,fun yo=>⟨_,?_,d3⟩⟩
   rw [← d1]
   simp only [Pa.off,List.take_zero,List.nil_append,Nat.zero_add]
   rw [List.drop_eq_nil_of_le (by rw [Ty.fill_length]; omega),List.append_nil]
  ·cases h
 | @snd a b u q=>
  cases q with
  | here=>
   simp only [tz] at h
   cases ha:a.ty.pureB
   ·rw [ha] at h; cases h
   rw [ha] at h
   simp only [cond_true] at h
   split at h
   ·rename_i y l K hd
    simp only [Option.some.injEq,Prod.mk.injEq] at h
    obtain ⟨rfl,rfl⟩:=h
    obtain ⟨d1,d2,d3⟩:=oV (η:=η) _ hd
    simp only [aq,List.append_nil] at d1
    have hl:(aq η ls).length=u.ty.sz:=by rw [d1]; exact Ty.fill_length _ _ _
    refine ⟨by simp only [Pa.off,TC.ty,Ty.sz]; omega,fun yo=>⟨(yo.1,aI _ (aL η l)),?_,fun w c hH=>cp.pair (Sa:=fun _=>False) (Sb:=fun g=>c g∈K) (fun _ h=>h.elim) (fun _ h=>h.elim) (fun _ h=>h) (cp.of_pure ha) (d3 w c hH)⟩⟩
    have hfa:(a.ty.fill x.1 yo.1).length=a.ty.sz:=Ty.fill_length _ _ _
    have hfu:(u.ty.fill x.2 yo.2).length=u.ty.sz:=Ty.fill_length _ _ _
    show a.ty.fill x.1 yo.1++u.ty.fill y (aI u (aL η l))=(a.ty.fill x.1 yo.1++u.ty.fill x.2 yo.2).take (a.ty.sz+0)++aq η ls++(a.ty.fill x.1 yo.1++u.ty.fill x.2 yo.2).drop (a.ty.sz+0+(aq η ls).length)
    rw [← d1,Nat.add_zero,List.take_append,List.take_of_length_le (by omega),hfa,Nat.sub_self,List.take_zero,List.append_nil,List.drop_eq_nil_of_le (by rw [List.length_append]; omega),List.append_nil]
   ·cases h
  | _=>simp [tz] at h
 | _=>simp [tz] at h
def AM (Θ:Tb) (ex:Option Bool) (t:TypeId) (h:Nat) (te:TC) (i:Int) (u:TC) (p:Pa te u) (v:AV) (s:PI te) (F:List AF) (k:Out→Option R):Option R:=match Θ t,e6 s.e,v.lvs with
 | some inf, .row _ ε,some ls=>match kU ls inf.sz with
  | some (_,[])=>gchk ex (i==s.m) (gbind ex te.dft (ac s.xs i) fun x=>match tz p ε F ls x with
   | some (xn,Kn)=>bif Nat.ble 2 s.i && !(bM s.i Kn)&&s.K.all (fun q=>!(bM q (s.i::Kn))) then
     k ⟨.lf (.v undef),[.pt te s.e s.i s.K (s.xs.set i.toNat xn) h (s.m+1), .rep te (s.i::s.K) (s.xs.set i.toNat xn) h],s.i::Kn⟩ else none
   | none=>none)
  | _=>none
 | _,_,_=>none
theorem NR (hΘ:Θ.ok P) {t:TypeId} {x y:Operand} {h:Nat} {te:TC} {i:Int} {u:TC} {p:Pa te u} {v:AV} {s:PI te} (hs:vY te h F=some s) (ho:o.op = .store t x y) (h1:ev E x=some (.lf (.rp h te i u p))) (h2:ev E y=some v) (k:Out→Option R) :
  aj ex P o E F n (AM Θ ex t h te i u p v s F k) k:=by
 unfold AM
 split
 ·rename_i inf e0 ε ls hi hei hl
  split
  ·rename_i q hc
   refine aj.gchk fun hik=>aj.gbind fun xo hxo=>?_
   split
   ·rename_i xn Kn hsp
    refine aj.bif fun hb=>aj.of fun hx η ρ hE=>?_
    simp only [Bool.and_eq_true,Bool.not_eq_true'] at hb
    obtain ⟨⟨b1,b2⟩,b3⟩:=hb
    have hik:=eq_of_beq (hik hx)
    obtain ⟨i1,i2,i3⟩:=lg (hxo hx)
    obtain ⟨g1,g2,_,_⟩:=hΘ t inf hi
    obtain ⟨e2,l3⟩:=il hc
    rw [List.append_nil] at e2
    subst e2
    have l3:=l3 η
    have hm:s.m=(i.toNat:Int):=by rw [← hik]; omega
    have hmem:=lq hs
    rw [hm] at hmem
    obtain ⟨j,hj⟩:=kz hmem η
    obtain ⟨s1,s2⟩:=Pe (η:=η) hsp
    have hp:aK ρ x = .pointer (some (dP (η.h h) (i.toNat * te.ty.sz+p.off))):=aF hE h1
    have:=(IN (L:=F.map (AF.ha η)) j hj hei ho g1 hp (aF hE h2) (v.lvs_cells hl η) (by simp [l3]) (List.all_eq_true.2 (lr (AV.lvs_one hl))) s1 i2 s2 b1 b2 b3).map (Y' := { η' : Vn // η.agr n η' }) (fun _=>⟨η,Vn.agr_refl n η⟩) (val' := fun y=>(AV.lf (.v undef)).val y.1) (fun _=>rfl) (Φ' := fun y=>[AF.pt te s.e s.i s.K (s.xs.set i.toNat xn) h (s.m+1), .rep te (s.i::s.K) (s.xs.set i.toNat xn) h].map (AF.ha y.1)) (fun _=>by
     simp only [List.map_cons,List.map_nil,AF.ha,hm]
     rfl)
    exact this
   ·exact aj.none
  ·exact aj.none
 ·exact aj.none
theorem Jr {w:World} {c:bd} {t:Ty} {e:TypeId} {i:Nat} {xs:List t.den} {v:Hd} {k:Nat} {cs:List Value} (h:HA.holds w c (.hol t e i xs v k cs)):v.n=xs.length∧∃ g,v.a=some ⟨g,0,none⟩:=by
 obtain ⟨d,e0,s,ys,he,hl,hk,hcs,⟨g,cap,cur,rfl,_⟩,h3⟩:=(show iD w (fun b=>c b=i) t e xs v k cs from h)
 exact ⟨rfl,g,rfl⟩
theorem Z9 {w:World} {c:bd} {t:Ty} {e:TypeId} {i:Nat} {xs:List t.den} {v:Hd} {k:Nat} {cs:List Value} (h:HA.holds w c (.hol t e i xs v k cs)) (sz:Nat):mV v v sz 0 xs.length:=by
 obtain ⟨h1,g,h2⟩:=Jr h
 exact ⟨Int.le_refl _,by omega,fun _=>⟨g,0,h2,by simp [dP,h2]⟩⟩
def Ln (Θ:Tb) (ex:Option Bool) (t:TypeId) (h:Nat) (i:Int) (F:List AF) (k:Out→Option R) (alt:Option R):Option R:=match Θ t with
 | some ⟨.slice e,_,_,_,_⟩=>match Θ e with
  | some ie=>match mc ie.tc h F with
   | some s=>bif Nat.beq ie.sz ie.tc.ty.sz then gchk ex (decide (0≤i∧i<(s.xs.length:Int) - 0)) (k (bc (.lf (.rp h ie.tc (0+i) ie.tc .here)))) else none
   | none=>alt
  | none=>alt
 | _=>alt
theorem Se (hΘ:Θ.ok P) {t:TypeId} {x ix:Operand} {h:Nat} {ki:IntKind} {i:Int} (ho:o.op = .indexAddr t x ix) (h1:ev E x=some (.lf (.sl h))) (h2:ev E ix=some (eZ ki i)) (k:Out→Option R) {alt:Option R} (halt:aj ex P o E F n alt k) :
  aj ex P o E F n (Ln Θ ex t h i F k alt) k:=by
 unfold Ln
 split
 ·rename_i e _ _ _ _ ht
  split
  ·rename_i ie he
   split
   ·rename_i s hs
    refine aj.bif fun hsz=>aj.gchk fun hb=>aj.of fun hx=>(cS.pure fun η ρ hE=>?_)
    have:=BF (o:=o) (ρ:=ρ) (L:=F.map (AF.ha η)) (v:=η.h h) (u:=η.h h) (lo:=0) (hi:=s.xs.length) (fun w c hH=>Z9 (uf hs hH) _) ho (hΘ t _ ht).2.1 (hΘ e ie he).1 (aF hE h1) (aF hE h2) (hb hx)
    simp only [AV.val,Lf.val,Pa.off,Nat.add_zero]
    rw [← Nat.eq_of_beq_eq_true hsz]
    exact this
   ·exact halt
  ·exact halt
 ·exact halt
def NX (Θ:Tb) (t:TypeId) (h:Nat) (F:List AF) (k:Out→Option R) (alt:Option R):Option R:=match Θ t with
 | some ⟨.slice e,_,_,_,_⟩=>match Θ e with
  | some ie=>match mc ie.tc h F with
   | some s=>k (bc (eZ .i64 s.xs.length))
   | none=>alt
  | none=>alt
 | _=>alt
theorem TV (hΘ:Θ.ok P) {t:TypeId} {x:Operand} {h:Nat} (ho:o.op = .call { callee:=.builtin .len,args:=#[x],argTypes:=#[t] }) (h1:ev E x=some (.lf (.sl h))) (k:Out→Option R) {alt:Option R} (halt:aj ex P o E F n alt k) :
  aj ex P o E F n (NX Θ t h F k alt) k:=by
 unfold NX
 split
 ·rename_i e _ _ _ _ ht
  split
  ·rename_i ie he
   split
   ·rename_i s hs
    refine aj.of fun hx=>(cS.pure fun η ρ hE=>?_)
    intro ev w c hev hH
    have:=NB (P:=P) (ρ:=ρ) (L:=F.map (AF.ha η)) (h:=η.h h) ho (hΘ t _ ht).2.1 (aF hE h1) ev w c hev hH
    rw [(Jr (uf hs hH)).1] at this
    exact this
   ·exact halt
  ·exact halt
 ·exact halt
def LM (Θ:Tb) (ex:Option Bool) (n N:Nat) (t:TypeId) (v1 v2:AV) (F:List AF) (k:Out→Option R) (alt:Option R):Option R:=match Θ t with
 | some ⟨.slice e,_,_,_,_⟩=>match ep (X.tr e),Θ e,v1,v2 with
  | true,some ie, .lf l1, .lf l2=>match eN ie.tc (X.tr e) N F l1,eN ie.tc (X.tr e) (N+1) F l2,e6 (X.tr e) with
   | some (ci,_,xs),some (cj,_,ys), .row e' _=>bif Nat.beq e' e&&Nat.beq ie.sz ie.tc.ty.sz&&Nat.ble 1 ie.sz&&Nat.beq ie.zv.cells.size ie.sz&&Nat.ble 2 ci&&Nat.ble 2 N&&Nat.blt e 1048576 && !(Nat.beq ci cj) && !(Nat.beq ci (N+2)) && !(Nat.beq cj (N+2)) then
     gchk ex (aH xs.length ys.length ie.by_) (k ⟨.lf (.sl n),[.own ie.tc (X.tr e) ci [] (xs++ys) n],[ci,cj,N+2]⟩) else none
   | _,_,_=>alt
  | _,_,_,_=>alt
 | _=>alt
theorem Uv (hΘ:Θ.ok P) {N:Nat} {t:TypeId} {x y:Operand} {v1 v2:AV} (ho:o.op = .call { callee:=.builtin .append,args:=#[x,y],argTypes:=#[t,t] }) (h1:ev E x=some v1) (h2:ev E y=some v2) (k:Out→Option R) {alt:Option R} (halt:aj ex P o E F n alt k) :
  aj ex P o E F n (LM Θ ex n N t v1 v2 F k alt) k:=by
 unfold LM
 split
 ·rename_i e _ _ _ _ ht
  split
  ·rename_i ie l1 l2 htr he
   split
   ·rename_i ci K1 xs cj K2 ys e' s' hs1 hs2 hei
    refine aj.bif fun hc=>aj.gchk fun hr=>aj.of fun hx η ρ hE=>?_
    simp only [Bool.and_eq_true] at hc
    obtain ⟨⟨⟨⟨⟨⟨⟨⟨⟨hee,hsz⟩,h0⟩,hzs⟩,hci⟩,hN⟩,hel⟩,hd⟩,hd1⟩,hd2⟩:=hc
    obtain rfl:=Nat.eq_of_beq_eq_true hee
    have e1:=aF hE h1
    have e2:=aF hE h2
    simp only [AV.val] at e1 e2
    rw [lS hs1 η] at e1
    rw [lS hs2 η] at e2
    have hH' : ∀ w c,ai w c (F.map (AF.ha η))→ai w c (.tr ie.tc.ty (X.tr e') ci K1 xs (l1.hd η) :: .tr ie.tc.ty (X.tr e') cj K2 ys (l2.hd η)::F.map (AF.ha η)):=fun w c hH=>by
     have q1:=eC hs1 hH
     have q2:=eC hs2 hH
     rw [gN htr] at q1 q2
     exact ai.cons q1 (ai.cons q2 hH)
    have:=(Gk (o:=o) (ρ:=ρ) (L:=.tr ie.tc.ty (X.tr e') ci K1 xs (l1.hd η) :: .tr ie.tc.ty (X.tr e') cj K2 ys (l2.hd η)::F.map (AF.ha η)) (N:=N+2) 0 1 rfl rfl hei ho (hΘ t _ ht).2.1 (hΘ e' ie he).1 (Nat.eq_of_beq_eq_true hsz) hzs h0 e1 e2 (hr hx) hci (Nat.ble_eq_true_of_le (by omega)) (pH hd) (pH hd1) (pH hd2) hel).from hH'
    refine this.map (fun hh=>⟨η.setH n hh,η.setH_agr n hh⟩) (fun hh=>?_) fun hh=>?_
    ·simp [AV.val,Lf.val,Vn.setH_at]
    ·simp [AF.ha,Vn.setH_at,gN htr]
   ·exact halt
  ·exact halt
 ·exact halt
def A6 (Θ:Tb) (E:SE) (ex:Option Bool) (n:Nat) (t:TypeId) (l:Lf) (lo hi:Option Operand) (F:List AF) (k:Out→Option R) (alt:Option R):Option R:=match Θ t,lo,hi with
 | some ⟨.slice e,_,_,_,_⟩,none,some h=>match ep (X.tr e),Θ e with
  | true,some ie=>match eN ie.tc (X.tr e) 0 F l,ev E h with
   | some (ci,K,xs),some (.lf (.c (.int _) j))=>bif Nat.beq ie.sz ie.tc.ty.sz&&Nat.ble 2 ci then gchk ex (decide (0≤j∧j≤xs.length)) (k ⟨.lf (.sl n),[.own ie.tc (X.tr e) ci K (xs.take j.toNat) n],[]⟩) else none
   | _,_=>alt
  | _,_=>alt
 | _,_,_=>alt
theorem Nj (hΘ:Θ.ok P) {t:TypeId} {x:Operand} {l:Lf} {lo hi:Option Operand} (ho:o.op = .slice t x lo hi none) (h1:ev E x=some (.lf l)) (k:Out→Option R) {alt:Option R} (halt:aj ex P o E F n alt k):aj ex P o E F n (A6 Θ E ex n t l lo hi F k alt) k:=by
 unfold A6
 split
 ·rename_i e _ _ _ _ h ht
  split
  ·rename_i ie htr he
   split
   ·rename_i ci K xs kk j hs hj
    refine aj.bif fun hce=>aj.gchk fun hb=>aj.of fun hx η ρ hE=>?_
    simp only [Bool.and_eq_true] at hce
    have h2:=aF hE h1
    simp only [AV.val] at h2
    rw [lS hs η] at h2
    have:=(IJ (o:=o) (ρ:=ρ) (L:=.tr ie.tc.ty (X.tr e) ci K xs (l.hd η)::F.map (AF.ha η)) 0 rfl ho (hΘ t _ ht).2.1 (hΘ e ie he).1 (Nat.eq_of_beq_eq_true hce.1) h2 (aF hE hj) (hb hx)).from (fun w c hH=>ai.cons (by
     have:=eC hs hH
     rwa [gN htr] at this) hH)
    refine this.map (fun _=>⟨η.setH n ((l.hd η).cut 0 j.toNat ie.sz),η.setH_agr n _⟩) (fun _=>?_) fun _=>?_
    ·simp [AV.val,Lf.val,Vn.setH_at]
    ·simp [AF.ha,Vn.setH_at,gN htr]
   ·exact halt
  ·exact halt
 ·exact halt
def AL (Θ:Tb) (E:SE) (n N:Nat) (t:TypeId) (m:Nat) (ps:Array (Nat×Operand)) (F:List AF) (k:Out→Option R) (alt:Option R):Option R:=match Θ t with
 | some ⟨.slice e,_,_,_,_⟩=>match ep (X.tr e)&&Nat.ble 1 m,Θ e,qP E ps.toList,e6 (X.tr e) with
  | true,some ie,some vals, .row e' s=>match uZ (fun i=>some (i * ie.sz,ie.sz)) (AH ie.zl m) vals with
   | some ls=>match xb F ie.tc s m ls,kU ie.zl ie.sz with
    | some (xs,_,K),some (_,[])=>bif Nat.beq e' e&&Nat.beq ie.sz ie.tc.ty.sz&&Nat.ble 2 N&&Nat.ble (m * ie.sz) 16777216&&Nat.ble 1 ie.sz&&Nat.ble 1 m&&Nat.blt e 1048576 && !(bM N K) then k ⟨.lf (.sl n),[.own ie.tc (X.tr e) N [] xs n],K⟩ else none
    | _,_=>alt
   | none=>alt
  | _,_,_,_=>alt
 | _=>alt
theorem N9 {η:Vn} {ls:List Lf} {t:TC} {xs:List t.den} {ys:List t.ty.Refs} (h:aq η ls=cellsOf t.ty xs ys):nv (aq η ls):=by rw [h]; exact gK t.ty
theorem K7 (hΘ:Θ.ok P) {N:Nat} {t:TypeId} {m:Nat} {ps:Array (Nat×Operand)} (ho:o.op = .buildSlice t m ps) (k:Out→Option R) {alt:Option R} (halt:aj ex P o E F n alt k):aj ex P o E F n (AL Θ E n N t m ps F k alt) k:=by
 unfold AL
 split
 ·rename_i e _ _ _ _ ht
  have ht' : P.underlying t=some (.slice e):=(hΘ t _ ht).2.1
  split
  ·rename_i ie vals e' s htr0 he hp hei
   have htr:=(Bool.and_eq_true _ _ ▸ htr0:ep (X.tr e)=true∧Nat.ble 1 m=true).1
   split
   ·rename_i ls hls
    split
    ·rename_i xs ll K q hd hcut
     refine aj.bif fun hc=>aj.of fun hx η ρ hE=>?_
     simp only [Bool.and_eq_true] at hc
     obtain ⟨⟨⟨⟨⟨⟨⟨hee,hsz⟩,hN⟩,hsm⟩,h1⟩,hm1⟩,hel⟩,hnk⟩:=hc
     obtain rfl:=Nat.eq_of_beq_eq_true hee
     obtain ⟨g1,_,g3,g4⟩:=hΘ e' ie he
     obtain ⟨e2,l3⟩:=il hcut
     rw [List.append_nil] at e2
     subst e2
     have l3:=l3 η
     obtain ⟨d1,d2,d3,d4⟩:=H1 (η:=η) hd
     have hpos:=Nat.le_of_ble_eq_true h1
     have hm:=Nat.le_of_ble_eq_true hm1
     have hszz:=Nat.eq_of_beq_eq_true hsz
     have hfill:=u3 (η:=η) hls
     rw [uH,l3] at hfill
     have hzc:ie.zv.cells.toList=aq η ie.zl:=by rw [g3,← g4 η]
     have hlen:(aq η ls).length=m * ie.tc.ty.sz:=by
      rw [d3,bU _ (by simp [d1,d2]),d1]
     obtain ⟨rows,r1,r2⟩:=uN ie.tc.ty.sz m (aq η ls) (N9 d3) hlen
     have hraw:cz P ρ o (F.map (AF.ha η)) [] Hd.val (fun h=>[.own (ge ie.tc.ty.sz) e' N [] rows h]):=by
      refine ve (cells:=aq η ls) (ty:=ge ie.tc.ty.sz) (K:=[]) (xs:=rows) (ys:=List.replicate m ()) ho ht' g1 hszz hsm ?_ (nF hE hp) ?_ (by simp [r1]) (by simp) r2 ?_ hN
      ·refine Nat.ble_eq_true_of_le ?_
       have:1 * 1≤m * ie.sz:=Nat.mul_le_mul hm hpos
       omega
      ·rw [hzc,l3]; exact hfill
      ·have gen : ∀ (a:List (List V1)) (b:List Unit),mr (F.map (AF.ha η)) (rH (ge ie.tc.ty.sz) [] a b):=by
        intro a
        induction a with
        | nil=>intro b; cases b <;> trivial
        | cons x a ih=>
         intro b
         cases b with
         | nil=>trivial
         | cons y b=>exact ih b
       exact gen _ _
     have htree:=cz.tree (K:=[]) (e:=X.tr e') (xs:=xs) (ys:=ll.map fun l=>aI ie.tc (aL η l)) hraw hei hel hN (by simp [d1,d2]) (by rw [r1,d1]) (by rw [d1,r2,d3]) (fun w c hH=>d4 w c hH) (pH hnk)
     refine htree.map (fun hh=>⟨η.setH n hh,η.setH_agr n hh⟩) (fun hh=>?_) fun hh=>?_
     ·simp [AV.val,Lf.val,Vn.setH_at]
     ·simp [AF.ha,Vn.setH_at,gN htr]
    ·exact halt
   ·exact halt
  ·exact halt
 ·exact halt
def FW (Θ:Tb) (ex:Option Bool) (n N:Nat) (t:TypeId) (x y:Operand) (v1 v2:AV) (k:Out→Option R) (alt:Option R):Option R:=match Θ t,v1,v2 with
 | some ⟨.slice e,_,_,_,_⟩, .lf (.c (.int _) a), .lf (.c (.int _) _)=>match ep (X.tr e),Θ e,e6 (X.tr e) with
  | true,some ⟨_,sz,by_,[.nl], .slice tt⟩, .row e' _=>bif Nat.beq e' e&&Nat.beq sz 1&&Nat.ble 2 N&&zL x y&&Nat.blt e 1048576 then
      gchk ex (decide (0≤a∧a * by_≤281474976710656∧a≤maxLen)) (k ⟨.lf (.sl n),[.own (.slice tt) (X.tr e) N [] (List.replicate a.toNat ([]:List tt.den)) n],[]⟩) else none
  | _,_,_=>alt
 | _,_,_=>alt
theorem PL (hΘ:Θ.ok P) {N:Nat} {t:TypeId} {x y:Operand} {v1 v2:AV} (ho:o.op = .makeSlice t x y) (h1:ev E x=some v1) (h2:ev E y=some v2) (k:Out→Option R) {alt:Option R} (halt:aj ex P o E F n alt k):aj ex P o E F n (FW Θ ex n N t x y v1 v2 k alt) k:=by
 unfold FW
 split
 ·rename_i e _ _ _ _ k1 a k2 b ht
  split
  ·rename_i dd sz by_ tt e' s htr he hei
   refine aj.bif fun hc=>aj.gchk fun hb=>aj.of fun hx η ρ hE=>?_
   simp only [Bool.and_eq_true] at hc
   obtain ⟨⟨⟨⟨hee,hsz⟩,hN⟩,hso⟩,hel⟩:=hc
   obtain rfl:=Nat.eq_of_beq_eq_true hee
   obtain rfl:=Nat.eq_of_beq_eq_true hsz
   have e1:=aF hE h1
   have e2:=aF hE h2
   simp only [AV.val,Lf.val] at e1 e2
   have hab:b=a:=by
    unfold zL at hso
    split at hso
    ·obtain rfl:=Nat.eq_of_beq_eq_true hso
     rw [e1] at e2
     simp only [Value.int.injEq] at e2
     exact e2.2.symm
    ·simp only [aK,Value.int.injEq] at e1 e2
     exact e2.2.symm.trans ((eq_of_beq hso).symm.trans e1.2)
    ·cases hso
   subst hab
   obtain ⟨g1,_,g3,g4⟩:=hΘ e' _ he
   let v0:V1:=⟨dU.val,rfl⟩
   have hraw:cz P ρ o (F.map (AF.ha η)) [] Hd.val (fun h=>[.own (ge 1) e' N [] (List.replicate b.toNat [v0]) h]):=by
    refine vN (ty:=ge 1) (K:=[]) (v:=[v0]) (r:=()) ho (hΘ t _ ht).2.1 g1 rfl ?_ trivial e1 e2 (hb hx) hN
    rw [g3,← g4 η]
    rfl
   have hcells : ∀ m:Nat,cellsOf (ge 1) (List.replicate m [v0]) (List.replicate m ())=cellsOf (Ty.slice tt.ty) (List.replicate m ([]:List tt.den)) (List.replicate m dU):=by
    intro m
    induction m with
    | zero=>rfl
    | succ m ih=>
     simp only [List.replicate_succ,cellsOf,ih]
     rfl
   have htree:=cz.tree (K:=[]) (Kn:=[]) (ty:=Ty.slice tt.ty) (e:=X.tr e') (xs:=List.replicate b.toNat ([]:List tt.den)) (ys:=List.replicate b.toNat dU) hraw hei hel hN (by simp) (by simp) (by simpa using hcells b.toNat) (fun w c hH=>⟨fun _=>[],fun j x y hx hy=>by
    rw [List.getElem?_replicate] at hx hy
    split at hx
    ·rename_i hlt
     rw [if_pos hlt] at hy
     cases hx; cases hy
     exact .inl ⟨rfl,rfl⟩
    ·cases hx⟩) rfl
   refine htree.map (fun hh=>⟨η.setH n hh,η.setH_agr n hh⟩) (fun hh=>?_) fun hh=>?_
   ·simp [AV.val,Lf.val,Vn.setH_at]
   ·simp [AF.ha,Vn.setH_at,gN htr]
  ·exact halt
 ·exact halt
end
end
end Go.Sm
