/- Laws for the row. No condition. -/
import Derived.Test.YtfhhiajfciblbaaGreatDoorRfG
namespace Go.Sm
set_option linter.unusedSectionVars false
variable {t e:TypeId} {x y:Operand} {h N:Nat} {w:World} {i:Int}
section
variable [X:XTab] [G:GTab]
def EI.eqb:EI->EI->Bool
 |.leaf,.leaf=>true
 |.pair a b,.pair a' b'=>a.eqb a'&&b.eqb b'
 |.row e s,.row e' s'=>Nat.beq e e'&&s.eqb s'
 |_,_=>false
theorem EI.eqb_eq:∀{a b:EI},a.eqb b=true->a=b
 |.leaf,.leaf,_=>rfl
 |.pair a b,.pair a' b',h=>by simp only[EI.eqb,aas]at h;rw[EI.eqb_eq h.1,EI.eqb_eq h.2]
 |.row e s,.row e' s',h=>by simp only[EI.eqb,aas]at h;rw[amb h.1,EI.eqb_eq h.2]
 |.leaf,.pair _ _,h=>by cases h
 |.leaf,.row _ _,h=>by cases h
 |.pair _ _,.leaf,h=>by cases h
 |.pair _ _,.row _ _,h=>by cases h
 |.row _ _,.leaf,h=>by cases h
 |.row _ _,.pair _ _,h=>by cases h
def Hb(t:TC)(e:TypeId)(ε:EI):Bool:=bif fQ e then(gw e).eqb ε else Nat.blt e 1048576&&t.ty.pureB&&(match ε with|.row e' _=>Nat.beq e e'|_=>false)
theorem akG{t:TC}{ε:EI}(h:Hb t e ε=true){c:bu}{i:Nat}{K:List Nat}{xs:List t.den}{v:Hd}(hH:HA.holds w c (ee t.ty e i K xs v)):cV w (λb=>c b=i) (.slice t.ty) ε xs v:=by
 unfold Hb at h;cases htr:fQ e
 ·grind[eH,Nat.eq_of_beq_eq_true,cV.of_plain]
 ·rw[htr]at h;rw[jB htr]at hH;simp only[f9]at h;rw[<-EI.eqb_eq h];exact hH
def mQ(F:List AF):(t:TC)->EI->List Lf->Option (t.den×List Lf×List Nat×List Lf)
 | .pair a b,ε,r=>match mQ F a ε.fst r with
  |some (x,l1,K1,r1)=>match mQ F b ε.snd r1 with
   |some (y,l2,K2,r2)=>bif K1.all (λk=>!(cq k K2))then some ((x,y),l1++l2,K1++K2,r2)else none
   |none=>none
  |none=>none
 |.slice t,ε,.sl h::r=>match mG t h F with
  |some ⟨some (e,i),_,xs⟩=>bif Hb t e ε then some (xs,[.sl h],[i],r)else none
  |_=>none
 |.slice _,_,.nl::r=>some ([],[.nl],[],r)
 |.st t,ε,r=>mQ F t ε r
 |.sc s,_,r=>co F (.sc s) r
 |.arr n s,_,r=>co F (.arr n s) r
 |.unit,_,r=>co F .unit r
 |.ext n,_,r=>co F (.ext n) r
 |_,_,_=>none
theorem cV.mono{S S':Nat->Prop}{t:Ty}{ε:EI}{x:t.den}{y:t.Refs}(hk:∀b,S b->S' b)(h:cV w S t ε x y):cV w S' t ε x y:=h.keep (jL.of hk)
theorem sV{F:List AF}{η:Vn}:∀(t:TC) {ε:EI} {ls:List Lf} {x:t.den} {l:List Lf} {K:List Nat} {r:List Lf},mQ F t ε ls=some (x,l,K,r) ->
  ay η ls=t.ty.fill x (aP t (aZ η l))++ay η r/\l.length=t.nh/\∀(w:World) (c:bu),aq w c (F.map (AF.ha η))->cV w (λb=>c b∈K) t.ty ε x (aP t (aZ η l))
 |.sc s,ε,ls,x,l,K,r,h=>by simp only[mQ]at h;exact⟨(dX (.sc s) h).1,eJ (.sc s) h,λ_ _ _=>cV.of_pure rfl⟩
 |.arr n s,ε,ls,x,l,K,r,h=>by simp only[mQ]at h;exact⟨(dX (.arr n s) h).1,eJ (.arr n s) h,λ_ _ _=>cV.of_pure rfl⟩
 |.unit,ε,ls,x,l,K,r,h=>by simp only[mQ]at h;exact⟨(dX .unit h).1,eJ .unit h,λ_ _ _=>cV.of_pure rfl⟩
 |.ext n,ε,ls,x,l,K,r,h=>by simp only[mQ]at h;exact⟨(dX (.ext n) h).1,eJ (.ext n) h,λ_ _ _=>cV.of_pure rfl⟩
 |.st t,ε,ls,x,l,K,r,h=>sV t h
 |.node,ε,ls,x,l,K,r,h=>by simp[mQ]at h
 |.mp _ _,ε,ls,x,l,K,r,h=>by simp[mQ]at h
 | .pair a b,ε,ls,x,l,K,r,h=>by
  simp only[mQ]at h;split at h
  ·rename_i x1 l1 K1 r1 h1;split at h
   ·rename_i x2 l2 K2 r2 h2;cases hd:K1.all (λk=>!(cq k K2))
    ·grind
    rw[hd]at h;simp only[f9,no,aaE]at h;obtain⟨rfl,rfl,rfl,rfl⟩:=h;obtain⟨c1,n1,f1⟩:=sV (η:=η) a h1;obtain⟨c2,n2,f2⟩:=sV (η:=η) b h2;have hn:(aZ η l1).length=a.nh:=by simp[aZ,n1]
    have e1:aP a (aZ η (l1++l2))=aP a (aZ η l1):=by grind[aZ,dU]
    have e2:aP b ((aZ η (l1++l2)).drop a.nh)=aP b (aZ η l2):=by grind[aZ]
    refine⟨?_,by simp[TC.nh,n1,n2],λw c hF=>?_⟩
    ·simp only[aP,Ty.fill];grind
    ·refine cV.pair (Sa:=λb=>c b∈K1) (Sb:=λb=>c b∈K2) (λg hg hg2=>?_) (λg hg=>abm _ hg) (λg hg=>abr _ hg) ?_ ?_
     ·grind[List.all_eq_true,mem_iff]
     ·simp only[aP];grind
     ·simp only[aP];grind
   ·cases h
  ·cases h
 | .slice t,ε,ls,x,l,K,r,h=>by
  cases ls with
  |nil=>simp[mQ]at h
  | cons a ls=>
   cases a with
   | sl hh=>
    simp only[mQ]at h;split at h
    ·rename_i e i K' xs hs;cases hg:Hb t e ε
     ·grind
     rw[hg]at h;simp only[f9,no,aaE]at h;obtain⟨rfl,rfl,rfl,rfl⟩:=h;refine⟨rfl,rfl,λw c hF=>?_⟩;have hm:=hF _ (aaG.2 ⟨_,gj hs,rfl⟩);exact(akG hg hm).mono λb (hb:c b=i)=>by simp[hb]
    ·cases h
   |nl=>
    simp only[mQ,no,aaE]at h;obtain⟨rfl,rfl,rfl,rfl⟩:=h;exact⟨rfl,rfl,λw c hF=>cV.nil⟩
   |_=>simp[mQ]at h
def BK(F:List AF)(t:TC)(ε:EI):Nat->List Lf->Option (List t.den×List (List Lf)×List Nat)
 |0,[]=>some ([],[],[])
 |0,_::_=>none
 | m+1,ls=>match mQ F t ε ls with
  |some (x,l,K,r)=>match BK F t ε m r with
   |some (xs,ll,K2)=>bif K.all (λk=>!(cq k K2))then some (x::xs,l::ll,K++K2)else none
   |none=>none
  |none=>none
theorem KH{F:List AF}{t:TC}{ε:EI}{η:Vn}:∀{m:Nat} {ls:List Lf} {xs:List t.den} {ll:List (List Lf)} {K:List Nat},BK F t ε m ls=some (xs,ll,K) ->
  xs.length=m/\ll.length=m/\ay η ls=cellsOf t.ty xs (ll.map λl=>aP t (aZ η l)) /\
  ∀(w:World) (c:bu),aq w c (F.map (AF.ha η))->j8 w (λb=>c b∈K) t.ty ε xs (ll.map λl=>aP t (aZ η l))
 |0,[],xs,ll,K,h=>by simp only[BK,no,aaE]at h;obtain⟨rfl,rfl,rfl⟩:=h;exact⟨rfl,rfl,rfl,λ_ _ _=>j8.nil⟩
 |0,_::_,xs,ll,K,h=>by simp[BK]at h
 | m+1,ls,xs,ll,K,h=>by
  simp only[BK]at h;split at h
  ·rename_i x l K1 r h1;split at h
   ·rename_i xs' ll' K2 h2;cases hd:K1.all (λk=>!(cq k K2))
    ·grind
    rw[hd]at h;simp only[f9,no,aaE]at h;obtain⟨rfl,rfl,rfl⟩:=h;obtain⟨c1,_,f1⟩:=sV (η:=η) t h1;obtain⟨e1,e2,c2,f2⟩:=KH (η:=η) h2;refine⟨by simp[e1],by simp[e2],?_,λw c hF=>?_⟩
    ·simp only[aa4,cellsOf];rw[c1,c2]
    ·have:=j8.append (S:=λb=>c b∈K1++K2) (S1:=λb=>c b∈K1) (S2:=λb=>c b∈K2) (xs:=[x]) (ys:=[aP t (aZ η l)]) rfl (λg hg hg2=>by
      grind[List.all_eq_true,mem_iff]) (λg hg=>abm _ hg) (λg hg=>abr _ hg) (j8.one (f1 w c hF)) (f2 w c hF)
     exact this
   ·cases h
  ·cases h
structure HI(t:TC) where
 e:TypeId
 i:Nat
 xs:List t.den
 k:Int
 cs:List Lf
def pA(t:TC)(h:Nat):List AF->Option (HI t)
 |[]=>none
 |.hol t' e i xs h' k cs::r=>bif Nat.beq h h' then(if he:t'=t then some ⟨e,i,Ec he xs,k,cs⟩else none)else pA t h r
 |_::r=>pA t h r
theorem kf{t:TC}{h:Nat}:∀{F:List AF} {s:HI t},pA t h F=some s->.hol t s.e s.i s.xs h s.k s.cs∈F
 |[],s,hs=>by simp[pA]at hs
 | .hol t' e i xs h' k cs::r,s,hs=>by
  simp only[pA]at hs;cases hb:Nat.beq h h'
  ·rw[hb]at hs;exact aaw _ (kf hs)
  ·rw[hb]at hs;simp only[f9]at hs;split at hs
   ·rename_i he;subst he;simp only[no]at hs;subst hs;rw[amb hb];exact aaQ
   ·cases hs
 |.own _ _ _ _ _ _::r,s,hs=>aaw _ (kf (F:=r) hs)
 |.rep _ _ _ _::r,s,hs=>aaw _ (kf (F:=r) hs)
 |.box _ _ _::r,s,hs=>aaw _ (kf (F:=r) hs)
 |.isn _ _::r,s,hs=>aaw _ (kf (F:=r) hs)
 |.prt _ _ _ _ _::r,s,hs=>aaw _ (kf (F:=r) hs)
 |.pbx _ _ _ _ _::r,s,hs=>aaw _ (kf (F:=r) hs)
 |.mp _ _ _ _ _::r,s,hs=>aaw _ (kf (F:=r) hs)
 |.pt _ _ _ _ _ _ _::r,s,hs=>aaw _ (kf (F:=r) hs)
theorem yF{t:TC}{F:List AF}{s:HI t}(hs:pA t h F=some s){η:Vn}{c:bu}(hF:aq w c (F.map (AF.ha η))):HA.holds w c (.hol t.ty s.e s.i s.xs (η.h h) s.k.toNat (ay η s.cs)):=
 hF _ (aaG.2 ⟨_,kf hs,rfl⟩)
section
variable {R:Type} {P:Program} {o:Oper} {E:SE} {F:List AF} {n:Nat} {Θ:Tb} {ex:Option Bool}
def MY(Θ:Tb)(ex:Option Bool)(t:TypeId)(te:TC)(i:Int)(u:TC)(p:Pa te u)(s:HI te)(k:Out->Option R):Option R:=match Θ t,p.needs with
 | some inf,none=>match cut p.off inf.sz s.cs with
  |some (_,m,_)=>match HB inf.d.agg m with
   |some v=>gchk ex (i==s.k) (k (bk v))
   |none=>none
  |none=>none
 |_,_=>none
theorem YR(hΘ:Θ.ok P){te:TC}{u:TC}{p:Pa te u}{s:HI te}(hs:pA te h F=some s)(ho:o.op=.load t x)(h1:ev E x=some (.lf (.rp h te i u p)))(k:Out->Option R) :
  au ex P o E F n (MY Θ ex t te i u p s k) k:=by
 unfold MY;split
 ·rename_i inf hi _;split
  ·rename_i a m r hc;split
   ·rename_i v hv;refine au.gchk λhik=>au.of λhx=>(dB.pure λη ρ hE=>?_)
    have hik:=eq_of_beq (hik hx);obtain⟨g1,g2,_,_⟩:=hΘ t inf hi;obtain⟨td,ht,hd⟩:=nR g2;obtain⟨j,hj⟩:=mV (kf hs) η;obtain⟨e,hl⟩:=xO hc;obtain⟨l1,l2⟩:=hl η;have hp:aS ρ x=.pointer (some (ep (η.h h) (s.k.toNat*te.ty.sz+p.off))):=by rw[<-hik];exact aN hE h1
    have hcell:((ay η s.cs).drop p.off).take inf.sz=ay η m:=by
     rw[e,bd,bd,aaW,acB,acj (by omega),show p.off-(ay η a).length=0 by omega,adi,acG,ads,ab4 (by omega),
      show inf.sz-(ay η m).length=0 by omega,aek,abd]
    cases hag:inf.d.agg
    ·rw[hag]at hv hd;obtain⟨l,rfl,rfl,hl1⟩:=Bx hv η;refine W4 j hj ho ht hd hp ?_;have h5:ay η [l]=[(AV.lf l).val η]:=by simp[ay,hl1]
     rw[h5]at hcell l2;have:=aba (·[0]?) hcell;grind
    ·rw[hag]at hv hd;rw[B1 hv η];refine PE j hj ho ht hd g1 hp hcell (by simp[l2]) ?_;rw[e,bd,bd];grind
   ·exact au.none
  ·exact au.none
 ·exact au.none
def F7(Θ:Tb)(ex:Option Bool)(t:TypeId)(h:Nat)(te:TC)(i:Int)(u:TC)(p:Pa te u)(v:AV)(s:HI te)(k:Out->Option R):Option R:=match Θ t,p.needs,v.lvs with
 |some inf,none,some ls=>match cut p.off inf.sz s.cs,ml ls inf.sz with
  |some (a,_,r),some (_,[])=>gchk ex (i==s.k) (k ⟨.lf (.v undef),[.hol te s.e s.i s.xs h s.k (a++ls++r)],[s.i]⟩)
  |_,_=>none
 |_,_,_=>none
theorem VJ(hΘ:Θ.ok P){te:TC}{u:TC}{p:Pa te u}{v:AV}{s:HI te}(hs:pA te h F=some s)(ho:o.op=.store t x y)(h1:ev E x=some (.lf (.rp h te i u p)))(h2:ev E y=some v)(k:Out->Option R) :
  au ex P o E F n (F7 Θ ex t h te i u p v s k) k:=by
 unfold F7;split
 ·rename_i inf ls hi _ hl;split
  ·rename_i a m r q hc hs2;refine au.gchk λhik=>au.of λhx η ρ hE=>?_
   have hik:=eq_of_beq (hik hx);obtain⟨g1,g2,_,_⟩:=hΘ t inf hi;obtain⟨j,hj⟩:=mV (kf hs) η;obtain⟨e,hll⟩:=xO hc;obtain⟨l1,l2⟩:=hll η;obtain⟨e2,l3⟩:=jf hs2;rw[abd]at e2;subst e2;have l3:=l3 η;have hp:aS ρ x=.pointer (some (ep (η.h h) (s.k.toNat*te.ty.sz+p.off))):=by rw[<-hik];exact aN hE h1
   refine(KY (cs':=ay η (a++ls++r)) j hj ho g1 hp (aN hE h2) (v.lvs_cells hl η) (by simp[l3]) (aaB.2 (ou (AV.lvs_one hl))) ?_ ?_).map (λ_=>⟨η,Vn.agr_refl n η⟩) (λ_=>rfl) (λ_=>rfl)
   ·rw[e,bd,bd];simp_all
   ·rw[e,bd,bd,bd,bd];congr 1
    ·grind
    grind[ay,List.append_assoc,List.drop_append,List.drop_eq_nil_of_le]
  ·exact au.none
 ·exact au.none
def xW{te u:TC}(p:Pa te u)(ε:EI)(F:List AF)(ls:List Lf)(x:te.den):Option (te.den×List Nat):=match te,u,p,x with
 |te,_,.here,_=>match mQ F te ε ls with
  |some (y,_,K,[])=>some (y,K)
  |_=>none
 | .pair a u,_,.snd q,x=>match u,q,x with
  |u,.here,x=>bif a.ty.pureB then(match mQ F u ε.snd ls with
   |some (y,_,K,[])=>some ((x.1,y),K)
   |_=>none)else none
  |_,_,_=>none
 |_,_,_,_=>none
theorem ZY{F:List AF}{η:Vn}{te u:TC}{p:Pa te u}{ε:EI}{ls:List Lf}{x xn:te.den}{Kn:List Nat}(h:xW p ε F ls x=some (xn,Kn)):p.off+(ay η ls).length<=te.ty.sz /\
  ∀yo:te.ty.Refs,∃yn:te.ty.Refs,te.ty.fill xn yn=(te.ty.fill x yo).take p.off++ay η ls++(te.ty.fill x yo).drop (p.off+(ay η ls).length)/\∀w c,aq w c (F.map (AF.ha η))->cV w (λb=>c b∈Kn) te.ty ε xn yn:=by
 cases p with
 |here=>
  simp only[xW]at h;split at h
  ·rename_i y l K hd;simp only[no,aaE]at h;obtain⟨rfl,rfl⟩:=h;obtain⟨d1,d2,d3⟩:=sV (η:=η) _ hd;grind[ay,Pa.off,Ty.fill_length,List.drop_eq_nil_of_le]
  ·cases h
 | @snd a b u q=>
  cases q with
  | here=>
   simp only[xW]at h;cases ha:a.ty.pureB
   ·grind
   rw[ha]at h;simp only[f9]at h;split at h
   ·rename_i y l K hd;simp only[no,aaE]at h;obtain⟨rfl,rfl⟩:=h;obtain⟨d1,d2,d3⟩:=sV (η:=η) _ hd;simp only[ay,abd]at d1;have hl:(ay η ls).length=u.ty.sz:=by rw[d1];exact Ty.fill_length _ _ _
    refine⟨by simp only[Pa.off,TC.ty,Ty.sz];omega,λyo=>⟨(yo.1,aP _ (aZ η l)),?_,λw c hH=>cV.pair (Sa:=λ_=>False) (Sb:=λg=>c g∈K) (λ_ h=>h.elim) (λ_ h=>h.elim) (λ_ h=>h) (cV.of_pure ha) (d3 w c hH)⟩⟩;have hfa:(a.ty.fill x.1 yo.1).length=a.ty.sz:=Ty.fill_length _ _ _;have hfu:(u.ty.fill x.2 yo.2).length=u.ty.sz:=Ty.fill_length _ _ _;show a.ty.fill x.1 yo.1++u.ty.fill y (aP u (aZ η l))=(a.ty.fill x.1 yo.1++u.ty.fill x.2 yo.2).take (a.ty.sz+0)++ay η ls++(a.ty.fill x.1 yo.1++u.ty.fill x.2 yo.2).drop (a.ty.sz+0+(ay η ls).length);simp_all
   ·cases h
  |_=>simp[xW]at h
 |_=>simp[xW]at h
def FI(Θ:Tb)(ex:Option Bool)(t:TypeId)(h:Nat)(te:TC)(i:Int)(u:TC)(p:Pa te u)(v:AV)(s:PI te)(F:List AF)(k:Out->Option R):Option R:=match Θ t,gw s.e,v.lvs with
 | some inf,.row _ ε,some ls=>match ml ls inf.sz with
  |some (_,[])=>gchk ex (i==s.m) (gbind ex te.dft (ac s.xs i) λx=>match xW p ε F ls x with
   | some (xn,Kn)=>bif Nat.ble 2 s.i && !(cq s.i Kn)&&s.K.all (λq=>!(cq q (s.i::Kn)))then
     k ⟨.lf (.v undef),[.pt te s.e s.i s.K (s.xs.set i.toNat xn) h (s.m+1),.rep te (s.i::s.K) (s.xs.set i.toNat xn) h],s.i::Kn⟩else none
   |none=>none)
  |_=>none
 |_,_,_=>none
theorem UU(hΘ:Θ.ok P){te:TC}{u:TC}{p:Pa te u}{v:AV}{s:PI te}(hs:AX te h F=some s)(ho:o.op=.store t x y)(h1:ev E x=some (.lf (.rp h te i u p)))(h2:ev E y=some v)(k:Out->Option R) :
  au ex P o E F n (FI Θ ex t h te i u p v s F k) k:=by
 unfold FI;split
 ·rename_i inf e0 ε ls hi hei hl;split
  ·rename_i q hc;refine au.gchk λhik=>au.gbind λxo hxo=>?_
   split
   ·rename_i xn Kn hsp;refine au.bif λhb=>au.of λhx η ρ hE=>?_
    simp only[aas,acA]at hb;obtain⟨⟨b1,b2⟩,b3⟩:=hb;have hik:=eq_of_beq (hik hx);obtain⟨i1,i2,i3⟩:=nD (hxo hx);obtain⟨g1,g2,_,_⟩:=hΘ t inf hi;obtain⟨e2,l3⟩:=jf hc;rw[abd]at e2;subst e2;have l3:=l3 η;have hm:s.m=(i.toNat:Int):=by grind
    have hmem:=ng hs;rw[hm]at hmem;obtain⟨j,hj⟩:=mV hmem η;obtain⟨s1,s2⟩:=ZY (η:=η) hsp;have hp:aS ρ x=.pointer (some (ep (η.h h) (i.toNat*te.ty.sz+p.off))):=aN hE h1;have:=(P0 (L:=F.map (AF.ha η)) j hj hei ho g1 hp (aN hE h2) (v.lvs_cells hl η) (by simp[l3]) (aaB.2 (ou (AV.lvs_one hl))) s1 i2 s2 b1 b2 b3).map (Y' := { η':Vn//η.agr n η'}) (λ_=>⟨η,Vn.agr_refl n η⟩) (val':=λy=>(AV.lf (.v undef)).val y.1) (λ_=>rfl) (Φ':=λy=>[AF.pt te s.e s.i s.K (s.xs.set i.toNat xn) h (s.m+1),.rep te (s.i::s.K) (s.xs.set i.toNat xn) h].map (AF.ha y.1)) (λ_=>by grind[AF.ha]);exact this
   ·exact au.none
  ·exact au.none
 ·exact au.none
theorem QL{c:bu}{t:Ty}{i:Nat}{xs:List t.den}{v:Hd}{k:Nat}{cs:List Value}(h:HA.holds w c (.hol t e i xs v k cs)):v.n=xs.length/\∃g,v.a=some ⟨g,0,none⟩:=by
 obtain⟨d,e0,s,ys,he,hl,hk,hcs,⟨g,cap,cur,rfl,_⟩,h3⟩:=(show kU w (λb=>c b=i) t e xs v k cs from h)
 grind
theorem al6{c:bu}{t:Ty}{i:Nat}{xs:List t.den}{v:Hd}{k:Nat}{cs:List Value}(h:HA.holds w c (.hol t e i xs v k cs))(sz:Nat):nM v v sz 0 xs.length:=by obtain⟨h1,g,h2⟩:=QL h;exact⟨afY _,by omega,λ_=>⟨g,0,h2,by simp[ep,h2]⟩⟩
def Wz(Θ:Tb)(ex:Option Bool)(t:TypeId)(h:Nat)(i:Int)(F:List AF)(k:Out->Option R)(alt:Option R):Option R:=match Θ t with
 | some ⟨.slice e,_,_,_,_⟩=>match Θ e with
  |some ie=>match pA ie.tc h F with
   |some s=>bif Nat.beq ie.sz ie.tc.ty.sz then gchk ex (decide (0<=i/\i<(s.xs.length:Int)-0)) (k (bk (.lf (.rp h ie.tc (0+i) ie.tc .here))))else none
   |none=>alt
  |none=>alt
 |_=>alt
theorem aaD(hΘ:Θ.ok P){ix:Operand}{ki:IntKind}(ho:o.op=.indexAddr t x ix)(h1:ev E x=some (.lf (.sl h)))(h2:ev E ix=some (f8 ki i))(k:Out->Option R){alt:Option R}(halt:au ex P o E F n alt k) :
  au ex P o E F n (Wz Θ ex t h i F k alt) k:=by
 unfold Wz;split
 ·rename_i e _ _ _ _ ht;split
  ·rename_i ie he;split
   ·rename_i s hs;refine au.bif λhsz=>au.gchk λhb=>au.of λhx=>(dB.pure λη ρ hE=>?_)
    have:=Hm (o:=o) (ρ:=ρ) (L:=F.map (AF.ha η)) (v:=η.h h) (u:=η.h h) (lo:=0) (hi:=s.xs.length) (λw c hH=>al6 (yF hs hH) _) ho (hΘ t _ ht).2.1 (hΘ e ie he).1 (aN hE h1) (aN hE h2) (hb hx);simp only[AV.val,Lf.val,Pa.off,acU];simp_all
   ·exact halt
  ·exact halt
 ·exact halt
def Wq(Θ:Tb)(t:TypeId)(h:Nat)(F:List AF)(k:Out->Option R)(alt:Option R):Option R:=match Θ t with
 | some ⟨.slice e,_,_,_,_⟩=>match Θ e with
  |some ie=>match pA ie.tc h F with
   |some s=>k (bk (f8 .i64 s.xs.length))
   |none=>alt
  |none=>alt
 |_=>alt
theorem adr(hΘ:Θ.ok P)(ho:o.op=.call { callee:=.builtin .len,args:=#[x],argTypes:=#[t]})(h1:ev E x=some (.lf (.sl h)))(k:Out->Option R){alt:Option R}(halt:au ex P o E F n alt k) :
  au ex P o E F n (Wq Θ t h F k alt) k:=by
 unfold Wq;split
 ·rename_i e _ _ _ _ ht;split
  ·rename_i ie he;split
   ·rename_i s hs;refine au.of λhx=>(dB.pure λη ρ hE=>?_)
    intro ev w c hev hH;have:=TN (P:=P) (ρ:=ρ) (L:=F.map (AF.ha η)) (h:=η.h h) ho (hΘ t _ ht).2.1 (aN hE h1) ev w c hev hH;rw[(QL (yF hs hH)).1]at this;exact this
   ·exact halt
  ·exact halt
 ·exact halt
def Uz(Θ:Tb)(ex:Option Bool)(n N:Nat)(t:TypeId)(v1 v2:AV)(F:List AF)(k:Out->Option R)(alt:Option R):Option R:=match Θ t with
 | some ⟨.slice e,_,_,_,_⟩=>match fQ (X.tr e),Θ e,v1,v2 with
  |true,some ie,.lf l1,.lf l2=>match gv ie.tc (X.tr e) N F l1,gv ie.tc (X.tr e) (N+1) F l2,gw (X.tr e)with
   | some (ci,_,xs),some (cj,_,ys),.row e' _=>bif Nat.beq e' e&&Nat.beq ie.sz ie.tc.ty.sz&&Nat.ble 1 ie.sz&&Nat.beq ie.zv.cells.size ie.sz&&Nat.ble 2 ci&&Nat.ble 2 N&&Nat.blt e 1048576 && !(Nat.beq ci cj) && !(Nat.beq ci (N+2)) && !(Nat.beq cj (N+2))then
     gchk ex (aH xs.length ys.length ie.by_) (k ⟨.lf (.sl n),[.own ie.tc (X.tr e) ci [] (xs++ys) n],[ci,cj,N+2]⟩)else none
   |_,_,_=>alt
  |_,_,_,_=>alt
 |_=>alt
theorem aa0(hΘ:Θ.ok P){v1 v2:AV}(ho:o.op=.call { callee:=.builtin .append,args:=#[x,y],argTypes:=#[t,t]})(h1:ev E x=some v1)(h2:ev E y=some v2)(k:Out->Option R){alt:Option R}(halt:au ex P o E F n alt k) :
  au ex P o E F n (Uz Θ ex n N t v1 v2 F k alt) k:=by
 unfold Uz;split
 ·rename_i e _ _ _ _ ht;split
  ·rename_i ie l1 l2 htr he;split
   ·rename_i ci K1 xs cj K2 ys e' s' hs1 hs2 hei;refine au.bif λhc=>au.gchk λhr=>au.of λhx η ρ hE=>?_
    simp only[aas]at hc;obtain⟨⟨⟨⟨⟨⟨⟨⟨⟨hee,hsz⟩,h0⟩,hzs⟩,hci⟩,hN⟩,hel⟩,hd⟩,hd1⟩,hd2⟩:=hc;obtain rfl:=amb hee;have e1:=aN hE h1;have e2:=aN hE h2;simp only[AV.val]at e1 e2;rw[qO hs1 η]at e1;rw[qO hs2 η]at e2;have hH':∀w c,aq w c (F.map (AF.ha η))->aq w c (.tr ie.tc.ty (X.tr e') ci K1 xs (l1.hd η)::.tr ie.tc.ty (X.tr e') cj K2 ys (l2.hd η)::F.map (AF.ha η)):=λw c hH=>by have q1:=gb hs1 hH;have q2:=gb hs2 hH;grind[jB,aq.cons]
    have:=(Mj (o:=o) (ρ:=ρ) (L:=.tr ie.tc.ty (X.tr e') ci K1 xs (l1.hd η)::.tr ie.tc.ty (X.tr e') cj K2 ys (l2.hd η)::F.map (AF.ha η)) (N:=N+2) 0 1 rfl rfl hei ho (hΘ t _ ht).2.1 (hΘ e' ie he).1 (amb hsz) hzs h0 e1 e2 (hr hx) hci (abu (by omega)) (tU hd) (tU hd1) (tU hd2) hel).from hH';refine this.map (λhh=>⟨η.setH n hh,η.setH_agr n hh⟩) (λhh=>?_) λhh=>?_
    ·simp[AV.val,Lf.val,Vn.setH_at]
    ·simp[AF.ha,Vn.setH_at,jB htr]
   ·exact halt
  ·exact halt
 ·exact halt
def Gu(Θ:Tb)(E:SE)(ex:Option Bool)(n:Nat)(t:TypeId)(l:Lf)(lo hi:Option Operand)(F:List AF)(k:Out->Option R)(alt:Option R):Option R:=match Θ t,lo,hi with
 | some ⟨.slice e,_,_,_,_⟩,none,some h=>match fQ (X.tr e),Θ e with
  |true,some ie=>match gv ie.tc (X.tr e) 0 F l,ev E h with
   |some (ci,K,xs),some (.lf (.c (.int _) j))=>bif Nat.beq ie.sz ie.tc.ty.sz&&Nat.ble 2 ci then gchk ex (decide (0<=j/\j<=xs.length)) (k ⟨.lf (.sl n),[.own ie.tc (X.tr e) ci K (xs.take j.toNat) n],[]⟩)else none
   |_,_=>alt
  |_,_=>alt
 |_,_,_=>alt
theorem Xo(hΘ:Θ.ok P){l:Lf}{lo hi:Option Operand}(ho:o.op=.slice t x lo hi none)(h1:ev E x=some (.lf l))(k:Out->Option R){alt:Option R}(halt:au ex P o E F n alt k):au ex P o E F n (Gu Θ E ex n t l lo hi F k alt) k:=by
 unfold Gu;split
 ·rename_i e _ _ _ _ h ht;split
  ·rename_i ie htr he;split
   ·rename_i ci K xs kk j hs hj;refine au.bif λhce=>au.gchk λhb=>au.of λhx η ρ hE=>?_
    simp only[aas]at hce;have h2:=aN hE h1;simp only[AV.val]at h2;rw[qO hs η]at h2;have:=(PR (o:=o) (ρ:=ρ) (L:=.tr ie.tc.ty (X.tr e) ci K xs (l.hd η)::F.map (AF.ha η)) 0 rfl ho (hΘ t _ ht).2.1 (hΘ e ie he).1 (amb hce.1) h2 (aN hE hj) (hb hx)).from (λw c hH=>aq.cons (by have:=gb hs hH;rwa [jB htr]at this) hH);refine this.map (λ_=>⟨η.setH n ((l.hd η).cut 0 j.toNat ie.sz),η.setH_agr n _⟩) (λ_=>?_) λ_=>?_
    ·simp[AV.val,Lf.val,Vn.setH_at]
    ·simp[AF.ha,Vn.setH_at,jB htr]
   ·exact halt
  ·exact halt
 ·exact halt
def Fu(Θ:Tb)(E:SE)(n N:Nat)(t:TypeId)(m:Nat)(ps:Array (Nat×Operand))(F:List AF)(k:Out->Option R)(alt:Option R):Option R:=match Θ t with
 | some ⟨.slice e,_,_,_,_⟩=>match fQ (X.tr e)&&Nat.ble 1 m,Θ e,vy E ps.toList,gw (X.tr e)with
  | true,some ie,some vals,.row e' s=>match yJ (λi=>some (i*ie.sz,ie.sz)) (Gg ie.zl m) vals with
   |some ls=>match BK F ie.tc s m ls,ml ie.zl ie.sz with
    |some (xs,_,K),some (_,[])=>bif Nat.beq e' e&&Nat.beq ie.sz ie.tc.ty.sz&&Nat.ble 2 N&&Nat.ble (m*ie.sz) 16777216&&Nat.ble 1 ie.sz&&Nat.ble 1 m&&Nat.blt e 1048576 && !(cq N K)then k ⟨.lf (.sl n),[.own ie.tc (X.tr e) N [] xs n],K⟩else none
    |_,_=>alt
   |none=>alt
  |_,_,_,_=>alt
 |_=>alt
theorem Ux{η:Vn}{ls:List Lf}{t:TC}{xs:List t.den}{ys:List t.ty.Refs}(h:ay η ls=cellsOf t.ty xs ys):qV (ay η ls):=by rw[h];exact li t.ty
theorem Xi(hΘ:Θ.ok P){m:Nat}{ps:Array (Nat×Operand)}(ho:o.op=.buildSlice t m ps)(k:Out->Option R){alt:Option R}(halt:au ex P o E F n alt k):au ex P o E F n (Fu Θ E n N t m ps F k alt) k:=by
 unfold Fu;split
 ·rename_i e _ _ _ _ ht;have ht':P.underlying t=some (.slice e):=(hΘ t _ ht).2.1;split
  ·rename_i ie vals e' s htr0 he hp hei;have htr:=(aas _ _▸htr0:fQ (X.tr e)=true/\Nat.ble 1 m=true).1;split
   ·rename_i ls hls;split
    ·rename_i xs ll K q hd hcut;refine au.bif λhc=>au.of λhx η ρ hE=>?_
     simp only[aas]at hc;obtain⟨⟨⟨⟨⟨⟨⟨hee,hsz⟩,hN⟩,hsm⟩,h1⟩,hm1⟩,hel⟩,hnk⟩:=hc;obtain rfl:=amb hee;obtain⟨g1,_,g3,g4⟩:=hΘ e' ie he;obtain⟨e2,l3⟩:=jf hcut;rw[abd]at e2;subst e2;have l3:=l3 η;obtain⟨d1,d2,d3,d4⟩:=KH (η:=η) hd;have hpos:=aaA h1;have hm:=aaA hm1;have hszz:=amb hsz;have hfill:=zm (η:=η) hls;rw[ze,l3]at hfill;have hzc:ie.zv.cells.toList=ay η ie.zl:=by grind
     have hlen:(ay η ls).length=m*ie.tc.ty.sz:=by rw[d3,cZ _ (by simp[d1,d2]),d1]
     obtain⟨rows,r1,r2⟩:=zu ie.tc.ty.sz m (ay η ls) (Ux d3) hlen;have hraw:di P ρ o (F.map (AF.ha η)) [] Hd.val (λh=>[.own (iJ ie.tc.ty.sz) e' N [] rows h]):=by
      refine zT (cells:=ay η ls) (ty:=iJ ie.tc.ty.sz) (K:=[]) (xs:=rows) (ys:=List.replicate m ()) ho ht' g1 hszz hsm ?_ (rm hE hp) ?_ (by simp[r1]) (by simp) r2 ?_ hN
      ·refine abu ?_;have:1*1<=m*ie.sz:=Nat.mul_le_mul hm hpos;omega
      ·grind
      ·have gen:∀(a:List (List V1)) (b:List Unit),pI (F.map (AF.ha η)) (vS (iJ ie.tc.ty.sz) [] a b):=by
        intro a;induction a with
        |nil=>intro b;cases b<;>trivial
        |cons x a ih=>
         intro b;cases b with
         |nil=>trivial
         |cons y b=>exact ih b
       exact gen _ _
     have htree:=di.tree (K:=[]) (e:=X.tr e') (xs:=xs) (ys:=ll.map λl=>aP ie.tc (aZ η l)) hraw hei hel hN (by simp[d1,d2]) (by rw[r1,d1]) (by grind) (λw c hH=>d4 w c hH) (tU hnk);refine htree.map (λhh=>⟨η.setH n hh,η.setH_agr n hh⟩) (λhh=>?_) λhh=>?_
     ·simp[AV.val,Lf.val,Vn.setH_at]
     ·simp[AF.ha,Vn.setH_at,jB htr]
    ·exact halt
   ·exact halt
  ·exact halt
 ·exact halt
def Mp(Θ:Tb)(ex:Option Bool)(n N:Nat)(t:TypeId)(x y:Operand)(v1 v2:AV)(k:Out->Option R)(alt:Option R):Option R:=match Θ t,v1,v2 with
 |some ⟨.slice e,_,_,_,_⟩,.lf (.c (.int _) a),.lf (.c (.int _) _)=>match fQ (X.tr e),Θ e,gw (X.tr e)with
  |true,some ⟨_,sz,by_,[.nl],.slice tt⟩,.row e' _=>bif Nat.beq e' e&&Nat.beq sz 1&&Nat.ble 2 N&&EC x y&&Nat.blt e 1048576 then
      gchk ex (decide (0<=a/\a*by_<=281474976710656/\a<=maxLen)) (k ⟨.lf (.sl n),[.own (.slice tt) (X.tr e) N [] (List.replicate a.toNat ([]:List tt.den)) n],[]⟩)else none
  |_,_,_=>alt
 |_,_,_=>alt
theorem Z6(hΘ:Θ.ok P){v1 v2:AV}(ho:o.op=.makeSlice t x y)(h1:ev E x=some v1)(h2:ev E y=some v2)(k:Out->Option R){alt:Option R}(halt:au ex P o E F n alt k):au ex P o E F n (Mp Θ ex n N t x y v1 v2 k alt) k:=by
 unfold Mp;split
 ·rename_i e _ _ _ _ k1 a k2 b ht;split
  ·rename_i dd sz by_ tt e' s htr he hei;refine au.bif λhc=>au.gchk λhb=>au.of λhx η ρ hE=>?_
   simp only[aas]at hc;obtain⟨⟨⟨⟨hee,hsz⟩,hN⟩,hso⟩,hel⟩:=hc;obtain rfl:=amb hee;obtain rfl:=amb hsz;have e1:=aN hE h1;have e2:=aN hE h2;simp only[AV.val,Lf.val]at e1 e2;have hab:b=a:=by
    unfold EC at hso;split at hso
    ·simp_all
    ·simp only[aS,Value.int.injEq]at e1 e2;grind
    ·cases hso
   subst hab;obtain⟨g1,_,g3,g4⟩:=hΘ e' _ he;let v0:V1:=⟨eT.val,rfl⟩
   have hraw:di P ρ o (F.map (AF.ha η)) [] Hd.val (λh=>[.own (iJ 1) e' N [] (List.replicate b.toNat [v0]) h]):=by refine Ax (ty:=iJ 1) (K:=[]) (v:=[v0]) (r:=()) ho (hΘ t _ ht).2.1 g1 rfl ?_ trivial e1 e2 (hb hx) hN;rw[g3,<-g4 η];rfl
   have hcells:∀m:Nat,cellsOf (iJ 1) (List.replicate m [v0]) (List.replicate m ())=cellsOf (Ty.slice tt.ty) (List.replicate m ([]:List tt.den)) (List.replicate m eT):=by
    intro m;induction m with
    |zero=>rfl
    |succ m ih=>
     simp only[aeP,cellsOf,ih];rfl
   have htree:=di.tree (K:=[]) (Kn:=[]) (ty:=Ty.slice tt.ty) (e:=X.tr e') (xs:=List.replicate b.toNat ([]:List tt.den)) (ys:=List.replicate b.toNat eT) hraw hei hel hN (by simp) (by simp) (by grind) (λw c hH=>⟨λ_=>[],λj x y hx hy=>by
    rw[List.getElem?_replicate]at hx hy;split at hx
    ·rename_i hlt;rw[if_pos hlt]at hy;cases hx;cases hy;exact .inl ⟨rfl,rfl⟩
    ·cases hx⟩) rfl
   refine htree.map (λhh=>⟨η.setH n hh,η.setH_agr n hh⟩) (λhh=>?_) λhh=>?_
   ·simp[AV.val,Lf.val,Vn.setH_at]
   ·simp[AF.ha,Vn.setH_at,jB htr]
  ·exact halt
 ·exact halt
end
end
end Go.Sm
