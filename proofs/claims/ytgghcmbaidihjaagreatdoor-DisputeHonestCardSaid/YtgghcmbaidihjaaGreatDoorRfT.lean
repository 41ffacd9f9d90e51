/- Laws for the row. No condition. -/
import Derived.Test.YtgghcmbaidihjaaGreatDoorRfG
namespace Go.Sm
set_option linter.unusedSectionVars false
section
variable [X:XTab] [G:GTab] [Yc:GCx]
def EI.eqb:EI->EI->Bool
 |.leaf,.leaf=>true
 |.pair a b,.pair a' b'=>a.eqb a'&&b.eqb b'
 |.row e s,.row e' s'=>Nat.beq e e'&&s.eqb s'
 |_,_=>false
theorem EI.eqb_eq:∀{a b:EI},a.eqb b=true->a=b
 |.leaf,.leaf,_=>rfl
 |.pair a b,.pair a' b',h=>by simp only[EI.eqb,Y5]at h;rw[EI.eqb_eq h.1,EI.eqb_eq h.2]
 |.row e s,.row e' s',h=>by simp only[EI.eqb,Y5]at h;rw[f9 h.1,EI.eqb_eq h.2]
 |.leaf,.pair _ _,h=>by cases h
 |.leaf,.row _ _,h=>by cases h
 |.pair _ _,.leaf,h=>by cases h
 |.pair _ _,.row _ _,h=>by cases h
 |.row _ _,.leaf,h=>by cases h
 |.row _ _,.pair _ _,h=>by cases h
def G0(t:TC)(e:TypeId)(ε:EI):Bool:=bif eM e then(fR e).eqb ε else Nat.blt e 1048576&&t.ty.pureB&&(match ε with|.row e' _=>Nat.beq e e'|_=>false)
theorem aj0{t:TC}{e:TypeId}{ε:EI}(h:G0 t e ε=true){w:World}{c:aS}{i:Nat}{K:List Nat}{xs:List t.den}{v:Hd}(hH:HA.holds w c (dS t.ty e i K xs v)):cC w (λb=>c b=i) (.slice t.ty) ε xs v:=by
 unfold G0 at h;cases htr:eM e
 ·grind[dx,Nat.eq_of_beq_eq_true,cC.of_plain]
 ·rw[htr]at h;rw[gZ htr]at hH;simp only[Ze]at h;rw[<-EI.eqb_eq h];exact hH
def lq(F:List AF):(t:TC)->EI->List Lf->Option (t.den×List Lf×List Nat×List Lf)
 | .pair a b,ε,r=>match lq F a ε.fst r with
  |some (x,l1,K1,r1)=>match lq F b ε.snd r1 with
   |some (y,l2,K2,r2)=>bif K1.all (λk=>!(bQ k K2))then some ((x,y),l1++l2,K1++K2,r2)else none
   |none=>none
  |none=>none
 |.slice t,ε,.sl h::r=>match jQ t h F with
  |some ⟨some (e,i),_,xs⟩=>bif G0 t e ε then some (xs,[.sl h],[i],r)else none
  |_=>none
 |.slice _,_,.nl::r=>some ([],[.nl],[],r)
 |.st t,ε,r=>lq F t ε r
 |.sc s,_,r=>bR F (.sc s) r
 |.arr n s,_,r=>bR F (.arr n s) r
 |.unit,_,r=>bR F .unit r
 |.ext n,_,r=>bR F (.ext n) r
 |_,_,_=>none
theorem cC.mono{w:World}{S S':Nat->Prop}{t:Ty}{ε:EI}{x:t.den}{y:t.Refs}(hk:∀b,S b->S' b)(h:cC w S t ε x y):cC w S' t ε x y:=h.keep (ij.of hk)
theorem rg{F:List AF}{η:Vn}:∀(t:TC) {ε:EI} {ls:List Lf} {x:t.den} {l:List Lf} {K:List Nat} {r:List Lf},lq F t ε ls=some (x,l,K,r) ->
  au η ls=t.ty.fill x (aM t (aT η l))++au η r/\l.length=t.nh/\∀(w:World) (c:aS),aj w c (F.map (AF.ha η))->cC w (λb=>c b∈K) t.ty ε x (aM t (aT η l))
 |.sc s,ε,ls,x,l,K,r,h=>by simp only[lq]at h;exact⟨(dA (.sc s) h).1,ee (.sc s) h,λ_ _ _=>cC.of_pure rfl⟩
 |.arr n s,ε,ls,x,l,K,r,h=>by simp only[lq]at h;exact⟨(dA (.arr n s) h).1,ee (.arr n s) h,λ_ _ _=>cC.of_pure rfl⟩
 |.unit,ε,ls,x,l,K,r,h=>by simp only[lq]at h;exact⟨(dA .unit h).1,ee .unit h,λ_ _ _=>cC.of_pure rfl⟩
 |.ext n,ε,ls,x,l,K,r,h=>by simp only[lq]at h;exact⟨(dA (.ext n) h).1,ee (.ext n) h,λ_ _ _=>cC.of_pure rfl⟩
 |.st t,ε,ls,x,l,K,r,h=>rg t h
 |.node,ε,ls,x,l,K,r,h=>by simp[lq]at h
 |.mp _ _,ε,ls,x,l,K,r,h=>by simp[lq]at h
 | .pair a b,ε,ls,x,l,K,r,h=>by
  simp only[lq]at h;split at h
  ·rename_i x1 l1 K1 r1 h1;split at h
   ·rename_i x2 l2 K2 r2 h2;cases hd:K1.all (λk=>!(bQ k K2))
    ·grind
    rw[hd]at h;simp only[Ze,no,ZC]at h;obtain⟨rfl,rfl,rfl,rfl⟩:=h;obtain⟨c1,n1,f1⟩:=rg (η:=η) a h1;obtain⟨c2,n2,f2⟩:=rg (η:=η) b h2;have hn:(aT η l1).length=a.nh:=by simp[aT,n1]
    have e1:aM a (aT η (l1++l2))=aM a (aT η l1):=by grind[aT,dL]
    have e2:aM b ((aT η (l1++l2)).drop a.nh)=aM b (aT η l2):=by grind[aT]
    refine⟨?_,by simp[TC.nh,n1,n2],λw c hF=>?_⟩
    ·simp only[aM,Ty.fill];grind
    ·refine cC.pair (Sa:=λb=>c b∈K1) (Sb:=λb=>c b∈K2) (λg hg hg2=>?_) (λg hg=>ZW _ hg) (λg hg=>Z7 _ hg) ?_ ?_
     ·grind[List.all_eq_true,mem_iff]
     ·simp only[aM];grind
     ·simp only[aM];grind
   ·cases h
  ·cases h
 | .slice t,ε,ls,x,l,K,r,h=>by
  cases ls with
  |nil=>simp[lq]at h
  | cons a ls=>
   cases a with
   | sl hh=>
    simp only[lq]at h;split at h
    ·rename_i e i K' xs hs;cases hg:G0 t e ε
     ·grind
     rw[hg]at h;simp only[Ze,no,ZC]at h;obtain⟨rfl,rfl,rfl,rfl⟩:=h;refine⟨rfl,rfl,λw c hF=>?_⟩;have hm:=hF _ (ZA.2 ⟨_,fB hs,rfl⟩);exact(aj0 hg hm).mono λb (hb:c b=i)=>by simp[hb]
    ·cases h
   |nl=>
    simp only[lq,no,ZC]at h;obtain⟨rfl,rfl,rfl,rfl⟩:=h;exact⟨rfl,rfl,λw c hF=>cC.nil⟩
   |_=>simp[lq]at h
def BF(F:List AF)(t:TC)(ε:EI):Nat->List Lf->Option (List t.den×List (List Lf)×List Nat)
 |0,[]=>some ([],[],[])
 |0,_::_=>none
 | m+1,ls=>match lq F t ε ls with
  |some (x,l,K,r)=>match BF F t ε m r with
   |some (xs,ll,K2)=>bif K.all (λk=>!(bQ k K2))then some (x::xs,l::ll,K++K2)else none
   |none=>none
  |none=>none
theorem Oa{F:List AF}{t:TC}{ε:EI}{η:Vn}:∀{m:Nat} {ls:List Lf} {xs:List t.den} {ll:List (List Lf)} {K:List Nat},BF F t ε m ls=some (xs,ll,K) ->
  xs.length=m/\ll.length=m/\au η ls=cellsOf t.ty xs (ll.map λl=>aM t (aT η l)) /\
  ∀(w:World) (c:aS),aj w c (F.map (AF.ha η))->iK w (λb=>c b∈K) t.ty ε xs (ll.map λl=>aM t (aT η l))
 |0,[],xs,ll,K,h=>by simp only[BF,no,ZC]at h;obtain⟨rfl,rfl,rfl⟩:=h;exact⟨rfl,rfl,rfl,λ_ _ _=>iK.nil⟩
 |0,_::_,xs,ll,K,h=>by simp[BF]at h
 | m+1,ls,xs,ll,K,h=>by
  simp only[BF]at h;split at h
  ·rename_i x l K1 r h1;split at h
   ·rename_i xs' ll' K2 h2;cases hd:K1.all (λk=>!(bQ k K2))
    ·grind
    rw[hd]at h;simp only[Ze,no,ZC]at h;obtain⟨rfl,rfl,rfl⟩:=h;obtain⟨c1,_,f1⟩:=rg (η:=η) t h1;obtain⟨e1,e2,c2,f2⟩:=Oa (η:=η) h2;refine⟨by simp[e1],by simp[e2],?_,λw c hF=>?_⟩
    ·simp only[aas,cellsOf];rw[c1,c2]
    ·have:=iK.append (S:=λb=>c b∈K1++K2) (S1:=λb=>c b∈K1) (S2:=λb=>c b∈K2) (xs:=[x]) (ys:=[aM t (aT η l)]) rfl (λg hg hg2=>by
      grind[List.all_eq_true,mem_iff]) (λg hg=>ZW _ hg) (λg hg=>Z7 _ hg) (iK.one (f1 w c hF)) (f2 w c hF)
     exact this
   ·cases h
  ·cases h
structure HI(t:TC) where
 e:TypeId
 i:Nat
 xs:List t.den
 k:Int
 cs:List Lf
def m7(t:TC)(h:Nat):List AF->Option (HI t)
 |[]=>none
 |.hol t' e i xs h' k cs::r=>bif Nat.beq h h' then(if he:t'=t then some ⟨e,i,Ek he xs,k,cs⟩else none)else m7 t h r
 |_::r=>m7 t h r
theorem ig{t:TC}{h:Nat}:∀{F:List AF} {s:HI t},m7 t h F=some s->.hol t s.e s.i s.xs h s.k s.cs∈F
 |[],s,hs=>by simp[m7]at hs
 | .hol t' e i xs h' k cs::r,s,hs=>by
  simp only[m7]at hs;cases hb:Nat.beq h h'
  ·rw[hb]at hs;exact Zf _ (ig hs)
  ·rw[hb]at hs;simp only[Ze]at hs;split at hs
   ·rename_i he;subst he;simp only[no]at hs;subst hs;rw[f9 hb];exact ZO
   ·cases hs
 |.own _ _ _ _ _ _::r,s,hs=>Zf _ (ig (F:=r) hs)
 |.rep _ _ _ _::r,s,hs=>Zf _ (ig (F:=r) hs)
 |.box _ _ _::r,s,hs=>Zf _ (ig (F:=r) hs)
 |.isn _ _::r,s,hs=>Zf _ (ig (F:=r) hs)
 |.ag _::r,s,hs=>Zf _ (ig (F:=r) hs)
 |.prt _ _ _ _ _::r,s,hs=>Zf _ (ig (F:=r) hs)
 |.pbx _ _ _ _ _::r,s,hs=>Zf _ (ig (F:=r) hs)
 |.mp _ _ _ _ _::r,s,hs=>Zf _ (ig (F:=r) hs)
 |.pt _ _ _ _ _ _ _::r,s,hs=>Zf _ (ig (F:=r) hs)
theorem yt{t:TC}{h:Nat}{F:List AF}{s:HI t}(hs:m7 t h F=some s){η:Vn}{w:World}{c:aS}(hF:aj w c (F.map (AF.ha η))):HA.holds w c (.hol t.ty s.e s.i s.xs (η.h h) s.k.toNat (au η s.cs)):=
 hF _ (ZA.2 ⟨_,ig hs,rfl⟩)
section
variable {R:Type} {P:Program} {o:Oper} {E:SE} {F:List AF} {n:Nat} {Θ:Tb} {ex:Option Bool}
def Lj(Θ:Tb)(ex:Option Bool)(t:TypeId)(te:TC)(i:Int)(u:TC)(p:Pa te u)(s:HI te)(k:Out->Option R):Option R:=match Θ t,p.needs with
 | some inf,none=>match cut p.off inf.sz s.cs with
  |some (_,m,_)=>match Gx inf.d.agg m with
   |some v=>gchk ex (i==s.k) (k (bc v))
   |none=>none
  |none=>none
 |_,_=>none
theorem Xb(hΘ:Θ.ok P){t:TypeId}{x:Operand}{h:Nat}{te:TC}{i:Int}{u:TC}{p:Pa te u}{s:HI te}(hs:m7 te h F=some s)(ho:o.op=.load t x)(h1:ev E x=some (.lf (.rp h te i u p)))(k:Out->Option R) :
  aq ex P o E F n (Lj Θ ex t te i u p s k) k:=by
 unfold Lj;split
 ·rename_i inf hi _;split
  ·rename_i a m r hc;split
   ·rename_i v hv;refine aq.gchk λhik=>aq.of λhx=>(dc.pure λη ρ hE=>?_)
    have hik:=eq_of_beq (hik hx);obtain⟨g1,g2,_,_⟩:=hΘ t inf hi;obtain⟨td,ht,hd⟩:=l9 g2;obtain⟨j,hj⟩:=lh (ig hs) η;obtain⟨e,hl⟩:=xj hc;obtain⟨l1,l2⟩:=hl η;have hp:aJ ρ x=.pointer (some (dR (η.h h) (s.k.toNat*te.ty.sz+p.off))):=by rw[<-hik];exact aH hE h1
    have hcell:((au η s.cs).drop p.off).take inf.sz=au η m:=by
     rw[e,aY,aY,aaf,abe,aa6 (by omega),show p.off-(au η a).length=0 by omega,adq,abx,acE,aaU (by omega),
      show inf.sz-(au η m).length=0 by omega,adX,Z2]
    cases hag:inf.d.agg
    ·rw[hag]at hv hd;obtain⟨l,rfl,rfl,hl1⟩:=BP hv η;refine Tr j hj ho ht hd hp ?_;have h5:au η [l]=[(AV.lf l).val η]:=by simp[au,hl1]
     rw[h5]at hcell l2;have:=aae (·[0]?) hcell;grind
    ·rw[hag]at hv hd;rw[Bo hv η];refine Pe j hj ho ht hd g1 hp hcell (by simp[l2]) ?_;rw[e,aY,aY];grind
   ·exact aq.none
  ·exact aq.none
 ·exact aq.none
def FE(Θ:Tb)(ex:Option Bool)(t:TypeId)(h:Nat)(te:TC)(i:Int)(u:TC)(p:Pa te u)(v:AV)(s:HI te)(k:Out->Option R):Option R:=match Θ t,p.needs,v.lvs with
 |some inf,none,some ls=>match cut p.off inf.sz s.cs,j6 ls inf.sz with
  |some (a,_,r),some (_,[])=>gchk ex (i==s.k) (k ⟨.lf (.v undef),[.hol te s.e s.i s.xs h s.k (a++ls++r)],[s.i]⟩)
  |_,_=>none
 |_,_,_=>none
theorem S7(hΘ:Θ.ok P){t:TypeId}{x y:Operand}{h:Nat}{te:TC}{i:Int}{u:TC}{p:Pa te u}{v:AV}{s:HI te}(hs:m7 te h F=some s)(ho:o.op=.store t x y)(h1:ev E x=some (.lf (.rp h te i u p)))(h2:ev E y=some v)(k:Out->Option R) :
  aq ex P o E F n (FE Θ ex t h te i u p v s k) k:=by
 unfold FE;split
 ·rename_i inf ls hi _ hl;split
  ·rename_i a m r q hc hs2;refine aq.gchk λhik=>aq.of λhx η ρ hE=>?_
   have hik:=eq_of_beq (hik hx);obtain⟨g1,g2,_,_⟩:=hΘ t inf hi;obtain⟨j,hj⟩:=lh (ig hs) η;obtain⟨e,hll⟩:=xj hc;obtain⟨l1,l2⟩:=hll η;obtain⟨e2,l3⟩:=g9 hs2;rw[Z2]at e2;subst e2;have l3:=l3 η;have hp:aJ ρ x=.pointer (some (dR (η.h h) (s.k.toNat*te.ty.sz+p.off))):=by rw[<-hik];exact aH hE h1
   refine(J6 (cs':=au η (a++ls++r)) j hj ho g1 hp (aH hE h2) (v.lvs_cells hl η) (by simp[l3]) (Zy.2 (mB (AV.lvs_one hl))) ?_ ?_).map (λ_=>⟨η,Vn.agr_refl n η⟩) (λ_=>rfl) (λ_=>rfl)
   ·rw[e,aY,aY];simp_all
   ·rw[e,aY,aY,aY,aY];congr 1
    ·grind
    grind[au,List.append_assoc,List.drop_append,List.drop_eq_nil_of_le]
  ·exact aq.none
 ·exact aq.none
def xg{te u:TC}(p:Pa te u)(ε:EI)(F:List AF)(ls:List Lf)(x:te.den):Option (te.den×List Nat):=match te,u,p,x with
 |te,_,.here,_=>match lq F te ε ls with
  |some (y,_,K,[])=>some (y,K)
  |_=>none
 | .pair a u,_,.snd q,x=>match u,q,x with
  |u,.here,x=>bif a.ty.pureB then(match lq F u ε.snd ls with
   |some (y,_,K,[])=>some ((x.1,y),K)
   |_=>none)else none
  |_,_,_=>none
 |_,_,_,_=>none
theorem XK{F:List AF}{η:Vn}{te u:TC}{p:Pa te u}{ε:EI}{ls:List Lf}{x xn:te.den}{Kn:List Nat}(h:xg p ε F ls x=some (xn,Kn)):p.off+(au η ls).length<=te.ty.sz /\
  ∀yo:te.ty.Refs,∃yn:te.ty.Refs,te.ty.fill xn yn=(te.ty.fill x yo).take p.off++au η ls++(te.ty.fill x yo).drop (p.off+(au η ls).length)/\∀w c,aj w c (F.map (AF.ha η))->cC w (λb=>c b∈Kn) te.ty ε xn yn:=by
 cases p with
 |here=>
  simp only[xg]at h;split at h
  ·rename_i y l K hd;simp only[no,ZC]at h;obtain⟨rfl,rfl⟩:=h;obtain⟨d1,d2,d3⟩:=rg (η:=η) _ hd;grind[au,Pa.off,Ty.fill_length,List.drop_eq_nil_of_le]
  ·cases h
 | @snd a b u q=>
  cases q with
  | here=>
   simp only[xg]at h;cases ha:a.ty.pureB
   ·grind
   rw[ha]at h;simp only[Ze]at h;split at h
   ·rename_i y l K hd;simp only[no,ZC]at h;obtain⟨rfl,rfl⟩:=h;obtain⟨d1,d2,d3⟩:=rg (η:=η) _ hd;simp only[au,Z2]at d1;have hl:(au η ls).length=u.ty.sz:=by rw[d1];exact Ty.fill_length _ _ _
    refine⟨by simp only[Pa.off,TC.ty,Ty.sz];omega,λyo=>⟨(yo.1,aM _ (aT η l)),?_,λw c hH=>cC.pair (Sa:=λ_=>False) (Sb:=λg=>c g∈K) (λ_ h=>h.elim) (λ_ h=>h.elim) (λ_ h=>h) (cC.of_pure ha) (d3 w c hH)⟩⟩;have hfa:(a.ty.fill x.1 yo.1).length=a.ty.sz:=Ty.fill_length _ _ _;have hfu:(u.ty.fill x.2 yo.2).length=u.ty.sz:=Ty.fill_length _ _ _;show a.ty.fill x.1 yo.1++u.ty.fill y (aM u (aT η l))=(a.ty.fill x.1 yo.1++u.ty.fill x.2 yo.2).take (a.ty.sz+0)++au η ls++(a.ty.fill x.1 yo.1++u.ty.fill x.2 yo.2).drop (a.ty.sz+0+(au η ls).length);simp_all
   ·cases h
  |_=>simp[xg]at h
 |_=>simp[xg]at h
def FK(Θ:Tb)(ex:Option Bool)(t:TypeId)(h:Nat)(te:TC)(i:Int)(u:TC)(p:Pa te u)(v:AV)(s:PI te)(F:List AF)(k:Out->Option R):Option R:=match Θ t,fR s.e,v.lvs with
 | some inf,.row _ ε,some ls=>match j6 ls inf.sz with
  |some (_,[])=>gchk ex (i==s.m) (gbind ex te.dft (ae s.xs i) λx=>match xg p ε F ls x with
   | some (xn,Kn)=>bif Nat.ble 2 s.i && !(bQ s.i Kn)&&s.K.all (λq=>!(bQ q (s.i::Kn)))then
     k ⟨.lf (.v undef),[.pt te s.e s.i s.K (s.xs.set i.toNat xn) h (s.m+1),.rep te (s.i::s.K) (s.xs.set i.toNat xn) h],s.i::Kn⟩else none
   |none=>none)
  |_=>none
 |_,_,_=>none
theorem V6(hΘ:Θ.ok P){t:TypeId}{x y:Operand}{h:Nat}{te:TC}{i:Int}{u:TC}{p:Pa te u}{v:AV}{s:PI te}(hs:Bm te h F=some s)(ho:o.op=.store t x y)(h1:ev E x=some (.lf (.rp h te i u p)))(h2:ev E y=some v)(k:Out->Option R) :
  aq ex P o E F n (FK Θ ex t h te i u p v s F k) k:=by
 unfold FK;split
 ·rename_i inf e0 ε ls hi hei hl;split
  ·rename_i q hc;refine aq.gchk λhik=>aq.gbind λxo hxo=>?_
   split
   ·rename_i xn Kn hsp;refine aq.bif λhb=>aq.of λhx η ρ hE=>?_
    simp only[Y5,abc]at hb;obtain⟨⟨b1,b2⟩,b3⟩:=hb;have hik:=eq_of_beq (hik hx);obtain⟨i1,i2,i3⟩:=lZ (hxo hx);obtain⟨g1,g2,_,_⟩:=hΘ t inf hi;obtain⟨e2,l3⟩:=g9 hc;rw[Z2]at e2;subst e2;have l3:=l3 η;have hm:s.m=(i.toNat:Int):=by grind
    have hmem:=jW hs;rw[hm]at hmem;obtain⟨j,hj⟩:=lh hmem η;obtain⟨s1,s2⟩:=XK (η:=η) hsp;have hp:aJ ρ x=.pointer (some (dR (η.h h) (i.toNat*te.ty.sz+p.off))):=aH hE h1;have:=(O1 (L:=F.map (AF.ha η)) j hj hei ho g1 hp (aH hE h2) (v.lvs_cells hl η) (by simp[l3]) (Zy.2 (mB (AV.lvs_one hl))) s1 i2 s2 b1 b2 b3).map (Y' := { η':Vn//η.agr n η'}) (λ_=>⟨η,Vn.agr_refl n η⟩) (val':=λy=>(AV.lf (.v undef)).val y.1) (λ_=>rfl) (Φ':=λy=>[AF.pt te s.e s.i s.K (s.xs.set i.toNat xn) h (s.m+1),.rep te (s.i::s.K) (s.xs.set i.toNat xn) h].map (AF.ha y.1)) (λ_=>by grind[AF.ha]);exact this
   ·exact aq.none
  ·exact aq.none
 ·exact aq.none
theorem QW{w:World}{c:aS}{t:Ty}{e:TypeId}{i:Nat}{xs:List t.den}{v:Hd}{k:Nat}{cs:List Value}(h:HA.holds w c (.hol t e i xs v k cs)):v.n=xs.length/\∃g,v.a=some ⟨g,0,none⟩:=by
 obtain⟨d,e0,s,ys,he,hl,hk,hcs,⟨g,cap,cur,rfl,_⟩,h3⟩:=(show jf w (λb=>c b=i) t e xs v k cs from h)
 grind
theorem alP{w:World}{c:aS}{t:Ty}{e:TypeId}{i:Nat}{xs:List t.den}{v:Hd}{k:Nat}{cs:List Value}(h:HA.holds w c (.hol t e i xs v k cs))(sz:Nat):kQ v v sz 0 xs.length:=by obtain⟨h1,g,h2⟩:=QW h;exact⟨acH _,by omega,λ_=>⟨g,0,h2,by simp[dR,h2]⟩⟩
def TH(Θ:Tb)(ex:Option Bool)(t:TypeId)(h:Nat)(i:Int)(F:List AF)(k:Out->Option R)(alt:Option R):Option R:=match Θ t with
 | some ⟨.slice e,_,_,_,_⟩=>match Θ e with
  |some ie=>match m7 ie.tc h F with
   |some s=>bif Nat.beq ie.sz ie.tc.ty.sz then gchk ex (decide (0<=i/\i<(s.xs.length:Int)-0)) (k (bc (.lf (.rp h ie.tc (0+i) ie.tc .here))))else none
   |none=>alt
  |none=>alt
 |_=>alt
theorem acX(hΘ:Θ.ok P){t:TypeId}{x ix:Operand}{h:Nat}{ki:IntKind}{i:Int}(ho:o.op=.indexAddr t x ix)(h1:ev E x=some (.lf (.sl h)))(h2:ev E ix=some (fL ki i))(k:Out->Option R){alt:Option R}(halt:aq ex P o E F n alt k) :
  aq ex P o E F n (TH Θ ex t h i F k alt) k:=by
 unfold TH;split
 ·rename_i e _ _ _ _ ht;split
  ·rename_i ie he;split
   ·rename_i s hs;refine aq.bif λhsz=>aq.gchk λhb=>aq.of λhx=>(dc.pure λη ρ hE=>?_)
    have:=G5 (o:=o) (ρ:=ρ) (L:=F.map (AF.ha η)) (v:=η.h h) (u:=η.h h) (lo:=0) (hi:=s.xs.length) (λw c hH=>alP (yt hs hH) _) ho (hΘ t _ ht).2.1 (hΘ e ie he).1 (aH hE h1) (aH hE h2) (hb hx);simp only[AV.val,Lf.val,Pa.off,abj];simp_all
   ·exact halt
  ·exact halt
 ·exact halt
def RA(Θ:Tb)(t:TypeId)(h:Nat)(F:List AF)(k:Out->Option R)(alt:Option R):Option R:=match Θ t with
 | some ⟨.slice e,_,_,_,_⟩=>match Θ e with
  |some ie=>match m7 ie.tc h F with
   |some s=>k (bc (fL .i64 s.xs.length))
   |none=>alt
  |none=>alt
 |_=>alt
theorem ZV(hΘ:Θ.ok P){t:TypeId}{x:Operand}{h:Nat}(ho:o.op=.call { callee:=.builtin .len,args:=#[x],argTypes:=#[t]})(h1:ev E x=some (.lf (.sl h)))(k:Out->Option R){alt:Option R}(halt:aq ex P o E F n alt k) :
  aq ex P o E F n (RA Θ t h F k alt) k:=by
 unfold RA;split
 ·rename_i e _ _ _ _ ht;split
  ·rename_i ie he;split
   ·rename_i s hs;refine aq.of λhx=>(dc.pure λη ρ hE=>?_)
    intro ev w c hev hH;have:=Sg (P:=P) (ρ:=ρ) (L:=F.map (AF.ha η)) (h:=η.h h) ho (hΘ t _ ht).2.1 (aH hE h1) ev w c hev hH;rw[(QW (yt hs hH)).1]at this;exact this
   ·exact halt
  ·exact halt
 ·exact halt
def Vh(Θ:Tb)(ex:Option Bool)(n N:Nat)(t:TypeId)(v1 v2:AV)(F:List AF)(k:Out->Option R)(alt:Option R):Option R:=match Θ t with
 | some ⟨.slice e,_,_,_,_⟩=>match eM (X.tr e),Θ e,v1,v2 with
  |true,some ie,.lf l1,.lf l2=>match fy ie.tc (X.tr e) N F l1,fy ie.tc (X.tr e) (N+1) F l2,fR (X.tr e)with
   | some (ci,_,xs),some (cj,_,ys),.row e' _=>bif Nat.beq e' e&&Nat.beq ie.sz ie.tc.ty.sz&&Nat.ble 1 ie.sz&&Nat.beq (zsz ie.zl) ie.sz&&Nat.ble 2 ci&&Nat.ble 2 N&&Nat.blt e 1048576 && !(Nat.beq ci cj) && !(Nat.beq ci (N+2)) && !(Nat.beq cj (N+2))then
     gchk ex (aP xs.length ys.length ie.by_) (k ⟨.lf (.sl n),[.own ie.tc (X.tr e) ci [] (xs++ys) n],[ci,cj,N+2]⟩)else none
   |_,_,_=>alt
  |_,_,_,_=>alt
 |_=>alt
theorem ZG(hΘ:Θ.ok P){N:Nat}{t:TypeId}{x y:Operand}{v1 v2:AV}(ho:o.op=.call { callee:=.builtin .append,args:=#[x,y],argTypes:=#[t,t]})(h1:ev E x=some v1)(h2:ev E y=some v2)(k:Out->Option R){alt:Option R}(halt:aq ex P o E F n alt k) :
  aq ex P o E F n (Vh Θ ex n N t v1 v2 F k alt) k:=by
 unfold Vh;split
 ·rename_i e _ _ _ _ ht;split
  ·rename_i ie l1 l2 htr he;split
   ·rename_i ci K1 xs cj K2 ys e' s' hs1 hs2 hei;refine aq.bif λhc=>aq.gchk λhr=>aq.of λhx η ρ hE=>?_
    simp only[Y5]at hc;obtain⟨⟨⟨⟨⟨⟨⟨⟨⟨hee,hsz⟩,h0⟩,hzs⟩,hci⟩,hN⟩,hel⟩,hd⟩,hd1⟩,hd2⟩:=hc;obtain rfl:=f9 hee;rw[<-(hΘ _ ie he).zsz]at hzs;have e1:=aH hE h1;have e2:=aH hE h2;simp only[AV.val]at e1 e2;rw[nH hs1 η]at e1;rw[nH hs2 η]at e2;have hH':∀w c,aj w c (F.map (AF.ha η))->aj w c (.tr ie.tc.ty (X.tr e') ci K1 xs (l1.hd η)::.tr ie.tc.ty (X.tr e') cj K2 ys (l2.hd η)::F.map (AF.ha η)):=λw c hH=>by have q1:=eC hs1 hH;have q2:=eC hs2 hH;grind[gZ,aj.cons]
    have:=(OE (o:=o) (ρ:=ρ) (L:=.tr ie.tc.ty (X.tr e') ci K1 xs (l1.hd η)::.tr ie.tc.ty (X.tr e') cj K2 ys (l2.hd η)::F.map (AF.ha η)) (N:=N+2) 0 1 rfl rfl hei ho (hΘ t _ ht).2.1 (hΘ e' ie he).1 (f9 hsz) hzs h0 e1 e2 (hr hx) hci (aah (by omega)) (sp hd) (sp hd1) (sp hd2) hel).from hH';refine this.map (λhh=>⟨η.setH n hh,η.setH_agr n hh⟩) (λhh=>?_) λhh=>?_
    ·simp[AV.val,Lf.val,Vn.setH_at]
    ·simp[AF.ha,Vn.setH_at,gZ htr]
   ·exact halt
  ·exact halt
 ·exact halt
def EQ(Θ:Tb)(E:SE)(ex:Option Bool)(n:Nat)(t:TypeId)(l:Lf)(lo hi:Option Operand)(F:List AF)(k:Out->Option R)(alt:Option R):Option R:=match Θ t,lo,hi with
 | some ⟨.slice e,_,_,_,_⟩,none,some h=>match eM (X.tr e),Θ e with
  |true,some ie=>match fy ie.tc (X.tr e) 0 F l,ev E h with
   |some (ci,K,xs),some (.lf (.c (.int _) j))=>bif Nat.beq ie.sz ie.tc.ty.sz&&Nat.ble 2 ci then gchk ex (decide (0<=j/\j<=xs.length)) (k ⟨.lf (.sl n),[.own ie.tc (X.tr e) ci K (xs.take j.toNat) n],[]⟩)else none
   |_,_=>alt
  |_,_=>alt
 |_,_,_=>alt
theorem Us(hΘ:Θ.ok P){t:TypeId}{x:Operand}{l:Lf}{lo hi:Option Operand}(ho:o.op=.slice t x lo hi none)(h1:ev E x=some (.lf l))(k:Out->Option R){alt:Option R}(halt:aq ex P o E F n alt k):aq ex P o E F n (EQ Θ E ex n t l lo hi F k alt) k:=by
 unfold EQ;split
 ·rename_i e _ _ _ _ h ht;split
  ·rename_i ie htr he;split
   ·rename_i ci K xs kk j hs hj;refine aq.bif λhce=>aq.gchk λhb=>aq.of λhx η ρ hE=>?_
    simp only[Y5]at hce;have h2:=aH hE h1;simp only[AV.val]at h2;rw[nH hs η]at h2;have:=(OO (o:=o) (ρ:=ρ) (L:=.tr ie.tc.ty (X.tr e) ci K xs (l.hd η)::F.map (AF.ha η)) 0 rfl ho (hΘ t _ ht).2.1 (hΘ e ie he).1 (f9 hce.1) h2 (aH hE hj) (hb hx)).from (λw c hH=>aj.cons (by have:=eC hs hH;rwa [gZ htr]at this) hH);refine this.map (λ_=>⟨η.setH n ((l.hd η).cut 0 j.toNat ie.sz),η.setH_agr n _⟩) (λ_=>?_) λ_=>?_
    ·simp[AV.val,Lf.val,Vn.setH_at]
    ·simp[AF.ha,Vn.setH_at,gZ htr]
   ·exact halt
  ·exact halt
 ·exact halt
def E3(Θ:Tb)(E:SE)(n N:Nat)(t:TypeId)(m:Nat)(ps:Array (Nat×Operand))(F:List AF)(k:Out->Option R)(alt:Option R):Option R:=match Θ t with
 | some ⟨.slice e,_,_,_,_⟩=>match eM (X.tr e)&&Nat.ble 1 m,Θ e,uE E ps.toList,fR (X.tr e)with
  | true,some ie,some vals,.row e' s=>match xO (λi=>some (i*ie.sz,ie.sz)) (ER ie.zl m) vals with
   |some ls=>match BF F ie.tc s m ls,j6 ie.zl ie.sz with
    |some (xs,_,K),some (_,[])=>bif Nat.beq e' e&&Nat.beq ie.sz ie.tc.ty.sz&&Nat.ble 2 N&&Nat.ble (m*ie.sz) 16777216&&Nat.ble 1 ie.sz&&Nat.ble 1 m&&Nat.blt e 1048576 && !(bQ N K)then k ⟨.lf (.sl n),[.own ie.tc (X.tr e) N [] xs n],K⟩else none
    |_,_=>alt
   |none=>alt
  |_,_,_,_=>alt
 |_=>alt
theorem Rw{η:Vn}{ls:List Lf}{t:TC}{xs:List t.den}{ys:List t.ty.Refs}(h:au η ls=cellsOf t.ty xs ys):oW (au η ls):=by rw[h];exact iz t.ty
theorem UB(hΘ:Θ.ok P){N:Nat}{t:TypeId}{m:Nat}{ps:Array (Nat×Operand)}(ho:o.op=.buildSlice t m ps)(k:Out->Option R){alt:Option R}(halt:aq ex P o E F n alt k):aq ex P o E F n (E3 Θ E n N t m ps F k alt) k:=by
 unfold E3;split
 ·rename_i e _ _ _ _ ht;have ht':P.underlying t=some (.slice e):=(hΘ t _ ht).2.1;split
  ·rename_i ie vals e' s htr0 he hp hei;have htr:=(Y5 _ _▸htr0:eM (X.tr e)=true/\Nat.ble 1 m=true).1;split
   ·rename_i ls hls;split
    ·rename_i xs ll K q hd hcut;refine aq.bif λhc=>aq.of λhx η ρ hE=>?_
     simp only[Y5]at hc;obtain⟨⟨⟨⟨⟨⟨⟨hee,hsz⟩,hN⟩,hsm⟩,h1⟩,hm1⟩,hel⟩,hnk⟩:=hc;obtain rfl:=f9 hee;obtain⟨g1,_,g3,g4⟩:=hΘ e' ie he;obtain⟨e2,l3⟩:=g9 hcut;rw[Z2]at e2;subst e2;have l3:=l3 η;obtain⟨d1,d2,d3,d4⟩:=Oa (η:=η) hd;have hpos:=Zh h1;have hm:=Zh hm1;have hszz:=f9 hsz;have hfill:=xQ (η:=η) hls;rw[xP,l3]at hfill;have hzc:ie.zv.cells.toList=au η ie.zl:=by grind
     have hlen:(au η ls).length=m*ie.tc.ty.sz:=by rw[d3,cE _ (by simp[d1,d2]),d1]
     obtain⟨rows,r1,r2⟩:=yr ie.tc.ty.sz m (au η ls) (Rw d3) hlen;have hraw:cJ P ρ o (F.map (AF.ha η)) [] Hd.val (λh=>[.own (gN ie.tc.ty.sz) e' N [] rows h]):=by
      refine y7 (cells:=au η ls) (ty:=gN ie.tc.ty.sz) (K:=[]) (xs:=rows) (ys:=List.replicate m ()) ho ht' g1 hszz hsm ?_ (pF hE hp) ?_ (by simp[r1]) (by simp) r2 ?_ hN
      ·refine aah ?_;have:1*1<=m*ie.sz:=Nat.mul_le_mul hm hpos;omega
      ·grind
      ·have gen:∀(a:List (List V1)) (b:List Unit),nR (F.map (AF.ha η)) (uQ (gN ie.tc.ty.sz) [] a b):=by
        intro a;induction a with
        |nil=>intro b;cases b<;>trivial
        |cons x a ih=>
         intro b;cases b with
         |nil=>trivial
         |cons y b=>exact ih b
       exact gen _ _
     have htree:=cJ.tree (K:=[]) (e:=X.tr e') (xs:=xs) (ys:=ll.map λl=>aM ie.tc (aT η l)) hraw hei hel hN (by simp[d1,d2]) (by rw[r1,d1]) (by grind) (λw c hH=>d4 w c hH) (sp hnk);refine htree.map (λhh=>⟨η.setH n hh,η.setH_agr n hh⟩) (λhh=>?_) λhh=>?_
     ·simp[AV.val,Lf.val,Vn.setH_at]
     ·simp[AF.ha,Vn.setH_at,gZ htr]
    ·exact halt
   ·exact halt
  ·exact halt
 ·exact halt
def Lr(Θ:Tb)(ex:Option Bool)(n N:Nat)(t:TypeId)(x y:Operand)(v1 v2:AV)(k:Out->Option R)(alt:Option R):Option R:=match Θ t,v1,v2 with
 |some ⟨.slice e,_,_,_,_⟩,.lf (.c (.int _) a),.lf (.c (.int _) _)=>match eM (X.tr e),Θ e,fR (X.tr e)with
  |true,some ⟨_,sz,by_,[.nl],.slice tt⟩,.row e' _=>bif Nat.beq e' e&&Nat.beq sz 1&&Nat.ble 2 N&&DB x y&&Nat.blt e 1048576 then
      gchk ex (decide (0<=a/\a*by_<=281474976710656/\a<=maxLen)) (k ⟨.lf (.sl n),[.own (.slice tt) (X.tr e) N [] (List.replicate a.toNat ([]:List tt.den)) n],[]⟩)else none
  |_,_,_=>alt
 |_,_,_=>alt
theorem Yu(hΘ:Θ.ok P){N:Nat}{t:TypeId}{x y:Operand}{v1 v2:AV}(ho:o.op=.makeSlice t x y)(h1:ev E x=some v1)(h2:ev E y=some v2)(k:Out->Option R){alt:Option R}(halt:aq ex P o E F n alt k):aq ex P o E F n (Lr Θ ex n N t x y v1 v2 k alt) k:=by
 unfold Lr;split
 ·rename_i e _ _ _ _ k1 a k2 b ht;split
  ·rename_i dd sz by_ tt e' s htr he hei;refine aq.bif λhc=>aq.gchk λhb=>aq.of λhx η ρ hE=>?_
   simp only[Y5]at hc;obtain⟨⟨⟨⟨hee,hsz⟩,hN⟩,hso⟩,hel⟩:=hc;obtain rfl:=f9 hee;obtain rfl:=f9 hsz;have e1:=aH hE h1;have e2:=aH hE h2;simp only[AV.val,Lf.val]at e1 e2;have hab:b=a:=by
    unfold DB at hso;split at hso
    ·simp_all
    ·simp only[aJ,Value.int.injEq]at e1 e2;grind
    ·cases hso
   subst hab;obtain⟨g1,_,g3,g4⟩:=hΘ e' _ he;let v0:V1:=⟨eJ.val,rfl⟩
   have hraw:cJ P ρ o (F.map (AF.ha η)) [] Hd.val (λh=>[.own (gN 1) e' N [] (List.replicate b.toNat [v0]) h]):=by refine AD (ty:=gN 1) (K:=[]) (v:=[v0]) (r:=()) ho (hΘ t _ ht).2.1 g1 rfl ?_ trivial e1 e2 (hb hx) hN;rw[g3,<-g4 η];rfl
   have hcells:∀m:Nat,cellsOf (gN 1) (List.replicate m [v0]) (List.replicate m ())=cellsOf (Ty.slice tt.ty) (List.replicate m ([]:List tt.den)) (List.replicate m eJ):=by
    intro m;induction m with
    |zero=>rfl
    |succ m ih=>
     simp only[adF,cellsOf,ih];rfl
   have htree:=cJ.tree (K:=[]) (Kn:=[]) (ty:=Ty.slice tt.ty) (e:=X.tr e') (xs:=List.replicate b.toNat ([]:List tt.den)) (ys:=List.replicate b.toNat eJ) hraw hei hel hN (by simp) (by simp) (by grind) (λw c hH=>⟨λ_=>[],λj x y hx hy=>by
    rw[List.getElem?_replicate]at hx hy;split at hx
    ·rename_i hlt;rw[if_pos hlt]at hy;cases hx;cases hy;exact .inl ⟨rfl,rfl⟩
    ·cases hx⟩) rfl
   refine htree.map (λhh=>⟨η.setH n hh,η.setH_agr n hh⟩) (λhh=>?_) λhh=>?_
   ·simp[AV.val,Lf.val,Vn.setH_at]
   ·simp[AF.ha,Vn.setH_at,gZ htr]
  ·exact halt
 ·exact halt
end
end
end Go.Sm
