/- Laws for the row. No condition. -/
import Derived.Test.YtgghcmbaidihjaaGreatDoorRfG
namespace Go.Sm
set_option linter.unusedSectionVars false
variable {t e:TypeId} {x y:Operand} {h N:Nat} {w:World} {i:Int}
section
variable [X:XTab] [G:GTab] [Yc:GCx]
def EI.eqb:EI->EI->Bool
 |.leaf,.leaf=>true
 |.pair a b,.pair c d=>a.eqb c&&b.eqb d
 |.row e s,.row f g=>Nat.beq e f&&s.eqb g
 |_,_=>false
theorem EI.eqb_eq:∀{a b:EI},a.eqb b=true->a=b
 |.leaf,.leaf,_=>rfl
 |.pair a b,.pair c d,h=>by simp only[EI.eqb,abF]at h;rw[EI.eqb_eq h.1,EI.eqb_eq h.2]
 |.row e s,.row f g,h=>by simp only[EI.eqb,abF]at h;rw[f9 h.1,EI.eqb_eq h.2]
 |.leaf,.pair _ _,h=>by cases h
 |.leaf,.row _ _,h=>by cases h
 |.pair _ _,.leaf,h=>by cases h
 |.pair _ _,.row _ _,h=>by cases h
 |.row _ _,.leaf,h=>by cases h
 |.row _ _,.pair _ _,h=>by cases h
def Jr(t:TC)(e:TypeId)(a:EI):Bool:=bif fk e then(gq e).eqb a else Nat.blt e 1048576&&t.ty.pureB&&(match a with|.row b _=>Nat.beq e b|_=>false)
theorem asF{t:TC}{f:EI}(h:Jr t e f=true){c:aS}{i:Nat}{K:List Nat}{xs:List t.den}{v:Hd}(d:HA.holds w c (ep t.ty e i K xs v)):cJ w (λb=>c b=i) (.slice t.ty) f xs v:=by
 unfold Jr at h;cases a:fk e
 ·grind[dK,Nat.eq_of_beq_eq_true,cJ.of_plain]
 ·rw[a]at h;rw[iT a]at d;simp only[abv]at h;rw[<-EI.eqb_eq h];exact d
def mK(F:List AF):(t:TC)->EI->List Lf->Option (t.den×List Lf×List Nat×List Lf)
 | .pair a b,c,r=>match mK F a c.fst r with
  |some (x,f,d,r1)=>match mK F b c.snd r1 with
   |some (y,g,K2,j)=>bif d.all (λk=>!(bU k K2))then some ((x,y),f++g,d++K2,j)else none
   |none=>none
  |none=>none
 |.slice t,c,.sl h::r=>match lu t h F with
  |some ⟨some (e,i),_,xs⟩=>bif Jr t e c then some (xs,[.sl h],[i],r)else none
  |_=>none
 |.slice _,_,.nl::r=>some ([],[.nl],[],r)
 |.st t,c,r=>mK F t c r
 |.sc s,_,r=>bV F (.sc s) r
 |.arr n s,_,r=>bV F (.arr n s) r
 |.unit,_,r=>bV F .unit r
 |.ext n,_,r=>bV F (.ext n) r
 |_,_,_=>none
theorem cJ.mono{S S':Nat->Prop}{t:Ty}{a:EI}{x:t.den}{y:t.Refs}(c:∀b,S b->S' b)(h:cJ w S t a x y):cJ w S' t a x y:=h.keep (jb.of c)
theorem tZ{F:List AF}{η:Vn}:∀(t:TC) {d:EI} {ls:List Lf} {x:t.den} {l:List Lf} {K:List Nat} {r:List Lf},mK F t d ls=some (x,l,K,r) ->
  aw η ls=t.ty.fill x (aO t (aT η l))++aw η r/\l.length=t.nh/\∀(w:World) (c:aS),ao w c (F.map (AF.ha η))->cJ w (λb=>c b∈K) t.ty d x (aO t (aT η l))
 |.sc s,d,ls,x,l,K,r,h=>by simp only[mK]at h;exact⟨(dO (.sc s) h).1,eL (.sc s) h,λ_ _ _=>cJ.of_pure rfl⟩
 |.arr n s,d,ls,x,l,K,r,h=>by simp only[mK]at h;exact⟨(dO (.arr n s) h).1,eL (.arr n s) h,λ_ _ _=>cJ.of_pure rfl⟩
 |.unit,d,ls,x,l,K,r,h=>by simp only[mK]at h;exact⟨(dO .unit h).1,eL .unit h,λ_ _ _=>cJ.of_pure rfl⟩
 |.ext n,d,ls,x,l,K,r,h=>by simp only[mK]at h;exact⟨(dO (.ext n) h).1,eL (.ext n) h,λ_ _ _=>cJ.of_pure rfl⟩
 |.st t,d,ls,x,l,K,r,h=>tZ t h
 |.node,d,ls,x,l,K,r,h=>by simp[mK]at h
 |.mp _ _,d,ls,x,l,K,r,h=>by simp[mK]at h
 | .pair a b,d,ls,x,l,K,r,h=>by
  simp only[mK]at h;split at h
  ·rename_i T j q r1 u;split at h
   ·rename_i U p K2 S v;cases hd:q.all (λk=>!(bU k K2))
    ·grind
    rw[hd]at h;simp only[abv,no,acW]at h;obtain⟨rfl,rfl,rfl,rfl⟩:=h;obtain⟨H,n1,L⟩:=tZ (η:=η) a u;obtain⟨c2,C,M⟩:=tZ (η:=η) b v;have Q:(aT η j).length=a.nh:=by simp[aT,n1]
    have I:aO a (aT η (j++p))=aO a (aT η j):=by grind[aT,dZ]
    have J:aO b ((aT η (j++p)).drop a.nh)=aO b (aT η p):=by grind[aT]
    refine⟨?_,by simp[TC.nh,n1,C],λw c m=>?_⟩
    ·simp only[aO,Ty.fill];grind
    ·refine cJ.pair (Sa:=λb=>c b∈q) (Sb:=λb=>c b∈K2) (λg f A=>?_) (λg f=>ad2 _ f) (λg f=>adF _ f) ?_ ?_
     ·grind[List.all_eq_true,mem_iff]
     ·simp only[aO];grind
     ·simp only[aO];grind
   ·cases h
  ·cases h
 | .slice t,d,ls,x,l,K,r,h=>by
  cases ls with
  |nil=>simp[mK]at h
  | cons a ls=>
   cases a with
   | sl O=>
    simp only[mK]at h;split at h
    ·rename_i e i D xs hs;cases f:Jr t e d
     ·grind
     rw[f]at h;simp only[abv,no,acW]at h;obtain⟨rfl,rfl,rfl,rfl⟩:=h;refine⟨rfl,rfl,λw c m=>?_⟩;have B:=m _ (acG.2 ⟨_,f5 hs,rfl⟩);exact(asF f B).mono λb (z:c b=i)=>by simp[z]
    ·cases h
   |nl=>
    simp only[mK,no,acW]at h;obtain⟨rfl,rfl,rfl,rfl⟩:=h;exact⟨rfl,rfl,λw c m=>cJ.nil⟩
   |_=>simp[mK]at h
def Dy(F:List AF)(t:TC)(a:EI):Nat->List Lf->Option (List t.den×List (List Lf)×List Nat)
 |0,[]=>some ([],[],[])
 |0,_::_=>none
 | m+1,ls=>match mK F t a ls with
  |some (x,l,K,r)=>match Dy F t a m r with
   |some (xs,b,K2)=>bif K.all (λk=>!(bU k K2))then some (x::xs,l::b,K++K2)else none
   |none=>none
  |none=>none
theorem P4{F:List AF}{t:TC}{p:EI}{η:Vn}:∀{m:Nat} {ls:List Lf} {xs:List t.den} {a:List (List Lf)} {K:List Nat},Dy F t p m ls=some (xs,a,K) ->
  xs.length=m/\a.length=m/\aw η ls=cellsOf t.ty xs (a.map λl=>aO t (aT η l)) /\
  ∀(w:World) (c:aS),ao w c (F.map (AF.ha η))->jB w (λb=>c b∈K) t.ty p xs (a.map λl=>aO t (aT η l))
 |0,[],xs,a,K,h=>by simp only[Dy,no,acW]at h;obtain⟨rfl,rfl,rfl⟩:=h;exact⟨rfl,rfl,rfl,λ_ _ _=>jB.nil⟩
 |0,_::_,xs,a,K,h=>by simp[Dy]at h
 | m+1,ls,xs,a,K,h=>by
  simp only[Dy]at h;split at h
  ·rename_i x l f r A;split at h
   ·rename_i H D K2 B;cases hd:f.all (λk=>!(bU k K2))
    ·grind
    rw[hd]at h;simp only[abv,no,acW]at h;obtain⟨rfl,rfl,rfl⟩:=h;obtain⟨q,_,v⟩:=tZ (η:=η) t A;obtain⟨s,u,c2,z⟩:=P4 (η:=η) B;refine⟨by simp[s],by simp[u],?_,λw c j=>?_⟩
    ·simp only[aev,cellsOf];rw[q,c2]
    ·have:=jB.append (S:=λb=>c b∈f++K2) (S1:=λb=>c b∈f) (S2:=λb=>c b∈K2) (xs:=[x]) (ys:=[aO t (aT η l)]) rfl (λg d C=>by
      grind[List.all_eq_true,mem_iff]) (λg d=>ad2 _ d) (λg d=>adF _ d) (jB.one (v w c j)) (z w c j)
     exact this
   ·cases h
  ·cases h
structure HI(t:TC) where
 e:TypeId
 i:Nat
 xs:List t.den
 k:Int
 cs:List Lf
def pn(t:TC)(h:Nat):List AF->Option (HI t)
 |[]=>none
 |.hol b e i xs h' k cs::r=>bif Nat.beq h h' then(if a:b=t then some ⟨e,i,FM a xs,k,cs⟩else none)else pn t h r
 |_::r=>pn t h r
theorem i8{t:TC}{h:Nat}:∀{F:List AF} {s:HI t},pn t h F=some s->.hol t s.e s.i s.xs h s.k s.cs∈F
 |[],s,hs=>by simp[pn]at hs
 | .hol c e i xs h' k cs::r,s,hs=>by
  simp only[pn]at hs;cases a:Nat.beq h h'
  ·rw[a]at hs;exact abJ _ (i8 hs)
  ·rw[a]at hs;simp only[abv]at hs;split at hs
   ·rename_i b;subst b;simp only[no]at hs;subst hs;rw[f9 a];exact adT
   ·cases hs
 |.own _ _ _ _ _ _::r,s,hs=>abJ _ (i8 (F:=r) hs)
 |.rep _ _ _ _::r,s,hs=>abJ _ (i8 (F:=r) hs)
 |.box _ _ _::r,s,hs=>abJ _ (i8 (F:=r) hs)
 |.isn _ _::r,s,hs=>abJ _ (i8 (F:=r) hs)
 |.ag _::r,s,hs=>abJ _ (i8 (F:=r) hs)
 |.prt _ _ _ _ _::r,s,hs=>abJ _ (i8 (F:=r) hs)
 |.pbx _ _ _ _ _::r,s,hs=>abJ _ (i8 (F:=r) hs)
 |.mp _ _ _ _ _::r,s,hs=>abJ _ (i8 (F:=r) hs)
 |.pt _ _ _ _ _ _ _::r,s,hs=>abJ _ (i8 (F:=r) hs)
theorem At{t:TC}{F:List AF}{s:HI t}(hs:pn t h F=some s){η:Vn}{c:aS}(a:ao w c (F.map (AF.ha η))):HA.holds w c (.hol t.ty s.e s.i s.xs (η.h h) s.k.toNat (aw η s.cs)):=
 a _ (acG.2 ⟨_,i8 hs,rfl⟩)
section
variable {R:Type} {P:Program} {o:Oper} {E:SE} {F:List AF} {n:Nat} {Θ:Tb} {ex:Option Bool}
def SV(Θ:Tb)(ex:Option Bool)(t:TypeId)(te:TC)(i:Int)(u:TC)(p:Pa te u)(s:HI te)(k:Out->Option R):Option R:=match Θ t,p.needs with
 | some a,none=>match cut p.off a.sz s.cs with
  |some (_,m,_)=>match Ja a.d.agg m with
   |some v=>gchk ex (i==s.k) (k (be v))
   |none=>none
  |none=>none
 |_,_=>none
theorem abH(A:Θ.ok P){te:TC}{u:TC}{p:Pa te u}{s:HI te}(hs:pn te h F=some s)(C:o.op=.load t x)(L:ev E x=some (.lf (.rp h te i u p)))(k:Out->Option R) :
  aq ex P o E F n (SV Θ ex t te i u p s k) k:=by
 unfold SV;split
 ·rename_i d hi _;split
  ·rename_i a m r Q;split
   ·rename_i v q;refine aq.gchk λf=>aq.of λS=>(dl.pure λc ρ O=>?_)
    have f:=eq_of_beq (f S);obtain⟨J,K,_,_⟩:=A t d hi;obtain⟨U,H,hd⟩:=nq K;obtain⟨j,B⟩:=mN (i8 hs) c;obtain⟨e,hl⟩:=zS Q;obtain⟨T,I⟩:=hl c;have D:aL ρ x=.pointer (some (di (c.h h) (s.k.toNat*te.ty.sz+p.off))):=by rw[<-f];exact aK O L
    have b:((aw c s.cs).drop p.off).take d.sz=aw c m:=by
     rw[e,ba,ba,aeh,afr,afc (by omega),show p.off-(aw c a).length=0 by omega,agY,ae4,af4,aeQ (by omega),
      show d.sz-(aw c m).length=0 by omega,ahj,ad0]
    cases g:d.d.agg
    ·rw[g]at q hd;obtain⟨l,rfl,rfl,z⟩:=Dv q c;refine WL j B C H hd D ?_;have M:aw c [l]=[(AV.lf l).val c]:=by simp[aw,z]
     rw[M]at b I;have:=aei (·[0]?) b;grind
    ·rw[g]at q hd;rw[DB q c];refine Tx j B C H hd J D b (by simp[I]) ?_;rw[e,ba,ba];grind
   ·exact aq.none
  ·exact aq.none
 ·exact aq.none
def Ix(Θ:Tb)(ex:Option Bool)(t:TypeId)(h:Nat)(te:TC)(i:Int)(u:TC)(p:Pa te u)(v:AV)(s:HI te)(k:Out->Option R):Option R:=match Θ t,p.needs,v.lvs with
 |some b,none,some ls=>match cut p.off b.sz s.cs,lj ls b.sz with
  |some (a,_,r),some (_,[])=>gchk ex (i==s.k) (k ⟨.lf (.v undef),[.hol te s.e s.i s.xs h s.k (a++ls++r)],[s.i]⟩)
  |_,_=>none
 |_,_,_=>none
theorem Wg(g:Θ.ok P){te:TC}{u:TC}{p:Pa te u}{v:AV}{s:HI te}(hs:pn te h F=some s)(K:o.op=.store t x y)(D:ev E x=some (.lf (.rp h te i u p)))(H:ev E y=some v)(k:Out->Option R) :
  aq ex P o E F n (Ix Θ ex t h te i u p v s k) k:=by
 unfold Ix;split
 ·rename_i l ls hi _ hl;split
  ·rename_i a m r q I f;refine aq.gchk λc=>aq.of λM b ρ B=>?_
   have c:=eq_of_beq (c M);obtain⟨C,O,_,_⟩:=g t l hi;obtain⟨j,J⟩:=mN (i8 hs) b;obtain⟨e,d⟩:=zS I;obtain⟨Q,S⟩:=d b;obtain⟨A,z⟩:=hU f;rw[ad0]at A;subst A;have z:=z b;have L:aL ρ x=.pointer (some (di (b.h h) (s.k.toNat*te.ty.sz+p.off))):=by rw[<-c];exact aK B D
   refine(QS (cs':=aw b (a++ls++r)) j J K C L (aK B H) (v.lvs_cells hl b) (by simp[z]) (acr.2 (oh (AV.lvs_one hl))) ?_ ?_).map (λ_=>⟨b,Vn.agr_refl n b⟩) (λ_=>rfl) (λ_=>rfl)
   ·rw[e,ba,ba];simp_all
   ·rw[e,ba,ba,ba,ba];congr 1
    ·grind
    grind[aw,List.append_assoc,List.drop_append,List.drop_eq_nil_of_le]
  ·exact aq.none
 ·exact aq.none
def zJ{te u:TC}(p:Pa te u)(b:EI)(F:List AF)(ls:List Lf)(x:te.den):Option (te.den×List Nat):=match te,u,p,x with
 |te,_,.here,_=>match mK F te b ls with
  |some (y,_,K,[])=>some (y,K)
  |_=>none
 | .pair a u,_,.snd q,x=>match u,q,x with
  |u,.here,x=>bif a.ty.pureB then(match mK F u b.snd ls with
   |some (y,_,K,[])=>some ((x.1,y),K)
   |_=>none)else none
  |_,_,_=>none
 |_,_,_,_=>none
theorem acF{F:List AF}{η:Vn}{te u:TC}{p:Pa te u}{m:EI}{ls:List Lf}{x xn:te.den}{Kn:List Nat}(h:zJ p m F ls x=some (xn,Kn)):p.off+(aw η ls).length<=te.ty.sz /\
  ∀d:te.ty.Refs,∃k:te.ty.Refs,te.ty.fill xn k=(te.ty.fill x d).take p.off++aw η ls++(te.ty.fill x d).drop (p.off+(aw η ls).length)/\∀w c,ao w c (F.map (AF.ha η))->cJ w (λb=>c b∈Kn) te.ty m xn k:=by
 cases p with
 |here=>
  simp only[zJ]at h;split at h
  ·rename_i y l K hd;simp only[no,acW]at h;obtain⟨rfl,rfl⟩:=h;obtain⟨f,r,j⟩:=tZ (η:=η) _ hd;grind[aw,Pa.off,Ty.fill_length,List.drop_eq_nil_of_le]
  ·cases h
 | @snd a b u q=>
  cases q with
  | here=>
   simp only[zJ]at h;cases ha:a.ty.pureB
   ·grind
   rw[ha]at h;simp only[abv]at h;split at h
   ·rename_i y l K hd;simp only[no,acW]at h;obtain⟨rfl,rfl⟩:=h;obtain⟨f,r,j⟩:=tZ (η:=η) _ hd;simp only[aw,ad0]at f;have hl:(aw η ls).length=u.ty.sz:=by rw[f];exact Ty.fill_length _ _ _
    refine⟨by simp only[Pa.off,TC.ty,Ty.sz];omega,λd=>⟨(d.1,aO _ (aT η l)),?_,λw c s=>cJ.pair (Sa:=λ_=>False) (Sb:=λg=>c g∈K) (λ_ h=>h.elim) (λ_ h=>h.elim) (λ_ h=>h) (cJ.of_pure ha) (j w c s)⟩⟩;have v:(a.ty.fill x.1 d.1).length=a.ty.sz:=Ty.fill_length _ _ _;have z:(u.ty.fill x.2 d.2).length=u.ty.sz:=Ty.fill_length _ _ _;show a.ty.fill x.1 d.1++u.ty.fill y (aO u (aT η l))=(a.ty.fill x.1 d.1++u.ty.fill x.2 d.2).take (a.ty.sz+0)++aw η ls++(a.ty.fill x.1 d.1++u.ty.fill x.2 d.2).drop (a.ty.sz+0+(aw η ls).length);simp_all
   ·cases h
  |_=>simp[zJ]at h
 |_=>simp[zJ]at h
def HU(Θ:Tb)(ex:Option Bool)(t:TypeId)(h:Nat)(te:TC)(i:Int)(u:TC)(p:Pa te u)(v:AV)(s:PI te)(F:List AF)(k:Out->Option R):Option R:=match Θ t,gq s.e,v.lvs with
 | some a,.row _ b,some ls=>match lj ls a.sz with
  |some (_,[])=>gchk ex (i==s.m) (gbind ex te.dft (ae s.xs i) λx=>match zJ p b F ls x with
   | some (xn,Kn)=>bif Nat.ble 2 s.i && !(bU s.i Kn)&&s.K.all (λq=>!(bU q (s.i::Kn)))then
     k ⟨.lf (.v undef),[.pt te s.e s.i s.K (s.xs.set i.toNat xn) h (s.m+1),.rep te (s.i::s.K) (s.xs.set i.toNat xn) h],s.i::Kn⟩else none
   |none=>none)
  |_=>none
 |_,_,_=>none
theorem aaJ(g:Θ.ok P){te:TC}{u:TC}{p:Pa te u}{v:AV}{s:PI te}(hs:Dh te h F=some s)(S:o.op=.store t x y)(J:ev E x=some (.lf (.rp h te i u p)))(K:ev E y=some v)(k:Out->Option R) :
  aq ex P o E F n (HU Θ ex t h te i u p v s F k) k:=by
 unfold HU;split
 ·rename_i l Y ε ls hi c hl;split
  ·rename_i q M;refine aq.gchk λb=>aq.gbind λxo f=>?_
   split
   ·rename_i xn Kn d;refine aq.bif λA=>aq.of λB η ρ z=>?_
    simp only[abF,afm]at A;obtain⟨⟨C,D⟩,H⟩:=A;have b:=eq_of_beq (b B);obtain⟨i1,U,i3⟩:=kK (f B);obtain⟨I,Z,_,_⟩:=g t l hi;obtain⟨r,m⟩:=hU M;rw[ad0]at r;subst r;have m:=m η;have Q:s.m=(i.toNat:Int):=by grind
    have a:=lI hs;rw[Q]at a;obtain⟨j,O⟩:=mN a η;obtain⟨V,W⟩:=acF (η:=η) d;have T:aL ρ x=.pointer (some (di (η.h h) (i.toNat*te.ty.sz+p.off))):=aK z J;have:=(Tf (L:=F.map (AF.ha η)) j O c S I T (aK z K) (v.lvs_cells hl η) (by simp[m]) (acr.2 (oh (AV.lvs_one hl))) V U W C D H).map (Y' := { η':Vn//η.agr n η'}) (λ_=>⟨η,Vn.agr_refl n η⟩) (val':=λy=>(AV.lf (.v undef)).val y.1) (λ_=>rfl) (Φ':=λy=>[AF.pt te s.e s.i s.K (s.xs.set i.toNat xn) h (s.m+1),.rep te (s.i::s.K) (s.xs.set i.toNat xn) h].map (AF.ha y.1)) (λ_=>by grind[AF.ha]);exact this
   ·exact aq.none
  ·exact aq.none
 ·exact aq.none
theorem VU{c:aS}{t:Ty}{i:Nat}{xs:List t.den}{v:Hd}{k:Nat}{cs:List Value}(h:HA.holds w c (.hol t e i xs v k cs)):v.n=xs.length/\∃g,v.a=some ⟨g,0,none⟩:=by
 obtain⟨d,j,s,ys,m,hl,p,f,⟨g,cap,a,rfl,_⟩,l⟩:=(show ka w (λb=>c b=i) t e xs v k cs from h)
 grind
theorem arq{c:aS}{t:Ty}{i:Nat}{xs:List t.den}{v:Hd}{k:Nat}{cs:List Value}(h:HA.holds w c (.hol t e i xs v k cs))(sz:Nat):lm v v sz 0 xs.length:=by obtain⟨b,g,a⟩:=VU h;exact⟨af3 _,by omega,λ_=>⟨g,0,a,by simp[di,a]⟩⟩
def Zb(Θ:Tb)(ex:Option Bool)(t:TypeId)(h:Nat)(i:Int)(F:List AF)(k:Out->Option R)(alt:Option R):Option R:=match Θ t with
 | some ⟨.slice e,_,_,_,_⟩=>match Θ e with
  |some a=>match pn a.tc h F with
   |some s=>bif Nat.beq a.sz a.tc.ty.sz then gchk ex (decide (0<=i/\i<(s.xs.length:Int)-0)) (k (be (.lf (.rp h a.tc (0+i) a.tc .here))))else none
   |none=>alt
  |none=>alt
 |_=>alt
theorem ajp(a:Θ.ok P){f:Operand}{C:IntKind}(q:o.op=.indexAddr t x f)(g:ev E x=some (.lf (.sl h)))(j:ev E f=some (fP C i))(k:Out->Option R){alt:Option R}(halt:aq ex P o E F n alt k) :
  aq ex P o E F n (Zb Θ ex t h i F k alt) k:=by
 unfold Zb;split
 ·rename_i e _ _ _ _ z;split
  ·rename_i B p;split
   ·rename_i s hs;refine aq.bif λr=>aq.gchk λm=>aq.of λA=>(dl.pure λb ρ d=>?_)
    have:=Dl (o:=o) (ρ:=ρ) (L:=F.map (AF.ha b)) (v:=b.h h) (u:=b.h h) (lo:=0) (hi:=s.xs.length) (λw c l=>arq (At hs l) _) q (a t _ z).2.1 (a e B p).1 (aK d g) (aK d j) (m A);simp only[AV.val,Lf.val,Pa.off,afu];simp_all
   ·exact halt
  ·exact halt
 ·exact halt
def aag(Θ:Tb)(t:TypeId)(h:Nat)(F:List AF)(k:Out->Option R)(alt:Option R):Option R:=match Θ t with
 | some ⟨.slice e,_,_,_,_⟩=>match Θ e with
  |some a=>match pn a.tc h F with
   |some s=>k (be (fP .i64 s.xs.length))
   |none=>alt
  |none=>alt
 |_=>alt
theorem ahC(b:Θ.ok P)(l:o.op=.call { callee:=.builtin .len,args:=#[x],argTypes:=#[t]})(g:ev E x=some (.lf (.sl h)))(k:Out->Option R){alt:Option R}(halt:aq ex P o E F n alt k) :
  aq ex P o E F n (aag Θ t h F k alt) k:=by
 unfold aag;split
 ·rename_i e _ _ _ _ m;split
  ·rename_i r p;split
   ·rename_i s hs;refine aq.of λq=>(dl.pure λf ρ j=>?_)
    intro ev w c a d;have:=MX (P:=P) (ρ:=ρ) (L:=F.map (AF.ha f)) (h:=f.h h) l (b t _ m).2.1 (aK j g) ev w c a d;rw[(VU (At hs d)).1]at this;exact this
   ·exact halt
  ·exact halt
 ·exact halt
def YE(Θ:Tb)(ex:Option Bool)(n N:Nat)(t:TypeId)(v1 g:AV)(F:List AF)(k:Out->Option R)(alt:Option R):Option R:=match Θ t with
 | some ⟨.slice e,_,_,_,_⟩=>match fk (X.tr e),Θ e,v1,g with
  |true,some a,.lf d,.lf f=>match fY a.tc (X.tr e) N F d,fY a.tc (X.tr e) (N+1) F f,gq (X.tr e)with
   | some (ci,_,xs),some (b,_,ys),.row c _=>bif Nat.beq c e&&Nat.beq a.sz a.tc.ty.sz&&Nat.ble 1 a.sz&&Nat.beq (zsz a.zl) a.sz&&Nat.ble 2 ci&&Nat.ble 2 N&&Nat.blt e 1048576 && !(Nat.beq ci b) && !(Nat.beq ci (N+2)) && !(Nat.beq b (N+2))then
     gchk ex (aN xs.length ys.length a.by_) (k ⟨.lf (.sl n),[.own a.tc (X.tr e) ci [] (xs++ys) n],[ci,b,N+2]⟩)else none
   |_,_,_=>alt
  |_,_,_,_=>alt
 |_=>alt
theorem aeO(b:Θ.ok P){v1 T:AV}(Y:o.op=.call { callee:=.builtin .append,args:=#[x,y],argTypes:=#[t,t]})(V:ev E x=some v1)(W:ev E y=some T)(k:Out->Option R){alt:Option R}(halt:aq ex P o E F n alt k) :
  aq ex P o E F n (YE Θ ex n N t v1 T F k alt) k:=by
 unfold YE;split
 ·rename_i e _ _ _ _ ht;split
  ·rename_i d Q S D O;split
   ·rename_i ci H xs I K2 ys f s' g j A;refine aq.bif λM=>aq.gchk λZ=>aq.of λhx a ρ J=>?_
    simp only[abF]at M;obtain⟨⟨⟨⟨⟨⟨⟨⟨⟨z,C⟩,U⟩,l⟩,s⟩,hN⟩,B⟩,hd⟩,u⟩,v⟩:=M;obtain rfl:=f9 z;rw[<-(b _ d O).zsz]at l;have p:=aK J V;have q:=aK J W;simp only[AV.val]at p q;rw[pM g a]at p;rw[pM j a]at q;have r:∀w c,ao w c (F.map (AF.ha a))->ao w c (.tr d.tc.ty (X.tr f) ci H xs (Q.hd a)::.tr d.tc.ty (X.tr f) I K2 ys (S.hd a)::F.map (AF.ha a)):=λw c K=>by have q1:=eO g K;have q2:=eO j K;grind[iT,ao.cons]
    have:=(P1 (o:=o) (ρ:=ρ) (L:=.tr d.tc.ty (X.tr f) ci H xs (Q.hd a)::.tr d.tc.ty (X.tr f) I K2 ys (S.hd a)::F.map (AF.ha a)) (N:=N+2) 0 1 rfl rfl A Y (b t _ ht).2.1 (b f d O).1 (f9 C) l U p q (Z hx) s (aeo (by omega)) (u0 hd) (u0 u) (u0 v) B).from r;refine this.map (λm=>⟨a.setH n m,a.setH_agr n m⟩) (λm=>?_) λm=>?_
    ·simp[AV.val,Lf.val,Vn.setH_at]
    ·simp[AF.ha,Vn.setH_at,iT D]
   ·exact halt
  ·exact halt
 ·exact halt
def Hj(Θ:Tb)(E:SE)(ex:Option Bool)(n:Nat)(t:TypeId)(l:Lf)(lo hi:Option Operand)(F:List AF)(k:Out->Option R)(alt:Option R):Option R:=match Θ t,lo,hi with
 | some ⟨.slice e,_,_,_,_⟩,none,some h=>match fk (X.tr e),Θ e with
  |true,some a=>match fY a.tc (X.tr e) 0 F l,ev E h with
   |some (ci,K,xs),some (.lf (.c (.int _) j))=>bif Nat.beq a.sz a.tc.ty.sz&&Nat.ble 2 ci then gchk ex (decide (0<=j/\j<=xs.length)) (k ⟨.lf (.sl n),[.own a.tc (X.tr e) ci K (xs.take j.toNat) n],[]⟩)else none
   |_,_=>alt
  |_,_=>alt
 |_,_,_=>alt
theorem aaN(f:Θ.ok P){l:Lf}{lo hi:Option Operand}(z:o.op=.slice t x lo hi none)(r:ev E x=some (.lf l))(k:Out->Option R){alt:Option R}(halt:aq ex P o E F n alt k):aq ex P o E F n (Hj Θ E ex n t l lo hi F k alt) k:=by
 unfold Hj;split
 ·rename_i e _ _ _ _ h A;split
  ·rename_i m d u;split
   ·rename_i ci K xs C j hs v;refine aq.bif λb=>aq.gchk λs=>aq.of λB a ρ p=>?_
    simp only[abF]at b;have g:=aK p r;simp only[AV.val]at g;rw[pM hs a]at g;have:=(Tp (o:=o) (ρ:=ρ) (L:=.tr m.tc.ty (X.tr e) ci K xs (l.hd a)::F.map (AF.ha a)) 0 rfl z (f t _ A).2.1 (f e m u).1 (f9 b.1) g (aK p v) (s B)).from (λw c q=>ao.cons (by have:=eO hs q;rwa [iT d]at this) q);refine this.map (λ_=>⟨a.setH n ((l.hd a).cut 0 j.toNat m.sz),a.setH_agr n _⟩) (λ_=>?_) λ_=>?_
    ·simp[AV.val,Lf.val,Vn.setH_at]
    ·simp[AF.ha,Vn.setH_at,iT d]
   ·exact halt
  ·exact halt
 ·exact halt
def Hn(Θ:Tb)(E:SE)(n N:Nat)(t:TypeId)(m:Nat)(ps:Array (Nat×Operand))(F:List AF)(k:Out->Option R)(alt:Option R):Option R:=match Θ t with
 | some ⟨.slice e,_,_,_,_⟩=>match fk (X.tr e)&&Nat.ble 1 m,Θ e,uV E ps.toList,gq (X.tr e)with
  | true,some a,some vals,.row b s=>match yD (λi=>some (i*a.sz,a.sz)) (Fp a.zl m) vals with
   |some ls=>match Dy F a.tc s m ls,lj a.zl a.sz with
    |some (xs,_,K),some (_,[])=>bif Nat.beq b e&&Nat.beq a.sz a.tc.ty.sz&&Nat.ble 2 N&&Nat.ble (m*a.sz) 16777216&&Nat.ble 1 a.sz&&Nat.ble 1 m&&Nat.blt e 1048576 && !(bU N K)then k ⟨.lf (.sl n),[.own a.tc (X.tr e) N [] xs n],K⟩else none
    |_,_=>alt
   |none=>alt
  |_,_,_,_=>alt
 |_=>alt
theorem ZN{a:Vn}{ls:List Lf}{t:TC}{xs:List t.den}{ys:List t.ty.Refs}(h:aw a ls=cellsOf t.ty xs ys):qV (aw a ls):=by rw[h];exact jv t.ty
theorem X2(B:Θ.ok P){m:Nat}{ps:Array (Nat×Operand)}(ho:o.op=.buildSlice t m ps)(k:Out->Option R){alt:Option R}(halt:aq ex P o E F n alt k):aq ex P o E F n (Hn Θ E n N t m ps F k alt) k:=by
 unfold Hn;split
 ·rename_i e _ _ _ _ ht;have U:P.underlying t=some (.slice e):=(B t _ ht).2.1;split
  ·rename_i d vals H s A he hp J;have V:=(abF _ _▸A:fk (X.tr e)=true/\Nat.ble 1 m=true).1;split
   ·rename_i ls M;split
    ·rename_i xs ll K q hd p;refine aq.bif λhc=>aq.of λhx η ρ hE=>?_
     simp only[abF]at hc;obtain⟨⟨⟨⟨⟨⟨⟨I,T⟩,hN⟩,S⟩,h1⟩,O⟩,L⟩,Q⟩:=hc;obtain rfl:=f9 I;obtain⟨g1,_,g3,g4⟩:=B H d he;obtain⟨e2,W⟩:=hU p;rw[ad0]at e2;subst e2;have W:=W η;obtain⟨C,Y,Z,d4⟩:=P4 (η:=η) hd;have u:=abM h1;have hm:=abM O;have z:=f9 T;have g:=wZ (η:=η) M;rw[wl,W]at g;have hzc:d.zv.cells.toList=aw η d.zl:=by grind
     have r:(aw η ls).length=m*d.tc.ty.sz:=by rw[Z,cO _ (by simp[C,Y]),C]
     obtain⟨f,r1,r2⟩:=Ar d.tc.ty.sz m (aw η ls) (ZN Z) r;have v:cN P ρ o (F.map (AF.ha η)) [] Hd.val (λh=>[.own (iH d.tc.ty.sz) H N [] f h]):=by
      refine Bn (cells:=aw η ls) (ty:=iH d.tc.ty.sz) (K:=[]) (xs:=f) (ys:=List.replicate m ()) ho U g1 z S ?_ (oS hE hp) ?_ (by simp[r1]) (by simp) r2 ?_ hN
      ·refine aeo ?_;have:1*1<=m*d.sz:=Nat.mul_le_mul hm u;omega
      ·grind
      ·have gen:∀(a:List (List V1)) (b:List Unit),pU (F.map (AF.ha η)) (xy (iH d.tc.ty.sz) [] a b):=by
        intro a;induction a with
        |nil=>intro b;cases b<;>trivial
        |cons x a ih=>
         intro b;cases b with
         |nil=>trivial
         |cons y b=>exact ih b
       exact gen _ _
     have j:=cN.tree (K:=[]) (e:=X.tr H) (xs:=xs) (ys:=ll.map λl=>aO d.tc (aT η l)) v J L hN (by simp[C,Y]) (by rw[r1,C]) (by grind) (λw c hH=>d4 w c hH) (u0 Q);refine j.map (λD=>⟨η.setH n D,η.setH_agr n D⟩) (λD=>?_) λD=>?_
     ·simp[AV.val,Lf.val,Vn.setH_at]
     ·simp[AF.ha,Vn.setH_at,iT V]
    ·exact halt
   ·exact halt
  ·exact halt
 ·exact halt
def Qu(Θ:Tb)(ex:Option Bool)(n N:Nat)(t:TypeId)(x y:Operand)(v1 c:AV)(k:Out->Option R)(alt:Option R):Option R:=match Θ t,v1,c with
 |some ⟨.slice e,_,_,_,_⟩,.lf (.c (.int _) a),.lf (.c (.int _) _)=>match fk (X.tr e),Θ e,gq (X.tr e)with
  |true,some ⟨_,sz,by_,[.nl],.slice tt⟩,.row b _=>bif Nat.beq b e&&Nat.beq sz 1&&Nat.ble 2 N&&GX x y&&Nat.blt e 1048576 then
      gchk ex (decide (0<=a/\a*by_<=281474976710656/\a<=maxLen)) (k ⟨.lf (.sl n),[.own (.slice tt) (X.tr e) N [] (List.replicate a.toNat ([]:List tt.den)) n],[]⟩)else none
  |_,_,_=>alt
 |_,_,_=>alt
theorem abP(p:Θ.ok P){v1 V:AV}(ho:o.op=.makeSlice t x y)(h1:ev E x=some v1)(h2:ev E y=some V)(k:Out->Option R){alt:Option R}(halt:aq ex P o E F n alt k):aq ex P o E F n (Qu Θ ex n N t x y v1 V k alt) k:=by
 unfold Qu;split
 ·rename_i e _ _ _ _ k1 a k2 b ht;split
  ·rename_i dd sz by_ tt A s O he I;refine aq.bif λU=>aq.gchk λhb=>aq.of λg z ρ S=>?_
   simp only[abF]at U;obtain⟨⟨⟨⟨H,M⟩,T⟩,d⟩,J⟩:=U;obtain rfl:=f9 H;obtain rfl:=f9 M;have B:=aK S h1;have C:=aK S h2;simp only[AV.val,Lf.val]at B C;have D:b=a:=by
    unfold GX at d;split at d
    ·simp_all
    ·simp only[aL,Value.int.injEq]at B C;grind
    ·cases d
   subst D;obtain⟨W,_,Y,Z⟩:=p A _ he;let v0:V1:=⟨eu.val,rfl⟩
   have l:cN P ρ o (F.map (AF.ha z)) [] Hd.val (λh=>[.own (iH 1) A N [] (List.replicate b.toNat [v0]) h]):=by refine BD (ty:=iH 1) (K:=[]) (v:=[v0]) (r:=()) ho (p t _ ht).2.1 W rfl ?_ trivial B C (hb g) T;rw[Y,<-Z z];rfl
   have q:∀m:Nat,cellsOf (iH 1) (List.replicate m [v0]) (List.replicate m ())=cellsOf (Ty.slice tt.ty) (List.replicate m ([]:List tt.den)) (List.replicate m eu):=by
    intro m;induction m with
    |zero=>rfl
    |succ m ih=>
     simp only[ag5,cellsOf,ih];rfl
   have f:=cN.tree (K:=[]) (Kn:=[]) (ty:=Ty.slice tt.ty) (e:=X.tr A) (xs:=List.replicate b.toNat ([]:List tt.den)) (ys:=List.replicate b.toNat eu) l I J T (by simp) (by simp) (by grind) (λw c hH=>⟨λ_=>[],λj x y g Q=>by
    rw[List.getElem?_replicate]at g Q;split at g
    ·rename_i L;rw[if_pos L]at Q;cases g;cases Q;exact .inl ⟨rfl,rfl⟩
    ·cases g⟩) rfl
   refine f.map (λu=>⟨z.setH n u,z.setH_agr n u⟩) (λu=>?_) λu=>?_
   ·simp[AV.val,Lf.val,Vn.setH_at]
   ·simp[AF.ha,Vn.setH_at,iT O]
  ·exact halt
 ·exact halt
end
end
end Go.Sm
