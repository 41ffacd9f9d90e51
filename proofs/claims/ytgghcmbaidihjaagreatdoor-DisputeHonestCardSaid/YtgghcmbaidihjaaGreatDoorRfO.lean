/- Laws for the row. No condition. -/
import Derived.Test.YtgghcmbaidihjaaGreatDoorRfK
namespace Go.Sm
set_option linter.unusedSectionVars false
section
variable [X:XTab] [G:GTab] [Yc:GCx]
def aq6(A:HA):Prop:=∀k∈A.uses,k<2
structure L0ok(L0:List HA):Prop where
  old:∀A∈L0,aq6 A
  gl:∀A∈eV,A∈L0
section
variable {C:Cx} {P:Program} {B n N nt:Nat} {cls:List (List Nat)} {ops:List Oper} {E:SE} {F:List AF} {es:List Ent} {Q:Exit->Act->World->Prop} {L0:List HA} {β:Vn}
def pj(listed:Nat->Bool)(i:Nat):Nat->Bool:=λj=>Nat.beq j i||listed j
theorem FV{listed:Nat->Bool}{i j:Nat}(h:j≠i):pj listed i j=listed j:=by
  have:Nat.beq j i=false:=by
    cases hb:Nat.beq j i
    ·rfl
    simp_all
  simp[pj,this]
theorem ajd(h:j7 n E F=true){t:Nat}{v:AV}(hl:bN E t=some v)(i:Nat):v.free (n+64*i)=true:=by simp only[j7,Y5]at h;have:=Zy.1 h.1 _ (lL hl);exact v.okN_free (cl:=[]) (by simp) this
theorem Nq[Rd]{draw:Bool}(h64:B<=n)(hb:ux C n N nt draw cls ops E F es=true)(hlen:es.length=ops.length)(hall:∀j o e,ops[j]?=some o->es[j]?=some e->vX C P n N cls ops E F o j (es.take j) e)(hL0:L0ok L0)
    {listed:Nat->Bool} {i:Nat} {o:Oper} (ho:ops[i]?=some o) (hndo:ndO o.op=true) (hf:listed i=false) (hcl:∀j,bQ j (cls.getD i [])=true->listed j=true)
    (hun:∀m,m<ops.length->listed m=true->bQ i (cls.getD m [])=false) {a:Act} {w:World} (hJ:RJ B nt cls ops E F es L0 β listed a w) :
    wpOpIn sH 0 P ops.toArray Q i (RJ B nt cls ops E F es L0 β (pj listed i)) a w:=by
  obtain⟨η,c,ρ,ha,hE,hV,hB,hL,hR⟩:=hJ;have hi:=(aaw.1 ho).1;have he:es[i]?=some (es[i]'(by omega)):=ZB _;generalize hee:es[i]'(by omega)=e at he;obtain⟨hd,hg,hsem⟩:=hall i o e ho he;obtain⟨b1,b2,b3,b4,b5,_⟩:=nM hb ho he;have hbase:j7 n E F=true:=by simp only[ux,Y5]at hb;exact hb.1.2
  have hnd:u0 (rz ops)=true:=by simp only[ux,Y5]at hb;exact hb.1.1.2
  have next:∀(v:Value) (η':Vn) (w':World) (c':aS),η.agr (n+64*i) η'->Stp e.u.κ w c w' c'->(e.u.κ=[]\/fH e.ex)->((fH e.ex->v=e.u.av.val η'/\∀f∈e.u.fs,(f.ha η').holds w' c')/\(¬fH e.ex->v=undef)) ->
      RJ B nt cls ops E F es L0 β (pj listed i) (a.put o.dst v) w':=by
    intro v η' w' c' hagr hst hκ hv;refine⟨η',c',(match o.dst with|some d=>yX ρ d v|none=>ρ),?_,?_,?_,?_,?_,?_⟩
    · cases hod:o.dst with
      |none=>exact ha
      |some d=>exact ha.put (b4 d (by rw[hd,hod])) v
    · intro t u hl hno
      rw[AV.val_agr hagr u (ajd hbase hl i)]
      have hold:=hE t u hl λm o' hm hlm=>hno m o' hm (by simp[pj,hlm])
      cases hod:o.dst with
      |none=>exact hold
      | some d=>
        have hne:Nat.beq t d=false:=by
          cases hbb:Nat.beq t d
          ·rfl
          ·exact absurd (by rw[hod,f9 hbb]) (hno i o ho (by simp[pj]))
        simp only[yX,hne,Zr];exact hold
    · intro j e' hj hlj d' hd'
      by_cases hji:j=i
      · subst hji
        rw[he]at hj
        simp only[no]at hj
        subst hj
        rw[hd]at hd'
        rw[hd']
        have:yX ρ d' v d'=v:=by simp[yX]
        grind
      · rw[FV hji]at hlj
        have hjl:j<ops.length:=by grind
        have hoj:ops[j]?=some ops[j]:=ZB hjl
        obtain⟨hdj,_,_⟩:=hall j _ e' hoj hj
        have hfree:e'.u.av.free (n+64*i)=true:=e'.u.av.okN_free (by grind[mem_iff]) (nM hb hoj hj).1
        rw[AV.val_agr hagr _ hfree]
        have hold:=hV j e' hj hlj d' hd'
        cases hod:o.dst with
        |none=>exact hold
        | some d=>
          grind[Nat.beq,absurd,yX,Nat.eq_of_beq_eq_true,NI]
    · intro f hfF hno
      have hfree:f.free (n+64*i)=true:=by simp only[j7,Y5]at hbase;exact f.okN_free (cl:=[]) (by simp) (Zy.1 hbase.2 f hfF)
      rw[AF.ha_agr hagr f hfree]
      refine HA.stp hst _ (λk hk=>?_) (hB f hfF λm e' hm hl hx=>hno m e' hm (by simp[pj,hl]) hx)
      rw[AF.ha_uses]at hk
      rcases hκ with hκ|hκ
      ·rw[hκ];simp
      ·exact qf (hno i e he (by simp[pj]) hκ) k hk
    · refine⟨λA hA=>?_,λm hm=>?_⟩
      rotate_left
      · have hz:=hagr m (by simp only[out,abl];exact .inl (aah (by omega)))
        grind
      refine HA.stp hst A (λk hk=>?_) (hL.1 A hA)
      have h2:=hL0.old A hA k hk
      grind
    · intro j e' hj hlj hx f hf' hno
      by_cases hji:j=i
      ·grind
      · rw[FV hji]at hlj
        have hjl:j<ops.length:=by grind
        have hoj:ops[j]?=some ops[j]:=ZB hjl
        have hnm:bQ i (cls.getD j [])=false:=hun j hjl hlj
        have hfree:f.free (n+64*i)=true:=f.okN_free (by grind[mem_iff]) ((nM hb hoj hj).2.1 f hf')
        rw[AF.ha_agr hagr f hfree]
        refine HA.stp hst _ (λk hk=>?_) (hR j e' hj hlj hx f hf' λm e2 hm hl hx2 hmj hmc=>hno m e2 hm (by simp[pj,hl]) hx2 hmj hmc)
        rw[AF.ha_uses]at hk
        rcases hκ with hκ|hκ
        ·rw[hκ];simp
        ·exact qf (hno i e he (by simp[pj]) hκ (ami hji) hnm) k hk
  have hnd':∀c,o.op≠.defer c:=λc h=>by rw[h]at hndo;cases hndo
  have run:fH e.ex→o.wpIn sH 0 P a w (RJ B nt cls ops E F es L0 β (pj listed i)) Q:=by
    intro hx;obtain⟨hpE,hpF⟩:=adt hb hlen hall he hx hf hcl hun hE hV hB hR;refine⟨λ_ _=>trivial,?_⟩;rw[ha.eval,Oper.semAt_eq _ _ _ hnd'];refine Z4 ?_;rcases hsem with⟨cc,aa,bb,v,hop,hpk,hu⟩|hsem
    ·
      have hv:aX P ρ o [] (.bool v):=by
        unfold HT at hpk;split at hpk
        · rename_i t
          split at hpk
          · rename_i jc ec hfc
            have find_get:∀{t:Nat} {l:List Ent} {j0 j:Nat} {e:Ent},vF t l j0=some (j,e)->j0<=j/\l[j-j0]?=some e/\e.d=some t:=by
              intro t l;induction l with
              |nil=>intro j0 j e h;simp[vF]at h
              | cons q r ih=>
                intro j0 j e h;simp only[vF]at h;have tail:vF t r (j0+1)=some (j,e)->j0<=j/\(q::r)[j-j0]?=some e/\e.d=some t:=λh=>by obtain⟨h1,h2,h3⟩:=ih h;refine⟨by omega,?_,h3⟩;rw[show j-j0=(j-(j0+1))+1 by omega];simpa using h2
                split at h
                · rename_i d hdq
                  cases hbb:Nat.beq t d
                  ·grind
                  · rw[hbb]at h
                    simp only[Ze,no,ZC]at h
                    grind[Nat.eq_of_beq_eq_true]
                grind
            have take_get:∀{j:Nat} {e':Ent},(es.take i)[j]?=some e'->es[j]?=some e':=λ{j e'} h=>by grind
            have hch:=T3 hlen hall
            cases hmb:(bQ jc (cls.getD i [])&&mF ec.g e.g)
            ·grind
            · rw [hmb] at hpk
              simp only[Ze]at hpk
              simp only[Y5]at hmb
              split at hpk
              · rename_i x p q hxv hp hq
                simp only[no]at hpk
                subst hpk
                obtain⟨_,hgc,hdc⟩:=find_get hfc
                have hgc:=take_get hgc
                rw[Nat.sub_zero]at hgc
                have hxc:=IL (hch i e he) (hch jc ec hgc) hmb.2 hx
                have hcv:ρ t=.bool x:=by rw[(hV jc ec hgc (hcl jc hmb.1) t hdc).1 hxc,hxv];rfl
                have branch : ∀{side:Bool} {y:Operand} {p:Bool},If (cls.getD i []) e.g (es.take i) jc side y=some p->x=side->aJ ρ y=.bool p:=by
                  intro side y p hp hs;unfold If at hp;split at hp
                  ·simp only[no]at hp;subst hp;rfl
                  · rename_i t'
                    split at hp
                    · rename_i j ej hfj
                      cases hmb':(bQ j (cls.getD i [])&&(mF ej.g e.g||We ej.g jc side e.g))
                      ·grind
                      · rw [hmb']at hp
                        simp only[Ze]at hp
                        simp only[Y5,abl]at hmb'
                        obtain⟨_,hgj,hdj⟩:=find_get hfj
                        have hgj:=take_get hgj
                        rw[Nat.sub_zero]at hgj
                        have hxj:fH ej.ex:=by
                          rcases hmb'.2 with h|h
                          ·exact IL (hch i e he) (hch j ej hgj) h hx
                          · refine(hch j ej hgj).2 λpr hpr=>?_
                            unfold We at h
                            split at h
                            · rename_i j' s g' hgg
                              simp only[Y5,ajk]at h
                              obtain⟨⟨h1,h2⟩,h3⟩:=h
                              rw[hgg]at hpr
                              rcases aaa.1 hpr with rfl|hpr
                              ·grind[Nat.eq_of_beq_eq_true]
                              ·exact(hch i e he).1 hx pr (x7 h3 pr hpr)
                            ·cases h
                        split at hp
                        · rename_i b' hbv
                          simp only[no]at hp
                          subst hp
                          show ρ t'=.bool b'
                          rw[(hV j ej hgj (hcl j hmb'.1) t' hdj).1 hxj,hbv];rfl
                        ·cases hp
                    ·cases hp
                  ·cases hp
                exact anm hop hcv (λhxt=>branch hp hxt) (λhxf=>branch hq hxf)
              ·cases hpk
          ·cases hpk
        ·cases hpk
      rw[hv _ w c rfl (aj.nil _ _)]
      refine next (.bool v) η w c (Vn.agr_refl _ η) ?_ (.inr hx) ⟨λ_=>⟨by rw[hu];rfl,λf hf'=>by grind⟩,λh=>absurd hx h⟩
      rw[hu];exact Stp.refl w c
    ·exact hsem hx η ρ hpE a _ w c _ Q rfl (aj.append hpF λA hA=>hL.1 A (hL0.gl A hA)) λy w' c' hst hF=>next _ y.1 w' c' y.2 hst (.inr hx) ⟨λ_=>⟨rfl,λf hf'=>hF _ (ZA.2 ⟨f,hf',rfl⟩)⟩,λh=>absurd hx h⟩
  have skip:¬fH e.ex->RJ B nt cls ops E F es L0 β (pj listed i) (a.put o.dst undef) w:=by
    intro hx;have hκ:e.u.κ=[]:=by
      rcases b3 with h|⟨_,_,h⟩
      ·exact h
      · exfalso
        rw[h]at hx
        exact hx trivial
    exact next undef η w c (Vn.agr_refl _ η) (by rw[hκ];exact Stp.refl w c) (.inl hκ) ⟨λh=>absurd h hx,λ_=>rfl⟩
  unfold wpOpIn;rw[show ops.toArray[i]?=some o by simpa using ho];simp only
  have hw:Region.wanted o (yielded ops.toArray a.tmps)=true↔fH e.ex:=by
    have key : ∀{g0:List (Nat×Bool)} {ex0:Option Bool},Ev (es.take i) o.guard=some (g0,ex0)->(Region.wanted o (yielded ops.toArray a.tmps)=true↔fH ex0):=by
     intro g0 ex0 hg;cases hgo:o.guard with
     | none=>
       grind[Ev,Region.wanted,fH]
     | some jw=>
       obtain⟨j,want⟩:=jw;obtain⟨hjc,ej,dj,hej,hdj⟩:=b5 j want hgo;rw[hgo]at hg;unfold Ev at hg;simp only at hg;split at hg
       · rename_i e' he'
         have hej':es[j]?=some e':=by grind
         rw[hej]at hej'
         simp only[no]at hej'
         subst hej'
         split at hg
         · rename_i bv hbv
           simp only[no,ZC]at hg
           obtain⟨_,hex⟩:=hg
           have hjl:j<ops.length:=by grind
           have hoj:ops[j]?=some ops[j]:=ZB hjl
           obtain⟨hdo,_,_⟩:=hall j _ ej hoj hej
           have hy:=Xm (n:=nt) ha hoj (by grind) ((nM hb hoj hej).2.2.2.1 dj hdj)
           have hv:=hV j ej hej (hcl j hjc) dj hdj
           simp only[Region.wanted,hgo,hy]
           rw[<-hex]
           by_cases hxe:fH ej.ex
           · rw[hv.1 hxe,hbv]
             have h1:=FY.1 hxe
             simp only[eD,AV.val,Lf.val]
             cases hee2:ej.ex with
             |none=>cases want<;>cases bv<;>simp[fH]
             | some x=>
               grind[PF,fH]
           · rw[hv.2 hxe]
             cases hee2:ej.ex with
             |none=>rw[hee2]at hxe;exact absurd trivial hxe
             | some x=>
               rw[hee2]at hxe;have hxf:x=false:=by cases x<;>simp_all[fH]
               subst hxf;rfl
         ·cases hg
       ·cases hg
    rcases hg with hg|⟨⟨g0,hg⟩,_,hg2⟩
    ·exact key hg
    · rw[hg2]
      exact⟨λ_=>trivial,λ_=>(key hg).2 rfl⟩
  split
  ·exact run (hw.1 ‹_›)
  · rename_i hnw
    exact⟨λ_ _=>trivial,skip λhx=>hnw (hw.2 hx)⟩
end
end
section
variable [X:XTab] [G:GTab] [Yc:GCx]
structure SS where
 E:SE
 F:List AF
 nn:Nat
 nc:Nat
 d:List Nat
def live(d:List Nat)(KF:List AF):List AF:=KF.filter λf=>!(fY d f)
theorem xT(KF:List AF):live [] KF=KF:=by unfold live;exact List.filter_eq_self.2 λf _=>rfl
theorem rV(a b:List Nat)(f:AF):fY (a++b) f=(fY a f||fY b f):=by simp[fY]
theorem WA(a b:List Nat)(KF:List AF):live a (live b KF)=live (a++b) KF:=by unfold live;rw[List.filter_filter];congr 1;funext f;rw[rV];grind
theorem OX(d:List Nat)(a b:List AF):live d (a++b)=live d a++live d b:=by simp[live]
def fX[Rd](B nt:Nat)(L0:List HA)(β:Vn)(KE:SE)(KF:List AF)(S:SS)(a:Act)(w:World):Prop:=
 ∃(η:Vn) (c:aS) (ρ:cV),Rel nt ρ a Rd.ds/\kU η ρ (S.E++KE)/\aj w c ((S.F++live S.d KF).map (AF.ha η))/\aj w c L0/\∀m,m<B->η.b m=β.b m/\η.h m=β.h m
def H7(KE:SE)(ops:List Oper):Bool:=KE.all (λp=>!(bQ p.1 (rz ops)))&&ops.all (λo=>ndO o.op)
theorem Ou{KE:SE}{ops:List Oper}(h:H7 KE ops=true){o:Oper}{i:Nat}(ho:ops[i]?=some o):ndO o.op=true:=
 Zy.1 ((Y5 _ _).mp h).2 o (aa2 ho)
def amA(KF:List AF)(es:List Ent):List Nat:=(es.flatMap λe=>e.u.κ).filter λk=>KF.any (fY [k])
def T5(cls:List (List Nat))(ops:List Oper)(KF:List AF)(S:SS)(es:List Ent):SS:=
 ⟨yO (List.range ops.length) [] es 0++mO (rz ops) S.E,CB cls ops.length (List.range ops.length) [] es es 0++S.F.filter (λf=>!(qp cls ops.length [] ops.length f es 0)),
  S.nn+64*ops.length,S.nc+(512*ops.length+256),amA KF es++S.d⟩
def Dh{R:Type}(C:Cx)(nt:Nat)(draw:Bool)(ops:List Oper)(KE:SE)(KF:List AF)(S:SS)(K:SS->Option R):Option R:=
 bif Nat.ble C.B S.nn then Ah C S.nn S.nc (gP draw ops) ops (S.E++KE) (S.F++live S.d KF) ops 0 [] λes=>
  bif ux C S.nn S.nc nt draw (gP draw ops) ops (S.E++KE) (S.F++live S.d KF) es&&H7 KE ops then K (T5 (gP draw ops) ops KF S es)else none
 else none
section
variable {C:Cx} {P:Program} {nt:Nat} {KE:SE} {KF:List AF} {L0:List HA} {β:Vn}
theorem uH(ds:List Nat):∀(E E':SE),mO ds (E++E')=mO ds E++mO ds E'
 |[],_=>rfl
 |p::r,E'=>by
  simp only[acI,mO];cases bQ p.1 ds
  ·simp[uH ds r E']
  ·simp[uH ds r E']
theorem Nk{ds:List Nat}:∀{E:SE},E.all (λp=>!(bQ p.1 ds))=true->mO ds E=E
 |[],_=>rfl
 |p::r,h=>by simp only[acw,Y5,abc]at h;simp only[mO,h.1,Zr,Nk h.2]
theorem Qz[Rd]{n N:Nat}{draw:Bool}{ops:List Oper}{S:SS}{es:List Ent}(_:S.nn=n)(hb:ux C n N nt draw (gP draw ops) ops (S.E++KE) (S.F++live S.d KF) es=true)(hk:H7 KE ops=true)(hlen:es.length=ops.length)
  (hall:∀j o e,ops[j]?=some o->es[j]?=some e->vX C P n N (gP draw ops) ops (S.E++KE) (S.F++live S.d KF) o j (es.take j) e) {listed:Nat->Bool} (hl:∀i,i<ops.length->listed i=true) {a:Act} {w:World}
  (hJ:RJ C.B nt (gP draw ops) ops (S.E++KE) (S.F++live S.d KF) es L0 β listed a w):fX C.B nt L0 β KE KF (T5 (gP draw ops) ops KF S es) a w:=by
 obtain⟨η,c,ρ,ha,hE,hV,hB,hL,hR⟩:=hJ;have hk:=((Y5 _ _).mp hk).1;have hch:=T3 hlen hall;have hx0:∀{j:Nat} {e:Ent},es[j]?=some e->mF e.g []=true->fH e.ex:=λ{j e} he hs=>by refine(hch j e he).2 λp hp=>?_;have:=x7 hs p hp;simp at this
 have hmay:∀m,m<ops.length->nJ (gP draw ops) m ops.length=true:=by
  intro m hm;have h1:Nat.beq m ops.length=false:=by grind[Nat.beq,Nat.eq_of_beq_eq_true]
  have h2:bQ ops.length ((gP draw ops).getD m [])=false:=by
   simp only[ux,Y5]at hb;have hc:=hb.1.1.1.2;cases hmm:bQ ops.length ((gP draw ops).getD m [])
   ·rfl
   ·exfalso;rw[aav]at hmm;cases hcm:(gP draw ops)[m]? with
    |none=>rw[hcm]at hmm;simp[bQ]at hmm
    |some cl=>
     rw[hcm]at hmm;have h3:=Zy.1 (Zy.1 hc cl (aa2 hcm)) _ (mem_iff.1 hmm);have:ops.length+1<=ops.length:=Zh h3;omega
  simp only[nJ,h1,h2,aaX,aea]
 have nohit:∀(f:AF) (clj:List Nat) (j:Nat),qp (gP draw ops) ops.length clj j f es 0=false->∀m e',es[m]?=some e'->m≠j->bQ m clj=false->fY e'.u.κ f=false:=by grind[wW]
 refine⟨η,c,ρ,ha,?_,?_,hL⟩
 ·intro t v hl';simp only[T5,aaf]at hl';rcases oD hl' with h|h
  ·obtain⟨j,e,h1,h2,rfl,_,h5⟩:=Cz (lL h);grind
  ·have h2:bN (mO (rz ops) (S.E++KE)) t=some v:=by
    rw[uH,Nk hk];exact h
   have h3:=DG h2;grind[mem_iff,FZ]
 ·intro A hA;obtain⟨f,hf,rfl⟩:=ZA.1 hA;simp only[T5,aaf]at hf;rcases aad.1 hf with h|h
  ·grind[C4]
  ·rcases aad.1 h with h|h
   ·simp only[aa0,abc]at h;exact hB f (ZW _ h.1) λm e' hm _ _=>nohit f [] ops.length h.2 m e' hm (by grind) rfl
   ·simp only[live,aa0,abc,rV,abW]at h;refine hB f (Z7 _ (aa0.2 ⟨h.1,by grind⟩)) λm e' hm _ _=>?_;cases hh:fY e'.u.κ f
    ·rfl
    ·exfalso;obtain⟨k,hk1,hk2⟩:=aeL.1 hh;grind[fY,amA]
theorem Xg[Rd]{R:Type}(hC:C.ok P)(hm:P.follows .mixedOrders=true){draw:Bool}{ops:List Oper}{S:SS}{K:SS->Option R}{r:R}(h:Dh C nt draw ops KE KF S K=some r) :
  ∃S',K S'=some r/\∀{L0:List HA} {β:Vn},L0ok L0->∀(id:Nat) (Q:Exit->Act->World->Prop) (a:Act) (w:World),fX C.B nt L0 β KE KF S a w->(∀a w,fX C.B nt L0 β KE KF S' a w->Q .normal a w)->(Code.region id ops.toArray draw).wpIn sH 0 P Q a w:=by
 unfold Dh at h;cases h64:Nat.ble C.B S.nn
 ·grind
 rw[h64]at h;simp only[Ze]at h;have h64:=Zh h64;obtain⟨es,h1,hlen,hall⟩:=Wz hC h (by simp) rfl (λj o e _ he=>by simp at he);rw[aj7]at hlen;cases hb:(ux C S.nn S.nc nt draw (gP draw ops) ops (S.E++KE) (S.F++live S.d KF) es&&H7 KE ops)
 ·grind
 ·rw [hb]at h1;simp only[Y5]at hb;refine⟨_,h1,λ{L0 β} hL0 id Q a w hI hQ=>?_⟩;have hinit:∀w',(∀A:HA,∀c,A.holds w c->A.holds w' c)->RJ C.B nt (gP draw ops) ops (S.E++KE) (S.F++live S.d KF) es L0 β (λ_=>false) a w':=by
   intro w' hw;obtain⟨η,c,ρ,ha,hE,hF,hL⟩:=hI;exact⟨η,c,ρ,ha,λt v hl _=>hE t v hl,λ_ _ _ hh=>by simp at hh,λf hf _=>hw _ c (hF _ (ZA.2 ⟨f,hf,rfl⟩)),⟨λA hA=>hw _ c (hL.1 A hA),hL.2⟩,λ_ _ _ hh=>by simp at hh⟩
  cases draw with
  | false=>
   refine wpIn_region ?_;rw[show(ops.toArray).size=ops.length by simp,List.range_eq_range'];have gen:∀(m k:Nat) (a:Act) (w:World),k+m=ops.length->RJ C.B nt (gP false ops) ops (S.E++KE) (S.F++live S.d KF) es L0 β (λj=>Nat.blt j k) a w->wpOpsIn sH 0 P ops.toArray Q (List.range' k m) a w:=by
    intro m;induction m with
    |zero=>
     intro k a w hk hJ;exact hQ a w (Qz rfl hb.1 hb.2 hlen hall (λi hi=>aah (by omega)) hJ)
    | succ m ih=>
     intro k a w hk hJ;rw[List.range'_succ,wpOpsIn_cons];have hkl:k<ops.length:=by omega
     have hcl:(gP false ops).getD k []=List.range k:=by simp only[gP,Zr];grind
     have hstep:=Nq (Q:=Q) h64 hb.1 hlen hall hL0 (o:=ops[k]) (ZB hkl) (Ou hb.2 (ZB hkl)) (listed:=λj=>Nat.blt j k) (by
      show Nat.blt k k=false;cases hbb:Nat.blt k k
      ·rfl
      simp_all) (λj hj=>by
       rw[hcl]at hj;have:=mem_iff.1 hj;simp_all) (λq hq hlq=>by
       have hqk:q+1<=k:=Zh hlq;grind[gP,List.range,bQ,mem_iff]) hJ
     refine wpOpIn_mono (λa' w' hJ'=>ih (k+1) a' w' (by omega) ?_) hstep;have:pj (λj=>Nat.blt j k) k=λj=>Nat.blt j (k+1):=by
      funext j;by_cases hj:j=k
      ·subst hj;simp[pj,Nat.blt]
      ·rw[FV hj];cases hb1:Nat.blt j k<;>cases hb2:Nat.blt j (k+1)<;>first|rfl|skip
       ·have:j+1<=k+1:=Zh hb2;grind[Nat.blt,Nat.ble_eq_true_of_le]
       grind[Nat.blt,Nat.le_of_ble_eq_true,Nat.ble_eq_true_of_le]
     grind
   refine gen ops.length 0 a w (by omega) ?_;have:=hinit w (λ_ _ h=>h);have e:(λ_:Nat=>false)=λj=>Nat.blt j 0:=by funext j;rfl
   grind
  | true=>
   have hcl:Fh ops (gP true ops)=true:=by grind[ux]
   refine wpIn_region_any hm ?_;have hw':∀A:HA,∀c,A.holds w c->A.holds { w with drawn:=w.drawn+1} c:=λA c h=>HA.stp (aew (w:=w) (c:=c)) A (by simp) h;refine Xc hcl (p:=ops.length) ?_ (Z0 _) (λlisted a w=>RJ C.B nt (gP true ops) ops (S.E++KE) (S.F++live S.d KF) es L0 β (λj=>listed.getD j false) a w) ?_ ?_ _ _ _ _ (by simp) (λi o _ hi=>by rw[Aj]at hi;cases hi) (by simpa using Xj _ _) (.inl ⟨?_,λi _=>Aj _ i⟩)
   ·refine Zy.2 λi hi=>?_;simp_all
   ·intro listed a' w' hJ hall' _;rw[aeO];exact wpListIn_nil (hQ a' w' (Qz rfl hb.1 hb.2 hlen hall hall' hJ))
   ·intro listed a' w' i o hJ hd hsz hip ho hf hp;have hcls:∀(i:Nat) (o:Oper),ops[i]?=some o->(∀j∈rJ o,listed.getD j false=true)->∀j,bQ j ((gP true ops).getD i [])=true->listed.getD j false=true:=by
     intro i o ho hp j hj;obtain⟨c,hc⟩:=ajt hcl (aaw.1 ho).1;grind[wy,mem_iff]
    have hstep:=Nq (Q:=Q) h64 hb.1 hlen hall hL0 ho (Ou hb.2 ho) (listed:=λj=>listed.getD j false) hf (hcls i o ho hp) (λq hq hlq=>by
     cases hbb:bQ i ((gP true ops).getD q [])
     ·rfl
     ·have:=hcls q ops[q] (ZB hq) (hd q ops[q] (ZB hq) hlq) i hbb;grind) hJ
    refine wpOpIn_mono (λa'' w'' hJ' => ?_) hstep;have:pj (λj=>listed.getD j false) i=λj=>(listed.setIfInBounds i true).getD j false:=by funext j;rw[BL (by omega)];rfl
    grind
   ·have:=hinit { w with drawn:=w.drawn+1} hw';have e:(λ_:Nat=>false)=λj=>(Array.replicate ops.toArray.size false).getD j false:=by funext j;rw[Aj]
    grind
end
end
section
variable [X:XTab] [G:GTab] [Yc:GCx]
inductive Sp
 |sc (s:SC)
 |ar (n:Nat) (s:SC)
 |xt (n:Nat)
 |own (t:TC) (e:TypeId) (one:Bool) (src:List Nat)
 |rep (t:TC) (one:Bool) (src:List Nat)
 |ownk (t:TC) (e:TypeId) (h:Nat)
 |mp (k v:TC)
 |pt (t:TC) (e:TypeId) (one:Bool) (src:List Nat)
 |al (d:Nat)
abbrev Sp.den:Sp->Type
 |.sc s=>s.den
 |.ar _ s=>List s.den
 |.xt n=>X.den n
 |.own t _ _ _=>List t.den
 |.rep t _ _=>List t.den
 |.ownk t _ _=>List t.den
 |.mp k v=>List (k.den×v.den)
 |.pt t _ _ _=>List t.den×Int
 |.al _=>Unit
abbrev w6:List Sp->Type
 |[]=>Unit
 |[a]=>a.den
 |a::b::r=>a.den×w6 (b::r)
inductive ShV
 |lf (l:Sp)
 |ag (ls:List Sp)
def ShV.ls:ShV->List Sp
 |.lf l=>[l]
 |.ag ls=>ls
structure Shp where
 keep:List Nat
 vs:List (Nat×ShV)
 bx:List (Nat×List Sp)
 dead:List Nat
def Shp.ls(sh:Shp):List Sp:=sh.vs.flatMap (λp=>p.2.ls)++sh.bx.flatMap (λp=>p.2)
def rS(E:SE):List (Nat×ShV)->Option (List Lf)
 |[]=>some []
 |(t,.lf _)::r=>match bN E t,rS E r with
  |some (.lf l),some ls=>some (l::ls)
  |_,_=>none
 |(t,.ag ps)::r=>match bN E t,rS E r with
  |some (.ag l),some ls=>bif Nat.beq l.length ps.length then some (l++ls)else none
  |_,_=>none
def Bz(E:SE)(t:Nat):Option AV:=bif Nat.ble 8000000 t then some (.lf (.bp (t-8000000) 0))else bN E t
def DQ(E:SE)(F:List AF):List (Nat×List Sp)->Option (List Lf)
 |[]=>some []
 | (t,ps)::r=>match Bz E t with
  |some (.lf (.bp b 0))=>match iw b F,DQ E F r with
   |some (_,cs),some ls=>bif Nat.beq cs.length ps.length then some (cs++ls)else none
   |_,_=>none
  |some (.lf (.sl h))=>match ld h F,DQ E F r with
   |some (h0,_,_,_),some ls=>bif Nat.beq 1 ps.length then some (.sl h0::ls)else none
   |_,_=>none
  |_=>none
def Sp.abs(F:List AF):(p:Sp)->Lf->Option p.den
 |.sc s,.c s' x=>if h:s'=s then some (DO h x)else none
 |.ar n s,.ar n' s' x=>if h:s'=s/\n'=n then some (uA h.1 x)else none
 |.xt n,.xt m x=>if h:m=n then some (agm h x)else none
 |.own t e _ _,l=>match fy t e 0 F l with|some (_,_,xs)=>some xs|none=>none
 |.rep t _ _,l=>match gH t F l with|some s=>some s.xs|none=>none
 |.ownk t e h,.sl h'=>bif Nat.beq h h'&&Nat.blt h 64 then(match fy t e 0 F (.sl h')with|some (_,_,xs)=>some xs|none=>none)else none
 |.mp k v,.mp h=>match uP k v h F with|some s=>some s.xs|none=>none
 |.pt t e _ _,.sl h=>match Bm t h F with|some s=>bif Nat.beq e s.e then some (s.xs,s.m)else none|none=>none
 |.al _,.sl _=>some ()
 |_,_=>none
def lA(F:List AF):(ps:List Sp)->List Lf->Option (w6 ps)
 |[],[]=>some ()
 |[p],[l]=>p.abs F l
 |p::q::r,l::ls=>match p.abs F l,lA F (q::r) ls with
  |some x,some y=>some (x,y)
  |_,_=>none
 |_,_=>none
def Sp.leaf(p:Sp)(x:p.den)(nm:Nat):Lf:=match p,x with
 |.sc s,x=>.c s x
 |.ar n s,x=>.ar n s x
 |.xt n,x=>.xt n x
 |.own _ _ _ _,_=>.sl nm
 |.rep _ _ _,_=>.sl nm
 |.ownk _ _ h,_=>.sl h
 |.mp _ _,_=>.mp nm
 |.pt _ _ _ _,_=>.sl nm
 |.al d,_=>.sl (nm+d)
def pH:(ps:List Sp)->w6 ps->Nat->List Lf
 |[],_,_=>[]
 |[p],x,nm=>[p.leaf x nm]
 |p::q::r,x,nm=>p.leaf x.1 nm::pH (q::r) x.2 (nm+1)
def vp(KK:Nat->List Nat)(one:Bool)(src:List Nat)(_cb:Nat):List Nat:=(bif one then [1]else [])++src.flatMap KK++KK 4000000
def Sp.fact(KK:Nat->List Nat)(p:Sp)(x:p.den)(nm cb:Nat):List AF:=match p,x with
 |.own t e one src,xs=>[.own t e cb (bif t.ty.pureB||eM e then []else vp KK one src cb) xs nm]
 |.rep t one src,xs=>[.rep t (vp KK one src cb) xs nm]
 |.ownk t e h,xs=>[.own t e cb [] xs h]
 |.mp k v,xs=>[.mp k v cb xs nm]
 |.pt t e one src,x=>[.pt t e cb (vp KK one src cb) x.1 nm x.2,.rep t (cb::vp KK one src cb) x.1 nm]
 |_,_=>[]
def DE(KK:Nat->List Nat):(ps:List Sp)->w6 ps->Nat->Nat->List AF
 |[],_,_,_=>[]
 |[p],x,nm,cb=>p.fact KK x nm cb
 |p::q::r,x,nm,cb=>p.fact KK x.1 nm cb++DE KK (q::r) x.2 (nm+1) (cb+2)
def uw:List (Nat×ShV)->List Lf->SE
 |[],_=>[]
 |(t,.lf _)::r,l::ls=>(t,.lf l)::uw r ls
 |(t,.ag ps)::r,ls=>(t,.ag (ls.take ps.length))::uw r (ls.drop ps.length)
 |_,[]=>[]
def wZ(E:SE):List (Nat×List Sp)->List Lf->Nat->List AF
 |[],_,_=>[]
 |(t,ps)::r,ls,cb=>match Bz E t with
  |some (.lf (.bp b 0))=>.box cb b (ls.take ps.length)::wZ E r (ls.drop ps.length) (cb+1)
  |some (.lf (.sl _))=>wZ E r (ls.drop ps.length) (cb+1)
  |_=>[]
def DV(F:List AF)(l:Lf):List Nat:=match l with
 |.sl h=>F.flatMap λf=>match f with
  |.own _ _ i K _ h'=>bif Nat.beq h h' then i::K else []
  |.rep _ K _ h'=>bif Nat.beq h h' then K else []
  |.box _ _ _=>[]
  |.isn _ _=>[]
  |.ag _=>[]
  |.prt _ _ _ _ _=>[]
  |.pbx _ _ _ _ _=>[]
  |.hol _ _ i _ h' _ _=>bif Nat.beq h h' then [i]else []
  |.mp _ _ _ _ _=>[]
  |.pt _ _ i K _ h' _=>bif Nat.beq h h' then i::K else []
 |.mp h=>F.flatMap λf=>match f with
  |.mp _ _ i _ h'=>bif Nat.beq h h' then [i]else []
  |_=>[]
 |.bp b _=>F.flatMap λf=>match f with
  |.box i b' _=>bif Nat.beq b b' then [i]else []
  |_=>[]
 |_=>[]
def ao6(F:List AF):AV->List Nat
 |.lf l=>DV F l
 |.ag ls=>ls.flatMap (DV F)
 |.tu _=>[]
def abn(E:SE)(F:List AF)(t:Nat):List Nat:=match bN E t with
 |some v=>ao6 F v
 |none=>[]
def anD(E:SE)(F:List AF)(t:Nat):List Nat:=match bN E t with
 |some (.lf (.bp b _))=>F.flatMap λf=>match f with
  |.box _ b' cs=>bif Nat.beq b b' then cs.flatMap (DV F)else []
  |_=>[]
 |_=>[]
def abI(E:SE)(F:List AF)(cc t:Nat):List Nat:=bif Nat.beq t 4000000 then [cc]else bif Nat.ble 1000000 t then anD E F (t-1000000)else abn E F t
def rK(sh:Shp)(KE:SE)(KF:List AF)(nb cb:Nat)(d:w6 sh.ls):SS:=
 let ls:=pH sh.ls d nb
 ⟨uw sh.vs ls,DE (abI KE KF (cb+255)) sh.ls d nb cb++wZ KE sh.bx (ls.drop (sh.vs.flatMap (λp=>p.2.ls)).length) (cb+2*sh.ls.length),nb+64,cb+256,[]⟩
def qz(F:List AF):List Sp->List Lf->Nat->List (Nat×Nat)
 |.own t e _ _::ps,l::ls,cb=>match fy t e 0 F l with
  |some (i,_,_)=>(i,cb)::qz F ps ls (cb+2)
  |none=>qz F ps ls (cb+2)
 |.ownk t e _::ps,l::ls,cb=>match fy t e 0 F l with
  |some (i,_,_)=>(i,cb)::qz F ps ls (cb+2)
  |none=>qz F ps ls (cb+2)
 |.mp k v::ps,.mp h::ls,cb=>match uP k v h F with
  |some s=>(s.i,cb)::qz F ps ls (cb+2)
  |none=>qz F ps ls (cb+2)
 |.pt t _ _ _::ps,.sl h::ls,cb=>match Bm t h F with
  |some s=>(s.i,cb)::qz F ps ls (cb+2)
  |none=>qz F ps ls (cb+2)
 |_::ps,_::ls,cb=>qz F ps ls (cb+2)
 |_,_,_=>[]
def IS(E:SE)(F:List AF):List (Nat×List Sp)->Nat->List (Nat×Nat)
 |[],_=>[]
 | (t,_)::r,cb=>match Bz E t with
  |some (.lf (.bp b 0))=>match iw b F with
   |some (i,_)=>(i,cb)::IS E F r (cb+1)
   |none=>[]
  |some (.lf (.sl _))=>IS E F r (cb+1)
  |_=>[]
def BJ(F:List AF)(cc:Nat):List Sp->List Lf->List (Nat×Nat)
 |.own t e _ _::ps,l::ls=>(match fy t e 0 F l with
  |some (_,K,_)=>K.map λk=>(k,cc)
  |none=>[])++BJ F cc ps ls
 |.rep t _ _::ps,l::ls=>(match gH t F l with
  |some s=>s.all.map λk=>(k,cc)
  |none=>[])++BJ F cc ps ls
 |.pt t _ _ _::ps,.sl h::ls=>(match Bm t h F with
  |some s=>s.K.map λk=>(k,cc)
  |none=>[])++BJ F cc ps ls
 |_::ps,_::ls=>BJ F cc ps ls
 |_,_=>[]
def sub(a b:List Nat):Bool:=a.all λk=>b.any λj=>Nat.beq k j
def Cm(KK:Nat->List Nat)(g:Nat->Nat)(F:List AF)(cb:Nat):Sp->Lf->Bool
 |.own t e one src,.sl h=>match fy t e 0 F (.sl h)with
  |some (i,K,_)=>Nat.beq (g i) cb&&(t.ty.pureB||eM e||sub (K.map g) (vp KK one src cb))
  |none=>false
 |.rep t one src,.sl h=>match gH t F (.sl h)with
  |some s=>sub (s.all.map g) (vp KK one src cb)
  |none=>false
 |.ownk t e _,.sl h=>match fy t e 0 F (.sl h)with
  |some (i,_,_)=>Nat.beq (g i) cb&&(t.ty.pureB||eM e)
  |none=>false
 |.mp k v,.mp h=>match uP k v h F with
  |some s=>Nat.beq (g s.i) cb
  |none=>false
 |.pt t _ one src,.sl h=>match Bm t h F with
  |some s=>Nat.beq (g s.i) cb&&sub (s.K.map g) (vp KK one src cb)
  |none=>false
 |_,_=>true
def Fy(KK:Nat->List Nat)(g:Nat->Nat)(F:List AF):Nat->List Sp->List Lf->Bool
 |cb,p::ps,l::ls=>Cm KK g F cb p l&&Fy KK g F (cb+2) ps ls
 |_,_,_=>true
def Cy(g:Nat->Nat)(E:SE)(F:List AF):List (Nat×List Sp)->Nat->Bool
 |[],_=>true
 | (t,_)::r,cb=>match Bz E t with
  |some (.lf (.bp b 0))=>match iw b F with
   |some (i,_)=>Nat.beq (g i) cb&&Cy g E F r (cb+1)
   |none=>false
  |some (.lf (.sl _))=>Cy g E F r (cb+1)
  |_=>false
def alB(p:Sp)(l:Lf)(ls:List Lf):Bool:=match p,l with
 |.al d,.sl h=>(match(l::ls)[d]? with|some (.sl h')=>Nat.beq h h'|_=>false)
 |_,_=>true
def Ra:List Sp->List Lf->Bool
 |p::ps,l::ls=>alB p l ls&&Ra ps ls
 |_,_=>true
def BD(B:Nat)(sh:Shp)(KE:SE)(KF:List AF)(nb cb:Nat)(S:SS):Option (w6 sh.ls):=match rS S.E sh.vs,DQ KE (S.F++KF) sh.bx with
 | some l1,some l2=>match lA (S.F++KF) sh.ls (l1++l2)with
  |some d=>
   let kc:=KF.flatMap AF.uses
   let cm:=kc.map (λk=>(k,k))++qz (S.F++KF) sh.ls (l1++l2) cb++IS KE (S.F++KF) sh.bx (cb+2*sh.ls.length)++BJ (S.F++KF) (cb+255) sh.ls (l1++l2)
   let cm:=cm.filter λp=>Nat.ble 2 p.1&&Nat.ble 2 p.2
   let g:=pJ cm 2
   bif KF.all (λf=>!(fY S.d f))&&kc.all (λk=>Nat.beq (g k) k)&&Fy (abI KE KF (cb+255)) g (S.F++KF) cb sh.ls (l1++l2)&&Cy g KE (S.F++KF) sh.bx (cb+2*sh.ls.length)&&KE.all (λp=>p.2.free nb)&&KF.all (AF.free nb)&&Nat.ble sh.ls.length 64&&KE.all (λp=>(bN S.E p.1).isNone)&&Nat.ble 64 nb&&Nat.ble B nb&&Ra sh.ls (l1++l2)then some d else none
  |none=>none
 |_,_=>none
theorem Hb{F:List AF}{η η':Vn}{p:Sp}{l:Lf}{x:p.den}{nm:Nat}(hlow:∀m,m<64->η'.h m=η.h m)(h:p.abs F l=some x)(hn:η'.h nm=l.hd η)(hal:∀d,p=.al d->η'.h (nm+d)=l.hd η):(p.leaf x nm).cells η'=l.cells η/\(p.leaf x nm).val η'=l.val η:=by
 cases p with
 |sc s=>
  cases l<;>simp only[Sp.abs]at h<;>try cases h
  split at h
  ·rename_i he;subst he;simp only[no]at h;subst h;exact⟨rfl,rfl⟩
  ·cases h
 |ar n s=>
  cases l<;>simp only[Sp.abs]at h<;>try cases h
  split at h
  ·rename_i he;obtain⟨rfl,rfl⟩:=he;simp only[no]at h;subst h;exact⟨rfl,rfl⟩
  ·cases h
 |xt n=>
  cases l<;>simp only[Sp.abs]at h<;>try cases h
  split at h
  ·rename_i he;subst he;simp only[no]at h;subst h;exact⟨rfl,rfl⟩
  ·cases h
 | own t e one src=>
  simp only[Sp.abs]at h;split at h
  ·rename_i i K xs ho;refine⟨?_,?_⟩
   ·simp only[Sp.leaf,Lf.cells,hn];cases l<;>simp[fy]at ho<;>rfl
   grind[Sp.leaf,Lf.val,nH]
  ·cases h
 |rep t one src=>
  grind[Sp.abs,Sp.leaf,Lf.cells,Lf.val,oe]
 | ownk t e h0=>
  cases l with
  |sl h' =>
   simp only[Sp.abs]at h;cases hb:(Nat.beq h0 h'&&Nat.blt h0 64)
   ·grind
   ·simp only[Y5]at hb;have h1:=f9 hb.1;have h2:h0+1<=64:=Zh hb.2;grind[Sp.leaf,Lf.cells,Lf.val]
  |_=>cases h
 |mp k v=>
  cases l with
  |mp h'=>exact⟨by simp only[Sp.leaf,Lf.cells,hn];rfl,by simp only[Sp.leaf,Lf.val,hn];rfl⟩
  |_=>cases h
 |pt t e one src=>
  cases l with
  |sl h'=>exact⟨by simp only[Sp.leaf,Lf.cells,hn];rfl,by simp only[Sp.leaf,Lf.val,hn];rfl⟩
  |_=>cases h
 |al d=>
  cases l with
  |sl h'=>exact⟨by simp only[Sp.leaf,Lf.cells,hal d rfl];rfl,by simp only[Sp.leaf,Lf.val,hal d rfl];rfl⟩
  |_=>cases h
theorem X4{F:List AF}{η η':Vn}{p:Sp}{l:Lf}{ls:List Lf}{x:p.den}{nm:Nat}(h:p.abs F l=some x)(ha:alB p l ls=true)(hn:∀(j:Nat) (l':Lf),(l::ls)[j]?=some l'->η'.h (nm+j)=l'.hd η)(d:Nat)(hp:p=.al d):η'.h (nm+d)=l.hd η:=by
 subst hp;cases l with
 |sl h' =>
  simp only[alB]at ha;split at ha
  ·simp_all
  ·cases ha
 |_=>cases h
theorem En{F:List AF}{η η':Vn}(hlow:∀m,m<64->η'.h m=η.h m):∀{ps:List Sp} {ls:List Lf} {d:w6 ps} {nm:Nat},lA F ps ls=some d->Ra ps ls=true->(∀(j:Nat) (l:Lf),ls[j]?=some l->η'.h (nm+j)=l.hd η) ->
  (pH ps d nm).length=ls.length/\∀(j:Nat) (l l':Lf),ls[j]?=some l->(pH ps d nm)[j]?=some l'->l'.cells η'=l.cells η/\l'.val η'=l.val η
 |[],[],d,nm,h,_,hn=>⟨rfl,λj l l' h=>by simp at h⟩
 | [p],[l],d,nm,h,ha,hn=>⟨rfl,λj l1 l' h1 h2=>by
  cases j with
  |zero=>
   simp only[pH,acM,no]at h1 h2;subst h1 h2;simp only[Ra,Y5]at ha;exact Hb hlow h (hn 0 _ rfl) (X4 h ha.1 hn)
  |succ j=>simp at h1⟩
 | p::q::r,l::ls,d,nm,h,ha,hn=>by
  rw[Ra,Y5]at ha;simp only[lA]at h;split at h
  ·rename_i x y hx hy;simp only[no]at h;subst h;obtain⟨i1,i2⟩:=En (η:=η) (η':=η') hlow (nm:=nm+1) hy ha.2 λj l' hj=>by
    have:=hn (j+1) l' (by simpa using hj);grind
   refine⟨by simp only[pH,aaG,i1],λj l1 l' h1 h2=>?_⟩;cases j with
   |zero=>
    simp only[pH,acM,no]at h1 h2;subst h1 h2;exact Hb hlow hx (hn 0 _ rfl) (X4 hx ha.1 hn)
   |succ j=>
    grind[pH]
  ·cases h
 |[],_::_,_,_,h,_,_=>by simp[lA]at h
 |[_],[],_,_,h,_,_=>by simp[lA]at h
 |[_],_::_::_,_,_,h,_,_=>by simp[lA]at h
 |_::_::_,[],_,_,h,_,_=>by simp[lA]at h
theorem yN{η η':Vn}:∀{as bs:List Lf},as.length=bs.length->(∀(j:Nat) (l l':Lf),bs[j]?=some l->as[j]?=some l'->l'.cells η'=l.cells η)->au η' as=au η bs
 |[],[],_,_=>rfl
 |a::as,b::bs,hl,h=>by simp only[au];rw[h 0 b a rfl rfl,yN (by simpa using hl) λj l l' h1 h2=>h (j+1) l l' (by simpa using h1) (by simpa using h2)]
 |[],_::_,hl,_=>by simp at hl
 |_::_,[],hl,_=>by simp at hl
theorem CE{E:SE}{η η':Vn}:∀{vs:List (Nat×ShV)} {ls as rest:List Lf},rS E vs=some ls->as.length=(ls++rest).length->(∀(j:Nat) (l l':Lf),(ls++rest)[j]?=some l->as[j]?=some l'->l'.cells η'=l.cells η/\l'.val η'=l.val η) ->
  ∀t v,bN (uw vs as) t=some v->∃v0,bN E t=some v0/\v.val η'=v0.val η
 |[],ls,as,rest,_,_,_,t,v,h=>by simp[uw,bN]at h
 | (t0,.lf p)::r,ls,as,rest,hg,hl,hc,t,v,h=>by
  simp only[rS]at hg;split at hg
  ·rename_i l ls' h1 h2;simp only[no]at hg;subst hg;cases as with
   |nil=>simp at hl
   |cons a as=>
    simp only[uw,bN]at h;cases hb:Nat.beq t t0
    ·rw[hb]at h;exact CE h2 (by simpa using hl) (λj l l' k1 k2=>hc (j+1) l l' (by simpa using k1) (by simpa using k2)) t v h
    ·rw[hb]at h;simp only[Ze,no]at h;subst h;obtain rfl:=f9 hb;exact⟨_,h1,(hc 0 l a rfl rfl).2⟩
  ·cases hg
 | (t0,.ag ps)::r,ls,as,rest,hg,hl,hc,t,v,h=>by
  simp only[rS]at hg;split at hg
  ·rename_i l ls' h1 h2;cases hb0:Nat.beq l.length ps.length
   ·grind
   ·rw[hb0]at hg;simp only[Ze,no]at hg;subst hg;have hlen:=f9 hb0;simp only[ZD]at hl;simp only[uw,bN]at h;cases hb:Nat.beq t t0
    ·rw[hb]at h;refine CE (rest:=rest) h2 (by simp;omega) (λj l1 l' k1 k2=>?_) t v h;rw[aci]at k2;exact hc (ps.length+j) l1 l' (by grind) k2
    grind[AV.val,Option.some.injEq,Nat.eq_of_beq_eq_true,yN]
  ·cases hg
end
section
variable [X:XTab] [G:GTab] [Yc:GCx]
theorem E7{a b:List Nat}(h:sub a b=true):∀k∈a,k∈b:=λ_ hk=>aqZ h hk
theorem DJ{g:Nat->Nat}(hg:Gd g){w:World}{c:aS}{t:TC}{e:TypeId}{i cb:Nat}{K K':List Nat}{xs:List t.den}{v:Hd}(h:HA.holds w c (dS t.ty e i K xs v))(hi:g i=cb)(hK:(t.ty.pureB=true\/eM e=true)\/sub (K.map g) K'=true) :
  HA.holds w (λb=>g (c b)) (dS t.ty e cb K' xs v):=by
 cases htr:eM e;rotate_left
 ·rw[gZ htr]at h|-;subst hi;exact HA.ren_holds hg (.tr t.ty e i K xs v) h
 rw[dx htr]at h|-;have h1:=HA.ren_holds hg (.own t.ty e i K xs v) h;subst hi;rcases hK with(hK|hK)|hK
 ·exact Ao hK _ _ h1
 ·grind
 ·obtain⟨ys,a1,a2,a3⟩:=h1;exact⟨ys,a1.mono (bD.keep (λ_ _ hb=>⟨E7 hK _ hb,rfl⟩) t.ty),a2,a3⟩
theorem X9{g:Nat->Nat}(hg:Gd g){w:World}{c:aS}{t:TC}{K K':List Nat}{xs:List t.den}{v:Hd}(h:HA.holds w c (.rep t.ty K xs v))(hK:sub (K.map g) K'=true):HA.holds w (λb=>g (c b)) (.rep t.ty K' xs v):=
 bD.keep (λ_ _ hb=>⟨E7 hK _ hb,rfl⟩) (.slice t.ty) xs v (HA.ren_holds hg (.rep t.ty K xs v) h)
theorem Ps{KK:Nat->List Nat}{g:Nat->Nat}(hg:Gd g){F:List AF}{η η':Vn}{w:World}{c:aS}(hF:aj w c (F.map (AF.ha η))){p:Sp}{l:Lf}{x:p.den}{nm cb:Nat}(hlow:∀m,m<64->η'.h m=η.h m)(ha:p.abs F l=some x)(hc:Cm KK g F cb p l=true)(hn:η'.h nm=l.hd η) :
  aj w (λb=>g (c b)) ((p.fact KK x nm cb).map (AF.ha η')):=by
 cases p with
 |sc s=>exact aj.nil _ _
 |ar n s=>exact aj.nil _ _
 |xt n=>exact aj.nil _ _
 | own t e one src=>
  simp only[Sp.abs]at ha;split at ha
  ·rename_i i K xs ho;simp only[no]at ha;subst ha;refine aj.cons ?_ (aj.nil _ _);simp only[AF.ha,hn];cases l with
   |sl h=>
    simp only[Cm,ho,Y5,abl]at hc;exact DJ hg (eC ho hF) (f9 hc.1) (by grind)
   |nl=>
    simp only[fy,no,ZC]at ho;obtain⟨_,_,rfl⟩:=ho;exact sA _ _
   |_=>simp[fy]at ho
  ·cases ha
 | rep t one src=>
  simp only[Sp.abs]at ha;split at ha
  ·rename_i s hs;simp only[no]at ha;subst ha;refine aj.cons ?_ (aj.nil _ _);simp only[AF.ha,hn];cases l with
   |sl h=>
    simp only[Cm,hs]at hc;exact X9 hg (gE hs hF) hc
   |nl=>
    simp only[gH,no]at hs;subst hs;exact ra _ _
   |_=>simp[gH]at hs
  ·cases ha
 | ownk t e h0=>
  cases l with
  | sl h' =>
   simp only[Sp.abs]at ha;cases hb:(Nat.beq h0 h'&&Nat.blt h0 64)
   ·grind
   ·rw[hb]at ha;simp only[Y5]at hb;have h1:=f9 hb.1;have h2:h0+1<=64:=Zh hb.2;subst h1;simp only[Ze]at ha;split at ha
    ·rename_i i K xs ho;simp only[no]at ha;subst ha;simp only[Cm,ho,Y5,abl]at hc;refine aj.cons ?_ (aj.nil _ _);simp only[AF.ha,hlow h0 (by omega)];exact DJ hg (eC ho hF) (f9 hc.1) (.inl hc.2)
    ·cases ha
  |_=>cases ha
 | mp k v=>
  cases l with
  |mp h' =>
   simp only[Sp.abs]at ha;split at ha
   ·rename_i s hs;simp only[no]at ha;subst ha;simp only[Cm,hs]at hc;refine aj.cons ?_ (aj.nil _ _);have h3:=HA.ren_holds hg _ (hF _ (ZA.2 ⟨_,gF hs,rfl⟩));simp only[AF.ha,HA.ren]at h3|-;rw[f9 hc]at h3;rw[hn];exact h3
   ·cases ha
  |_=>cases ha
 |al d=>exact aj.nil _ _
 | pt t e one src=>
  cases l with
  | sl h' =>
   simp only[Sp.abs]at ha;split at ha
   ·rename_i s hs;cases he:Nat.beq e s.e
    ·grind
    rw[he]at ha;simp only[Ze,no]at ha;subst ha;simp only[Cm,hs,Y5]at hc;have h3:=HA.ren_holds hg _ (hF _ (ZA.2 ⟨_,jW hs,rfl⟩));simp only[AF.ha,HA.ren]at h3;rw[f9 hc.1,<-f9 he]at h3;have h4:HA.holds w (λb=>g (c b)) (.pt t.ty e cb (vp KK one src cb) s.xs (η.h h') s.m):=xb.keep (λb _ hb=>⟨hb,rfl⟩) (λb _ hb=>⟨E7 hc.2 _ hb,rfl⟩) h3;have hn':η'.h nm=η.h h':=hn;refine aj.cons ?_ (aj.cons ?_ (aj.nil _ _))
    ·simp only[AF.ha,hn'];exact h4
    ·simp only[AF.ha,hn'];exact KY h4
   ·cases ha
  |_=>cases ha
theorem Mm{KK:Nat->List Nat}{g:Nat->Nat}(hg:Gd g){F:List AF}{η η':Vn}{w:World}{c:aS}(hF:aj w c (F.map (AF.ha η)))(hlow:∀m,m<64->η'.h m=η.h m):∀{ps:List Sp} {ls:List Lf} {d:w6 ps} {nm cb:Nat},lA F ps ls=some d->Fy KK g F cb ps ls=true ->
  (∀(j:Nat) (l:Lf),ls[j]?=some l->η'.h (nm+j)=l.hd η)->aj w (λb=>g (c b)) ((DE KK ps d nm cb).map (AF.ha η'))
 |[],[],_,_,_,_,_,_=>aj.nil _ _
 |[p],[l],d,nm,cb,ha,hc,hn=>by simp only[Fy,Y5]at hc;exact Ps hg hF hlow ha hc.1 (hn 0 l rfl)
 |p::q::r,l::ls,d,nm,cb,ha,hc,hn=>by
  simp only[lA]at ha;split at ha
  ·rename_i x y hx hy;simp only[no]at ha;subst ha;rw[Fy,Y5]at hc;simp only[DE,abz];refine(Ps hg hF hlow hx hc.1 (hn 0 l rfl)).append (Mm hg hF hlow hy hc.2 λj l' hj=>?_);have:=hn (j+1) l' (by simpa using hj);grind
  ·cases ha
 |[],_::_,_,_,_,h,_,_=>by simp[lA]at h
 |[_],[],_,_,_,h,_,_=>by simp[lA]at h
 |[_],_::_::_,_,_,_,h,_,_=>by simp[lA]at h
 |_::_::_,[],_,_,_,h,_,_=>by simp[lA]at h
theorem CY{g:Nat->Nat}(hg:Gd g){KE:SE}{F:List AF}{η η':Vn}{w:World}{c:aS}(hF:aj w c (F.map (AF.ha η)))(hb:η'.b=η.b):∀{bx:List (Nat×List Sp)} {ls as:List Lf} {cb:Nat},DQ KE F bx=some ls->Cy g KE F bx cb=true->as.length=ls.length ->
  (∀(j:Nat) (l l':Lf),ls[j]?=some l->as[j]?=some l'->l'.cells η'=l.cells η)->aj w (λb=>g (c b)) ((wZ KE bx as cb).map (AF.ha η'))
 |[],_,_,_,_,_,_,_=>aj.nil _ _
 | (t,ps)::r,ls,as,cb,hgb,hc,hl,hcell=>by
  simp only[DQ]at hgb;split at hgb
  ·rename_i b hlk;split at hgb
   ·rename_i i cs ls' h1 h2;cases hb0:Nat.beq cs.length ps.length
    ·grind
    ·rw[hb0]at hgb;simp only[Ze,no]at hgb;subst hgb;have hlen:=f9 hb0;simp only[Cy,hlk,h1,Y5]at hc;simp only[ZD]at hl;simp only[wZ,hlk,aas];refine aj.cons ?_ (CY hg hF hb h2 hc.2 (by simp;omega) λj l l' k1 k2=>?_)
     ·have h3:=HA.ren_holds hg _ (hF _ (ZA.2 ⟨_,d6 h1,rfl⟩));grind[AF.ha,HA.ren,Nat.eq_of_beq_eq_true,yN]
     grind
   ·cases hgb
  ·rename_i h hlk;split at hgb
   ·rename_i h0 _ _ _ ls' h1 h2;cases hb0:Nat.beq 1 ps.length
    ·grind
    ·rw[hb0]at hgb;simp only[Ze,no]at hgb;subst hgb;have hlen:=f9 hb0;simp only[Cy,hlk]at hc;simp only[aaG]at hl;simp only[wZ,hlk];refine CY hg hF hb h2 hc (by simp;omega) λj l l' k1 k2=>?_;grind
   ·cases hgb
  ·cases hgb
theorem PO{g:Nat->Nat}:(A:HA)->(∀k∈A.uses,g k=k)->True->A.ren g=A
 | .tr t e i K xs v,h,_=>by
  have:K.map g=K:=by
   conv=>rhs;rw[<-akz K]
   exact abw λk hk=>h k (Zf _ hk)
  simp only[HA.ren,this,h i ZO]
 |.hol t e i xs v k cs,h,_=>by simp only[HA.ren,h i (by simp[HA.uses])]
 | .pt t e i K xs v m,h,_=>by
  have:K.map g=K:=by
   conv=>rhs;rw[<-akz K]
   exact abw λk hk=>h k (Zf _ hk)
  simp only[HA.ren,this,h i ZO]
 | .rep t K xs v,h,_=>by
  have:K.map g=K:=by
   conv=>rhs;rw[<-akz K]
   exact abw λk hk=>h k hk
  simp only[HA.ren,this]
 | .own t e i K xs v,h,_=>by
  have:K.map g=K:=by
   conv=>rhs;rw[<-akz K]
   exact abw λk hk=>h k (Zf _ hk)
  simp only[HA.ren,this,h i ZO]
 |.box i b cs,h,_=>by simp only[HA.ren,h i (by simp[HA.uses])]
 |.mp i b es,h,_=>by simp only[HA.ren,h i (by simp[HA.uses])]
 | .elem t K x p,h,_=>by
  have:K.map g=K:=by
   conv=>rhs;rw[<-akz K]
   exact abw λk hk=>h k hk
  simp only[HA.ren,this]
 |.old _ _,_,_=>rfl
 |.pure _,_,_=>rfl
 |.gl _ _ _,_,_=>rfl
 |.lp _ _,_,_=>rfl
theorem F6{E:SE}:∀{vs:List (Nat×ShV)} {ls:List Lf},rS E vs=some ls->ls.length=(vs.flatMap (λp=>p.2.ls)).length:=by
 intro vs;induction vs with
 |nil=>intro ls h;simp[rS]at h;subst h;rfl
 | cons p r ih=>
  intro ls h;obtain⟨t0,v0⟩:=p;cases v0 with
  |lf p=>
   grind[rS,ShV.ls]
  |ag ps=>
   grind[rS,Nat.beq,ShV.ls,Option.some.injEq,Nat.eq_of_beq_eq_true]
theorem Di{E E':SE}{t:Nat}(h:bN E t=none):bN (E++E') t=bN E' t:=by
 induction E with
 |nil=>rfl
 |cons p r ih=>
  simp only[acI,bN]at h|-;grind
theorem BQ[Rd]{B nt:Nat}{L0:List HA}{β:Vn}(hL0:L0ok L0){sh:Shp}{KE:SE}{KF:List AF}{nb cb:Nat}{S:SS}{d:w6 sh.ls}(h:BD B sh KE KF nb cb S=some d){a:Act}{w:World}(hI:fX B nt L0 β KE KF S a w) :
  fX B nt L0 β KE KF (rK sh KE KF nb cb d) a w:=by
 unfold BD at h;split at h
 ·rename_i l1 l2 g1 g2;split at h
  ·rename_i d' hd;simp only at h;generalize hcm:((KF.flatMap AF.uses).map (λk=>(k,k))++qz (S.F++KF) sh.ls (l1++l2) cb++IS KE (S.F++KF) sh.bx (cb+2*sh.ls.length)++BJ (S.F++KF) (cb+255) sh.ls (l1++l2)).filter (λp=>Nat.ble 2 p.1&&Nat.ble 2 p.2)=cm at h;generalize hgg:pJ cm 2=g at h;cases hb:(KF.all (λf=>!(fY S.d f))&&(KF.flatMap AF.uses).all (λk=>Nat.beq (g k) k)&&Fy (abI KE KF (cb+255)) g (S.F++KF) cb sh.ls (l1++l2)&&Cy g KE (S.F++KF) sh.bx (cb+2*sh.ls.length)&&KE.all (λp=>p.2.free nb)&&KF.all (AF.free nb)&&Nat.ble sh.ls.length 64&&KE.all (λp=>(bN S.E p.1).isNone)&&Nat.ble 64 nb&&Nat.ble B nb&&Ra sh.ls (l1++l2))
   ·grind
   ·rw [hb]at h;simp only[Ze,no]at h;subst h;simp only[Y5]at hb;obtain⟨⟨⟨⟨⟨⟨⟨⟨⟨⟨hdead,hfix⟩,hchk⟩,hchb⟩,hfE⟩,hfF⟩,h64⟩,hno⟩,hnb⟩,hnB⟩,hal⟩:=hb;have hg:Gd g:=by
     subst hgg;refine KO ?_;simp only[acw,Y5];refine⟨rfl,Zy.2 λx hx=>?_⟩;grind
    obtain⟨η,c,ρ,ha,hE,hH,hL⟩:=hI
    have hls:(l1++l2).length=sh.ls.length:=by
     have gen:∀{ps:List Sp} {ls:List Lf} {d:w6 ps},lA (S.F++KF) ps ls=some d->ls.length=ps.length:=by
      intro ps;induction ps with
      |nil=>intro ls d h;cases ls<;>simp[lA]at h|-
      | cons p r ih=>
       intro ls d h;cases r with
       | nil=>
        cases ls with
        |nil=>simp[lA]at h
        |cons l ls=>
         cases ls with
         |nil=>rfl
         |cons _ _=>simp[lA]at h
       | cons q r=>
        cases ls with
        |nil=>simp[lA]at h
        |cons l ls=>
         simp only[lA]at h;grind
     exact gen hd
    have h64:=Zh h64;let η':Vn:=η.set nb (aT η (l1++l2))
    have hagr:η.agr nb η':=Vn.set_agr (by simp only[aT,aes];omega);have hnm:∀(j:Nat) (l:Lf),(l1++l2)[j]?=some l->η'.h (nb+j)=l.hd η:=λj l hj=>Vn.set_at (by rw[aT,aeJ,hj];rfl);have hlv:live S.d KF=KF:=List.filter_eq_self.2 λf hf=>Zy.1 hdead f hf;rw[hlv]at hH;have hF:aj w c ((S.F++KF).map (AF.ha η)):=hH;have hlow:∀m,m<64->η'.h m=η.h m:=λm hm=>(hagr m (by simp only[out,abl];exact .inl (aah (by have:=Zh hnb;omega)))).1;obtain⟨k1,k2⟩:=En (η:=η) (η':=η') hlow (nm:=nb) hd hal hnm;refine⟨η',λb=>g (c b),ρ,ha,?_,?_,?_,λm hm=>?_⟩
    ·intro t v hl;rcases oD hl with hl|hl
     ·obtain⟨v0,e1,e2⟩:=CE (η:=η) (η':=η') (rest:=l2) g1 k1 k2 t v hl;rw[e2];refine hE t v0 ?_;have app:∀{E E':SE},bN E t=some v0->bN (E++E') t=some v0:=by
       intro E E' h;induction E with
       |nil=>simp[bN]at h
       |cons p r ih=>
        grind[bN]
      exact app e1
     ·rw[AV.val_agr hagr v (Zy.1 hfE _ (lL hl))];refine hE t v ?_;have:=Zy.1 hno _ (lL hl);rw[Di (by simp_all)];exact hl
    ·rw[show live (rK sh KE KF nb cb d').d KF=KF from xT KF,abz];refine aj.append ?_ ?_
     ·simp only[rK,abz];refine aj.append (Mm hg hF hlow hd hchk hnm) (CY (η:=η) (η':=η') hg hF rfl g2 hchb ?_ λj l l' e1 e2=>?_)
      ·have:=F6 g1;grind
      ·have hl1:=F6 g1;rw[aci]at e2;grind
     ·intro A hA;obtain⟨f,hf,rfl⟩:=ZA.1 hA;have hold:=hH _ (ZA.2 ⟨f,Z7 _ hf,rfl⟩);have hfr:=Zy.1 hfF f hf;rw[AF.ha_agr hagr f hfr];have:=HA.ren_holds hg _ hold;grind[PO,AF.ha_uses,Nat.eq_of_beq_eq_true,List.all_eq_true]
    ·intro A hA;have:=HA.ren_holds hg _ (hL.1 A hA);rwa [PO A (λk hk=>by
      have:=hL0.old A hA k hk;match k,this with
      |0,_=>exact hg.z
      |1,_=>exact hg.o) (by grind)]at this
    ·have:=Zh hnB;have hz:=hagr m (by simp only[out,abl];exact .inl (aah (by omega)));grind
  ·cases h
 ·cases h
end
end Go.Sm
