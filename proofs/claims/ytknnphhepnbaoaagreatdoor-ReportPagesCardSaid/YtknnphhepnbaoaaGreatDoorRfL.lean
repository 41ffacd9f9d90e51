/-
  The symbolic evaluator: regions, the end of the proof. Nothing of a program is named here; no condition.
-/
import Derived.Test.YtknnphhepnbaoaaGreatDoorRfK
namespace Go.Sm
set_option linter.unusedSectionVars false
section
variable [X:XTab] [G:GTab]
def oldU (A:HA):Prop:=∀ k∈A.uses,k<2
structure L0ok (L0:List HA):Prop where
 old : ∀ A∈L0,oldU A
 gl : ∀ A∈GLH,A∈L0
section
variable {C:Cx} {P:Program} {n N nt:Nat} {cls:List (List Nat)} {ops:List Oper} {E:SE} {F:List AF} {es:List Ent} {Q:Exit→Act→World→Prop} {L0:List HA} {β:Vn}
def addL (listed:Nat→Bool) (i:Nat):Nat→Bool:=fun j=>Nat.beq j i||listed j
theorem addL_ne {listed:Nat→Bool} {i j:Nat} (h:j≠i):addL listed i j=listed j:=by
 have:Nat.beq j i=false:=by
  cases hb:Nat.beq j i
  ·rfl
  ·exact absurd (Nat.eq_of_beq_eq_true hb) h
 simp [addL,this]
theorem baseB_E (h:baseB n E F=true) {t:Nat} {v:AV} (hl:look E t=some v) (i:Nat):v.free (n+64 * i)=true:=by
 simp only [baseB,Bool.and_eq_true] at h
 have:=List.all_eq_true.1 h.1 _ (look_mem hl)
 exact v.okN_free (cl:=[]) (by simp) this
theorem reg_step {draw:Bool} (h64:64≤n) (hb:regB C n N nt draw cls ops E F es=true) (hlen:es.length=ops.length) (hall : ∀ j o e,ops[j]? = some o→es[j]? = some e→EntOk C P n N cls ops E F o j (es.take j) e) (hL0:L0ok L0)
  {listed:Nat→Bool} {i:Nat} {o:Oper} (ho:ops[i]? = some o) (hf:listed i=false) (hcl : ∀ j,mem j (cls.getD i [])=true→listed j=true)
  (hun : ∀ m,m<ops.length→listed m=true→mem i (cls.getD m [])=false) {a:Act} {w:World} (hJ:RJ nt cls ops E F es L0 β listed a w) :
  wpOp P ops.toArray Q i (RJ nt cls ops E F es L0 β (addL listed i)) a w:=by
 obtain ⟨η,c,ρ,ha,hE,hV,hB,hL,hR⟩:=hJ
 have hi:=(List.getElem?_eq_some_iff.1 ho).1
 have he:es[i]? = some (es[i]'(by omega)):=List.getElem?_eq_getElem _
 generalize hee:es[i]'(by omega)=e at he
 obtain ⟨hd,hg,hsem⟩:=hall i o e ho he
 obtain ⟨b1,b2,b3,b4,b5,_⟩:=regB_ent hb ho he
 have hbase:baseB n E F=true:=by simp only [regB,Bool.and_eq_true] at hb; exact hb.1.2
 have hnd:nodupL (dsts ops)=true:=by simp only [regB,Bool.and_eq_true] at hb; exact hb.1.1.2
 have next : ∀ (v:Value) (η' : Vn) (w' : World) (c' : Col),η.agr (n+64 * i) η' → Stp e.u.κ w c w' c' → (e.u.κ=[]∨exT e.ex)→((exT e.ex→v=e.u.av.val η' ∧ ∀ f∈e.u.fs,(f.ha η').holds w' c')∧(¬ exT e.ex→v=undef)) →
   RJ nt cls ops E F es L0 β (addL listed i) (a.put o.dst v) w' := by
  intro v η' w' c' hagr hst hκ hv
  refine ⟨η',c',(match o.dst with | some d=>upd ρ d v | none=>ρ),?_,?_,?_,?_,?_,?_⟩
  ·cases hod:o.dst with
   | none=>exact ha
   | some d=>exact ha.put (b4 d (by rw [hd,hod])) v
  ·intro t u hl hno
   rw [AV.val_agr hagr u (baseB_E hbase hl i)]
   have hold:=hE t u hl fun m o' hm hlm=>hno m o' hm (by simp [addL,hlm])
   cases hod:o.dst with
   | none=>exact hold
   | some d=>
    have hne:Nat.beq t d=false:=by
     cases hbb:Nat.beq t d
     ·rfl
     ·exact absurd (by rw [hod,Nat.eq_of_beq_eq_true hbb]) (hno i o ho (by simp [addL]))
    simp only [upd,hne,cond_false]
    exact hold
  ·intro j e' hj hlj d' hd'
   by_cases hji:j=i
   ·subst hji
    rw [he] at hj
    simp only [Option.some.injEq] at hj
    subst hj
    rw [hd] at hd'
    rw [hd']
    have:upd ρ d' v d' = v:=by simp [upd]
    simp only [this]
    exact ⟨fun hx=>(hv.1 hx).1,fun hx=>hv.2 hx⟩
   ·rw [addL_ne hji] at hlj
    have hjl:j<ops.length:=by have:=(List.getElem?_eq_some_iff.1 hj).1; omega
    have hoj:ops[j]? = some ops[j]:=List.getElem?_eq_getElem hjl
    obtain ⟨hdj,_,_⟩:=hall j _ e' hoj hj
    have hfree:e'.u.av.free (n+64 * i)=true:=e'.u.av.okN_free (by
     intro hm
     rcases List.mem_cons.1 hm with hm | hm
     ·exact hji hm.symm
     ·have:=hun j hjl hlj
      rw [mem_iff.2 hm] at this; cases this) (regB_ent hb hoj hj).1
    rw [AV.val_agr hagr _ hfree]
    have hold:=hV j e' hj hlj d' hd'
    cases hod:o.dst with
    | none=>exact hold
    | some d=>
     have hne:Nat.beq d' d=false:=by
      cases hbb:Nat.beq d' d
      ·rfl
      ·exact absurd (Nat.eq_of_beq_eq_true hbb) (nodup_ne hnd hoj ho (by rw [← hdj]; exact hd') hod hji)
     simp only [upd,hne,cond_false]
     exact hold
  ·intro f hfF hno
   have hfree:f.free (n+64 * i)=true:=by
    simp only [baseB,Bool.and_eq_true] at hbase
    exact f.okN_free (cl:=[]) (by simp) (List.all_eq_true.1 hbase.2 f hfF)
   rw [AF.ha_agr hagr f hfree]
   refine HA.stp hst _ (fun k hk=>?_) (hB f hfF fun m e' hm hl hx=>hno m e' hm (by simp [addL,hl]) hx)
   rw [AF.ha_uses] at hk
   rcases hκ with hκ | hκ
   ·rw [hκ]; simp
   ·exact hits_apart (hno i e he (by simp [addL]) hκ) k hk
  ·refine ⟨fun A hA=>?_,fun m hm=>?_⟩
   rotate_left
   ·have hz:=hagr m (by simp only [out,Bool.or_eq_true]; exact .inl (Nat.ble_eq_true_of_le (by omega)))
    rw [hz.1,hz.2]; exact hL.2 m hm
   refine HA.stp hst A (fun k hk=>?_) (hL.1 A hA)
   have h2:=hL0.old A hA k hk
   rcases b3 with h | ⟨_,h,_⟩
   ·rw [h]; simp
   ·intro hk'; have:=h k hk'; omega
  ·intro j e' hj hlj hx f hf' hno
   by_cases hji:j=i
   ·subst hji
    rw [he] at hj
    simp only [Option.some.injEq] at hj
    subst hj
    exact (hv.1 hx).2 f hf'
   ·rw [addL_ne hji] at hlj
    have hjl:j<ops.length:=by have:=(List.getElem?_eq_some_iff.1 hj).1; omega
    have hoj:ops[j]? = some ops[j]:=List.getElem?_eq_getElem hjl
    have hnm:mem i (cls.getD j [])=false:=hun j hjl hlj
    have hfree:f.free (n+64 * i)=true:=f.okN_free (by
     intro hm
     rcases List.mem_cons.1 hm with hm | hm
     ·exact hji hm.symm
     ·rw [mem_iff.2 hm] at hnm; cases hnm) ((regB_ent hb hoj hj).2.1 f hf')
    rw [AF.ha_agr hagr f hfree]
    refine HA.stp hst _ (fun k hk=>?_) (hR j e' hj hlj hx f hf' fun m e2 hm hl hx2 hmj hmc=>hno m e2 hm (by simp [addL,hl]) hx2 hmj hmc)
    rw [AF.ha_uses] at hk
    rcases hκ with hκ | hκ
    ·rw [hκ]; simp
    ·exact hits_apart (hno i e he (by simp [addL]) hκ (Ne.symm hji) hnm) k hk
 have run:exT e.ex→o.wp P a w (RJ nt cls ops E F es L0 β (addL listed i)) Q:=by
  intro hx
  obtain ⟨hpE,hpF⟩:=step_pre hb hlen hall he hx hf hcl hun hE hV hB hR
  unfold Oper.wp
  rw [ha.eval]
  rcases hsem with ⟨cc,aa,bb,v,hop,hpk,hu⟩ | hsem
  ·
   have hv:PureOk P ρ o [] (.bool v):=by
    unfold pickI at hpk
    split at hpk
    ·rename_i t
     split at hpk
     ·rename_i jc ec hfc
      have find_get : ∀ {t:Nat} {l:List Ent} {j0 j:Nat} {e:Ent},findD t l j0=some (j,e)→j0≤j∧l[j - j0]? = some e∧e.d=some t:=by
       intro t l
       induction l with
       | nil=>intro j0 j e h; simp [findD] at h
       | cons q r ih=>
        intro j0 j e h
        simp only [findD] at h
        have tail:findD t r (j0+1)=some (j,e)→j0≤j∧(q::r)[j - j0]? = some e∧e.d=some t:=fun h=>by
         obtain ⟨h1,h2,h3⟩:=ih h
         refine ⟨by omega,?_,h3⟩
         rw [show j - j0=(j - (j0+1))+1 by omega]
         simpa using h2
        split at h
        ·rename_i d hdq
         cases hbb:Nat.beq t d
         ·rw [hbb] at h; exact tail h
         ·rw [hbb] at h
          simp only [cond_true,Option.some.injEq,Prod.mk.injEq] at h
          obtain ⟨rfl,rfl⟩:=h
          exact ⟨Nat.le_refl _,by simp,by rw [hdq,Nat.eq_of_beq_eq_true hbb]⟩
        ·exact tail h
      have take_get : ∀ {j:Nat} {e' : Ent},(es.take i)[j]? = some e' → es[j]? = some e' := fun {j e'} h=>by
       rw [List.getElem?_take] at h
       split at h
       ·exact h
       ·cases h
      have hch:=ex_ch hlen hall
      cases hmb:(mem jc (cls.getD i [])&&sufx ec.g e.g)
      ·rw [hmb] at hpk; cases hpk
      ·rw [hmb] at hpk
       simp only [cond_true] at hpk
       simp only [Bool.and_eq_true] at hmb
       split at hpk
       ·rename_i x p q hxv hp hq
        simp only [Option.some.injEq] at hpk
        subst hpk
        obtain ⟨_,hgc,hdc⟩:=find_get hfc
        have hgc:=take_get hgc
        rw [Nat.sub_zero] at hgc
        have hxc:=ex_of (hch i e he) (hch jc ec hgc) hmb.2 hx
        have hcv:ρ t = .bool x:=by
         rw [(hV jc ec hgc (hcl jc hmb.1) t hdc).1 hxc,hxv]; rfl
        have branch : ∀ {side:Bool} {y:Operand} {p:Bool},pickB (cls.getD i []) e.g (es.take i) jc side y=some p→x=side→evo ρ y = .bool p:=by
         intro side y p hp hs
         unfold pickB at hp
         split at hp
         ·simp only [Option.some.injEq] at hp; subst hp; rfl
         ·rename_i t'
          split at hp
          ·rename_i j ej hfj
           cases hmb' : (mem j (cls.getD i [])&&(sufx ej.g e.g||sideG ej.g jc side e.g))
           ·rw [hmb'] at hp; cases hp
           ·rw [hmb'] at hp
            simp only [cond_true] at hp
            simp only [Bool.and_eq_true,Bool.or_eq_true] at hmb'
            obtain ⟨_,hgj,hdj⟩:=find_get hfj
            have hgj:=take_get hgj
            rw [Nat.sub_zero] at hgj
            have hxj:exT ej.ex:=by
             rcases hmb'.2 with h | h
             ·exact ex_of (hch i e he) (hch j ej hgj) h hx
             ·refine (hch j ej hgj).2 fun pr hpr=>?_
              unfold sideG at h
              split at h
              ·rename_i j' s g' hgg
               simp only [Bool.and_eq_true,beq_iff_eq] at h
               obtain ⟨⟨h1,h2⟩,h3⟩:=h
               rw [hgg] at hpr
               rcases List.mem_cons.1 hpr with rfl | hpr
               ·obtain rfl:=Nat.eq_of_beq_eq_true h1
                exact ⟨ec,x,hgc,hxv,by rw [h2]; exact hs⟩
               ·exact (hch i e he).1 hx pr (sufx_sub h3 pr hpr)
              ·cases h
            split at hp
            ·rename_i b' hbv
             simp only [Option.some.injEq] at hp
             subst hp
             show ρ t' = .bool b'
             rw [(hV j ej hgj (hcl j hmb'.1) t' hdj).1 hxj,hbv]; rfl
            ·cases hp
          ·cases hp
         ·cases hp
        exact p_pick hop hcv (fun hxt=>branch hp hxt) (fun hxf=>branch hq hxf)
       ·cases hpk
     ·cases hpk
    ·cases hpk
   rw [hv _ w c rfl (Heap.nil _ _)]
   refine next (.bool v) η w c (Vn.agr_refl _ η) ?_ (.inr hx) ⟨fun _=>⟨by rw [hu]; rfl,fun f hf' => by rw [hu] at hf'; simp at hf'⟩,fun h=>absurd hx h⟩
   rw [hu]; exact Stp.refl w c
  ·exact hsem hx η ρ hpE a _ w c _ Q rfl (Heap.append hpF fun A hA=>hL.1 A (hL0.gl A hA)) fun y w' c' hst hF=>next _ y.1 w' c' y.2 hst (.inr hx) ⟨fun _=>⟨rfl,fun f hf' => hF _ (List.mem_map.2 ⟨f,hf',rfl⟩)⟩,fun h=>absurd hx h⟩
 have skip : ¬ exT e.ex→RJ nt cls ops E F es L0 β (addL listed i) (a.put o.dst undef) w:=by
  intro hx
  have hκ:e.u.κ=[]:=by
   rcases b3 with h | ⟨_,_,h⟩
   ·exact h
   ·exfalso
    rw [h] at hg
    simp only [gdI,Option.some.injEq,Prod.mk.injEq] at hg
    rw [← hg.2] at hx
    exact hx trivial
  exact next undef η w c (Vn.agr_refl _ η) (by rw [hκ]; exact Stp.refl w c) (.inl hκ) ⟨fun h=>absurd h hx,fun _=>rfl⟩
 unfold wpOp
 rw [show ops.toArray[i]? = some o by simpa using ho]
 simp only
 have hw:Region.wanted o (yielded ops.toArray a.tmps)=true↔exT e.ex:=by
  cases hgo:o.guard with
  | none=>
   rw [hgo] at hg
   simp only [gdI,Option.some.injEq,Prod.mk.injEq] at hg
   rw [← hg.2]
   simp [Region.wanted,hgo,exT]
  | some jw=>
   obtain ⟨j,want⟩:=jw
   obtain ⟨hjc,ej,dj,hej,hdj⟩:=b5 j want hgo
   rw [hgo] at hg
   unfold gdI at hg
   simp only at hg
   split at hg
   ·rename_i e' he'
    have hej' : es[j]? = some e' := by
     rw [List.getElem?_take] at he'
     split at he'
     ·exact he'
     ·cases he'
    rw [hej] at hej'
    simp only [Option.some.injEq] at hej'
    subst hej'
    split at hg
    ·rename_i bv hbv
     simp only [Option.some.injEq,Prod.mk.injEq] at hg
     obtain ⟨_,hex⟩:=hg
     have hjl:j<ops.length:=by have:=(List.getElem?_eq_some_iff.1 hej).1; omega
     have hoj:ops[j]? = some ops[j]:=List.getElem?_eq_getElem hjl
     obtain ⟨hdo,_,_⟩:=hall j _ ej hoj hej
     have hy:=yields_of (n:=nt) ha hoj (by rw [← hdo]; exact hdj) ((regB_ent hb hoj hej).2.2.2.1 dj hdj)
     have hv:=hV j ej hej (hcl j hjc) dj hdj
     simp only [Region.wanted,hgo,hy]
     rw [← hex]
     by_cases hxe:exT ej.ex
     ·rw [hv.1 hxe,hbv]
      have h1:=exT_iff.1 hxe
      simp only [boolL,AV.val,Lf.val]
      cases hee2:ej.ex with
      | none=>cases want <;> cases bv <;> simp [exT]
      | some x=>
       rw [hee2] at h1
       simp only [exB] at h1
       subst h1
       cases want <;> cases bv <;> simp [exT]
     ·rw [hv.2 hxe]
      cases hee2:ej.ex with
      | none=>rw [hee2] at hxe; exact absurd trivial hxe
      | some x=>
       rw [hee2] at hxe
       have hxf:x=false:=by cases x <;> simp_all [exT]
       subst hxf
       simp [undef,exT]
    ·cases hg
   ·cases hg
 by_cases hx:exT e.ex
 ·rw [if_pos (hw.2 hx)]
  exact .inl (run hx)
 ·rw [if_neg fun h=>hx (hw.1 h)]
  exact skip hx
end
end
end Go.Sm
