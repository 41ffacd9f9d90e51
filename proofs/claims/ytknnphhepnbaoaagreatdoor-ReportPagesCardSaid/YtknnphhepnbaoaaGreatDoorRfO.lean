/-
  The symbolic evaluator: meetings are sound. Nothing of a program is named here; no condition.
-/
import Derived.Test.YtknnphhepnbaoaaGreatDoorRfN
namespace Go.Sm
set_option linter.unusedSectionVars false
section
variable [X:XTab] [G:GTab]
theorem sub_mem {a b:List Nat} (h:sub a b=true) : ∀ k∈a,k∈b:=fun _ hk=>subK h hk
theorem own_re {g:Nat→Nat} (hg:Gd g) {w:World} {c:Col} {t:TC} {e:TypeId} {i cb:Nat} {K K' : List Nat} {xs:List t.den} {v:Hd} (h:HA.holds w c (.own t.ty e i K xs v)) (hi:g i=cb) (hK:t.ty.pureB=true∨sub (K.map g) K' = true) :
  HA.holds w (fun b=>g (c b)) (.own t.ty e cb K' xs v):=by
 have h1:=HA.ren_holds hg (.own t.ty e i K xs v) h
 subst hi
 rcases hK with hK | hK
 ·exact weak_slim hK _ _ h1
 ·obtain ⟨ys,a1,a2,a3⟩:=h1
  exact ⟨ys,a1.mono (RepR.keep (fun _ _ hb=>⟨sub_mem hK _ hb,rfl⟩) t.ty),a2,a3⟩
theorem rep_re {g:Nat→Nat} (hg:Gd g) {w:World} {c:Col} {t:TC} {K K' : List Nat} {xs:List t.den} {v:Hd} (h:HA.holds w c (.rep t.ty K xs v)) (hK:sub (K.map g) K' = true):HA.holds w (fun b=>g (c b)) (.rep t.ty K' xs v):=
 RepR.keep (fun _ _ hb=>⟨sub_mem hK _ hb,rfl⟩) (.slice t.ty) xs v (HA.ren_holds hg (.rep t.ty K xs v) h)
theorem fact_ok {KK:Nat→List Nat} {g:Nat→Nat} (hg:Gd g) {F:List AF} {η η' : Vn} {w:World} {c:Col} (hF:Heap w c (F.map (AF.ha η))) {p:Sp} {l:Lf} {x:p.den} {nm cb:Nat} (hlow : ∀ m,m<64→η'.h m=η.h m) (ha:p.abs F l=some x) (hc:chkP KK g F cb p l=true) (hn:η'.h nm=l.hd η) :
  Heap w (fun b=>g (c b)) ((p.fact KK x nm cb).map (AF.ha η')):=by
 cases p with
 | sc s=>exact Heap.nil _ _
 | ar n s=>exact Heap.nil _ _
 | xt n=>exact Heap.nil _ _
 | own t e one src=>
  simp only [Sp.abs] at ha
  split at ha
  ·rename_i i K xs ho
   simp only [Option.some.injEq] at ha
   subst ha
   refine Heap.cons ?_ (Heap.nil _ _)
   simp only [AF.ha,hn]
   cases l with
   | sl h=>
    simp only [chkP,ho,Bool.and_eq_true,Bool.or_eq_true] at hc
    exact own_re hg (ownI_own ho hF) (Nat.eq_of_beq_eq_true hc.1) hc.2
   | nl=>
    simp only [ownI,Option.some.injEq,Prod.mk.injEq] at ho
    obtain ⟨_,_,rfl⟩:=ho
    exact free_own _ _
   | _=>simp [ownI] at ho
  ·cases ha
 | rep t one src=>
  simp only [Sp.abs] at ha
  split at ha
  ·rename_i s hs
   simp only [Option.some.injEq] at ha
   subst ha
   refine Heap.cons ?_ (Heap.nil _ _)
   simp only [AF.ha,hn]
   cases l with
   | sl h=>
    simp only [chkP,hs] at hc
    exact rep_re hg (lfI_rep hs hF) hc
   | nl=>
    simp only [lfI,Option.some.injEq] at hs
    subst hs
    exact free_rep _ _
   | _=>simp [lfI] at hs
  ·cases ha
 | ownk t e h0=>
  cases l with
  | sl h' =>
   simp only [Sp.abs] at ha
   cases hb:(Nat.beq h0 h' && Nat.blt h0 64)
   ·rw [hb] at ha; cases ha
   ·rw [hb] at ha
    simp only [Bool.and_eq_true] at hb
    have h1:=Nat.eq_of_beq_eq_true hb.1
    have h2:h0+1≤64:=Nat.le_of_ble_eq_true hb.2
    subst h1
    simp only [cond_true] at ha
    split at ha
    ·rename_i i K xs ho
     simp only [Option.some.injEq] at ha
     subst ha
     simp only [chkP,ho,Bool.and_eq_true] at hc
     refine Heap.cons ?_ (Heap.nil _ _)
     simp only [AF.ha,hlow h0 (by omega)]
     exact own_re hg (ownI_own ho hF) (Nat.eq_of_beq_eq_true hc.1) (.inl hc.2)
    ·cases ha
  | _=>cases ha
theorem facts_ok {KK:Nat→List Nat} {g:Nat→Nat} (hg:Gd g) {F:List AF} {η η' : Vn} {w:World} {c:Col} (hF:Heap w c (F.map (AF.ha η))) (hlow : ∀ m,m<64→η'.h m=η.h m) : ∀ {ps:List Sp} {ls:List Lf} {d:DSp ps} {nm cb:Nat},absL F ps ls=some d→chkL KK g F cb ps ls=true →
  (∀ (j:Nat) (l:Lf),ls[j]? = some l→η'.h (nm+j)=l.hd η)→Heap w (fun b=>g (c b)) ((factsS KK ps d nm cb).map (AF.ha η'))
 | [],[],_,_,_,_,_,_=>Heap.nil _ _
 | [p],[l],d,nm,cb,ha,hc,hn=>by
  simp only [chkL,Bool.and_eq_true] at hc
  exact fact_ok hg hF hlow ha hc.1 (hn 0 l rfl)
 | p::q::r,l::ls,d,nm,cb,ha,hc,hn=>by
  simp only [absL] at ha
  split at ha
  ·rename_i x y hx hy
   simp only [Option.some.injEq] at ha
   subst ha
   rw [chkL,Bool.and_eq_true] at hc
   simp only [factsS,List.map_append]
   refine (fact_ok hg hF hlow hx hc.1 (hn 0 l rfl)).append (facts_ok hg hF hlow hy hc.2 fun j l' hj=>?_)
   have:=hn (j+1) l' (by simpa using hj)
   rwa [show nm+1+j=nm+(j+1) by omega]
  ·cases ha
 | [],_::_,_,_,_,h,_,_=>by simp [absL] at h
 | [_],[],_,_,_,h,_,_=>by simp [absL] at h
 | [_],_::_::_,_,_,_,h,_,_=>by simp [absL] at h
 | _::_::_,[],_,_,_,h,_,_=>by simp [absL] at h
theorem boxes_ok {g:Nat→Nat} (hg:Gd g) {KE:SE} {F:List AF} {η η' : Vn} {w:World} {c:Col} (hF:Heap w c (F.map (AF.ha η))) (hb:η'.b=η.b) : ∀ {bx:List (Nat×List Sp)} {ls as:List Lf} {cb:Nat},gathB KE F bx=some ls→chkB g KE F bx cb=true→as.length=ls.length →
  (∀ (j:Nat) (l l' : Lf),ls[j]? = some l→as[j]? = some l' → l'.cells η' = l.cells η)→Heap w (fun b=>g (c b)) ((boxesS KE bx as cb).map (AF.ha η'))
 | [],_,_,_,_,_,_,_=>Heap.nil _ _
 | (t,ps)::r,ls,as,cb,hgb,hc,hl,hcell=>by
  simp only [gathB] at hgb
  split at hgb
  ·rename_i b hlk
   split at hgb
   ·rename_i i cs ls' h1 h2
    cases hb0:Nat.beq cs.length ps.length
    ·rw [hb0] at hgb; cases hgb
    ·rw [hb0] at hgb
     simp only [cond_true,Option.some.injEq] at hgb
     subst hgb
     have hlen:=Nat.eq_of_beq_eq_true hb0
     simp only [chkB,hlk,h1,Bool.and_eq_true] at hc
     simp only [List.length_append] at hl
     simp only [boxesS,hlk,List.map_cons]
     refine Heap.cons ?_ (boxes_ok hg hF hb h2 hc.2 (by simp; omega) fun j l l' k1 k2=>?_)
     ·have h3:=HA.ren_holds hg _ (hF _ (List.mem_map.2 ⟨_,boxI_mem h1,rfl⟩))
      simp only [AF.ha,HA.ren] at h3 ⊢
      rw [Nat.eq_of_beq_eq_true hc.1] at h3
      rw [hb,cells_same (bs:=cs) (by simp; omega) fun j l l' k1 k2=>?_]
      ·exact h3
      ·have hj:=(List.getElem?_eq_some_iff.1 k1).1
       rw [List.getElem?_take] at k2
       split at k2
       ·exact hcell j l l' (by rw [List.getElem?_append_left hj]; exact k1) k2
       ·cases k2
     ·rw [List.getElem?_drop] at k2
      exact hcell (ps.length+j) l l' (by rw [List.getElem?_append_right (by omega)]; rw [show ps.length+j - cs.length=j by omega]; exact k1) k2
   ·cases hgb
  ·rename_i h hlk
   split at hgb
   ·rename_i h0 _ _ _ ls' h1 h2
    cases hb0:Nat.beq 1 ps.length
    ·rw [hb0] at hgb; cases hgb
    ·rw [hb0] at hgb
     simp only [cond_true,Option.some.injEq] at hgb
     subst hgb
     have hlen:=Nat.eq_of_beq_eq_true hb0
     simp only [chkB,hlk] at hc
     simp only [List.length_cons] at hl
     simp only [boxesS,hlk]
     refine boxes_ok hg hF hb h2 hc (by simp; omega) fun j l l' k1 k2=>?_
     rw [List.getElem?_drop] at k2
     exact hcell (ps.length+j) l l' (by rw [show ps.length+j=j+1 by omega,List.getElem?_cons_succ]; exact k1) k2
   ·cases hgb
  ·cases hgb
theorem ren_fix {g:Nat→Nat}:(A:HA)→(∀ k∈A.uses,g k=k)→(match A with | .old _ _=>True | .elem _ _ _ _=>True | .pure _=>True | _=>True)→A.ren g=A
 | .rep t K xs v,h,_=>by
  have:K.map g=K:=by
   conv=>rhs; rw [← List.map_id K]
   exact List.map_congr_left fun k hk=>h k hk
  simp only [HA.ren,this]
 | .own t e i K xs v,h,_=>by
  have:K.map g=K:=by
   conv=>rhs; rw [← List.map_id K]
   exact List.map_congr_left fun k hk=>h k (List.mem_cons_of_mem _ hk)
  simp only [HA.ren,this,h i List.mem_cons_self]
 | .box i b cs,h,_=>by simp only [HA.ren,h i (by simp [HA.uses])]
 | .elem t K x p,h,_=>by
  have:K.map g=K:=by
   conv=>rhs; rw [← List.map_id K]
   exact List.map_congr_left fun k hk=>h k hk
  simp only [HA.ren,this]
 | .old _ _,_,_=>rfl
 | .pure _,_,_=>rfl
 | .gl _ _ _,_,_=>rfl
theorem gathV_len {E:SE} : ∀ {vs:List (Nat×ShV)} {ls:List Lf},gathV E vs=some ls→ls.length=(vs.flatMap (fun p=>p.2.ls)).length:=by
 intro vs
 induction vs with
 | nil=>intro ls h; simp [gathV] at h; subst h; rfl
 | cons p r ih=>
  intro ls h
  obtain ⟨t0,v0⟩:=p
  cases v0 with
  | lf p=>
   simp only [gathV] at h
   split at h
   ·rename_i l ls' _ h2
    simp only [Option.some.injEq] at h
    subst h
    simp [ih h2,ShV.ls]
   ·cases h
  | ag ps=>
   simp only [gathV] at h
   split at h
   ·rename_i l ls' _ h2
    cases hb0:Nat.beq l.length ps.length
    ·rw [hb0] at h; cases h
    ·rw [hb0] at h
     simp only [cond_true,Option.some.injEq] at h
     subst h
     have:=Nat.eq_of_beq_eq_true hb0
     simp [ih h2,ShV.ls]; omega
   ·cases h
theorem look_right {E E' : SE} {t:Nat} (h:look E t=none):look (E++E') t=look E' t:=by
 induction E with
 | nil=>rfl
 | cons p r ih=>
  simp only [List.cons_append,look] at h ⊢
  cases hb:Nat.beq t p.1
  ·rw [hb] at h; exact ih h
  ·rw [hb] at h; cases h
theorem meet_ok {nt:Nat} {L0:List HA} {β:Vn} (hL0:L0ok L0) {sh:Shp} {KE:SE} {KF:List AF} {nb cb:Nat} {S:SS} {d:DSp sh.ls} (h:meetS sh KE KF nb cb S=some d) {a:Act} {w:World} (hI:Inv nt L0 β KE KF S a w) :
  Inv nt L0 β KE KF (concS sh KE KF nb cb d) a w:=by
 unfold meetS at h
 split at h
 ·rename_i l1 l2 g1 g2
  split at h
  ·rename_i d' hd
   simp only at h
   generalize hcm:((KF.flatMap AF.uses).map (fun k=>(k,k))++cmOwn (S.F++KF) sh.ls (l1++l2) cb++cmBox KE (S.F++KF) sh.bx (cb+2 * sh.ls.length)++cmCls (S.F++KF) (cb+255) sh.ls (l1++l2)).filter (fun p=>Nat.ble 2 p.1&&Nat.ble 2 p.2)=cm at h
   generalize hgg:mkg cm 2=g at h
   cases hb:(KF.all (fun f=>!(hits S.d f))&&(KF.flatMap AF.uses).all (fun k=>Nat.beq (g k) k)&&chkL (clsS KE KF (cb+255)) g (S.F++KF) cb sh.ls (l1++l2)&&chkB g KE (S.F++KF) sh.bx (cb+2 * sh.ls.length)&&KE.all (fun p=>p.2.free nb)&&KF.all (AF.free nb)&&Nat.ble sh.ls.length 64&&KE.all (fun p=>(look S.E p.1).isNone)&&Nat.ble 64 nb)
   ·rw [hb] at h; cases h
   ·rw [hb] at h
    simp only [cond_true,Option.some.injEq] at h
    subst h
    simp only [Bool.and_eq_true] at hb
    obtain ⟨⟨⟨⟨⟨⟨⟨⟨hdead,hfix⟩,hchk⟩,hchb⟩,hfE⟩,hfF⟩,h64⟩,hno⟩,hnb⟩:=hb
    have hg:Gd g:=by
     subst hgg
     refine mkg_gd ?_
     simp only [List.all_cons,Bool.and_eq_true]
     refine ⟨rfl,List.all_eq_true.2 fun x hx=>?_⟩
     obtain ⟨p,hp,rfl⟩:=List.mem_map.1 hx
     rw [← hcm] at hp
     have:=(List.mem_filter.1 hp).2
     simp only [Bool.and_eq_true] at this
     exact this.2
    obtain ⟨η,c,ρ,ha,hE,hH,hL⟩:=hI
    have hls:(l1++l2).length=sh.ls.length:=by
     have gen : ∀ {ps:List Sp} {ls:List Lf} {d:DSp ps},absL (S.F++KF) ps ls=some d→ls.length=ps.length:=by
      intro ps
      induction ps with
      | nil=>intro ls d h; cases ls <;> simp [absL] at h ⊢
      | cons p r ih=>
       intro ls d h
       cases r with
       | nil=>
        cases ls with
        | nil=>simp [absL] at h
        | cons l ls=>
         cases ls with
         | nil=>rfl
         | cons _ _=>simp [absL] at h
       | cons q r=>
        cases ls with
        | nil=>simp [absL] at h
        | cons l ls=>
         simp only [absL] at h
         split at h
         ·rename_i x y hx hy
          simp only [List.length_cons,ih hy]
         ·cases h
     exact gen hd
    have h64:=Nat.le_of_ble_eq_true h64
    let η' : Vn:=η.set nb (hdsL η (l1++l2))
    have hagr:η.agr nb η' := Vn.set_agr (by simp only [hdsL,List.length_map]; omega)
    have hnm : ∀ (j:Nat) (l:Lf),(l1++l2)[j]? = some l→η'.h (nb+j)=l.hd η:=fun j l hj=>Vn.set_at (by rw [hdsL,List.getElem?_map,hj]; rfl)
    have hlv:live S.d KF=KF:=List.filter_eq_self.2 fun f hf=>List.all_eq_true.1 hdead f hf
    rw [hlv] at hH
    have hF:Heap w c ((S.F++KF).map (AF.ha η)):=hH
    have hlow : ∀ m,m<64→η'.h m=η.h m:=fun m hm=>(hagr m (by simp only [out,Bool.or_eq_true]; exact .inl (Nat.ble_eq_true_of_le (by have:=Nat.le_of_ble_eq_true hnb; omega)))).1
    obtain ⟨k1,k2⟩:=absL_cells (η:=η) (η' := η') hlow (nm:=nb) hd hnm
    refine ⟨η',fun b=>g (c b),ρ,ha,?_,?_,?_,fun m hm=>?_⟩
    ·intro t v hl
     rcases look_append hl with hl | hl
     ·obtain ⟨v0,e1,e2⟩:=slots_ok (η:=η) (η' := η') (rest:=l2) g1 k1 k2 t v hl
      rw [e2]
      refine hE t v0 ?_
      have app : ∀ {E E' : SE},look E t=some v0→look (E++E') t=some v0:=by
       intro E E' h
       induction E with
       | nil=>simp [look] at h
       | cons p r ih=>
        simp only [List.cons_append,look] at h ⊢
        cases hb:Nat.beq t p.1
        ·rw [hb] at h; exact ih h
        ·rw [hb] at h; exact h
      exact app e1
     ·rw [AV.val_agr hagr v (List.all_eq_true.1 hfE _ (look_mem hl))]
      refine hE t v ?_
      have:=List.all_eq_true.1 hno _ (look_mem hl)
      rw [look_right (by simpa using this)]
      exact hl
    ·rw [show live (concS sh KE KF nb cb d').d KF=KF from live_nil KF,List.map_append]
     refine Heap.append ?_ ?_
     ·simp only [concS,List.map_append]
      refine Heap.append (facts_ok hg hF hlow hd hchk hnm) (boxes_ok (η:=η) (η' := η') hg hF rfl g2 hchb ?_ fun j l l' e1 e2=>?_)
      ·have:=gathV_len g1
       simp only [List.length_drop,k1,List.length_append]; omega
      ·have hl1:=gathV_len g1
       rw [List.getElem?_drop] at e2
       exact (k2 (l1.length+j) l l' (by rw [List.getElem?_append_right (by omega)]; rw [show l1.length+j - l1.length=j by omega]; exact e1) (by rw [hl1]; exact e2)).1
     ·intro A hA
      obtain ⟨f,hf,rfl⟩:=List.mem_map.1 hA
      have hold:=hH _ (List.mem_map.2 ⟨f,List.mem_append_right _ hf,rfl⟩)
      have hfr:=List.all_eq_true.1 hfF f hf
      rw [AF.ha_agr hagr f hfr]
      have:=HA.ren_holds hg _ hold
      rwa [ren_fix _ (fun k hk=>by
       rw [AF.ha_uses] at hk
       exact Nat.eq_of_beq_eq_true (List.all_eq_true.1 hfix k (List.mem_flatMap.2 ⟨f,hf,hk⟩))) (by cases f <;> trivial)] at this
    ·intro A hA
     have:=HA.ren_holds hg _ (hL.1 A hA)
     rwa [ren_fix A (fun k hk=>by
      have:=hL0.old A hA k hk
      match k,this with
      | 0,_=>exact hg.z
      | 1,_=>exact hg.o) (by cases A <;> trivial)] at this
    ·have:=Nat.le_of_ble_eq_true hnb
     have hz:=hagr m (by simp only [out,Bool.or_eq_true]; exact .inl (Nat.ble_eq_true_of_le (by omega)))
     rw [hz.1,hz.2]; exact hL.2 m hm
  ·cases h
 ·cases h
end
end Go.Sm
