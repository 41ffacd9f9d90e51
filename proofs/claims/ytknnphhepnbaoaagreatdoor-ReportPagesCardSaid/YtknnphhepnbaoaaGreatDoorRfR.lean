/-
  The symbolic evaluator: functions keep their contracts. Nothing of a program is named here; no condition.
-/
import Derived.Test.YtknnphhepnbaoaaGreatDoorRfQ
namespace Go.Sm
set_option linter.unusedSectionVars false
section
variable [X:XTab] [G:GTab]
section
variable {P:Program}
theorem datA_L {F:List AF} {t:TC} {v:AV} {x:t.den} {l:List Lf} {K:List Nat} (h:datA F t v=some (x,l,K)) : ∃ ls r,datL F t ls=some (x,l,K,r):=by
 cases v with
 | tu _=>cases h
 | ag ls=>
  simp only [datA] at h
  cases ha:t.aggT
  ·rw [ha] at h; cases h
  ·rw [ha] at h
   simp only [cond_true] at h
   split at h
   ·rename_i x' l' K' hd
    simp only [Option.some.injEq,Prod.mk.injEq] at h
    obtain ⟨rfl,rfl,rfl⟩:=h
    exact ⟨_,_,hd⟩
   ·cases h
 | lf lf=>
  simp only [datA] at h
  cases ha:(t.aggT==lf.isAr)
  ·rw [ha] at h; cases h
  ·rw [ha] at h
   simp only [cond_true] at h
   split at h
   ·rename_i x' l' K' hd
    simp only [Option.some.injEq,Prod.mk.injEq] at h
    obtain ⟨rfl,rfl,rfl⟩:=h
    exact ⟨_,_,hd⟩
   ·cases h
theorem datO_ok {g:Nat→Nat} (hg:Gd g) {F:List AF} {η:Vn} {w:World} {c:Col} (hF:Heap w c (F.map (AF.ha η))) : ∀ {ts:List TC} {bl:List Nat} {bs:List (Nat×List Lf)} {x:DenL ts} {l:List Lf} {q:Nat},outVs F bl=some bs→datO F ts (bs.map (·.2))=some (x,l)→(enumC (bs.map (·.1)) q).all (fun p=>Nat.beq (g p.1) p.2)=true →
  l.length=nhL ts∧Heap w (fun b=>g (c b)) (outF ts x (hdsL η l) 0 (bl.map fun k=>(obA k).v η) q) ∧
  ∀ {ms:List RM} {j:Nat},chkRL g F ts ms l j=true→∀ η' : Vn,(∀ (q:Nat) (a:Lf),l[q]? = some a→η'.h (j+q)=a.hd η)→Heap w (fun b=>g (c b)) ((resL ts x ms j).map (AF.ha η')):=by
 have box : ∀ {t:TC} {b i q:Nat} {cs l:List Lf} {x:t.den} {K:List Nat} {r:List ObH} (l' : List Hd),refsOf t l' = refsOf t (hdsL η l)→outV1 F b=some (i,cs)→datL F t cs=some (x,l,K,[])→Nat.beq (g i) q=true→Heap w (fun b=>g (c b)) (outH t x l' 0 ((obA b).v η::r) q):=by
  intro t b i q cs l x K r l' hl' hb hd hq
  unfold outV1 at hb
  unfold obA
  cases hk:Nat.blt b 64
  ·rw [hk] at hb
   simp only [cond_false] at hb ⊢
   split at hb
   ·rename_i i' hr
    simp only [Option.some.injEq,Prod.mk.injEq] at hb
    obtain ⟨rfl,rfl⟩:=hb
    simp only [ObA.v,outH]
    cases t with
    | slice t=>
     simp only [rowH]
     cases hp:t.ty.pureB
     ·exact Heap.nil _ _
     ·simp only [datL,lfI] at hd
      split at hd
      ·rename_i s hs
       simp only [Option.some.injEq,Prod.mk.injEq] at hd
       obtain ⟨rfl,rfl,rfl,_⟩:=hd
       have ho:=rowI_own hr hs
       have hm:=hF _ (List.mem_map.2 ⟨_,slI_mem hs,rfl⟩)
       obtain ⟨own,K',xs⟩:=s
       simp only at ho
       subst ho
       refine Heap.cons ?_ (Heap.nil _ _)
       exact own_re hg hm (Nat.eq_of_beq_eq_true hq) (.inl hp)
      ·cases hd
    | _=>exact Heap.nil _ _
   ·cases hb
  ·rw [hk] at hb
   simp only [cond_true] at hb ⊢
   obtain ⟨h1,h2⟩:=boxI_holds hb hF
   have e:=(datL_ok (η:=η) t hd).1
   simp only [cellsL,List.append_nil] at e
   simp only [ObA.v,outH]
   rw [hl',← e]
   exact Heap.cons ⟨h1,by show g (c _)=q; rw [h2]; exact Nat.eq_of_beq_eq_true hq⟩ (Heap.nil _ _)
 have outs : ∀ {b:Nat} {bl:List Nat} {bs:List (Nat×List Lf)},outVs F (b::bl)=some bs→∃ i cs bs',bs=(i,cs)::bs' ∧ outV1 F b=some (i,cs)∧outVs F bl=some bs' := by
  intro b bl bs h
  simp only [outVs] at h
  split at h
  ·rename_i i cs vs h1 h2
   simp only [Option.some.injEq] at h
   exact ⟨i,cs,vs,h.symm,h1,h2⟩
  ·cases h
 intro ts
 induction ts with
 | nil=>
  intro bl bs x l q ho h hq
  cases bs with
  | nil=>
   simp only [List.map_nil,datO,Option.some.injEq,Prod.mk.injEq] at h
   obtain ⟨_,rfl⟩:=h
   exact ⟨rfl,Heap.nil _ _,fun _ _ _=>Heap.nil _ _⟩
  | cons b bs=>simp [datO] at h
 | cons t ts ih=>
  intro bl bs x l q ho h hq
  cases bl with
  | nil=>
   simp only [outVs,Option.some.injEq] at ho
   subst ho
   cases ts <;> simp [datO] at h
  | cons b bl=>
   obtain ⟨i,cs,bs',rfl,hb,ho'⟩:=outs ho
   simp only [List.map_cons,enumC,List.all_cons,Bool.and_eq_true] at hq
   cases ts with
   | nil=>
    simp only [List.map_cons] at h
    cases bs' with
    | cons _ _=>simp [datO] at h
    | nil=>
     simp only [List.map_nil,datO] at h
     split at h
     ·rename_i x' l' K hd
      simp only [Option.some.injEq,Prod.mk.injEq] at h
      obtain ⟨rfl,rfl⟩:=h
      refine ⟨by simp only [nhL,datL_nh t hd]; omega,box _ rfl hb hd hq.1,fun hc η' hn=>?_⟩
      simp only [chkRL,Bool.and_true] at hc
      exact chkR_ok hg hF hd (l' := []) (by rw [List.append_nil]; exact hc) η' hn
     ·cases h
   | cons t' ts=>
    simp only [List.map_cons,datO] at h
    split at h
    ·rename_i x1 l1 K1 x2 l2 hd hds
     simp only [Option.some.injEq,Prod.mk.injEq] at h
     obtain ⟨rfl,rfl⟩:=h
     obtain ⟨n1,n2,n3⟩:=ih ho' hds hq.2
     have hn1:=datL_nh t hd
     have e0:hdsL η (l1++l2)=hdsL η l1++hdsL η l2:=by simp [hdsL]
     have e1:refsOf t (hdsL η (l1++l2))=refsOf t (hdsL η l1):=by rw [e0]; exact refsOf_left t _ _ (by simp [hdsL,hn1])
     have e2:(hdsL η (l1++l2)).drop t.nh=hdsL η l2:=by
      rw [e0,List.drop_append,List.drop_eq_nil_of_le (by simp [hdsL,hn1]),show t.nh - (hdsL η l1).length=0 by simp [hdsL,hn1]]
      rfl
     have e:nhL (t::t' :: ts)=t.nh+nhL (t' :: ts):=rfl
     refine ⟨by simp only [List.length_append]; omega,?_,fun hc η' hn=>?_⟩
     ·simp only [outF,nx,List.map_cons,List.tail_cons,e2]
      exact Heap.append (box _ e1 hb hd hq.1) n2
     ·rw [chkRL,Bool.and_eq_true] at hc
      simp only [resL,List.map_append]
      refine (chkR_ok hg hF hd (l' := l2) hc.1 η' fun q z hz=>hn q z (by rw [List.getElem?_append_left (List.getElem?_eq_some_iff.1 hz).1]; exact hz)).append
       (n3 ?_ η' fun q z hz=>?_)
      ·have:(l1++l2).drop t.nh=l2:=by
        rw [List.drop_append,List.drop_eq_nil_of_le (by omega),show t.nh - l1.length=0 by omega]; rfl
       rw [this] at hc; exact hc.2
      ·have:=hn (t.nh+q) z (by rw [List.getElem?_append_right (by omega)]; rw [show t.nh+q - l1.length=q by omega]; exact hz)
       rw [Nat.add_assoc]; exact this
    ·cases h
theorem datR_ok {g:Nat→Nat} (hg:Gd g) {F:List AF} {η:Vn} {w:World} {c:Col} (hF:Heap w c (F.map (AF.ha η))) : ∀ {ts:List TC} {vs:List AV} {bl:List Nat} {bs:List (Nat×List Lf)} {x:DenL ts} {l:List Lf} {q:Nat},outVs F bl=some bs→datR F ts vs (bs.map (·.2))=some (x,l)→(enumC (bs.map (·.1)) q).all (fun p=>Nat.beq (g p.1) p.2)=true →
  (valsOf ts x (hdsL η l)).take vs.length=AV.vals η vs∧l.length=nhL ts∧Heap w (fun b=>g (c b)) (outF ts x (hdsL η l) vs.length (bl.map fun k=>(obA k).v η) q) ∧
  ∀ {ms:List RM} {j:Nat},chkRL g F ts ms l j=true→∀ η' : Vn,(∀ (q:Nat) (a:Lf),l[q]? = some a→η'.h (j+q)=a.hd η)→Heap w (fun b=>g (c b)) ((resL ts x ms j).map (AF.ha η')):=by
 intro ts
 induction ts with
 | nil=>
  intro vs bl bs x l q ho h hq
  cases vs with
  | nil=>
   simp only [datR] at h
   exact ⟨rfl,datO_ok hg hF ho h hq⟩
  | cons v vs=>simp [datR] at h
 | cons t ts ih=>
  intro vs bl bs x l q ho h hq
  cases vs with
  | nil=>
   have h' : datO F (t::ts) (bs.map (·.2))=some (x,l):=by
    cases ts <;> simpa only [datR] using h
   obtain ⟨n1,n2,n3⟩:=datO_ok hg hF ho h' hq
   exact ⟨rfl,n1,n2,n3⟩
  | cons v vs=>
   cases ts with
   | nil=>
    cases vs with
    | cons _ _=>simp [datR] at h
    | nil=>
     cases bs with
     | cons _ _=>simp [datR] at h
     | nil=>
      simp only [List.map_nil,datR] at h
      split at h
      ·rename_i x' l' K ha
       simp only [Option.some.injEq,Prod.mk.injEq] at h
       obtain ⟨rfl,rfl⟩:=h
       obtain ⟨h1,h2,h3⟩:=datA_ok (η:=η) (t:=t) ha
       obtain ⟨ls,r,hd⟩:=datA_L (t:=t) ha
       refine ⟨by simp only [valsOf,AV.vals,h1]; rfl,by simp only [nhL,h2]; omega,Heap.nil _ _,fun hc η' hn=>?_⟩
       simp only [chkRL,Bool.and_true] at hc
       exact chkR_ok hg hF hd (l' := []) (by rw [List.append_nil]; exact hc) η' hn
      ·cases h
   | cons t' ts=>
    simp only [datR] at h
    split at h
    ·rename_i x1 l1 K1 x2 l2 ha hds
     simp only [Option.some.injEq,Prod.mk.injEq] at h
     obtain ⟨rfl,rfl⟩:=h
     obtain ⟨h1,h2,h3⟩:=datA_ok (η:=η) ha
     obtain ⟨ls,r',hd⟩:=datA_L ha
     obtain ⟨n0,n1,n2,n3⟩:=ih ho hds hq
     have hn1:=datL_nh t hd
     have e0:hdsL η (l1++l2)=hdsL η l1++hdsL η l2:=by simp [hdsL]
     have e1:refsOf t (hdsL η (l1++l2))=refsOf t (hdsL η l1):=by rw [e0]; exact refsOf_left t _ _ (by simp [hdsL,hn1])
     have e2:(hdsL η (l1++l2)).drop t.nh=hdsL η l2:=by
      rw [e0,List.drop_append,List.drop_eq_nil_of_le (by simp [hdsL,hn1]),show t.nh - (hdsL η l1).length=0 by simp [hdsL,hn1]]
      rfl
     have e:nhL (t::t' :: ts)=t.nh+nhL (t' :: ts):=rfl
     refine ⟨?_,by simp only [List.length_append]; omega,?_,fun hc η' hn=>?_⟩
     ·simp only [valsOf,AV.vals,e1,e2,h1,List.length_cons,List.take_succ_cons,n0]
     ·simp only [outF,nx,outH,e2,List.nil_append,List.length_cons,Nat.add_sub_cancel]
      exact n2
     ·rw [chkRL,Bool.and_eq_true] at hc
      simp only [resL,List.map_append]
      refine (chkR_ok hg hF hd (l' := l2) hc.1 η' fun q z hz=>hn q z (by rw [List.getElem?_append_left (List.getElem?_eq_some_iff.1 hz).1]; exact hz)).append
       (n3 ?_ η' fun q z hz=>?_)
      ·have:(l1++l2).drop t.nh=l2:=by
        rw [List.drop_append,List.drop_eq_nil_of_le (by omega),show t.nh - l1.length=0 by omega]; rfl
       rw [this] at hc; exact hc.2
      ·have:=hn (t.nh+q) z (by rw [List.getElem?_append_right (by omega)]; rw [show t.nh+q - l1.length=q by omega]; exact hz)
       rw [Nat.add_assoc]; exact this
    ·cases h
theorem retOwn_two {F:List AF} {p:Nat×Nat} : ∀ {ms:List RM} {ls:List Lf} {j:Nat},p∈retOwn F ms ls j→2≤p.2:=by
 intro ms
 induction ms with
 | nil=>intro ls j h; simp [retOwn] at h
 | cons m ms ih=>
  intro ls j h
  cases ls with
  | nil=>simp [retOwn] at h
  | cons z ls=>
   cases z with
   | sl hh=>
    simp only [retOwn,List.mem_append] at h
    rcases h with h | h
    ·split at h
     ·obtain ⟨_,_,rfl⟩:=List.mem_map.1 h; show 2≤2+2 * j; omega
     ·simp at h
    ·exact ih h
   | _=>exact ih (by simpa only [retOwn] using h)
theorem retCls_two {F:List AF} {p:Nat×Nat} : ∀ {ms:List RM} {ls:List Lf} {j:Nat},p∈retCls F ms ls j→2≤p.2:=by
 intro ms
 induction ms with
 | nil=>intro ls j h; simp [retCls] at h
 | cons m ms ih=>
  intro ls j h
  cases ls with
  | nil=>simp [retCls] at h
  | cons z ls=>
   cases z with
   | sl hh=>
    simp only [retCls,List.mem_append] at h
    rcases h with h | h
    ·obtain ⟨_,_,rfl⟩:=List.mem_map.1 h
     simp only
     show 2≤129; omega
    ·exact ih h
   | _=>exact ih (by simpa only [retCls] using h)
theorem enumC_two {p:Nat×Nat} : ∀ {l:List Nat} {q:Nat},2≤q→p∈enumC l q→2≤p.2:=by
 intro l
 induction l with
 | nil=>intro q _ h; simp [enumC] at h
 | cons i r ih=>
  intro q hq h
  simp only [enumC,List.mem_cons] at h
  rcases h with rfl | h
  ·exact hq
  ·exact ih (by omega) h
theorem valsP_len : ∀ (ps:List PC) (x:DenP ps) (l:List Hd),(valsP ps x l).length=ps.length:=by
 intro ps
 induction ps with
 | nil=>intro x l; rfl
 | cons t ts ih=>
  intro x l
  cases ts with
  | nil=>rfl
  | cons t' ts=>simp only [valsP,List.length_cons,ih]
theorem fn_atX [Itr] {C:Cx} (hC:C.ok P) (hm:P.follows .mixedOrders=true) {f:FuncId} {fn:Func} (hf:P.funcs[f]? = some fn) (hname:(fn.name == "runtime.NumGoroutine")=false) {an:An} {sg:Sig}
  {x:DenP sg.ps} {r:DenL sg.rs} (hbody:fn.body.isSome=true) (hsem : ∀ l:List Hd,l.length=nhP sg.ps→∀ w c,Heap w c (factsP sg.ps x l 2)→∃ xf,(∀ A∈xf.map (AF.ha (ηL l)),Free A)∧semX xf C fn an sg x=some r) (hs:(Nat.ble sg.ps.length fn.ntmps&&Nat.ble (nhP sg.ps) 64)=true):AtC P f sg x r:=by
 obtain ⟨cd,hcd⟩:=Option.isSome_iff_exists.1 hbody
 refine ⟨⟨fn,cd,hf,hcd,hname⟩,fun l hl w c0 hH=>?_⟩
 obtain ⟨xf,hxf,hsem⟩:=hsem l hl w c0 (fun A hA=>hH A (List.mem_append_left _ hA))
 simp only [semX,hcd] at hsem
 simp only [Bool.and_eq_true] at hs
 have hps:=Nat.le_of_ble_eq_true hs.1
 refine s_enter (n:=fn.ntmps) hf hcd rfl _ (Nat.ble_eq_true_of_le (by rw [valsP_len]; exact hps)) hH ?_
 intro a w1 c1 ha hHeap
 have hL0:L0ok (HA.old w c0::GLH):=⟨fun A hA=>by
  rcases List.mem_cons.1 hA with rfl | hA
  ·intro k hk
   simp [HA.uses] at hk
   omega
  ·obtain ⟨e,_,rfl⟩:=List.mem_map.1 hA
   intro k hk
   simp [GEnt.ha,HA.uses] at hk
   omega,fun A hA=>List.mem_cons_of_mem _ hA⟩
 have hnamed:NamedL (ηL l) 0 l:=fun j h hj=>by simp [ηL,hj]
 have hnb : ∀ j h,l[j]? = some h→(ηL l).b (0+j)=h.blk:=fun j h hj=>by simp [ηL,hj]
 obtain ⟨p1,p2⟩:=mkPs_ok (η:=ηL l) sg.ps x 2 l 0 hnamed hnb (by omega)
 have hI:Inv fn.ntmps (HA.old w c0::GLH) (ηL l) [] [] (argS xf sg.ps x) a w1:=by
  refine ⟨ηL l,c1,_,ha,fun t v hlk=>?_,?_,?_,fun _ _=>⟨rfl,rfl⟩⟩
  ·rw [List.append_nil] at hlk
   obtain ⟨j,hj,hv⟩:=argE_look (η:=ηL l) hlk
   rw [p1] at hv
   rw [Nat.zero_add] at hj
   subst hj
   show (valsP sg.ps x l).getD _ undef=_
   rw [List.getD_eq_getElem?_getD,hv]; rfl
  ·rw [show ∀ d,live d []=[] from fun _=>rfl,List.append_nil]
   show Heap w1 c1 ((mkPFs sg.ps x 2 0++xf).map (AF.ha (ηL l)))
   rw [List.map_append,p2]
   exact Heap.append (fun A hA=>hHeap A (List.mem_cons_of_mem _ (List.mem_append_left _ hA))) fun A hA=>hxf A hA w1 c1
  ·intro A hA
   rcases List.mem_cons.1 hA with rfl | hA
   ·exact hHeap _ List.mem_cons_self
   ·exact hHeap A (List.mem_cons_of_mem _ (List.mem_append_right _ hA))
 have fin : ∀ S',retD C.Θ fn sg S' = some r→∀ a w',Inv fn.ntmps (HA.old w c0::GLH) (ηL l) [] [] S' a w' → bodyPost P fn (PostC w c0 (fun y : { y:List Hd // y.length=nhL sg.rs }=>retV sg.nr sg.rs r y.1)
   (fun y=>(resL sg.rs r sg.ms 0).map (AF.ha (ηL y.1))++outF sg.rs r y.1 sg.nr (blks l sg.bl) 130)) .ret a w' := by
  intro S' hret a w' hI'
  obtain ⟨η,c,ρ,hrel,hE,hFf,hL,hβ⟩:=hI'
  rw [List.append_nil] at hE
  rw [show live S'.d []=[] from rfl,List.append_nil] at hFf
  unfold retD at hret
  split at hret
  ·rename_i vs bs hvs hbs
   split at hret
   ·rename_i x' ll hd
    simp only at hret
    generalize hcm:(enumC (bs.map (·.1)) 130++(retOwn S'.F sg.ms ll 0++retCls S'.F sg.ms ll 0)).filter (fun p=>Nat.ble 2 p.1)=cm at hret
    cases hchk:(chkRL (mkg cm 2) S'.F sg.rs sg.ms ll 0&&Nat.beq sg.ms.length ll.length&&Nat.beq vs.length sg.nr&&(enumC (bs.map (·.1)) 130).all (fun p=>Nat.beq (mkg cm 2 p.1) p.2))
    ·rw [hchk] at hret; cases hret
    ·rw [hchk] at hret
     simp only [cond_true,Option.some.injEq] at hret
     subst hret
     simp only [Bool.and_eq_true] at hchk
     obtain ⟨⟨⟨hchk,_⟩,hnr⟩,henum⟩:=hchk
     have hnr:=Nat.eq_of_beq_eq_true hnr
     have hg:Gd (mkg cm 2):=by
      refine mkg_gd ?_
      simp only [List.all_cons,Bool.and_eq_true]
      refine ⟨rfl,List.all_eq_true.2 fun z hz=>?_⟩
      obtain ⟨p,hp,rfl⟩:=List.mem_map.1 hz
      rw [← hcm] at hp
      refine Nat.ble_eq_true_of_le ?_
      have hp:=(List.mem_filter.1 hp).1
      rcases List.mem_append.1 hp with hp | hp
      ·exact enumC_two (by omega) hp
      ·rcases List.mem_append.1 hp with hp | hp
       ·exact retOwn_two hp
       ·exact retCls_two hp
     obtain ⟨d1,d2,d3,d4⟩:=datR_ok hg hFf hbs hd henum
     have hres:=resE_ok hC.Θ hE hvs
     have hrun:=results_run (fn:=fn) (rs:=fn.results.toList) (vs:=AV.vals η vs) (by simp) hrel.val hFf hres
     have hnm : ∀ (q:Nat) (z:Lf),ll[q]? = some z→(ηL (hdsL η ll)).h (0+q)=z.hd η:=fun q z hz=>by
      have:(hdsL η ll)[q]? = some (z.hd η):=by rw [hdsL,List.getElem?_map,hz]; rfl
      simp only [ηL,Nat.zero_add]
      rw [List.getD_eq_getElem?_getD,this]; rfl
     have hfacts:=d4 hchk (ηL (hdsL η ll)) hnm
     have hblk:blks l sg.bl=sg.bl.map fun k=>(obA k).v η:=by
      refine List.map_congr_left fun b hb=>?_
      unfold obH obA
      cases hk:Nat.blt b 64
      ·simp only [cond_false,ObA.v,(hβ (b % 64) (Nat.mod_lt _ (by omega))).2]; rfl
      ·have h1:b+1≤64:=Nat.le_of_ble_eq_true hk
       simp only [cond_true,ObA.v,(hβ b (by omega)).1]; rfl
     obtain ⟨o1,o2,o3,o4⟩:=hL _ List.mem_cons_self
     refine ⟨hrel.defers,_,hrun,⟨hdsL η ll,by simp [hdsL,d2]⟩,fun b=>mkg cm 2 (c b),?_,o4,o1,fun b hb' h01=>⟨(o2 b hb' h01).1,?_⟩,fun b hb' hb'' => hg.two _ (o3 b hb' hb''),hfacts.append (by rw [hblk,← hnr]; exact d3)⟩
     ·congr 1
      simp only [retV]
      rw [← hnr,d1]
      generalize AV.vals η vs=us
      match us with
      | []=>rfl
      | [v]=>rfl
      | v::v' :: us=>
       simp only
       rw [dif_neg (by simp)]
     ·show mkg cm 2 (c b)=_
      rw [(o2 b hb' h01).2]
      rcases (show c0 b=0∨c0 b=1 by omega) with e | e <;> rw [e]
      ·exact hg.z
      ·exact hg.o
   ·cases hret
  ·cases hret
 exact sem_ok hC hm hL0 cd hsem hI (fun S' h' a w' hI' => fin S' h' a w' hI') (fun S' h' a w' hI' => fin S' h' a w' hI') (fun i S' h' => by cases h')
theorem fn_at [Itr] {C:Cx} (hC:C.ok P) (hm:P.follows .mixedOrders=true) {f:FuncId} {fn:Func} (hf:P.funcs[f]? = some fn) (hname:(fn.name == "runtime.NumGoroutine")=false) {an:An} {sg:Sig}
  {x:DenP sg.ps} {r:DenL sg.rs} (hsem:semF C fn an sg x=some r) (hs:(Nat.ble sg.ps.length fn.ntmps&&Nat.ble (nhP sg.ps) 64)=true):AtC P f sg x r:=
 fn_atX hC hm hf hname (by
  simp only [semF,semX] at hsem
  cases hb:fn.body with
  | none=>rw [hb] at hsem; cases hsem
  | some _=>rfl) (fun _ _ _ _ _=>⟨[],fun A hA=>by simp at hA,hsem⟩) hs
theorem fn_soundN [Itr] {C:Cx} (hC:C.ok P) (hm:P.follows .mixedOrders=true) {f:FuncId} {fn:Func} (hf:P.funcs[f]? = some fn) (hname:(fn.name == "runtime.NumGoroutine")=false) (hbody:fn.body.isSome=true) {an:An} {t:TC} {rs:List TC} {nr:Nat} {ms:List RM}
  {F:List t.den→Option (DenL rs)} (hF : ∀ x,F x=semX [.isn 0 false] C fn an ⟨[.d (.slice t)],rs,nr,[],ms⟩ x) (h0:F []=semX [.isn 0 true] C fn an ⟨[.d (.slice t)],rs,nr,[],ms⟩ ([]:List t.den)) (hs:Nat.ble 1 fn.ntmps=true):Ctr.sound P f ⟨⟨[.d (.slice t)],rs,nr,[],ms⟩,F⟩:=by
 intro x r hr
 refine fn_atX hC hm hf hname (an:=an) hbody (fun l hl w c hH=>?_) (by simp [hs,nhP,PC.nh,TC.nh])
 have hr:F x=some r:=hr
 have hl:l.length=1:=by simpa [nhP,PC.nh,TC.nh] using hl
 match l,hl with
 | [h],_=>
  cases hn:h.isNil with
  | false=>exact ⟨[.isn 0 false],fun A hA=>by
    simp only [List.map_cons,List.map_nil,List.mem_singleton] at hA
    subst hA
    intro w c
    show (h.isNil=false)
    exact hn,(hF x).symm.trans hr⟩
  | true=>
   have hx:x=([]:List t.den):=by
    obtain ⟨ys,hr,h1,h2,h3,h4⟩:=hH (.rep t.ty [1] x h) List.mem_cons_self
    rcases h4 with ⟨_,hc⟩ | ⟨b,off,arr,ty',fz,ha',_⟩
    ·exact List.eq_nil_of_length_eq_zero (by omega)
    ·simp [Hd.isNil,ha'] at hn
   subst hx
   exact ⟨[.isn 0 true],fun A hA=>by
    simp only [List.map_cons,List.map_nil,List.mem_singleton] at hA
    subst hA
    intro w c
    show (h.isNil=true)
    exact hn,h0.symm.trans hr⟩
theorem fn_sound [Itr] {C:Cx} (hC:C.ok P) (hm:P.follows .mixedOrders=true) {f:FuncId} {fn:Func} (hf:P.funcs[f]? = some fn) (hname:(fn.name == "runtime.NumGoroutine")=false) {an:An} {sg:Sig}
  {F:DenP sg.ps→Option (DenL sg.rs)} (hF : ∀ x,F x=semF C fn an sg x) (hs:(Nat.ble sg.ps.length fn.ntmps&&Nat.ble (nhP sg.ps) 64)=true):Ctr.sound P f ⟨sg,F⟩:=
 fun x _ hr=>fn_at hC hm hf hname (an:=an) ((hF x).symm.trans hr) hs
def addC (C:Cx) (f:FuncId) (ct:Ctr):Cx:=⟨fun g=>bif Nat.beq g f then ct::C.Γ g else C.Γ g,C.Θ,C.G,C.D,C.W⟩
theorem addC_ok {C:Cx} (hC:C.ok P) {f:FuncId} {ct:Ctr} (h:ct.sound P f):(addC C f ct).ok P:=by
 refine ⟨fun g c hg=>?_,hC.Θ,hC.G,hC.D⟩
 simp only [addC] at hg
 cases hb:Nat.beq g f
 ·rw [hb] at hg; exact hC.Γ g c hg
 ·rw [hb] at hg
  simp only [cond_true,List.mem_cons] at hg
  rcases hg with rfl | hg
  ·rw [Nat.eq_of_beq_eq_true hb]; exact h
  ·exact hC.Γ g c hg
def addD (C:Cx) (d:DCtr) (W:Bool):Cx:=⟨C.Γ,C.Θ,C.G,d::C.D,W⟩
theorem addD_ok {C:Cx} (hC:C.ok P) {d:DCtr} {W:Bool} (h:d.sound P):(addD C d W).ok P:=
 ⟨hC.Γ,hC.Θ,hC.G,fun e he=>by
  rcases List.mem_cons.1 he with rfl | he
  ·exact h
  ·exact hC.D e he⟩
end
end
end Go.Sm
