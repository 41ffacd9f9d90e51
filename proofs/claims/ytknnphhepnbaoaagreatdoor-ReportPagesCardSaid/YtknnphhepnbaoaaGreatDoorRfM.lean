/-
  The symbolic evaluator: code. Nothing of a program is named here; no condition.
-/
import Derived.Test.YtknnphhepnbaoaaGreatDoorRfL
namespace Go.Sm
set_option linter.unusedSectionVars false
section
variable [X:XTab] [G:GTab]
structure SS where
 E:SE
 F:List AF
 nn:Nat
 nc:Nat
 d:List Nat
def live (d:List Nat) (KF:List AF):List AF:=KF.filter fun f=>!(hits d f)
theorem live_nil (KF:List AF):live [] KF=KF:=by
 unfold live
 exact List.filter_eq_self.2 fun f _=>rfl
theorem hits_append (a b:List Nat) (f:AF):hits (a++b) f=(hits a f||hits b f):=by simp [hits]
theorem live_live (a b:List Nat) (KF:List AF):live a (live b KF)=live (a++b) KF:=by
 unfold live
 rw [List.filter_filter]
 congr 1
 funext f
 rw [hits_append]
 cases hits a f <;> cases hits b f <;> rfl
theorem live_append (d:List Nat) (a b:List AF):live d (a++b)=live d a++live d b:=by simp [live]
def Inv (nt:Nat) (L0:List HA) (β:Vn) (KE:SE) (KF:List AF) (S:SS) (a:Act) (w:World):Prop:=
 ∃ (η:Vn) (c:Col) (ρ:Env),Rel nt ρ a∧EnvOk η ρ (S.E++KE)∧Heap w c ((S.F++live S.d KF).map (AF.ha η))∧Heap w c L0∧∀ m,m<64→η.b m=β.b m∧η.h m=β.h m
def keepB (KE:SE) (ops:List Oper):Bool:=KE.all (fun p=>!(mem p.1 (dsts ops)))
def hitC (KF:List AF) (es:List Ent):List Nat:=(es.flatMap fun e=>e.u.κ).filter fun k=>KF.any (hits [k])
def finS (cls:List (List Nat)) (ops:List Oper) (KF:List AF) (S:SS) (es:List Ent):SS:=
 ⟨visE (List.range ops.length) [] es 0++baseE (dsts ops) S.E,visF cls ops.length (List.range ops.length) [] es es 0++S.F.filter (fun f=>!(hitBy cls ops.length [] ops.length f es 0)),
  S.nn+64 * ops.length,S.nc+64 * ops.length,hitC KF es++S.d⟩
def semReg {R:Type} (C:Cx) (nt:Nat) (draw:Bool) (ops:List Oper) (KE:SE) (KF:List AF) (S:SS) (K:SS→Option R):Option R:=
 bif Nat.ble 64 S.nn then rgo C S.nn S.nc (clsOf draw ops) ops (S.E++KE) (S.F++live S.d KF) ops 0 [] fun es=>
  bif regB C S.nn S.nc nt draw (clsOf draw ops) ops (S.E++KE) (S.F++live S.d KF) es&&keepB KE ops then K (finS (clsOf draw ops) ops KF S es) else none
 else none
section
variable {C:Cx} {P:Program} {nt:Nat} {KE:SE} {KF:List AF} {L0:List HA} {β:Vn}
theorem baseE_append (ds:List Nat) : ∀ (E E' : SE),baseE ds (E++E')=baseE ds E++baseE ds E'
 | [],_=>rfl
 | p::r,E' => by
  simp only [List.cons_append,baseE]
  cases mem p.1 ds
  ·simp [baseE_append ds r E']
  ·simp [baseE_append ds r E']
theorem baseE_id {ds:List Nat} : ∀ {E:SE},E.all (fun p=>!(mem p.1 ds))=true→baseE ds E=E
 | [],_=>rfl
 | p::r,h=>by
  simp only [List.all_cons,Bool.and_eq_true,Bool.not_eq_true'] at h
  simp only [baseE,h.1,cond_false,baseE_id h.2]
theorem fin_inv {n N:Nat} {draw:Bool} {ops:List Oper} {S:SS} {es:List Ent} (_:S.nn=n) (hb:regB C n N nt draw (clsOf draw ops) ops (S.E++KE) (S.F++live S.d KF) es=true) (hk:keepB KE ops=true) (hlen:es.length=ops.length)
  (hall : ∀ j o e,ops[j]? = some o→es[j]? = some e→EntOk C P n N (clsOf draw ops) ops (S.E++KE) (S.F++live S.d KF) o j (es.take j) e) {listed:Nat→Bool} (hl : ∀ i,i<ops.length→listed i=true) {a:Act} {w:World}
  (hJ:RJ nt (clsOf draw ops) ops (S.E++KE) (S.F++live S.d KF) es L0 β listed a w):Inv nt L0 β KE KF (finS (clsOf draw ops) ops KF S es) a w:=by
 obtain ⟨η,c,ρ,ha,hE,hV,hB,hL,hR⟩:=hJ
 simp only [keepB] at hk
 have hch:=ex_ch hlen hall
 have hx0 : ∀ {j:Nat} {e:Ent},es[j]? = some e→sufx e.g []=true→exT e.ex:=fun {j e} he hs=>by
  refine (hch j e he).2 fun p hp=>?_
  have:=sufx_sub hs p hp
  simp at this
 have hmay : ∀ m,m<ops.length→mayB (clsOf draw ops) m ops.length=true:=by
  intro m hm
  have h1:Nat.beq m ops.length=false:=by
   cases hbb:Nat.beq m ops.length
   ·rfl
   ·have:=Nat.eq_of_beq_eq_true hbb; omega
  have h2:mem ops.length ((clsOf draw ops).getD m [])=false:=by
   simp only [regB,Bool.and_eq_true] at hb
   have hc:=hb.1.1.1.2
   cases hmm:mem ops.length ((clsOf draw ops).getD m [])
   ·rfl
   ·exfalso
    rw [List.getD_eq_getElem?_getD] at hmm
    cases hcm:(clsOf draw ops)[m]? with
    | none=>rw [hcm] at hmm; simp [mem] at hmm
    | some cl=>
     rw [hcm] at hmm
     have h3:=List.all_eq_true.1 (List.all_eq_true.1 hc cl (List.mem_of_getElem? hcm)) _ (mem_iff.1 hmm)
     have:ops.length+1≤ops.length:=Nat.le_of_ble_eq_true h3
     omega
  simp only [mayB,h1,h2,Bool.not_false,Bool.and_self]
 have nohit : ∀ (f:AF) (clj:List Nat) (j:Nat),hitBy (clsOf draw ops) ops.length clj j f es 0=false→∀ m e',es[m]? = some e' → m≠j→mem m clj=false→hits e'.u.κ f=false:=by
  intro f clj j hh m e' hm hj hc
  have hml:m<ops.length:=by have:=(List.getElem?_eq_some_iff.1 hm).1; omega
  exact hitBy_false hh hm (by rw [Nat.zero_add]; exact hmay m hml) (by rwa [Nat.zero_add]) (by rwa [Nat.zero_add])
 refine ⟨η,c,ρ,ha,?_,?_,hL⟩
 ·intro t v hl'
  simp only [finS,List.append_assoc] at hl'
  rcases look_append hl' with h | h
  ·obtain ⟨j,e,h1,h2,rfl,_,h5⟩:=visE_mem (look_mem h)
   exact (hV j e h1 (hl j (by have:=(List.getElem?_eq_some_iff.1 h1).1; omega)) t h2).1 (hx0 h1 h5)
  ·have h2:look (baseE (dsts ops) (S.E++KE)) t=some v:=by
    rw [baseE_append,baseE_id hk]; exact h
   have h3:=baseE_look h2
   refine hE t v h3.1 fun m o hm _ hd=>?_
   rw [mem_iff.2 (dst_mem hm hd)] at h3
   cases h3.2
 ·intro A hA
  obtain ⟨f,hf,rfl⟩:=List.mem_map.1 hA
  simp only [finS,List.append_assoc] at hf
  rcases List.mem_append.1 hf with h | h
  ·obtain ⟨j,e,h1,h2,_,h5,h6⟩:=visF_mem h
   rw [Nat.zero_add] at h6
   exact hR j e h1 (hl j (by have:=(List.getElem?_eq_some_iff.1 h1).1; omega)) (hx0 h1 h5) f h2 fun m e' hm _ _ hj hc=>nohit f _ j h6 m e' hm hj hc
  ·rcases List.mem_append.1 h with h | h
   ·simp only [List.mem_filter,Bool.not_eq_true'] at h
    exact hB f (List.mem_append_left _ h.1) fun m e' hm _ _=>nohit f [] ops.length h.2 m e' hm (by have:=(List.getElem?_eq_some_iff.1 hm).1; omega) rfl
   ·simp only [live,List.mem_filter,Bool.not_eq_true',hits_append,Bool.or_eq_false_iff] at h
    refine hB f (List.mem_append_right _ (List.mem_filter.2 ⟨h.1,by rw [h.2.2]; rfl⟩)) fun m e' hm _ _=>?_
    cases hh:hits e'.u.κ f
    ·rfl
    ·exfalso
     obtain ⟨k,hk1,hk2⟩:=List.any_eq_true.1 hh
     have:hits (hitC KF es) f=true:=List.any_eq_true.2 ⟨k,List.mem_filter.2 ⟨List.mem_flatMap.2 ⟨e',List.mem_of_getElem? hm,hk1⟩,List.any_eq_true.2 ⟨f,h.1,by simp [hits,hk2]⟩⟩,hk2⟩
     rw [this] at h
     cases h.2.1
theorem semReg_ok {R:Type} (hC:C.ok P) (hm:P.follows .mixedOrders=true) (hL0:L0ok L0) {draw:Bool} {ops:List Oper} {S:SS} {K:SS→Option R} {r:R} (h:semReg C nt draw ops KE KF S K=some r) :
  ∃ S',K S' = some r∧∀ (id:Nat) (Q:Exit→Act→World→Prop) (a:Act) (w:World),Inv nt L0 β KE KF S a w→(∀ a w,Inv nt L0 β KE KF S' a w→Q .normal a w)→(Code.region id ops.toArray draw).wp P Q a w:=by
 unfold semReg at h
 cases h64:Nat.ble 64 S.nn
 ·rw [h64] at h; cases h
 rw [h64] at h
 simp only [cond_true] at h
 have h64:=Nat.le_of_ble_eq_true h64
 obtain ⟨es,h1,hlen,hall⟩:=rgo_ok hC h (by simp) rfl (fun j o e _ he=>by simp at he)
 rw [Nat.zero_add] at hlen
 cases hb:(regB C S.nn S.nc nt draw (clsOf draw ops) ops (S.E++KE) (S.F++live S.d KF) es&&keepB KE ops)
 ·rw [hb] at h1; cases h1
 ·rw [hb] at h1
  simp only [Bool.and_eq_true] at hb
  refine ⟨_,h1,fun id Q a w hI hQ=>?_⟩
  have hinit : ∀ w',(∀ A:HA,∀ c,A.holds w c→A.holds w' c)→RJ nt (clsOf draw ops) ops (S.E++KE) (S.F++live S.d KF) es L0 β (fun _=>false) a w' := by
   intro w' hw
   obtain ⟨η,c,ρ,ha,hE,hF,hL⟩:=hI
   exact ⟨η,c,ρ,ha,fun t v hl _=>hE t v hl,fun _ _ _ hh=>by simp at hh,fun f hf _=>hw _ c (hF _ (List.mem_map.2 ⟨f,hf,rfl⟩)),⟨fun A hA=>hw _ c (hL.1 A hA),hL.2⟩,fun _ _ _ hh=>by simp at hh⟩
  cases draw with
  | false=>
   refine wp_region ?_
   rw [show (ops.toArray).size=ops.length by simp,List.range_eq_range']
   have gen : ∀ (m k:Nat) (a:Act) (w:World),k+m=ops.length→RJ nt (clsOf false ops) ops (S.E++KE) (S.F++live S.d KF) es L0 β (fun j=>Nat.blt j k) a w→wpOps P ops.toArray Q (List.range' k m) a w:=by
    intro m
    induction m with
    | zero=>
     intro k a w hk hJ
     exact hQ a w (fin_inv rfl hb.1 hb.2 hlen hall (fun i hi=>Nat.ble_eq_true_of_le (by omega)) hJ)
    | succ m ih=>
     intro k a w hk hJ
     rw [List.range'_succ,wpOps_cons]
     have hkl:k<ops.length:=by omega
     have hcl:(clsOf false ops).getD k []=List.range k:=by
      simp only [clsOf,cond_false]
      rw [List.getD_eq_getElem?_getD]
      simp [hkl]
     have hstep:=reg_step (Q:=Q) h64 hb.1 hlen hall hL0 (o:=ops[k]) (List.getElem?_eq_getElem hkl) (listed:=fun j=>Nat.blt j k) (by
      show Nat.blt k k=false
      cases hbb:Nat.blt k k
      ·rfl
      ·have:k+1≤k:=Nat.le_of_ble_eq_true hbb; omega) (fun j hj=>by
       rw [hcl] at hj
       have:=mem_iff.1 hj
       exact Nat.ble_eq_true_of_le (List.mem_range.1 this)) (fun q hq hlq=>by
       have hqk:q+1≤k:=Nat.le_of_ble_eq_true hlq
       have hclq:(clsOf false ops).getD q []=List.range q:=by
        simp only [clsOf,cond_false]
        rw [List.getD_eq_getElem?_getD]
        simp [hq]
       rw [hclq]
       cases hbb:mem k (List.range q)
       ·rfl
       ·have:=List.mem_range.1 (mem_iff.1 hbb); omega) hJ
     refine wpOp_mono (fun a' w' hJ' => ih (k+1) a' w' (by omega) ?_) hstep
     have:addL (fun j=>Nat.blt j k) k=fun j=>Nat.blt j (k+1):=by
      funext j
      by_cases hj:j=k
      ·subst hj
       simp [addL,Nat.blt]
      ·rw [addL_ne hj]
       cases hb1:Nat.blt j k <;> cases hb2:Nat.blt j (k+1) <;> first | rfl | skip
       ·have:j+1≤k+1:=Nat.le_of_ble_eq_true hb2
        have:Nat.blt j k=true:=Nat.ble_eq_true_of_le (by omega)
        rw [hb1] at this; cases this
       ·have:j+1≤k:=Nat.le_of_ble_eq_true hb1
        have:Nat.blt j (k+1)=true:=Nat.ble_eq_true_of_le (by omega)
        rw [hb2] at this; cases this
     rw [this] at hJ'; exact hJ'
   refine gen ops.length 0 a w (by omega) ?_
   have:=hinit w (fun _ _ h=>h)
   have e:(fun _:Nat=>false)=fun j=>Nat.blt j 0:=by funext j; rfl
   rw [e] at this; exact this
  | true=>
   have hcl:clOk ops (clsOf true ops)=true:=by
    have:=hb.1
    simp only [regB,Bool.and_eq_true,Bool.not_true,Bool.false_or] at this
    exact this.1.1.1.1
   refine wp_region_any hm ?_
   have hw' : ∀ A:HA,∀ c,A.holds w c→A.holds { w with drawn:=w.drawn+1 } c:=fun A c h=>HA.stp (stp_drew (w:=w) (c:=c)) A (by simp) h
   refine any_sound hcl (p:=ops.length) ?_ (Nat.le_refl _) (fun listed a w=>RJ nt (clsOf true ops) ops (S.E++KE) (S.F++live S.d KF) es L0 β (fun j=>listed.getD j false) a w) ?_ ?_ _ _ _ _ (by simp) (fun i o _ hi=>by rw [rep_false] at hi; cases hi) (by simpa using cnt_le _ _) (.inl ⟨?_,fun i _=>rep_false _ i⟩)
   ·refine List.all_eq_true.2 fun i hi=>?_
    have:Nat.blt i ops.length=true:=Nat.ble_eq_true_of_le (List.mem_range.1 hi)
    simp [this]
   ·intro listed a' w' hJ hall' _
    rw [List.drop_length]
    exact wpList_nil (hQ a' w' (fin_inv rfl hb.1 hb.2 hlen hall hall' hJ))
   ·intro listed a' w' i o hJ hd hsz hip ho hf hp
    have hcls : ∀ (i:Nat) (o:Oper),ops[i]? = some o→(∀ j∈preds o,listed.getD j false=true)→∀ j,mem j ((clsOf true ops).getD i [])=true→listed.getD j false=true:=by
     intro i o ho hp j hj
     obtain ⟨c,hc⟩:=cl_some hcl (List.getElem?_eq_some_iff.1 ho).1
     rw [List.getD_eq_getElem?_getD,hc] at hj
     exact clos_listed hcl hd i o c ho hc hp j (mem_iff.1 hj)
    have hstep:=reg_step (Q:=Q) h64 hb.1 hlen hall hL0 ho (listed:=fun j=>listed.getD j false) hf (hcls i o ho hp) (fun q hq hlq=>by
     cases hbb:mem i ((clsOf true ops).getD q [])
     ·rfl
     ·have:=hcls q ops[q] (List.getElem?_eq_getElem hq) (hd q ops[q] (List.getElem?_eq_getElem hq) hlq) i hbb
      rw [hf] at this; cases this) hJ
    refine wpOp_mono (fun a'' w'' hJ' => ?_) hstep
    have:addL (fun j=>listed.getD j false) i=fun j=>(listed.setIfInBounds i true).getD j false:=by
     funext j
     rw [set_get (by omega)]; rfl
    rw [this] at hJ'; exact hJ'
   ·have:=hinit { w with drawn:=w.drawn+1 } hw'
    have e:(fun _:Nat=>false)=fun j=>(Array.replicate ops.toArray.size false).getD j false:=by funext j; rw [rep_false]
    rw [e] at this; exact this
end
end
end Go.Sm
