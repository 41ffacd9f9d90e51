/-
  The symbolic evaluator: elements of arrays in boxes. Nothing of a program is named here; no condition.
-/
import Derived.Test.YtknnphhepnbaoaaGreatDoorRfHb
namespace Go.Sm
set_option linter.unusedSectionVars false
section
variable [X:XTab] [G:GTab]
section
variable {R:Type} {P:Program} {o:Oper} {E:SE} {F:List AF} {n:Nat} {Θ:Tb} {ex:Option Bool}
def sLoadQ (Θ:Tb) (ex:Option Bool) (t:TypeId) (b off m:Nat) (s:SC) (j:Int) (F:List AF) (k:Out→Option R):Option R:=match Θ t,boxI b F with
 | some i,some (_,cs)=>match cutAt cs off with
  | some (_, .ar m' s' x::_)=>bif Nat.beq m m' && Nat.beq i.sz 1 && !i.d.agg then (if h:s' = s then gchk ex (decide (0≤j∧j<m')) (k (pureO (.lf (.c s (List.getD (α:=s.den) (castDL h x) j.toNat s.dft))))) else none) else none
  | _=>none
 | _,_=>none
theorem ar_get (m:Nat) (s:SC) (x:List s.den) {j:Nat} (h:j<m):((TC.arr m s).ty.fill x ())[j]? = some (s.val (List.getD (α:=s.den) x j s.dft)):=by
 simp [Ty.fill,h]
theorem sLoadQ_ok (hΘ:Θ.ok P) {t:TypeId} {x:Operand} {b off m:Nat} {s:SC} {j:Int} (ho:o.op = .load t x) (hx:ev E x=some (.lf (.bq b off m s j))) (k:Out→Option R):Snd ex P o E F n (sLoadQ Θ ex t b off m s j F k) k:=by
 unfold sLoadQ
 split
 ·rename_i i ci cs hi hb
  split
  ·rename_i a m' s' xs r hc
   refine Snd.bif fun hB=>?_
   simp only [Bool.and_eq_true,Bool.not_eq_true'] at hB
   obtain ⟨⟨hm,hsz⟩,hag⟩:=hB
   split
   ·rename_i h
    subst h
    refine Snd.gchk fun hj=>Snd.of fun hex=>(OpS.pure fun η ρ hE=>?_)
    have hj:=of_decide_eq_true (hj hex)
    obtain ⟨h1,h2,_,_⟩:=hΘ t i hi
    obtain ⟨td,ht,hd⟩:=fits_agg h2
    rw [hag] at hd
    obtain ⟨q,hq⟩:=fact_at (boxI_mem hb) η
    obtain ⟨e,hl⟩:=cutAt_ok hc
    refine p_load_box q hq ho ht hd (ev_ok hE hx) ?_
    have hlen:=hl η
    rw [e,cellsL_append]
    rw [List.getElem?_append_right (by omega),show off+j.toNat - (cellsL η a).length=j.toNat by omega]
    simp only [cellsL,Lf.cells]
    rw [List.getElem?_append_left (by rw [Ty.fill_length]; show j.toNat<m'; omega)]
    exact ar_get m' s' xs (by omega)
   ·exact Snd.none
  ·exact Snd.none
 ·exact Snd.none
def sStoreQ (Θ:Tb) (ex:Option Bool) (t:TypeId) (b off m:Nat) (s:SC) (j:Int) (v:AV) (F:List AF) (k:Out→Option R):Option R:=match Θ t,boxI b F,v.lvs with
 | some i,some (ci,cs),some ls=>match cutAt cs off,datL F (.sc s) ls with
  | some (a, .ar m' s' x::r),some (y,_,_,[])=>bif Nat.beq m m' && Nat.beq i.sz 1 then (if h:s' = s then gchk ex (decide (0≤j∧j<m')) (k ⟨.lf (.v undef),[.box ci b (a++(.ar m' s (arrSet m' s.dft (castDL h x) j.toNat y)::r))],[ci]⟩) else none) else none
  | _,_=>none
 | _,_,_=>none
theorem ar_set (m:Nat) (s:SC) (x:List s.den) (y:s.den) {j:Nat} (h:j<m) :
  ((TC.arr m s).ty.fill x ()).take j++[s.val y]++((TC.arr m s).ty.fill x ()).drop (j+1)=(TC.arr m s).ty.fill (arrSet m s.dft x j y) ():=by
 apply List.ext_getElem?
 intro q
 have hl:((TC.arr m s).ty.fill x ()).length=m:=Ty.fill_length _ _ _
 have hr:((TC.arr m s).ty.fill (arrSet m s.dft x j y) ()).length=m:=Ty.fill_length _ _ _
 have htk:(((TC.arr m s).ty.fill x ()).take j).length=j:=by simp; omega
 rcases Nat.lt_trichotomy q j with hq | hq | hq
 ·rw [List.append_assoc,List.getElem?_append_left (by omega),List.getElem?_take,if_pos hq,ar_get m s x (by omega),ar_get m s _ (by omega)]
  congr 2
  simp only [arrSet,List.getD_eq_getElem?_getD,List.getElem?_map,List.getElem?_range (show q<m by omega)]
  simp [show q≠j by omega]
 ·subst hq
  rw [List.append_assoc,List.getElem?_append_right (by omega),htk,Nat.sub_self,ar_get m s _ h]
  simp [arrSet,List.getD_eq_getElem?_getD,h]
 ·by_cases hqm:q<m
  ·rw [List.getElem?_append_right (by simp; omega),ar_get m s _ hqm]
   rw [List.length_append,htk,List.length_singleton,List.getElem?_drop,show j+1+(q - (j+1))=q by omega,ar_get m s x hqm]
   congr 2
   simp only [arrSet,List.getD_eq_getElem?_getD,List.getElem?_map,List.getElem?_range hqm]
   simp [show q≠j by omega]
  ·rw [List.getElem?_eq_none (by simp; omega),List.getElem?_eq_none (by omega)]
theorem sStoreQ_ok (hΘ:Θ.ok P) {t:TypeId} {x y:Operand} {b off m:Nat} {s:SC} {j:Int} {v:AV} (ho:o.op = .store t x y) (hx:ev E x=some (.lf (.bq b off m s j))) (hy:ev E y=some v) (k:Out→Option R):Snd ex P o E F n (sStoreQ Θ ex t b off m s j v F k) k:=by
 unfold sStoreQ
 split
 ·rename_i i ci cs ls hi hb hls
  split
  ·rename_i a m' s' xs r z _ _ hc hd
   refine Snd.bif fun hB=>?_
   simp only [Bool.and_eq_true] at hB
   obtain ⟨hm,hsz⟩:=hB
   split
   ·rename_i h
    subst h
    refine Snd.gchk fun hj=>Snd.of fun hex η ρ hE=>?_
    have hj:=of_decide_eq_true (hj hex)
    obtain ⟨h1,_,_,_⟩:=hΘ t i hi
    rw [Nat.eq_of_beq_eq_true hsz] at h1
    obtain ⟨q,hq⟩:=fact_at (boxI_mem hb) η
    obtain ⟨e,hl⟩:=cutAt_ok hc
    have hlen:=hl η
    have hcell:=datL_sc hd η
    have hfl:((TC.arr m' s').ty.fill xs ()).length=m' := Ty.fill_length _ _ _
    refine (ok_store_box (cs' := cellsL η (a++(.ar m' s' (arrSet m' s'.dft xs j.toNat z)::r))) q hq ho h1 (ev_ok hE hx) (ev_ok hE hy) (v.lvs_cells hls η) (by rw [hcell]; rfl) ?_ ?_ ?_).map (fun _=>⟨η,Vn.agr_refl n η⟩) (fun _=>rfl) (fun _=>rfl)
    ·rw [hcell]; simp [s'.one]
    ·rw [e,cellsL_append,hcell]
     refine Nat.ble_eq_true_of_le ?_
     simp only [cellsL,Lf.cells,List.length_append,hfl,List.length_singleton]
     omega
    ·rw [e,cellsL_append,cellsL_append,hcell]
     simp only [cellsL,Lf.cells,List.length_singleton]
     rw [← ar_set m' s' xs z (by omega)]
     rw [List.take_append,List.take_of_length_le (by omega),show off+j.toNat - (cellsL η a).length=j.toNat by omega,List.take_append,show j.toNat - ((TC.arr m' s').ty.fill xs ()).length=0 by omega,List.take_zero,
      List.append_nil,List.drop_append,List.drop_eq_nil_of_le (as:=cellsL η a) (by omega),List.nil_append,show off+j.toNat+1 - (cellsL η a).length=j.toNat+1 by omega,List.drop_append,
      show j.toNat+1 - ((TC.arr m' s').ty.fill xs ()).length=0 by omega,List.drop_zero]
     simp
   ·exact Snd.none
  ·exact Snd.none
 ·exact Snd.none
end
end
end Go.Sm
