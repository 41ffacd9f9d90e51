/-
  The symbolic evaluator: operations on boxes. Nothing of a program is named here; no condition.
-/
import Derived.Test.YtknnphhepnbaoaaGreatDoorRfC
namespace Go.Sm
set_option linter.unusedSectionVars false
section
variable [X:XTab] [G:GTab]
theorem OpOk.map {P:Program} {ρ:Env} {o:Oper} {L:List HA} {κ:List Nat} {Y Y' : Type} {val:Y→Value} {Φ:Y→List HA} {val' : Y' → Value} {Φ' : Y' → List HA} (g:Y→Y')
  (h:OpOk P ρ o L κ val Φ) (hv : ∀ y,val y=val' (g y)) (hΦ : ∀ y,Φ y=Φ' (g y)):OpOk P ρ o L κ val' Φ' := by
 intro a ev w c next Q ha hL hk
 refine h a ev w c next Q ha hL fun y w' c' hs hF=>?_
 rw [hv y]
 exact hk (g y) w' c' hs (hΦ y ▸ hF)
theorem fact_at {F:List AF} {f:AF} (h:f∈F) (η:Vn) : ∃ k:Nat,(F.map (AF.ha η))[k]? = some (f.ha η):=by
 obtain ⟨k,hk⟩:=List.mem_iff_getElem?.1 h
 exact ⟨k,by simp [hk]⟩
def Vn.setB (η:Vn) (n b:Nat):Vn:=⟨η.h,fun m=>bif Nat.beq m n then b else η.b m⟩
theorem Vn.setB_agr (η:Vn) (n b:Nat):η.agr n (η.setB n b):=by
 intro m hm
 refine ⟨rfl,?_⟩
 have:Nat.beq m n=false:=by
  cases hb:Nat.beq m n
  ·rfl
  ·have:=Nat.eq_of_beq_eq_true hb
   subst this
   simp only [out,Bool.or_eq_true] at hm
   rcases hm with hm | hm
   ·have:m+1≤m:=Nat.le_of_ble_eq_true hm; omega
   ·have:=Nat.le_of_ble_eq_true hm; omega
 simp only [Vn.setB,this,cond_false]
theorem Vn.setB_at (η:Vn) (n b:Nat):(η.setB n b).b n=b:=by simp [Vn.setB]
def Vn.setH (η:Vn) (n:Nat) (h:Hd):Vn:=⟨fun m=>bif Nat.beq m n then h else η.h m,η.b⟩
theorem Vn.setH_agr (η:Vn) (n:Nat) (h:Hd):η.agr n (η.setH n h):=by
 intro m hm
 refine ⟨?_,rfl⟩
 have:Nat.beq m n=false:=by
  cases hb:Nat.beq m n
  ·rfl
  ·have:=Nat.eq_of_beq_eq_true hb
   subst this
   simp only [out,Bool.or_eq_true] at hm
   rcases hm with hm | hm
   ·have:m+1≤m:=Nat.le_of_ble_eq_true hm; omega
   ·have:=Nat.le_of_ble_eq_true hm; omega
 simp only [Vn.setH,this,cond_false]
theorem Vn.setH_at (η:Vn) (n:Nat) (h:Hd):(η.setH n h).h n=h:=by simp [Vn.setH]
def Lf.one1:Lf→Bool
 | .v x=>x.oneCell'
 | _=>true
def one1L:List Lf→Bool
 | []=>true
 | l::r=>l.one1&&one1L r
theorem one1_cells {η:Vn} {l:Lf} (h:l.one1=true) : ∀ u∈l.cells η,u.oneCell' = true:=by
 cases l with
 | ar n s x=>exact fill_ones (TC.arr n s).ty x ()
 | ars t xs=>exact cellsOf_ones t.ty
 | c s x=>intro u hu; simp [Lf.cells] at hu; subst hu; exact s.one x
 | xt n x=>intro u hu; simp [Lf.cells] at hu; subst hu; exact X.one n x
 | v x=>intro u hu; simp [Lf.cells] at hu; subst hu; exact h
 | _=>intro u hu; simp [Lf.cells] at hu; subst hu; rfl
theorem one1L_cells {η:Vn} : ∀ {ls:List Lf},one1L ls=true→∀ u∈cellsL η ls,u.oneCell' = true
 | [],_,u,hu=>by simp [cellsL] at hu
 | l::r,h,u,hu=>by
  simp only [one1L,Bool.and_eq_true] at h
  simp only [cellsL,List.mem_append] at hu
  rcases hu with hu | hu
  ·exact one1_cells h.1 u hu
  ·exact one1L_cells h.2 u hu
def AV.lvs:AV→Option (List Lf)
 | .lf l=>bif l.one1 then some [l] else none
 | .ag ls=>bif one1L ls then some ls else none
 | .tu _=>none
theorem AV.lvs_one {v:AV} {ls:List Lf} (h:v.lvs=some ls):one1L ls=true:=by
 cases v with
 | lf l=>
  simp only [AV.lvs] at h
  cases hb:l.one1
  ·rw [hb] at h; cases h
  ·rw [hb] at h; simp at h; subst h; simp [one1L,hb]
 | ag l=>
  simp only [AV.lvs] at h
  cases hb:one1L l
  ·rw [hb] at h; cases h
  ·rw [hb] at h; simp at h; subst h; exact hb
 | tu _=>cases h
theorem oneCell_cells {x:Value} (h:x.oneCell' = true):x.cells = #[x]:=by
 cases x <;> first | rfl | (simp [Value.oneCell'] at h)
theorem AV.lvs_cells {v:AV} {ls:List Lf} (h:v.lvs=some ls) (η:Vn):(v.val η).cells=(cellsL η ls).toArray:=by
 cases v with
 | lf l=>
  simp only [AV.lvs] at h
  cases hb:l.one1
  ·rw [hb] at h; cases h
  ·rw [hb] at h
   simp only [cond_true,Option.some.injEq] at h
   subst h
   cases l with
   | ar n s x=>simp [AV.val,Lf.val,cellsL,Lf.cells,Value.cells]
   | ars t xs=>simp [AV.val,Lf.val,cellsL,Lf.cells,Value.cells]
   | c s x=>exact oneCell_cells (s.one x)
   | xt n x=>exact oneCell_cells (X.one n x)
   | v x=>exact oneCell_cells hb
   | _=>rfl
 | ag l=>
  simp only [AV.lvs] at h
  cases hb:one1L l
  ·rw [hb] at h; cases h
  ·rw [hb] at h; simp at h; subst h; rfl
 | tu _=>cases h
def boxI (b:Nat):List AF→Option (Nat×List Lf)
 | []=>none
 | .box i b' cs::r=>bif Nat.beq b b' then some (i,cs) else boxI b r
 | _::r=>boxI b r
theorem boxI_mem {b:Nat} : ∀ {F:List AF} {i:Nat} {cs:List Lf},boxI b F=some (i,cs)→.box i b cs∈F
 | [],_,_,h=>by simp [boxI] at h
 | .box i b' cs::r,i',cs',h=>by
  simp only [boxI] at h
  cases hb:Nat.beq b b'
  ·rw [hb] at h; exact List.mem_cons_of_mem _ (boxI_mem h)
  ·rw [hb] at h
   simp only [cond_true,Option.some.injEq,Prod.mk.injEq] at h
   obtain ⟨rfl,rfl⟩:=h
   rw [Nat.eq_of_beq_eq_true hb]
   exact List.mem_cons_self
 | .own _ _ _ _ _ _::r,_,_,h=>List.mem_cons_of_mem _ (boxI_mem (F:=r) h)
 | .rep _ _ _ _::r,_,_,h=>List.mem_cons_of_mem _ (boxI_mem (F:=r) h)
 | .isn _ _::r,_,_,h=>List.mem_cons_of_mem _ (boxI_mem (F:=r) h)
 | .prt _ _ _ _ _::r,_,_,h=>List.mem_cons_of_mem _ (boxI_mem (F:=r) h)
def cutAt:List Lf→Nat→Option (List Lf×List Lf)
 | [],k=>bif Nat.beq k 0 then some ([],[]) else none
 | l::r,k=>bif Nat.beq k 0 then some ([],l::r) else bif Nat.ble 1 l.sz&&Nat.ble l.sz k then match cutAt r (k - l.sz) with | some (a,b)=>some (l::a,b) | none=>none else none
theorem cutAt_ok : ∀ {cs:List Lf} {k:Nat} {a b:List Lf},cutAt cs k=some (a,b)→cs=a++b∧∀ η,(cellsL η a).length=k
 | [],k,a,b,h=>by
  simp only [cutAt] at h
  cases hb:Nat.beq k 0
  ·rw [hb] at h; cases h
  ·rw [hb] at h
   simp only [cond_true,Option.some.injEq,Prod.mk.injEq] at h
   obtain ⟨rfl,rfl⟩:=h
   exact ⟨rfl,fun _=>(Nat.eq_of_beq_eq_true hb).symm⟩
 | l::r,k,a,b,h=>by
  simp only [cutAt] at h
  cases hk:Nat.beq k 0
  ·rw [hk] at h
   simp only [cond_false] at h
   cases hb:(Nat.ble 1 l.sz&&Nat.ble l.sz k)
   ·rw [hb] at h; cases h
   ·rw [hb] at h
    simp only [cond_true] at h
    simp only [Bool.and_eq_true] at hb
    have h2:=Nat.le_of_ble_eq_true hb.2
    split at h
    ·rename_i a' b' he
     simp only [Option.some.injEq,Prod.mk.injEq] at h
     obtain ⟨rfl,rfl⟩:=h
     obtain ⟨e,hl⟩:=cutAt_ok he
     refine ⟨by rw [e]; rfl,fun η=>?_⟩
     simp only [cellsL,List.length_append,l.cells_sz,hl η]
     omega
    ·cases h
  ·rw [hk] at h
   simp only [cond_true,Option.some.injEq,Prod.mk.injEq] at h
   obtain ⟨rfl,rfl⟩:=h
   exact ⟨rfl,fun _=>(Nat.eq_of_beq_eq_true hk).symm⟩
def cut (off sz:Nat) (cs:List Lf):Option (List Lf×List Lf×List Lf):=match cutAt cs off with
 | some (a,b)=>match cutAt b sz with
  | some (m,r)=>some (a,m,r)
  | none=>none
 | none=>none
theorem cut_ok {off sz:Nat} {cs a m r:List Lf} (h:cut off sz cs=some (a,m,r)):cs=a++m++r∧∀ η,(cellsL η a).length=off∧(cellsL η m).length=sz:=by
 unfold cut at h
 split at h
 ·rename_i a' b' h1
  split at h
  ·rename_i m' r' h2
   simp only [Option.some.injEq,Prod.mk.injEq] at h
   obtain ⟨rfl,rfl,rfl⟩:=h
   obtain ⟨e1,l1⟩:=cutAt_ok h1
   obtain ⟨e2,l2⟩:=cutAt_ok h2
   exact ⟨by rw [e1,e2,List.append_assoc],fun η=>⟨l1 η,l2 η⟩⟩
  ·cases h
 ·cases h
def ofL (agg:Bool):List Lf→Option AV
 | [.ar n s x]=>bif agg then some (.lf (.ar n s x)) else none
 | [.ars t xs]=>bif agg then some (.lf (.ars t xs)) else none
 | [l]=>some (bif agg then .ag [l] else .lf l)
 | ls=>bif agg then some (.ag ls) else none
theorem ofL_agg {ls:List Lf} {v:AV} (h:ofL true ls=some v) (η:Vn):v.val η = .agg (cellsL η ls).toArray:=by
 unfold ofL at h
 split at h
 ·simp at h; subst h; simp [AV.val,Lf.val,cellsL,Lf.cells]
 ·simp at h; subst h; simp [AV.val,Lf.val,cellsL,Lf.cells]
 ·simp at h; subst h; rfl
 ·simp at h; subst h; rfl
theorem ofL_one {ls:List Lf} {v:AV} (h:ofL false ls=some v) (η:Vn) : ∃ l,ls=[l]∧v = .lf l∧l.cells η=[v.val η]:=by
 unfold ofL at h
 split at h
 ·simp at h
 ·simp at h
 ·rename_i l hne hne'
  simp at h; subst h
  refine ⟨l,rfl,rfl,?_⟩
  cases l <;> first | rfl | (exact absurd rfl (hne _ _ _)) | (exact absurd rfl (hne' _ _))
 ·simp at h
theorem fits_agg {P:Program} {t:TypeId} {d:TD} (h:TInf.fits P t d) : ∃ td,P.underlying t=some td∧aggB td=d.agg:=by
 cases d with
 | st fs=>obtain ⟨F,h1,_⟩:=h; exact ⟨_,h1,rfl⟩
 | other=>obtain ⟨d,h1,h2⟩:=h; exact ⟨d,h1,h2⟩
 | _=>exact ⟨_,h,rfl⟩
section
variable {R:Type} {P:Program} {o:Oper} {E:SE} {F:List AF} {n:Nat} {Θ:Tb} {ex:Option Bool}
def sAlloc (Θ:Tb) (n N:Nat) (t:TypeId) (k:Out→Option R):Option R:=match Θ t with
 | some i=>bif Nat.ble 2 N then k ⟨.lf (.bp n 0),[.box N n i.zl],[]⟩ else none
 | none=>none
theorem sAlloc_ok (hΘ:Θ.ok P) {N:Nat} {t:TypeId} (ho:o.op = .alloc t) (k:Out→Option R):Snd ex P o E F n (sAlloc Θ n N t k) k:=by
 unfold sAlloc
 split
 ·rename_i i hi
  refine Snd.bif fun hN=>Snd.of fun _ η ρ hE=>?_
  obtain ⟨h1,_,h3,h4⟩:=hΘ t i hi
  refine (ok_alloc ho h1 h3 hN).map (fun b=>⟨η.setB n b,η.setB_agr n b⟩) (fun b=>?_) fun b=>?_
  ·simp [AV.val,Lf.val,Vn.setB_at]
  ·simp [AF.ha,Vn.setB_at,h4 (η.setB n b)]
 ·exact Snd.none
def sBox (n N:Nat) (v:AV) (k:Out→Option R):Option R:=match v.lvs with
 | some ls=>bif Nat.ble 2 N&&freeL n ls then k ⟨.lf (.bp n 0),[.box N n ls],[]⟩ else none
 | none=>none
theorem sBox_ok {N:Nat} {t:TypeId} {x:Operand} {v:AV} (ho:o.op = .box t x) (hv:ev E x=some v) (k:Out→Option R):Snd ex P o E F n (sBox n N v k) k:=by
 unfold sBox
 split
 ·rename_i ls hl
  refine Snd.bif fun hN=>Snd.of fun _ η ρ hE=>?_
  simp only [Bool.and_eq_true] at hN
  refine (ok_box ho (ev_ok hE hv) (v.lvs_cells hl η) hN.1).map (fun b=>⟨η.setB n b,η.setB_agr n b⟩) (fun b=>?_) fun b=>?_
  ·simp [AV.val,Lf.val,Vn.setB_at]
  ·simp [AF.ha,Vn.setB_at,cellsL_agr (η.setB_agr n b) ls hN.2]
 ·exact Snd.none
def sLoadB (Θ:Tb) (t:TypeId) (b off:Nat) (F:List AF) (k:Out→Option R):Option R:=match Θ t,boxI b F with
 | some i,some (_,cs)=>match cut off i.sz cs with
  | some (_,m,_)=>match ofL i.d.agg m with
   | some v=>k (pureO v)
   | none=>none
  | none=>none
 | _,_=>none
theorem sLoadB_ok (hΘ:Θ.ok P) {t:TypeId} {x:Operand} {b off:Nat} (ho:o.op = .load t x) (hx:ev E x=some (.lf (.bp b off))) (k:Out→Option R):Snd ex P o E F n (sLoadB Θ t b off F k) k:=by
 unfold sLoadB
 split
 ·rename_i i ci cs hi hb
  split
  ·rename_i a m r hc
   split
   ·rename_i v hv
    refine Snd.of fun _=>(OpS.pure fun η ρ hE=>?_)
    obtain ⟨h1,h2,_,_⟩:=hΘ t i hi
    obtain ⟨td,ht,hd⟩:=fits_agg h2
    obtain ⟨j,hj⟩:=fact_at (boxI_mem hb) η
    obtain ⟨e,hl⟩:=cut_ok hc
    obtain ⟨l1,l2⟩:=hl η
    have hcell:((cellsL η cs).drop off).take i.sz=cellsL η m:=by
     rw [e,cellsL_append,cellsL_append,List.append_assoc,List.drop_append,List.drop_eq_nil_of_le (by omega),show off - (cellsL η a).length=0 by omega,List.drop_zero,List.nil_append,List.take_append,List.take_of_length_le (by omega),
      show i.sz - (cellsL η m).length=0 by omega,List.take_zero,List.append_nil]
    cases hag:i.d.agg
    ·rw [hag] at hv hd
     obtain ⟨l,rfl,rfl,hl1⟩:=ofL_one hv η
     refine p_load_box j hj ho ht hd (ev_ok hE hx) ?_
     have h5:cellsL η [l]=[(AV.lf l).val η]:=by simp [cellsL,hl1]
     rw [h5] at hcell l2
     have:=congrArg (·[0]?) hcell
     simp only [List.getElem?_take,List.getElem?_drop,Nat.add_zero,List.length_singleton] at this l2
     simpa [← l2] using this
    ·rw [hag] at hv hd
     rw [ofL_agg hv η]
     exact p_loadN_box j hj ho ht hd h1 (ev_ok hE hx) hcell (by simp [l2])
   ·exact Snd.none
  ·exact Snd.none
 ·exact Snd.none
def sStoreB (Θ:Tb) (t:TypeId) (b off:Nat) (v:AV) (F:List AF) (k:Out→Option R):Option R:=match Θ t,boxI b F,v.lvs with
 | some i,some (ci,cs),some ls=>match cut off i.sz cs,cutAt ls i.sz with
  | some (a,_,r),some (_,[])=>k ⟨.lf (.v undef),[.box ci b (a++ls++r)],[ci]⟩
  | _,_=>none
 | _,_,_=>none
theorem sStoreB_ok (hΘ:Θ.ok P) {t:TypeId} {x y:Operand} {b off:Nat} {v:AV} (ho:o.op = .store t x y) (hx:ev E x=some (.lf (.bp b off))) (hy:ev E y=some v) (k:Out→Option R):Snd ex P o E F n (sStoreB Θ t b off v F k) k:=by
 unfold sStoreB
 split
 ·rename_i i ci cs ls hi hb hl
  split
  ·rename_i a m r q hc hs
   refine Snd.of fun _ η ρ hE=>?_
   obtain ⟨h1,h2,_,_⟩:=hΘ t i hi
   obtain ⟨j,hj⟩:=fact_at (boxI_mem hb) η
   obtain ⟨e,hll⟩:=cut_ok hc
   obtain ⟨l1,l2⟩:=hll η
   obtain ⟨e2,l3⟩:=cutAt_ok hs
   rw [List.append_nil] at e2
   subst e2
   have l3:=l3 η
   have hval : ∀ y : { η' : Vn // η.agr n η' },undef=(AV.lf (.v undef)).val y.1:=fun _=>rfl
   refine (ok_store_box (cs' := cellsL η (a++ls++r)) j hj ho h1 (ev_ok hE hx) (ev_ok hE hy) (v.lvs_cells hl η) (by simp [l3]) (List.all_eq_true.2 (one1L_cells (AV.lvs_one hl))) ?_ ?_).map (fun _=>⟨η,Vn.agr_refl n η⟩) (fun _=>rfl) (fun _=>rfl)
   ·rw [e,cellsL_append,cellsL_append]
    refine Nat.ble_eq_true_of_le ?_
    simp only [List.length_append]
    omega
   ·rw [e,cellsL_append,cellsL_append,cellsL_append,cellsL_append]
    congr 1
    ·congr 1
     rw [List.append_assoc,List.take_append,List.take_of_length_le (by omega),show off - (cellsL η a).length=0 by omega]
     simp
    ·rw [List.append_assoc,List.drop_append,List.drop_eq_nil_of_le (by omega),List.nil_append,List.drop_append,List.drop_eq_nil_of_le (by omega),List.nil_append,
      show off+(cellsL η ls).length - (cellsL η a).length - (cellsL η m).length=0 by omega,List.drop_zero]
  ·exact Snd.none
 ·exact Snd.none
end
end
end Go.Sm
