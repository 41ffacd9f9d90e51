/-
  The symbolic evaluator: operations on rows. Nothing of a program is named here; no condition.
-/
import Derived.Test.YtknnphhepnbaoaaGreatDoorRfD
namespace Go.Sm
set_option linter.unusedSectionVars false
section
variable [X:XTab] [G:GTab]
theorem OpOk.from {P:Program} {ρ:Env} {o:Oper} {L L' : List HA} {κ:List Nat} {Y:Type} {val:Y→Value} {Φ:Y→List HA} (h:OpOk P ρ o L' κ val Φ) (hL : ∀ w c,Heap w c L→Heap w c L'):OpOk P ρ o L κ val Φ:=
 fun a ev w c next Q ha hH hk=>h a ev w c next Q ha (hL w c hH) hk
theorem PureOk.from {P:Program} {ρ:Env} {o:Oper} {L L' : List HA} {v:Value} (h:PureOk P ρ o L' v) (hL : ∀ w c,Heap w c L→Heap w c L'):PureOk P ρ o L v:=
 fun ev w c he hH=>h ev w c he (hL w c hH)
def Pa.comp : {t u v:TC}→Pa t u→Pa u v→Pa t v
 | _,_,_, .here,q=>q
 | _,_,_, .fst p,q=>.fst (p.comp q)
 | _,_,_, .snd p,q=>.snd (p.comp q)
 | _,_,_, .inn p,q=>.inn (p.comp q)
 | _,_,_, .el j, .here=>.el j
theorem Pa.comp_off : {t u v:TC}→(p:Pa t u)→(q:Pa u v)→(p.comp q).off=p.off+q.off
 | _,_,_, .here,q=>by simp [Pa.comp,Pa.off]
 | _,_,_, .fst p,q=>by simp [Pa.comp,Pa.off,p.comp_off q]
 | _,_,_, .snd p,q=>by simp [Pa.comp,Pa.off,p.comp_off q]; omega
 | _,_,_, .inn p,q=>by simp [Pa.comp,Pa.off,p.comp_off q]
 | _,_,_, .el j, .here=>by simp [Pa.comp,Pa.off]
def Pa.get : {t u:TC}→Pa t u→t.den→u.den
 | _,_, .here,x=>x
 | _,_, .fst p,x=>p.get x.1
 | _,_, .snd p,x=>p.get x.2
 | _,_, .inn p,x=>p.get x
 | _,_,@Pa.el _ s j,x=>List.getD (α:=s.den) x j.toNat s.dft
def Pa.put : {t u:TC}→Pa t u→t.den→u.den→t.den
 | _,_, .here,_,y=>y
 | _,_, .fst p,x,y=>(p.put x.1 y,x.2)
 | _,_, .snd p,x,y=>(x.1,p.put x.2 y)
 | _,_, .inn p,x,y=>p.put x y
 | _,_,@Pa.el n s j,x,y=>arrSet (α:=s.den) n s.dft x j.toNat y
def Pa.needs : {t u:TC}→Pa t u→Option Bool
 | _,_, .here=>none
 | _,_, .fst p=>p.needs
 | _,_, .snd p=>p.needs
 | _,_, .inn p=>p.needs
 | _,_,@Pa.el n _ j=>some (decide (0≤j∧j<n))
def Pa.fine {t u:TC} (p:Pa t u):Prop:=∀ b,p.needs=some b→b=true
def nchk {R:Type} (ex:Option Bool) (b:Option Bool) (m:Option R):Option R:=match b with
 | none=>m
 | some b=>gchk ex b m
theorem Snd.nchk {R:Type} {P:Program} {o:Oper} {E:SE} {F:List AF} {n:Nat} {k:Out→Option R} {ex:Option Bool} {b:Option Bool} {m:Option R} (h:(exT ex→∀ c,b=some c→c=true)→Snd ex P o E F n m k):Snd ex P o E F n (nchk ex b m) k:=by
 cases b with
 | none=>exact h fun _ _ h=>by cases h
 | some c=>exact Snd.gchk fun hc=>h fun hx d hd=>by cases hd; exact hc hx
theorem el_pa {L:List HA} {K:List Nat} {h:Hd} : {t u:TC}→(p:Pa t u)→{v:t.den}→{x:Nat}→El L t.ty K v h x→p.fine→El L u.ty K (p.get v) h (x+p.off)
 | _,_, .here,v,x,hE,_=>by simpa [Pa.off,Pa.get] using hE
 | _,_, .fst (a:=a) (b:=b) p,v,x,hE,hf=>by
  have h1:=el_pth (t:=.pair a.ty b.ty) (.fst .here) hE rfl rfl
  exact el_pa p h1 hf
 | _,_, .snd (a:=a) (b:=b) p,v,x,hE,hf=>by
  have h1:=el_pth (t:=.pair a.ty b.ty) (.snd .here) hE rfl rfl
  have:=el_pa p h1 hf
  simp only [Pth.off,Nat.add_zero,Pa.off] at this ⊢
  rw [← Nat.add_assoc]; exact this
 | _,_, .inn p,v,x,hE,hf=>el_pa p hE hf
 | _,_, .el j,v,x,hE,hf=>el_arr hE (hf _ rfl)
theorem pat_val (h:Hd) (x:Nat) : ∃ b o,pat h x=⟨b,o,none⟩:=by
 unfold pat; split <;> exact ⟨_,_,rfl⟩
def TC.fld:(u:TC)→(m n:Nat)→Option ((v:TC)×Pa u v)
 | .st a,0,1=>some ⟨a, .inn .here⟩
 | .pair a _,0,_+2=>some ⟨a, .fst .here⟩
 | .pair _ b,1,2=>some ⟨b, .snd .here⟩
 | .pair _ b,m+1,n+3=>match b.fld m (n+2) with
  | some ⟨v,p⟩=>some ⟨v, .snd p⟩
  | none=>none
 | _,_,_=>none
def TC.aggT:TC→Bool
 | .arr _ _=>true
 | .unit=>true
 | .pair _ _=>true
 | .st _=>true
 | _=>false
def mkV (u:TC) (x:u.den) (n:Nat):AV:=match u,x with
 | .sc s,x=>.lf (.c s x)
 | .arr m s,x=>.lf (.ar m s x)
 | .unit,_=>.ag []
 | .pair a b,x=>.ag (mkL (.pair a b) x n)
 | .st a,x=>.ag (mkL a x n)
 | .slice _,_=>.lf (.sl n)
 | .ext k,x=>.lf (.xt k x)
theorem mkV_agg {u:TC} (hu:u.aggT=true) {x:u.den} {y:u.ty.Refs} {n:Nat} {η:Vn} (h:Named η n (hdsOf u y)):(mkV u x n).val η = .agg (u.ty.fill x y).toArray:=by
 cases u with
 | arr m s=>rfl
 | unit=>rfl
 | pair a b=>simp only [mkV,AV.val]; rw [mkL_cells _ x y n h]
 | st a=>simp only [mkV,AV.val]; rw [mkL_cells a x y n h]
 | _=>cases hu
theorem Named.set {η:Vn} {n:Nat} {l:List Hd}:Named (η.set n l) n l:=fun _ _ hj=>Vn.set_at hj
section
variable {R:Type} {P:Program} {o:Oper} {E:SE} {F:List AF} {n:Nat} {Θ:Tb} {ex:Option Bool}
def sIdx (Θ:Tb) (ex:Option Bool) (t:TypeId) (l:Lf) (i:Int) (F:List AF) (k:Out→Option R):Option R:=match Θ t with
 | some ⟨.slice e,_,_,_,_⟩=>match Θ e with
  | some ie=>match l with
   | .sl h=>match slI ie.tc h F with
    | some s=>bif Nat.beq ie.sz ie.tc.ty.sz then gbind ex ie.tc.dft (idx s.xs i) fun _=>k (pureO (.lf (.rp h ie.tc i ie.tc .here))) else none
    | none=>match prtI h F with
     | some (h0,sz,lo,hi)=>bif Nat.beq ie.sz ie.tc.ty.sz&&Nat.beq sz ie.sz then gchk ex (decide (0≤i∧i<hi - lo)) (k (pureO (.lf (.rp h0 ie.tc (lo+i) ie.tc .here)))) else none
     | none=>none
   | _=>none
  | none=>none
 | _=>none
theorem sIdx_ok (hΘ:Θ.ok P) {t:TypeId} {x ix:Operand} {l:Lf} {ki:IntKind} {i:Int} (ho:o.op = .indexAddr t x ix) (h1:ev E x=some (.lf l)) (h2:ev E ix=some (intL ki i)) (k:Out→Option R) :
  Snd ex P o E F n (sIdx Θ ex t l i F k) k:=by
 unfold sIdx
 split
 ·rename_i e _ _ _ _ ht
  split
  ·rename_i ie he
   split
   ·rename_i h
    split
    ·rename_i s hs
     refine Snd.bif fun hsz=>Snd.gbind fun v hv=>Snd.of fun hx=>(OpS.pure fun η ρ hE=>?_)
     have hl:lfI ie.tc F (.sl h)=some s:=hs
     refine PureOk.from (L' := .rep ie.tc.ty s.all s.xs (η.h h)::F.map (AF.ha η)) ?_ (fun w c hH=>Heap.cons (lfI_rep hl hH) hH)
     have:=p_idx (o:=o) (ρ:=ρ) (L:=.rep ie.tc.ty s.all s.xs (η.h h)::F.map (AF.ha η)) 0 rfl ho (hΘ t _ ht).2.1 (hΘ e ie he).1 (ev_ok hE h1) (ev_ok hE h2) (hv hx)
     simp only [AV.val,Lf.val,Pa.off,Nat.add_zero]
     rw [← Nat.eq_of_beq_eq_true hsz]
     exact this
    ·split
     ·rename_i h0 sz lo hi hp
      refine Snd.bif fun hsz=>Snd.gchk fun hb=>Snd.of fun hx=>(OpS.pure fun η ρ hE=>?_)
      simp only [Bool.and_eq_true] at hsz
      have:=p_idx_prt (o:=o) (ρ:=ρ) (L:=F.map (AF.ha η)) (v:=η.h h) (u:=η.h h0) (lo:=lo) (hi:=hi) (fun w c hH=>by
       rw [← Nat.eq_of_beq_eq_true hsz.2]
       exact hH _ (List.mem_map.2 ⟨_,prtI_mem hp,rfl⟩)) ho (hΘ t _ ht).2.1 (hΘ e ie he).1 (ev_ok hE h1) (ev_ok hE h2) (hb hx)
      simp only [AV.val,Lf.val,Pa.off,Nat.add_zero]
      rw [← Nat.eq_of_beq_eq_true hsz.1]
      exact this
     ·exact Snd.none
   ·exact Snd.none
  ·exact Snd.none
 ·exact Snd.none
def sField (Θ:Tb) (t:TypeId) (f:Nat) (l:Lf) (k:Out→Option R):Option R:=match Θ t with
 | some ⟨.st fs,_,_,_,_⟩=>match fs[f]? with
  | some (ft,off)=>match Θ ft with
   | some i=>bif Nat.beq i.sz 0 then none else match l with
    | .bp b o=>k (pureO (.lf (.bp b (o+off))))
    | .rp h te ix u p=>match u.fld f fs.length with
     | some ⟨v,q⟩=>bif Nat.beq q.off off then k (pureO (.lf (.rp h te ix v (p.comp q)))) else none
     | none=>none
    | .gp g te ix u p=>match u.fld f fs.length with
     | some ⟨v,q⟩=>bif Nat.beq q.off off then k (pureO (.lf (.gp g te ix v (p.comp q)))) else none
     | none=>none
    | _=>none
   | none=>none
  | none=>none
 | _=>none
theorem field_get {Fd:Array Field} {fs:List (TypeId×Nat)} (hm:Fd.toList.map (fun f=>(f.type,f.offset))=fs) {f:Nat} {ft:TypeId} {off:Nat} (h:fs[f]? = some (ft,off)) : ∃ fd,Fd[f]? = some fd∧fd.type=ft∧fd.offset=off:=by
 subst hm
 simp only [List.getElem?_map,Option.map_eq_some_iff] at h
 obtain ⟨fd,hf,he⟩:=h
 exact ⟨fd,by simpa using hf,by simpa using congrArg Prod.fst he,by simpa using congrArg Prod.snd he⟩
theorem sField_ok (hΘ:Θ.ok P) {t:TypeId} {x:Operand} {f:Nat} {l:Lf} (ho:o.op = .fieldAddr t x f) (h1:ev E x=some (.lf l)) (k:Out→Option R):Snd ex P o E F n (sField Θ t f l k) k:=by
 unfold sField
 split
 ·rename_i fs _ _ _ _ ht
  split
  ·rename_i ft off hf
   split
   ·rename_i i hi
    obtain ⟨Fd,hs,hm⟩:=(hΘ t _ ht).2.1
    obtain ⟨fd,hfd,hft,hoff⟩:=field_get hm hf
    have hti:=(hΘ ft i hi).1
    rw [← hft] at hti
    cases hz:Nat.beq i.sz 0
    ·simp only [cond_false]
     split
     ·rename_i b o'
      refine Snd.of fun hx=>(OpS.pure fun η ρ hE=>?_)
      exact p_fieldAddr ho hs hfd hti hz hoff (ev_ok hE h1)
     ·rename_i h te ix u p
      split
      ·rename_i v q hq
       refine Snd.bif fun hqo=>Snd.of fun hx=>(OpS.pure fun η ρ hE=>?_)
       have he:=ev_ok hE h1
       simp only [AV.val,Lf.val] at he ⊢
       obtain ⟨b,o',hp⟩:=pat_val (η.h h) (ix.toNat * te.ty.sz+p.off)
       rw [hp] at he
       rw [Pa.comp_off,Nat.eq_of_beq_eq_true hqo,← Nat.add_assoc,pat_add _ _ off b o' hp]
       exact p_fieldAddr ho hs hfd hti hz hoff he
      ·exact Snd.none
     ·rename_i g te ix u p
      split
      ·rename_i v q hq
       refine Snd.bif fun hqo=>Snd.of fun hx=>(OpS.pure fun η ρ hE=>?_)
       have he:=ev_ok hE h1
       simp only [AV.val,Lf.val] at he ⊢
       rw [Pa.comp_off,Nat.eq_of_beq_eq_true hqo,← Nat.add_assoc]
       exact p_fieldAddr ho hs hfd hti hz hoff he
      ·exact Snd.none
     ·exact Snd.none
    ·exact Snd.none
   ·exact Snd.none
  ·exact Snd.none
 ·exact Snd.none
def sElem (Θ:Tb) (ex:Option Bool) (t:TypeId) (l:Lf) (i:Int) (k:Out→Option R):Option R:=match Θ t with
 | some ⟨.arr m e,_,_,_,_⟩=>match Θ e with
  | some ie=>bif Nat.beq ie.sz 1 then match l with
   | .rp h te ix (.arr m' s) p=>bif Nat.beq m m' then gchk ex (decide (0≤i∧i<m')) (k (pureO (.lf (.rp h te ix (.sc s) (p.comp (.el i)))))) else none
   | .bp b o=>match ie.tc with
    | .sc s=>gchk ex (decide (0≤i∧i<m)) (k (pureO (.lf (.bq b o m s i))))
    | _=>none
   | _=>none
   else none
  | none=>none
 | _=>none
theorem p_elem {ρ:Env} {L:List HA} {t e:TypeId} {x ix:Operand} {ki:IntKind} {i:Int} {m:Nat} {b o' : Nat} {by_:Nat} {z:Value} (ho:o.op = .indexAddr t x ix) (ht:P.underlying t=some (.array m e)) (hi:TI P e 1 by_ z)
  (hx:evo ρ x = .pointer (some ⟨b,o',none⟩)) (hix:evo ρ ix = .int ki i) (h0:decide (0≤i∧i<m)=true):PureOk P ρ o L (.pointer (some ⟨b,o' + i.toNat,none⟩)):=fun ev w c he hL=>by
 subst he
 have htihi:=hi; clear hi
 obtain ⟨inf,hi,_,hs,_⟩:=htihi.get
 have hi0:0≤i∧i<m:=of_decide_eq_true h0
 simp [execOp,ho,hx,hix,Instr.indexAt,Instr.sureAddr,asIntOf,run_underlying ht,sizeOf,typeInfo,hi,hs,hi0,addr_add,Result.andThen]
theorem sElem_ok (hΘ:Θ.ok P) {t:TypeId} {x ix:Operand} {l:Lf} {ki:IntKind} {i:Int} (ho:o.op = .indexAddr t x ix) (h1:ev E x=some (.lf l)) (h2:ev E ix=some (intL ki i)) (k:Out→Option R) :
  Snd ex P o E F n (sElem Θ ex t l i k) k:=by
 unfold sElem
 split
 ·rename_i m e _ _ _ _ ht
  split
  ·rename_i ie he
   refine Snd.bif fun hsz=>?_
   have hti:=(hΘ e ie he).1
   rw [Nat.eq_of_beq_eq_true hsz] at hti
   split
   ·rename_i h te ixx m' s p
    refine Snd.bif fun hm=>Snd.gchk fun hb=>Snd.of fun hx=>(OpS.pure fun η ρ hE=>?_)
    obtain rfl:=Nat.eq_of_beq_eq_true hm
    have h3:=ev_ok hE h1
    simp only [AV.val,Lf.val] at h3 ⊢
    obtain ⟨b,o',hp⟩:=pat_val (η.h h) (ixx.toNat * te.ty.sz+p.off)
    rw [hp] at h3
    rw [Pa.comp_off,← Nat.add_assoc,pat_add _ _ _ b o' hp]
    exact p_elem ho (hΘ t _ ht).2.1 hti h3 (ev_ok hE h2) (hb hx)
   ·rename_i b o'
    split
    ·refine Snd.gchk fun hb=>Snd.of fun hx=>(OpS.pure fun η ρ hE=>?_)
     exact p_elem ho (hΘ t _ ht).2.1 hti (ev_ok hE h1) (ev_ok hE h2) (hb hx)
    ·exact Snd.none
   ·exact Snd.none
  ·exact Snd.none
 ·exact Snd.none
def sLoadR (Θ:Tb) (ex:Option Bool) (n:Nat) (t:TypeId) (h:Nat) (te:TC) (i:Int) (u:TC) (p:Pa te u) (F:List AF) (k:Out→Option R):Option R:=match Θ t,slI te h F with
 | some inf,some s=>bif Nat.beq inf.sz u.ty.sz&&Nat.ble u.nh 64&&(inf.d.agg==u.aggT) then nchk ex p.needs (gbind ex te.dft (idx s.xs i) fun x=>k ⟨mkV u (p.get x) n,mkF u (p.get x) s.K n,[]⟩) else none
 | _,_=>none
theorem row_el {η:Vn} {te:TC} {h:Nat} {s:SI te} (hs:slI te h F=some s) {i:Int} {v:te.den} (hv:idx s.xs i=some v):El (F.map (AF.ha η)) te.ty s.K v (η.h h) (i.toNat * te.ty.sz):=fun w c hH=>by
 have hm:=hH _ (List.mem_map.2 ⟨_,slI_mem hs,rfl⟩)
 obtain ⟨own,K,xs⟩:=s
 cases own with
 | none=>exact el_rep (L:=.rep te.ty K xs (η.h h)::F.map (AF.ha η)) 0 rfl rfl hv w c (Heap.cons hm hH)
 | some p=>exact el_own (L:=.own te.ty p.1 p.2 K xs (η.h h)::F.map (AF.ha η)) 0 rfl rfl hv w c (Heap.cons hm hH)
theorem sLoadR_ok (hΘ:Θ.ok P) {t:TypeId} {x:Operand} {h:Nat} {te:TC} {i:Int} {u:TC} {p:Pa te u} (ho:o.op = .load t x) (h1:ev E x=some (.lf (.rp h te i u p))) (k:Out→Option R) :
  Snd ex P o E F n (sLoadR Θ ex n t h te i u p F k) k:=by
 unfold sLoadR
 split
 ·rename_i inf s hi hs
  refine Snd.bif fun hc=>Snd.nchk fun hf=>Snd.gbind fun v hv=>Snd.of fun hx η ρ hE=>?_
  simp only [Bool.and_eq_true,beq_iff_eq] at hc
  obtain ⟨⟨hsz,hnh⟩,hag⟩:=hc
  have hsz:=Nat.eq_of_beq_eq_true hsz
  have hnh:=Nat.le_of_ble_eq_true hnh
  obtain ⟨g1,g2,_,_⟩:=hΘ t inf hi
  obtain ⟨td,ht,hd⟩:=fits_agg g2
  rw [hag] at hd
  have hE' := el_pa p (row_el (η:=η) hs (hv hx)) (hf hx)
  have hp:evo ρ x = .pointer (some (pat (η.h h) (i.toNat * te.ty.sz+p.off))):=ev_ok hE h1
  cases u with
  | sc sk=>exact (PureOk.op (p_load_at hE' ho ht hd hp)).map (fun _=>⟨η,Vn.agr_refl n η⟩) (fun _=>rfl) (fun _=>rfl)
  | ext m=>exact (PureOk.op (p_load_at hE' ho ht hd hp)).map (fun _=>⟨η,Vn.agr_refl n η⟩) (fun _=>rfl) (fun _=>rfl)
  | slice t' =>
   refine (ok_load_sl_at hE' ho ht hd hp).map (fun hh=>⟨η.setH n hh,η.setH_agr n hh⟩) (fun hh=>?_) fun hh=>?_
   ·simp [mkV,AV.val,Lf.val,Vn.setH_at]
   ·simp [mkF,AF.ha,Vn.setH_at]
  | arr m sk=>
   refine (ok_load_agg_at hE' ho ht hd g1 hsz hp).map (fun y=>⟨η.set n (hdsOf _ y),Vn.set_agr (by rw [hdsOf_len]; exact hnh)⟩) (fun y=>?_) fun y=>?_
   ·exact (mkV_agg (u:=.arr m sk) rfl Named.set).symm
   ·exact (mkF_ha (.arr m sk) _ y n Named.set).symm
  | unit=>
   refine (ok_load_agg_at hE' ho ht hd g1 hsz hp).map (fun y=>⟨η.set n (hdsOf _ y),Vn.set_agr (by rw [hdsOf_len]; exact hnh)⟩) (fun y=>?_) fun y=>?_
   ·exact (mkV_agg (u:=.unit) rfl Named.set).symm
   ·exact (mkF_ha .unit _ y n Named.set).symm
  | st a=>
   refine (ok_load_agg_at hE' ho ht hd g1 hsz hp).map (fun y=>⟨η.set n (hdsOf a y),Vn.set_agr (by rw [hdsOf_len]; exact hnh)⟩) (fun y=>?_) fun y=>?_
   ·exact (mkV_agg (u:=.st a) rfl (Named.set (l:=hdsOf a y))).symm
   ·exact (mkF_ha a _ y n Named.set).symm
  | pair a b=>
   refine (ok_load_agg_at hE' ho ht hd g1 hsz hp).map (fun y=>⟨η.set n (hdsOf _ y),Vn.set_agr (by rw [hdsOf_len]; exact hnh)⟩) (fun y=>?_) fun y=>?_
   ·exact (mkV_agg (u:=.pair a b) rfl Named.set).symm
   ·exact (mkF_ha (.pair a b) _ y n Named.set).symm
 ·exact Snd.none
theorem set_dat {η:Vn} {K:List Nat} {u:TC} {ls:List Lf} {y:u.den} {l:List Lf} {Kd:List Nat} (hd:datL F u ls=some (y,l,Kd,[])) (hK : ∀ k∈Kd,k∈K) (hone:one1L ls=true) (v:u.den):SetOk (F.map (AF.ha η)) K u.ty v 0 (cellsL η ls) y:=by
 intro w c hH r hr
 obtain ⟨hc,hrep⟩:=datL_ok (η:=η) u hd
 simp only [cellsL,List.append_nil] at hc
 have hlen:(cellsL η ls).length=u.ty.sz:=by rw [hc]; exact u.ty.fill_length _ _
 refine ⟨refsOf u (hdsL η l),hrep w c K hH hK,by omega,?_,one1L_cells hone⟩
 rw [List.take_zero,List.nil_append,Nat.zero_add,List.drop_eq_nil_of_le (by rw [u.ty.fill_length]; omega),List.append_nil,hc]
theorem set_dat' {A:HA} {η:Vn} {K:List Nat} {u:TC} {ls:List Lf} {y:u.den} {l:List Lf} {Kd:List Nat} (hd:datL F u ls=some (y,l,Kd,[])) (hK : ∀ k∈Kd,k∈K) (hone:one1L ls=true) (v:u.den):SetOk (A::F.map (AF.ha η)) K u.ty v 0 (cellsL η ls) y:=
 fun w c hH r hr=>set_dat hd hK hone v w c (fun B hB=>hH B (List.mem_cons_of_mem _ hB)) r hr
def scV (u:TC) (z:u.den):Value:=match u,z with
 | .sc s,z=>s.val z
 | _,_=>undef
theorem set_pa {L:List HA} {K:List Nat} {new:List Value} : {t u:TC}→(p:Pa t u)→{v:t.den}→{y:u.den}→SetOk L K u.ty (p.get v) 0 new y→p.fine →
  (∀ s,u = .sc s→new=[scV u y])→SetOk L K t.ty v p.off new (p.put v y)
 | _,_, .here,v,y,h,_,_=>h
 | _,_, .fst p,v,y,h,hf,hs=>set_fst (set_pa p h hf hs)
 | _,_, .snd p,v,y,h,hf,hs=>set_snd (set_pa p h hf hs) rfl
 | _,_, .inn p,v,y,h,hf,hs=>set_pa p h hf hs
 | _,_,@Pa.el n s j,v,y,h,hf,hs=>by
  have hn:=hs s rfl
  subst hn
  exact set_arr (hf _ rfl)
def moreK (K Kd:List Nat):List Nat:=bif Kd.all (fun k=>K.any fun j=>Nat.beq k j) then K else K++Kd
theorem moreK_l {K Kd:List Nat} : ∀ k∈K,k∈moreK K Kd:=fun k hk=>by
 unfold moreK
 cases Kd.all (fun k=>K.any fun j=>Nat.beq k j)
 ·exact List.mem_append_left _ hk
 ·exact hk
theorem moreK_r {K Kd:List Nat} : ∀ k∈Kd,k∈moreK K Kd:=fun k hk=>by
 unfold moreK
 cases h:Kd.all (fun k=>K.any fun j=>Nat.beq k j)
 ·exact List.mem_append_right _ hk
 ·exact subK h hk
def sStoreR (Θ:Tb) (ex:Option Bool) (t:TypeId) (h:Nat) (te:TC) (i:Int) (u:TC) (p:Pa te u) (v:AV) (F:List AF) (k:Out→Option R):Option R:=match Θ t,slI te h F,v.lvs with
 | some inf,some ⟨some (e,ci),K,xs⟩,some ls=>match datL F u ls with
  | some (y,_,Kd,[])=>bif Nat.beq inf.sz u.ty.sz&&(moreK K Kd).all (fun k=>!(Nat.beq k ci)) then
    nchk ex p.needs (gbind ex te.dft (idx xs i) fun x=>k ⟨.lf (.v undef),[.own te e ci (moreK K Kd) (xs.set i.toNat (p.put x y)) h],[ci]⟩) else none
  | _=>none
 | _,_,_=>none
theorem datL_sc {s:SC} {ls:List Lf} {y:s.den} {l:List Lf} {K:List Nat} (h:datL F (.sc s) ls=some (y,l,K,[])) (η:Vn):cellsL η ls=[s.val y]:=by
 have:=(datL_ok (η:=η) (.sc s) h).1
 simpa [cellsL,Ty.fill] using this
theorem sStoreR_ok (hΘ:Θ.ok P) {t:TypeId} {x z:Operand} {h:Nat} {te:TC} {i:Int} {u:TC} {p:Pa te u} {v:AV} (ho:o.op = .store t x z) (h1:ev E x=some (.lf (.rp h te i u p))) (h2:ev E z=some v) (k:Out→Option R) :
  Snd ex P o E F n (sStoreR Θ ex t h te i u p v F k) k:=by
 unfold sStoreR
 split
 ·rename_i inf e ci K xs ls hi hs hl
  split
  ·rename_i y l Kd hd
   refine Snd.bif fun hc=>Snd.nchk fun hf=>Snd.gbind fun d hdv=>Snd.of fun hx η ρ hE=>?_
   simp only [Bool.and_eq_true] at hc
   obtain ⟨hsz,hK⟩:=hc
   have hsz:=Nat.eq_of_beq_eq_true hsz
   obtain ⟨g1,_⟩:=hΘ t inf hi
   have hto : ∀ w c,Heap w c (F.map (AF.ha η))→Heap w c (.own te.ty e ci (moreK K Kd) xs (η.h h)::F.map (AF.ha η)):=fun w c hH=>by
    obtain ⟨ys,q1,q2,q3⟩:=hH _ (List.mem_map.2 ⟨_,slI_mem hs,rfl⟩)
    exact Heap.cons ⟨ys,q1.mono (RepR.keep (fun _ _ hb=>⟨moreK_l _ hb,rfl⟩) te.ty),q2,q3⟩ hH
   have hset:SetOk (.own te.ty e ci (moreK K Kd) xs (η.h h)::F.map (AF.ha η)) (moreK K Kd) te.ty d p.off (cellsL η ls) (p.put d y):=by
    refine set_pa p (set_dat' hd moreK_r (AV.lvs_one hl) _) (hf hx) ?_
    intro s hs'
    subst hs'
    exact datL_sc hd η
   have hlen:(cellsL η ls).length=u.ty.sz:=by
    have:=(datL_ok (η:=η) u hd).1
    rw [this]; simp [cellsL,u.ty.fill_length]
   refine ((ok_store_own (L:=.own te.ty e ci (moreK K Kd) xs (η.h h)::F.map (AF.ha η)) 0 rfl ho g1 (ev_ok hE h1) rfl rfl (hdv hx) (ev_ok hE h2) (v.lvs_cells hl η) (by simp [hlen,hsz]) hset hK).from hto).map (fun _=>⟨η,Vn.agr_refl n η⟩) (fun _=>rfl) (fun _=>rfl)
  ·exact Snd.none
 ·exact Snd.none
end
end
end Go.Sm
