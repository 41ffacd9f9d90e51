/-
  The symbolic evaluator: variables of the program, function values, nil checks. Nothing of a program is named here; no condition.
-/
import Derived.Laws.IdiomStrings
import Derived.Test.YtknnphhepnbaoaaGreatDoorRfH
import Derived.Laws.StructEq
namespace Go.Sm
set_option linter.unusedSectionVars false
section
variable [X:XTab] [G:GTab]
section
variable {R:Type} {P:Program} {o:Oper} {E:SE} {F:List AF} {n:Nat} {Θ:Tb} {ex:Option Bool}
def sNil (v:AV) (k:Out→Option R):Option R:=match v with
  | .lf (.bp b off)=>k (pureO (.lf (.bp b off)))
  | .lf (.rp h t i u p)=>k (pureO (.lf (.rp h t i u p)))
  | .lf (.gp g t i u p)=>k (pureO (.lf (.gp g t i u p)))
  | .lf (.fn f)=>k (pureO (.lf (.fn f)))
  | .lf (.clo f b)=>k (pureO (.lf (.clo f b)))
  | .lf (.c .fnc f)=>k (pureO (.lf (.c .fnc f)))
  | _=>none
theorem sNil_ok {x:Operand} {v:AV} (ho:o.op = .nilCheck x) (hv:ev E x=some v) (k:Out→Option R):Snd ex P o E F n (sNil v k) k:=by
  unfold sNil
  split
  all_goals first
    | exact Snd.none
    | (refine Snd.of fun _=>(OpS.pure fun η ρ hE ev w c he _=>?_)
       have h:=ev_ok hE hv
       subst he
       simp only [AV.val,Lf.val] at h ⊢
       simp only [execOp,ho,h]; rfl)
def sFunc (E:SE) (fn:Fn) (first cap:List Operand) (k:Out→Option R):Option R:=match fn,first,cap with
  | .func f,[],[]=>k (pureO (.lf (.fn f)))
  | .func f,[],[x]=>match ev E x with
    | some (.lf (.bp b 0))=>k (pureO (.lf (.clo f b)))
    | _=>none
  | _,_,_=>none
theorem sFunc_ok {fn:Fn} {first cap:Array Operand} (ho:o.op = .makeFunc fn first cap) (k:Out→Option R):Snd ex P o E F n (sFunc E fn first.toList cap.toList k) k:=by
  unfold sFunc
  split
  · rename_i f h1 h2
    refine Snd.of fun _=>(OpS.pure fun η ρ hE ev w c he _=>?_)
    have e1:first = #[]:=by simpa using h1
    have e2:cap = #[]:=by simpa using h2
    subst he e1 e2
    simp [execOp,ho,Instr.makeFunc,AV.val,Lf.val,Result.andThen]
  · rename_i f x h1 h2
    split
    · rename_i b hv
      refine Snd.of fun _=>(OpS.pure fun η ρ hE ev w c he _=>?_)
      have e1:first = #[]:=by simpa using h1
      have e2:cap = #[x]:=by apply Array.ext'; simpa using h2
      have h:=ev_ok hE hv
      subst he e1 e2
      simp [execOp,ho,h,Instr.makeFunc,AV.val,Lf.val,Result.andThen]
    · exact Snd.none
  · exact Snd.none
def glI (g:Nat) (t:TC):List GEnt→Option (List t.den)
  | []=>none
  | e::r=>bif Nat.beq g e.g then (if h:e.t=t then (bif e.t.ty.pureB then some (castL h e.xs) else none) else none) else glI g t r
theorem glI_mem {g:Nat} {t:TC} : ∀ {l:List GEnt} {xs:List t.den},glI g t l=some xs→(⟨g,t,xs⟩:GEnt)∈l∧t.ty.pureB=true
  | [],_,h=>by simp [glI] at h
  | e::r,xs,h=>by
    simp only [glI] at h
    cases hb:Nat.beq g e.g
    · rw [hb] at h; exact ⟨List.mem_cons_of_mem _ (glI_mem h).1,(glI_mem h).2⟩
    · rw [hb] at h
      simp only [cond_true] at h
      split at h
      · rename_i he
        cases hp:e.t.ty.pureB
        · rw [hp] at h; cases h
        rw [hp] at h
        obtain ⟨eg,et,exs⟩:=e
        simp only at he hb
        subst he
        simp only [cond_true,Option.some.injEq] at h
        subst h
        rw [Nat.eq_of_beq_eq_true hb]
        exact ⟨List.mem_cons_self,hp⟩
      · cases h
abbrev ghd (g n:Nat):Hd:=⟨some ⟨g,0,none⟩,n,n⟩
theorem repAll_ref0 {w:World} {S:Nat→Prop} {t:TC} (hp:t.ty.pureB=true) : ∀ xs:List t.den,RepAll (RepR w S t.ty) xs (List.replicate xs.length t.ref0)
  | []=>trivial
  | x::xs=>by
    rw [List.length_cons,List.replicate_succ]
    exact ⟨RepR.pure t.ty x t.ref0 hp,repAll_ref0 hp xs⟩
theorem gl_rep {g:Nat} {t:TC} {xs:List t.den} (h:glI g t G.gl=some xs) {w:World} {c:Col} {L:List HA} (hH:Heap w c (L++GLH)):HA.holds w c (.rep t.ty [0,1] xs (ghd g xs.length)):=by
  obtain ⟨hm,hp⟩:=glI_mem h
  obtain ⟨⟨ty,fz,hb⟩,hc,hn⟩:=hH _ (List.mem_append_right _ (List.mem_map.2 ⟨_,hm,rfl⟩))
  have hl:(cellsOf t.ty xs (List.replicate xs.length t.ref0)).length=xs.length * t.ty.sz:=cellsOf_length t.ty (by simp)
  refine ⟨List.replicate xs.length t.ref0,repAll_ref0 hp xs,rfl,Nat.le_refl _,hn, .inr ⟨g,0,_,ty,fz,rfl,?_,hb,?_,?_⟩⟩
  · show c g∈([0,1]:List Nat)
    have hc:c g≤1:=hc
    rcases (show c g=0∨c g=1 by omega) with e | e <;> rw [e] <;> simp
  · show 0+xs.length * t.ty.sz≤_
    simp [hl]
  · show ((cellsOf t.ty xs (List.replicate xs.length t.ref0)).drop 0).take (xs.length * t.ty.sz)=_
    rw [List.drop_zero,List.take_of_length_le (by omega)]
def sIdxG (Θ:Tb) (ex:Option Bool) (t:TypeId) (g:Nat) (i:Int) (k:Out→Option R):Option R:=match Θ t with
  | some ⟨.arr m e,_,_,_,_⟩=>match Θ e with
    | some ie=>bif Nat.beq ie.sz ie.tc.ty.sz then gchk ex (decide (0≤i∧i<m)) (k (pureO (.lf (.gp g ie.tc i ie.tc .here)))) else none
    | none=>none
  | _=>none
theorem p_elemN {ρ:Env} {L:List HA} {t e:TypeId} {x ix:Operand} {ki:IntKind} {i:Int} {m:Nat} {b o' : Nat} {sz by_:Nat} {z:Value} (ho:o.op = .indexAddr t x ix) (ht:P.underlying t=some (.array m e)) (hi:TI P e sz by_ z)
    (hx:evo ρ x = .pointer (some ⟨b,o',none⟩)) (hix:evo ρ ix = .int ki i) (h0:decide (0≤i∧i<m)=true):PureOk P ρ o L (.pointer (some ⟨b,o' + i.toNat * sz,none⟩)):=fun ev w c he hL=>by
  subst he
  have htihi:=hi; clear hi
  obtain ⟨inf,hi,_,hs,_⟩:=htihi.get
  have hi0:0≤i∧i<m:=of_decide_eq_true h0
  simp [execOp,ho,hx,hix,Instr.indexAt,Instr.sureAddr,asIntOf,run_underlying ht,sizeOf,typeInfo,hi,hs,hi0,addr_add,Result.andThen]
theorem sIdxG_ok (hΘ:Θ.ok P) {t:TypeId} {g:Nat} {ix:Operand} {ki:IntKind} {i:Int} (ho:o.op = .indexAddr t (.global g) ix) (h2:ev E ix=some (intL ki i)) (k:Out→Option R) :
    Snd ex P o E F n (sIdxG Θ ex t g i k) k:=by
  unfold sIdxG
  split
  · rename_i m e _ _ _ _ ht
    split
    · rename_i ie he
      refine Snd.bif fun hsz=>Snd.gchk fun hb=>Snd.of fun hx=>(OpS.pure fun η ρ hE=>?_)
      have:=p_elemN (o:=o) (ρ:=ρ) (L:=F.map (AF.ha η)) ho (hΘ t _ ht).2.1 (hΘ e ie he).1 (rfl:evo ρ (.global g) = .pointer (some ⟨g,0,none⟩)) (ev_ok hE h2) (hb hx)
      simp only [AV.val,Lf.val,Pa.off,Nat.add_zero]
      rw [Nat.zero_add,Nat.eq_of_beq_eq_true hsz] at this
      exact this
    · exact Snd.none
  · exact Snd.none
def sLoadG (Θ:Tb) (ex:Option Bool) (n:Nat) (t:TypeId) (g:Nat) (te:TC) (i:Int) (u:TC) (p:Pa te u) (k:Out→Option R):Option R:=match Θ t,glI g te G.gl with
  | some inf,some xs=>bif Nat.beq inf.sz u.ty.sz&&Nat.ble u.nh 64&&(inf.d.agg==u.aggT) then nchk ex p.needs (gbind ex te.dft (idx xs i) fun x=>k ⟨mkV u (p.get x) n,mkF u (p.get x) [0,1] n,[]⟩) else none
  | _,_=>none
theorem row_elG {η:Vn} {te:TC} {g:Nat} {xs:List te.den} (hs:glI g te G.gl=some xs) {i:Int} {v:te.den} (hv:idx xs i=some v):El (F.map (AF.ha η)++GLH) te.ty [0,1] v (ghd g xs.length) (i.toNat * te.ty.sz):=fun w c hH=>
  el_rep (L:=.rep te.ty [0,1] xs (ghd g xs.length)::(F.map (AF.ha η)++GLH)) 0 rfl rfl hv w c (Heap.cons (gl_rep hs hH) hH)
theorem pat_ghd (g n x:Nat):pat (ghd g n) x=⟨g,x,none⟩:=by simp [pat,ghd]
theorem sLoadG_ok (hΘ:Θ.ok P) {t:TypeId} {x:Operand} {g:Nat} {te:TC} {i:Int} {u:TC} {p:Pa te u} (ho:o.op = .load t x) (h1:ev E x=some (.lf (.gp g te i u p))) (k:Out→Option R) :
    Snd ex P o E F n (sLoadG Θ ex n t g te i u p k) k:=by
  unfold sLoadG
  split
  · rename_i inf xs hi hs
    refine Snd.bif fun hc=>Snd.nchk fun hf=>Snd.gbind fun v hv=>Snd.ofG fun hx η ρ hE=>?_
    simp only [Bool.and_eq_true,beq_iff_eq] at hc
    obtain ⟨⟨hsz,hnh⟩,hag⟩:=hc
    have hsz:=Nat.eq_of_beq_eq_true hsz
    have hnh:=Nat.le_of_ble_eq_true hnh
    obtain ⟨g1,g2,_,_⟩:=hΘ t inf hi
    obtain ⟨td,ht,hd⟩:=fits_agg g2
    rw [hag] at hd
    have hE' := el_pa p (row_elG (F:=F) (η:=η) hs (hv hx)) (hf hx)
    have hp:evo ρ x = .pointer (some (pat (ghd g xs.length) (i.toNat * te.ty.sz+p.off))):=by rw [pat_ghd]; exact ev_ok hE h1
    cases u with
    | sc sk=>exact (PureOk.op (p_load_at hE' ho ht hd hp)).map (fun _=>⟨η,Vn.agr_refl n η⟩) (fun _=>rfl) (fun _=>rfl)
    | ext m=>exact (PureOk.op (p_load_at hE' ho ht hd hp)).map (fun _=>⟨η,Vn.agr_refl n η⟩) (fun _=>rfl) (fun _=>rfl)
    | slice t' =>
      refine (ok_load_sl_at hE' ho ht hd hp).map (fun hh=>⟨η.setH n hh,η.setH_agr n hh⟩) (fun hh=>?_) fun hh=>?_
      · simp [mkV,AV.val,Lf.val,Vn.setH_at]
      · simp [mkF,AF.ha,Vn.setH_at]
    | arr m sk=>
      refine (ok_load_agg_at hE' ho ht hd g1 hsz hp).map (fun y=>⟨η.set n (hdsOf _ y),Vn.set_agr (by rw [hdsOf_len]; exact hnh)⟩) (fun y=>?_) fun y=>?_
      · exact (mkV_agg (u:=.arr m sk) rfl Named.set).symm
      · exact (mkF_ha (.arr m sk) _ y n Named.set).symm
    | unit=>
      refine (ok_load_agg_at hE' ho ht hd g1 hsz hp).map (fun y=>⟨η.set n (hdsOf _ y),Vn.set_agr (by rw [hdsOf_len]; exact hnh)⟩) (fun y=>?_) fun y=>?_
      · exact (mkV_agg (u:=.unit) rfl Named.set).symm
      · exact (mkF_ha .unit _ y n Named.set).symm
    | st a=>
      refine (ok_load_agg_at hE' ho ht hd g1 hsz hp).map (fun y=>⟨η.set n (hdsOf a y),Vn.set_agr (by rw [hdsOf_len]; exact hnh)⟩) (fun y=>?_) fun y=>?_
      · exact (mkV_agg (u:=.st a) rfl (Named.set (l:=hdsOf a y))).symm
      · exact (mkF_ha a _ y n Named.set).symm
    | pair a b=>
      refine (ok_load_agg_at hE' ho ht hd g1 hsz hp).map (fun y=>⟨η.set n (hdsOf _ y),Vn.set_agr (by rw [hdsOf_len]; exact hnh)⟩) (fun y=>?_) fun y=>?_
      · exact (mkV_agg (u:=.pair a b) rfl Named.set).symm
      · exact (mkF_ha (.pair a b) _ y n Named.set).symm
  · exact Snd.none
theorem fill_pure:(t:Ty)→t.pureB=true→(x:t.den)→(y y' : t.Refs)→t.fill x y=t.fill x y'
  | .one _ _ _,_,_,_,_=>rfl
  | .arr _ _ _ _ _,_,_,_,_=>rfl
  | .unit,_,_,_,_=>rfl
  | .pair a b,h,x,y,y' => by
    simp only [Ty.pureB,Bool.and_eq_true] at h
    simp only [Ty.fill]
    rw [fill_pure a h.1 x.1 y.1 y'.1,fill_pure b h.2 x.2 y.2 y'.2]
  | .slice _,h,_,_,_=>by cases h
theorem cellsOf_pure (t:Ty) (h:t.pureB=true) : ∀ {xs:List t.den} {ys ys' : List t.Refs},xs.length=ys.length→xs.length=ys'.length→cellsOf t xs ys=cellsOf t xs ys'
  | [],_,_,_,_=>by simp [cellsOf]
  | x::xs,y::ys,y' :: ys',h1,h2=>by
    simp only [cellsOf]
    rw [fill_pure t h x y y',cellsOf_pure t h (by simpa using h1) (by simpa using h2)]
  | _::_,[],_,h1,_=>by simp at h1
  | _::_,_::_,[],_,h2=>by simp at h2
def sLoadA (Θ:Tb) (t:TypeId) (g:Nat) (k:Out→Option R):Option R:=match Θ t with
  | some ⟨.arr _ e,sz,_,_,_⟩=>match Θ e with
    | some ie=>match glI g ie.tc G.gl with
      | some xs=>bif Nat.ble 1 xs.length&&ie.tc.ty.pureB&&Nat.beq sz (xs.length * ie.tc.ty.sz) then k (pureO (.lf (.ars ie.tc xs))) else none
      | none=>none
    | none=>none
  | _=>none
theorem sLoadA_ok (hΘ:Θ.ok P) {t:TypeId} {g:Nat} (ho:o.op = .load t (.global g)) (k:Out→Option R):Snd ex P o E F n (sLoadA Θ t g k) k:=by
  unfold sLoadA
  split
  · rename_i m e sz by_ zl tc ht
    split
    · rename_i ie he
      split
      · rename_i xs hs
        refine Snd.bif fun hc=>Snd.ofG fun hx η ρ hE=>?_
        simp only [Bool.and_eq_true] at hc
        obtain ⟨⟨hm,hp⟩,hsz⟩:=hc
        have hsz:=Nat.eq_of_beq_eq_true hsz
        obtain ⟨g1,g2,_,_⟩:=hΘ t _ ht
        obtain ⟨inf,hi,_,hs',_⟩:=g1.get
        refine (PureOk.op (v:=(AV.lf (.ars ie.tc xs)).val η) fun ev w c hev hH=>?_).map (fun _=>⟨η,Vn.agr_refl n η⟩) (fun _=>rfl) (fun _=>rfl)
        subst hev
        obtain ⟨ys,hys,hn,_,_,hcs⟩:=gl_rep hs hH
        have hfin : ∀ {b off:Nat} {arr:Array Value} {ty:TypeId} {fz:Nat×Nat},some (⟨g,0,none⟩:Addr)=some ⟨b,off,none⟩→w.heap[b]? = some (.cells arr ty fz)→(arr.toList.drop off).take (xs.length * ie.tc.ty.sz)=cellsOf ie.tc.ty xs ys →
            (execOp (evo ρ) o).run P w = .ok (.value ((AV.lf (.ars ie.tc xs)).val η)) w:=by
          intro b off arr ty fz ha hb hcl
          simp only [Option.some.injEq,Addr.mk.injEq,and_true] at ha
          obtain ⟨rfl,rfl⟩:=ha
          have hlen:(cellsOf ie.tc.ty xs ys).length=inf.size:=by
            rw [cellsOf_length _ hys.length,hs',hsz]
          have hl:=run_loadN (P:=P) (w:=w) (t:=t) g2 rfl hi hb (cs:=cellsOf ie.tc.ty xs ys) (by rw [hs',hsz]; exact hcl) hlen
          have e1:cellsOf ie.tc.ty xs ys=cellsOf ie.tc.ty xs (List.replicate xs.length ie.tc.ref0):=cellsOf_pure _ hp hys.length (by simp)
          simp only [execOp,ho,evo,hl,AV.val,Lf.val,← e1,Sem.run_bind,Result.andThen_ok,Sem.run_pure]
        rcases hcs with ⟨_,h0⟩ | ⟨b,off,arr,ty,fz,ha,_,hb,_,hcl⟩
        · have:=Nat.le_of_ble_eq_true hm
          simp only at h0
          omega
        · exact hfin ha hb hcl
      · exact Snd.none
    · exact Snd.none
  · exact Snd.none
theorem pure_nh:(t:TC)→t.ty.pureB=true→t.nh=0
  | .sc _,_=>rfl
  | .arr _ _,_=>rfl
  | .unit,_=>rfl
  | .pair a b,h=>by
    simp only [TC.ty,Ty.pureB,Bool.and_eq_true] at h
    simp only [TC.nh,pure_nh a h.1,pure_nh b h.2]
  | .slice _,h=>by cases h
  | .st a,h=>pure_nh a h
  | .ext _,_=>rfl
def sIndexA (Θ:Tb) (ex:Option Bool) (t:TypeId) (te:TC) (xs:List te.den) (i:Int) (k:Out→Option R):Option R:=match Θ t with
  | some ⟨.arr m e,_,_,_,_⟩=>match Θ e with
    | some ie=>bif Nat.beq xs.length m&&Nat.beq ie.sz te.ty.sz&&ie.d.agg&&te.ty.pureB&&te.aggT then gbind ex te.dft (idx xs i) fun x=>k (pureO (mkV te x 0)) else none
    | none=>none
  | _=>none
theorem sIndexA_ok (hΘ:Θ.ok P) {t:TypeId} {x y:Operand} {ki:IntKind} {i:Int} {te:TC} {xs:List te.den} (ho:o.op = .index t x y) (h1:ev E x=some (.lf (.ars te xs))) (h2:ev E y=some (intL ki i)) (k:Out→Option R) :
    Snd ex P o E F n (sIndexA Θ ex t te xs i k) k:=by
  unfold sIndexA
  split
  · rename_i m e _ _ _ _ ht
    split
    · rename_i ie he
      refine Snd.bif fun hc=>Snd.gbind fun v hv=>Snd.of fun hx=>(OpS.pure fun η ρ hE ev w c hev _=>?_)
      simp only [Bool.and_eq_true] at hc
      obtain ⟨⟨⟨⟨hm,hsz⟩,hag⟩,hp⟩,hta⟩:=hc
      obtain rfl:=Nat.eq_of_beq_eq_true hm
      have hsz:=Nat.eq_of_beq_eq_true hsz
      obtain ⟨g1,g2,_,_⟩:=hΘ e ie he
      obtain ⟨td,htd,hd⟩:=fits_agg g2
      rw [hag] at hd
      obtain ⟨inf,hi,_,hs',_⟩:=g1.get
      have e1:=ev_ok hE h1
      have e2:=ev_ok hE h2
      subst hev
      obtain ⟨h0,hg,hlt⟩:=idx_some (hv hx)
      have hcell:=cellsOf_get te.ty (ys:=List.replicate xs.length te.ref0) (i:=i.toNat) (x:=v) (y:=te.ref0) hg (by rw [List.getElem?_replicate,if_pos hlt])
      have hval:(mkV te v 0).val η = .agg (te.ty.fill v te.ref0).toArray:=mkV_agg hta (fun j h hj=>by
        have:=(List.getElem?_eq_some_iff.1 hj).1
        rw [hdsOf_len,pure_nh te hp] at this
        omega)
      rw [hval]
      simp only [AV.val,Lf.val] at e1 e2
      have hi0:0≤i∧i<(xs.length:Int):=⟨h0,by omega⟩
      simp [execOp,ho,e1,e2,Instr.index,asIntOf,run_underlying (hΘ t _ ht).2.1,hi0,sizeOf,typeInfo,hi,hs',hsz,part,isAgg_ok htd hd,Result.andThen]
      exact hcell
    · exact Snd.none
  · exact Snd.none
def isnI (h:Nat):List AF→Option Bool
  | []=>none
  | .isn h' b::r=>bif Nat.beq h h' then some b else isnI h r
  | _::r=>isnI h r
theorem isnI_mem {h:Nat} : ∀ {F:List AF} {b:Bool},isnI h F=some b→.isn h b∈F
  | [],_,hh=>by simp [isnI] at hh
  | .isn h' b' :: r,b,hh=>by
    simp only [isnI] at hh
    cases hb:Nat.beq h h'
    · rw [hb] at hh; exact List.mem_cons_of_mem _ (isnI_mem hh)
    · rw [hb] at hh
      simp only [cond_true,Option.some.injEq] at hh
      subst hh
      rw [Nat.eq_of_beq_eq_true hb]
      exact List.mem_cons_self
  | .rep _ _ _ _::r,_,hh=>List.mem_cons_of_mem _ (isnI_mem (F:=r) hh)
  | .own _ _ _ _ _ _::r,_,hh=>List.mem_cons_of_mem _ (isnI_mem (F:=r) hh)
  | .box _ _ _::r,_,hh=>List.mem_cons_of_mem _ (isnI_mem (F:=r) hh)
  | .prt _ _ _ _ _::r,_,hh=>List.mem_cons_of_mem _ (isnI_mem (F:=r) hh)
def sNilQ (Θ:Tb) (op:BinOp) (t:TypeId) (l:Lf) (F:List AF) (k:Out→Option R):Option R:=match Θ t,op,l with
  | some ⟨.slice _,_,_,_,_⟩, .eql, .sl h=>match isnI h F with
    | some b=>k (pureO (boolL b))
    | none=>none
  | some ⟨.slice _,_,_,_,_⟩, .neq, .sl h=>match isnI h F with
    | some b=>k (pureO (boolL (!b)))
    | none=>none
  | some ⟨.slice _,_,_,_,_⟩, .eql, .nl=>k (pureO (boolL true))
  | some ⟨.slice _,_,_,_,_⟩, .neq, .nl=>k (pureO (boolL false))
  | _,_,_=>none
theorem PureOk.of {ρ:Env} {L:List HA} {v v' : Value} (p:Prop) (h : ∀ w c,Heap w c L→p) (hp:p→v=v') (hv:PureOk P ρ o L v):PureOk P ρ o L v' := fun ev w c he hL=>by
  rw [← hp (h w c hL)]; exact hv ev w c he hL
theorem sNilQ_ok (hΘ:Θ.ok P) {op:BinOp} {t t' : TypeId} {x y:Operand} {l:Lf} (ho:o.op = .binOp op t x y t') (h1:ev E x=some (.lf l)) (h2:ev E y=some (.lf .nl)) (k:Out→Option R):Snd ex P o E F n (sNilQ Θ op t l F k) k:=by
  unfold sNilQ
  split
  · rename_i ht
    split
    · rename_i b hb
      refine Snd.of fun _=>(OpS.pure fun η ρ hE=>?_)
      exact PureOk.of _ (fun w c hH=>hH _ (List.mem_map.2 ⟨_,isnI_mem hb,rfl⟩)) (fun hp=>by rw [← show (η.h _).isNil=b from hp]; rfl) (p_eqnil ho (hΘ t _ ht).2.1 (ev_ok hE h1) (ev_ok hE h2))
    · exact Snd.none
  · rename_i ht
    split
    · rename_i b hb
      refine Snd.of fun _=>(OpS.pure fun η ρ hE=>?_)
      exact PureOk.of _ (fun w c hH=>hH _ (List.mem_map.2 ⟨_,isnI_mem hb,rfl⟩)) (fun hp=>by rw [← show (η.h _).isNil=b from hp]; rfl) (p_neqnil ho (hΘ t _ ht).2.1 (ev_ok hE h1) (ev_ok hE h2))
    · exact Snd.none
  · rename_i ht
    exact Snd.of fun _=>(OpS.pure fun η ρ hE=>p_eqnil (h:=nilHd) ho (hΘ t _ ht).2.1 (ev_ok hE h1) (ev_ok hE h2))
  · rename_i ht
    exact Snd.of fun _=>(OpS.pure fun η ρ hE=>p_neqnil (h:=nilHd) ho (hΘ t _ ht).2.1 (ev_ok hE h1) (ev_ok hE h2))
  · exact Snd.none
def bndI (E:SE) (q:Option Operand) (d:Int):Option Int:=match q with
  | none=>some d
  | some q=>match ev E q with
    | some (.lf (.c (.int _) i))=>some i
    | _=>none
theorem bndI_ok {q:Option Operand} {d i:Int} (h:bndI E q d=some i) {η:Vn} {ρ:Env} (hE:EnvOk η ρ E):(q=none∧i=d)∨∃ x kk,q=some x∧evo ρ x = .int kk i:=by
  unfold bndI at h
  split at h
  · simp only [Option.some.injEq] at h; exact .inl ⟨rfl,h.symm⟩
  · split at h
    · rename_i x _ kk j hv
      simp only [Option.some.injEq] at h
      subst h
      exact .inr ⟨x,kk,rfl,ev_ok hE hv⟩
    · cases h
theorem bounds_ok {ρ:Env} {w:World} {isS:Bool} {len cap:Nat} {lo hi:Option Operand} {i j:Int} (hlo:(lo=none∧i=0)∨∃ x kk,lo=some x∧evo ρ x = .int kk i) (hhi:(hi=none∧j=len)∨∃ x kk,hi=some x∧evo ρ x = .int kk j)
    (hb:0≤i∧i≤j∧j≤cap):(Instr.sliceBounds isS len cap (lo.map (evo ρ)) (hi.map (evo ρ)) none).run P w = .ok (i.toNat,j.toNat,cap) w:=by
  obtain ⟨h0,h1,h2⟩:=hb
  have b1 : ∀ x kk code,evo ρ x = .int kk j→(Instr.sliceBound (evo ρ x) cap code).run P w = .ok j.toNat w:=fun x kk code hx=>by rw [hx]; exact bound_ok (by omega) h2
  have b2 : ∀ x kk code,evo ρ x = .int kk i→(Instr.sliceBound (evo ρ x) j.toNat code).run P w = .ok i.toNat w:=fun x kk code hx=>by rw [hx]; exact bound_ok h0 (by omega)
  rcases hhi with ⟨rfl,rfl⟩ | ⟨x,kk,rfl,hx⟩ <;> rcases hlo with ⟨rfl,rfl⟩ | ⟨y,kk',rfl,hy⟩
  · simp [Instr.sliceBounds]
  · have:=b2 y kk' .sliceB hy
    simp only [Int.toNat_natCast] at this
    simp [Instr.sliceBounds,this,Result.andThen]
  · cases isS <;> simp [Instr.sliceBounds,b1 x kk _ hx,Result.andThen]
  · cases isS <;> simp [Instr.sliceBounds,b1 x kk _ hx,b2 y kk' _ hy,Result.andThen]
def sSliceS (Θ:Tb) (E:SE) (ex:Option Bool) (t:TypeId) (s:List UInt8) (lo hi:Option Operand) (k:Out→Option R):Option R:=match Θ t,bndI E lo 0,bndI E hi s.length with
  | some ⟨.str,_,_,_,_⟩,some i,some j=>gchk ex (decide (0≤i∧i≤j∧j≤s.length)) (k (pureO (strL ((s.take j.toNat).drop i.toNat))))
  | _,_,_=>none
theorem sSliceS_ok (hΘ:Θ.ok P) {t:TypeId} {x:Operand} {s:List UInt8} {lo hi:Option Operand} (ho:o.op = .slice t x lo hi none) (h1:ev E x=some (strL s)) (k:Out→Option R):Snd ex P o E F n (sSliceS Θ E ex t s lo hi k) k:=by
  unfold sSliceS
  split
  · rename_i i j ht hbi hbj
    refine Snd.gchk fun hb=>Snd.of fun hx=>(OpS.pure fun η ρ hE ev w c he _=>?_)
    have hb:=of_decide_eq_true (hb hx)
    have hx:=ev_ok hE h1
    subst he
    have hbd:=bounds_ok (P:=P) (w:=w) (isS:=false) (len:=s.length) (cap:=s.length) (bndI_ok hbi hE) (bndI_ok hbj hE) hb
    have ht' : P.underlying t=some .string:=(hΘ t _ ht).2.1
    have hsz:(⟨s.toArray⟩:ByteArray).size=s.length:=by simp [ByteArray.size]
    have hext:(⟨s.toArray⟩:ByteArray).extract i.toNat j.toNat=⟨((s.take j.toNat).drop i.toNat).toArray⟩:=by
      apply ByteArray.ext
      apply Array.ext'
      simp [ByteArray.data_extract,List.drop_take]
    simp only [AV.val,Lf.val] at hx ⊢
    have h2:(Instr.slice t (.string ⟨s.toArray⟩) (lo.map (evo ρ)) (hi.map (evo ρ)) none).run P w = .ok (.string ⟨((s.take j.toNat).drop i.toNat).toArray⟩) w:=by
      simp [Instr.slice,run_underlying ht',hsz,hbd,hext,Result.andThen]
    simp [execOp,ho,hx,Instr.sliceAt,run_underlying ht',h2,Result.andThen]
  · exact Snd.none
theorem foldl_push : ∀ (ns:List Int) (a:Array UInt8),ns.foldl (fun (r:ByteArray) n=>r.push (UInt8.ofNat n.toNat)) ⟨a⟩=⟨a++(ns.map fun n=>UInt8.ofNat n.toNat).toArray⟩
  | [],a=>by simp
  | n::r,a=>by
    simp only [List.foldl_cons,List.map_cons]
    rw [show (⟨a⟩:ByteArray).push (UInt8.ofNat n.toNat)=⟨a.push (UInt8.ofNat n.toNat)⟩ from rfl,foldl_push r]
    congr 1
    apply Array.ext'
    simp
theorem cellsOf_u8 : ∀ {xs:List Int} {ys:List Unit},xs.length=ys.length→cellsOf (TC.sc (.int .u8)).ty xs ys=xs.map (Value.int .u8)
  | [],_,_=>by simp [cellsOf]
  | x::xs,y::ys,h=>by
    have:=cellsOf_u8 (xs:=xs) (ys:=ys) (by simpa using h)
    simp only [cellsOf,List.map_cons,this]
    rfl
  | _::_,[],h=>by simp at h
def sConvB (Θ:Tb) (s d:TypeId) (l:Lf) (F:List AF) (k:Out→Option R):Option R:=match Θ s,Θ d with
  | some ⟨.slice e,_,_,_,_⟩,some ⟨.str,_,_,_,_⟩=>match Θ e with
    | some ⟨.int .u8,_,_,_,_⟩=>match lfI (.sc (.int .u8)) F l with
      | some q=>k (pureO (strL ((show List Int from q.xs).map fun n=>UInt8.ofNat n.toNat)))
      | none=>none
    | _=>none
  | _,_=>none
theorem sConvB_ok (hΘ:Θ.ok P) {s d:TypeId} {x:Operand} {l:Lf} (ho:o.op = .convert s d x) (h1:ev E x=some (.lf l)) (k:Out→Option R):Snd ex P o E F n (sConvB Θ s d l F k) k:=by
  unfold sConvB
  split
  · rename_i e _ _ _ _ _ _ _ _ hs hd
    split
    · rename_i he
      split
      · rename_i q hq
        refine Snd.of fun _=>(OpS.pure fun η ρ hE ev w c hev hH=>?_)
        have hx:=ev_ok hE h1
        simp only [AV.val] at hx
        rw [(lfI_val hq η).1] at hx
        obtain ⟨ys,hys,hn,_,_,hc⟩:=lfI_rep hq hH
        subst hev
        have hconv:=run_convert_bytes_string w s d e (l.hd η).a (l.hd η).n (l.hd η).cap (hΘ s _ hs).2.1 (hΘ e _ he).2.1 (hΘ d _ hd).2.1
        have hfin : ∀ {ns:List Int},(Conv.bytesToString (l.hd η).val).run P w = .ok (.string ⟨(ns.map fun n=>UInt8.ofNat n.toNat).toArray⟩) w→ns=q.xs→(execOp (evo ρ) o).run P w = .ok (.value (.string ⟨((show List Int from q.xs).map fun n=>UInt8.ofNat n.toNat).toArray⟩)) w:=by
          intro ns h e
          subst e
          simp [execOp,ho,hx,hconv,h,Result.andThen]
        simp only [AV.val,Lf.val]
        rcases hc with ⟨_,h0⟩ | ⟨b,off,arr,ty,fz,ha,_,hb,hfit,hcl⟩
        · have hx0:q.xs=([]:List Int):=List.eq_nil_of_length_eq_zero (by omega)
          refine hfin (ns:=[]) ?_ hx0.symm
          have hn0:(l.hd η).n=0:=by rw [hn,hx0]; rfl
          cases ha:(l.hd η).a with
          | none=>
            simp only [Hd.val,ha,hn0]
            rfl
          | some a=>
            have hl:(loadCells a 0).run P w = .ok (([]:List Int).map (Value.int .u8)).toArray w:=run_loadCells_list w a [] (fun j v h=>by cases h)
            have:=run_bytesToString (P:=P) w a 0 (l.hd η).cap [] hl
            simp only [Hd.val,ha,hn0]
            rw [this]; rfl
        · have hcells:cellsOf (TC.sc (.int .u8)).ty q.xs ys=(show List Int from q.xs).map (Value.int .u8):=cellsOf_u8 hys.length
          have hl:(loadCells ⟨b,off,none⟩ q.xs.length).run P w = .ok ((show List Int from q.xs).map (Value.int .u8)).toArray w:=by
            have:=run_loadCells_list (P:=P) w ⟨b,off,none⟩ ((show List Int from q.xs).map (Value.int .u8)) (fun j v hv=>by
              rw [addr_add,cell_at hb]
              rw [← hcells,← hcl,List.getElem?_take] at hv
              split at hv
              · simpa [List.getElem?_drop] using hv
              · cases hv)
            simpa using this
          have:=run_bytesToString (P:=P) w ⟨b,off,none⟩ q.xs.length (l.hd η).cap (show List Int from q.xs) hl
          refine hfin (ns:=q.xs) ?_ rfl
          simp only [Hd.val,ha,hn]
          rw [this,show ByteArray.empty=⟨#[]⟩ from rfl,foldl_push]
          simp
      · exact Snd.none
    · exact Snd.none
  · exact Snd.none
theorem stp_drew_of {w:World} {c:Col} {w' : World} {c' : Col} (h:Stp [] w.drew c w' c'):Stp [] w c w' c' := ⟨h.size,h.col,h.same,h.two,h.env⟩
theorem rep_sc {w:World} {S:Nat→Prop} (s:SC) : ∀ l:List s.den,RepAll (RepR w S (TC.sc s).ty) l (List.replicate l.length ())
  | []=>trivial
  | _::r=>⟨trivial,rep_sc s r⟩
theorem ok_bytes {ρ:Env} {L:List HA} {s d e:TypeId} {x:Operand} {bs:List UInt8} {N:Nat} (ho:o.op = .convert s d x) (hs:P.underlying s=some .string) (hd:P.underlying d=some (.slice e)) (he:P.underlying e=some (.int .u8))
    (hx:evo ρ x = .string ⟨bs.toArray⟩) (hN:Nat.ble 2 N=true) (hl:decide (bs.length≤maxLen)=true) :
    OpOk P ρ o L [] Hd.val (fun h=>[.own (TC.sc (.int .u8)).ty (e+1048576) N [] (bs.map fun b=>(b.toNat:Int)) h]):=by
  intro a ev w c next Q ha hL hk
  have hlen:bs.length≤maxLen:=of_decide_eq_true hl
  have hrun:=run_bytes_of_string (P:=P) w s d e ⟨bs.toArray⟩ hs hd he
  have hge:=grownCap_ge w bs.length 0 e
  have hle:=grownCap_le_maxLen w bs.length 0 e hlen
  have hsz:(ByteArray.mk bs.toArray).size=bs.length:=by simp [ByteArray.size]
  rw [hsz] at hrun
  generalize hcap:grownCap w bs.length 0 e=cap at hrun hge hle
  have hrow:bytesRow ⟨bs.toArray⟩ cap=((bs.map fun (b:UInt8)=>Value.int .u8 (b.toNat:Int))++List.replicate (cap - bs.length) (Value.int .u8 0)).toArray:=by
    simp [bytesRow,hsz]
  have hrsz:(bytesRow ⟨bs.toArray⟩ cap).size=cap:=by
    rw [hrow]; simp; omega
  have hex:(execOp ev o).run P w = .ok (.value (.slice (some ⟨w.heap.size,0,none⟩) bs.length cap)) (w.drew.alloc (.cells (bytesRow ⟨bs.toArray⟩ cap) e ((bytesRow ⟨bs.toArray⟩ cap).size,(bytesRow ⟨bs.toArray⟩ cap).size+1))):=by
    simp [execOp,ho,ha,hx,hrun,Result.andThen]
  rw [hex]
  have hst:=stp_drew_of (stp_new (w:=w.drew) (c:=c) hN (.cells (bytesRow ⟨bs.toArray⟩ cap) e ((bytesRow ⟨bs.toArray⟩ cap).size,(bytesRow ⟨bs.toArray⟩ cap).size+1)))
  have hcells:cellsOf (TC.sc (.int .u8)).ty (bs.map fun (b:UInt8)=>(b.toNat:Int)) (List.replicate bs.length ())=bs.map fun (b:UInt8)=>Value.int .u8 (b.toNat:Int):=by
    rw [cellsOf_u8 (by simp),List.map_map]; rfl
  refine hk ⟨some ⟨w.heap.size,0,none⟩,bs.length,cap⟩ _ _ hst (Heap.cons ⟨List.replicate bs.length (),?_,⟨?_, .inr ⟨w.heap.size,cap,bytesRow ⟨bs.toArray⟩ cap,e,((bytesRow ⟨bs.toArray⟩ cap).size,(bytesRow ⟨bs.toArray⟩ cap).size+1),?_,heap_alloc_new w.drew _, .inr ⟨Nat.le_add_left _ _,Nat.le_refl _⟩,?_,hle,?_,?_⟩⟩,fun g hg=>?_⟩ (Heap.nil _ _))
  · have:=rep_sc (w:=w.drew.alloc (.cells (bytesRow ⟨bs.toArray⟩ cap) e ((bytesRow ⟨bs.toArray⟩ cap).size,(bytesRow ⟨bs.toArray⟩ cap).size+1))) (S:=fun b=>(if b<w.drew.heap.size then c b else N)∈([]:List Nat)) (.int .u8) (bs.map fun (b:UInt8)=>(b.toNat:Int))
    rw [List.length_map] at this
    exact this
  · rw [hcells]; simp [Ty.sz]
  · simp
  · simpa using hge
  · rw [hrsz]; simp [Ty.sz]
  · rw [hcells,hrow]
    simp [Ty.sz]
  · simp only [Hd.val,Value.ownBlock,Option.some.injEq] at hg
    subst hg
    have : ¬ (w.heap.size<w.drew.heap.size):=Nat.lt_irrefl _
    simp [this]
def sConvS (Θ:Tb) (ex:Option Bool) (n N:Nat) (s d:TypeId) (a:List UInt8) (k:Out→Option R):Option R:=match Θ s,Θ d with
  | some ⟨.str,_,_,_,_⟩,some ⟨.str,_,_,_,_⟩=>k (pureO (strL a))
  | some ⟨.str,_,_,_,_⟩,some ⟨.slice e,_,_,_,_⟩=>match Θ e with
    | some ⟨.int .u8,_,_,_,_⟩=>bif Nat.ble 2 N then gchk ex (decide (a.length≤maxLen)) (k ⟨.lf (.sl n),[.own (.sc (.int .u8)) (e+1048576) N [] (a.map fun b=>(b.toNat:Int)) n],[]⟩) else none
    | _=>none
  | _,_=>none
theorem sConvS_ok (hΘ:Θ.ok P) {N:Nat} {s d:TypeId} {x:Operand} {a:List UInt8} (ho:o.op = .convert s d x) (h1:ev E x=some (strL a)) (k:Out→Option R):Snd ex P o E F n (sConvS Θ ex n N s d a k) k:=by
  unfold sConvS
  split
  · rename_i _ _ _ _ _ _ _ _ hs hd
    refine Snd.of fun hx=>(OpS.pure fun η ρ hE ev w c he _=>?_)
    have hs' := (hΘ s _ hs).2.1
    have hd' := (hΘ d _ hd).2.1
    have h2:=ev_ok hE h1
    subst he
    simp only [AV.val,Lf.val] at h2 ⊢
    simp [execOp,ho,h2,convert,run_underlying hs',run_underlying hd',Result.andThen]
  · rename_i _ _ _ _ e _ _ _ _ hs hd
    split
    · rename_i he
      refine Snd.bif fun hN=>Snd.gchk fun hl=>Snd.of fun hx η ρ hE=>?_
      refine (ok_bytes (o:=o) (ρ:=ρ) ho (hΘ s _ hs).2.1 (hΘ d _ hd).2.1 (hΘ e _ he).2.1 (ev_ok hE h1) hN (hl hx)).map (fun hh=>⟨η.setH n hh,η.setH_agr n hh⟩) (fun hh=>?_) fun hh=>?_
      · simp [AV.val,Lf.val,Vn.setH_at]
      · simp [AF.ha,Vn.setH_at]
    · exact Snd.none
  · exact Snd.none
def sSlice3 (Θ:Tb) (E:SE) (ex:Option Bool) (n:Nat) (t:TypeId) (l:Lf) (hi mx:Operand) (F:List AF) (k:Out→Option R):Option R:=match Θ t,ev E hi,ev E mx with
  | some ⟨.slice e,_,_,_,_⟩,some (.lf (.c (.int _) j)),some (.lf (.c (.int _) m))=>match Θ e with
    | some ie=>match lfI ie.tc F l with
      | some s=>bif Nat.beq ie.sz ie.tc.ty.sz then gchk ex (decide (0≤j∧j≤m∧m≤s.xs.length)) (k ⟨.lf (.sl n),[.rep ie.tc s.all (s.xs.take j.toNat) n],[]⟩) else none
      | none=>none
    | none=>none
  | _,_,_=>none
theorem ok_slice3 {ρ:Env} {L:List HA} {t e:TypeId} {x hi mx:Operand} {kj km:IntKind} {j m:Int} {ty:Ty} {K:List Nat} {xs:List ty.den} {hd:Hd} {sz by_:Nat} {z:Value} (ho:o.op = .slice t x none (some hi) (some mx)) (ht:P.underlying t=some (.slice e)) (hti:TI P e sz by_ z)
    (hx:evo ρ x=hd.val) (hj:evo ρ hi = .int kj j) (hm:evo ρ mx = .int km m) (hL : ∀ w c,Heap w c L→HA.holds w c (.rep ty K xs hd)) (hb:decide (0≤j∧j≤m∧m≤xs.length)=true) :
    OpOk P ρ o L [] (fun _:Unit=>(⟨hd.a,j.toNat,m.toNat⟩:Hd).val) (fun _=>[.rep ty K (xs.take j.toNat) ⟨hd.a,j.toNat,m.toNat⟩]):=ok_val fun ev w c hev hF=>by
  obtain ⟨b0,b1,b2⟩:=of_decide_eq_true hb
  obtain ⟨inf,hinf,_,hs',_⟩:=hti.get
  obtain ⟨ys,hys,hn,hle,hmx,hc⟩:=hL w c hF
  refine ⟨(),?_,Heap.cons ⟨ys.take j.toNat,hys.take _,?_⟩ (Heap.nil _ _)⟩
  · subst hev
    have c1:(Instr.sliceBound (evo ρ mx) hd.cap .slice3Acap).run P w = .ok m.toNat w:=by rw [hm]; exact bound_ok (by omega) (by omega)
    have c2:(Instr.sliceBound (evo ρ hi) m.toNat .slice3B).run P w = .ok j.toNat w:=by rw [hj]; exact bound_ok b0 (by omega)
    have c3:(Instr.sliceBounds true hd.n hd.cap none (some (evo ρ hi)) (some (evo ρ mx))).run P w = .ok (0,j.toNat,m.toNat) w:=by
      simp [Instr.sliceBounds,c1,c2,Result.andThen]
    have hid:Option.map (fun a:Addr=>a.add 0) hd.a=hd.a:=by
      cases hd.a with
      | none=>rfl
      | some a=>obtain ⟨b,o',f⟩:=a; rfl
    have c4:(Instr.slice t hd.val none (some (evo ρ hi)) (some (evo ρ mx))).run P w = .ok (⟨hd.a,j.toNat,m.toNat⟩:Hd).val w:=by
      simp [Instr.slice,run_underlying ht,c3,sizeOf,typeInfo,hinf,hid,Result.andThen]
    simp [execOp,ho,hx,Instr.sliceAt,run_underlying ht,c4,Result.andThen]
  · refine ⟨by simp; omega,by simp; omega,by simp; omega,?_⟩
    rcases hc with ⟨_,h0⟩ | ⟨b,off,arr,tt,fz,ha,hS,hbb,hfit,hcl⟩
    · exact .inl ⟨trivial,by simp; omega⟩
    · have h4:m.toNat * ty.sz≤hd.cap * ty.sz:=Nat.mul_le_mul_right _ (by omega)
      have h2:j.toNat≤xs.length:=by omega
      have h3:j.toNat * ty.sz≤xs.length * ty.sz:=Nat.mul_le_mul_right _ h2
      refine .inr ⟨b,off,arr,tt,fz,ha,hS,hbb,?_,?_⟩
      · show off+m.toNat * ty.sz≤arr.size
        omega
      · rw [cellsOf_take ty j.toNat hys.length,← hcl,List.take_take,List.length_take,Nat.min_eq_left h2,Nat.min_eq_left h3]
theorem sSlice3_ok (hΘ:Θ.ok P) {t:TypeId} {x hi mx:Operand} {l:Lf} (ho:o.op = .slice t x none (some hi) (some mx)) (h1:ev E x=some (.lf l)) (k:Out→Option R):Snd ex P o E F n (sSlice3 Θ E ex n t l hi mx F k) k:=by
  unfold sSlice3
  split
  · rename_i e _ _ _ _ kj j km m ht hj hm
    split
    · rename_i ie he
      split
      · rename_i s hs
        refine Snd.bif fun hsz=>Snd.gchk fun hb=>Snd.of fun hx η ρ hE=>?_
        have hx2:=ev_ok hE h1
        simp only [AV.val] at hx2
        rw [(lfI_val hs η).1] at hx2
        refine (ok_slice3 (j:=j) (m:=m) ho (hΘ t _ ht).2.1 (hΘ e ie he).1 hx2 (ev_ok hE hj) (ev_ok hE hm) (fun w c hF=>lfI_rep hs hF) (hb hx)).map (fun _=>⟨η.setH n ⟨(l.hd η).a,j.toNat,m.toNat⟩,η.setH_agr n _⟩) (fun _=>?_) fun _=>?_
        · simp [AV.val,Lf.val,Vn.setH_at]
        · simp [AF.ha,Vn.setH_at]
      · exact Snd.none
    · exact Snd.none
  · exact Snd.none
theorem OpOk.weaken' {P:Program} {ρ:Env} {o:Oper} {L:List HA} {κ:List Nat} {Y Y' : Type} {val:Y→Value} {Φ:Y→List HA} {val' : Y' → Value} {Φ' : Y' → List HA} (h:OpOk P ρ o L κ val Φ) (g:Y→Y')
    (hv : ∀ y,val y=val' (g y)) (hΦ : ∀ y w c,Heap w c (Φ y)→Heap w c (Φ' (g y))):OpOk P ρ o L κ val' Φ' := by
  intro a ev w c next Q ha hL hk
  refine h a ev w c next Q ha hL fun y w' c' hs hF=>?_
  rw [hv y]
  exact hk (g y) w' c' hs (hΦ y w' c' hF)
def sSliceP (Θ:Tb) (E:SE) (ex:Option Bool) (n:Nat) (t:TypeId) (l:Lf) (lo hi mx:Operand) (F:List AF) (k:Out→Option R):Option R:=match Θ t,ev E lo,ev E hi,ev E mx with
  | some ⟨.slice e,_,_,_,_⟩,some (.lf (.c (.int _) i)),some (.lf (.c (.int _) j)),some (.lf (.c (.int _) m))=>match Θ e,l with
    | some ie, .sl h=>match ownI ie.tc e 0 F (.sl h) with
      | some (_,_,xs)=>bif Nat.beq ie.sz ie.tc.ty.sz&&out n h then gchk ex (decide (0≤i∧i≤j∧j≤m∧m≤xs.length)) (k ⟨.lf (.sl n),[.prt n h ie.sz i j],[]⟩) else none
      | none=>none
    | _,_=>none
  | _,_,_,_=>none
theorem ok_sliceP {ρ:Env} {L:List HA} {t e:TypeId} {x lo hi mx:Operand} {ki kj km:IntKind} {i j m:Int} {ty:Ty} {K:List Nat} {xs:List ty.den} {hd:Hd} {sz by_:Nat} {z:Value} (ho:o.op = .slice t x (some lo) (some hi) (some mx)) (ht:P.underlying t=some (.slice e)) (hti:TI P e sz by_ z)
    (hx:evo ρ x=hd.val) (hi' : evo ρ lo = .int ki i) (hj:evo ρ hi = .int kj j) (hm:evo ρ mx = .int km m) (hL : ∀ w c,Heap w c L→HA.holds w c (.rep ty K xs hd)) (hb:decide (0≤i∧i≤j∧j≤m∧m≤xs.length)=true) :
    OpOk P ρ o L [] (fun y : { h:Hd // PrtOf h hd sz i j }=>y.1.val) (fun _=>[]):=ok_val fun ev w c hev hF=>by
  obtain ⟨b0,b1,b2,b3⟩:=of_decide_eq_true hb
  obtain ⟨inf,hinf,_,hs',_⟩:=hti.get
  obtain ⟨ys,hys,hn,hle,hmx,hc⟩:=hL w c hF
  subst hev
  have c1:(Instr.sliceBound (evo ρ mx) hd.cap .slice3Acap).run P w = .ok m.toNat w:=by rw [hm]; exact bound_ok (by omega) (by omega)
  have c2:(Instr.sliceBound (evo ρ hi) m.toNat .slice3B).run P w = .ok j.toNat w:=by rw [hj]; exact bound_ok (by omega) (by omega)
  have c0:(Instr.sliceBound (evo ρ lo) j.toNat .slice3C).run P w = .ok i.toNat w:=by rw [hi']; exact bound_ok b0 (by omega)
  have c3:(Instr.sliceBounds true hd.n hd.cap (some (evo ρ lo)) (some (evo ρ hi)) (some (evo ρ mx))).run P w = .ok (i.toNat,j.toNat,m.toNat) w:=by
    simp [Instr.sliceBounds,c0,c1,c2,Result.andThen]
  refine ⟨⟨⟨if m.toNat=i.toNat then hd.a else hd.a.map (·.add (i.toNat * inf.size)),j.toNat - i.toNat,m.toNat - i.toNat⟩,⟨b0,by simp only; omega,fun hlt=>?_⟩⟩,?_,Heap.nil _ _⟩
  · rcases hc with ⟨_,h0⟩ | ⟨b,off,arr,tt,fz,ha,hS,hbb,hfit,hcl⟩
    · omega
    · refine ⟨b,off+i.toNat * inf.size,?_,?_⟩
      · simp only
        rw [if_neg (by omega),ha]
        simp [addr_add]
      · simp [pat,ha,hs']
  · have c4:(Instr.slice t hd.val (some (evo ρ lo)) (some (evo ρ hi)) (some (evo ρ mx))).run P w = .ok (⟨if m.toNat=i.toNat then hd.a else hd.a.map (·.add (i.toNat * inf.size)),j.toNat - i.toNat,m.toNat - i.toNat⟩:Hd).val w:=by
      simp [Instr.slice,run_underlying ht,c3,sizeOf,typeInfo,hinf,Result.andThen]
    simp [execOp,ho,hx,Instr.sliceAt,run_underlying ht,c4,Result.andThen]
theorem sSliceP_ok (hΘ:Θ.ok P) {t:TypeId} {x lo hi mx:Operand} {l:Lf} (ho:o.op = .slice t x (some lo) (some hi) (some mx)) (h1:ev E x=some (.lf l)) (k:Out→Option R):Snd ex P o E F n (sSliceP Θ E ex n t l lo hi mx F k) k:=by
  unfold sSliceP
  split
  · rename_i e _ _ _ _ _ i _ j _ m ht hi' hj hm
    split
    · rename_i ie h he
      split
      · rename_i ci K xs hs
        refine Snd.bif fun hc=>Snd.gchk fun hb=>Snd.of fun hx η ρ hE=>?_
        simp only [Bool.and_eq_true] at hc
        have hx2:=ev_ok hE h1
        simp only [AV.val,Lf.val] at hx2
        refine (ok_sliceP (o:=o) (ρ:=ρ) (L:=F.map (AF.ha η)) (K:=ci::K) (i:=i) (j:=j) (m:=m) ho (hΘ t _ ht).2.1 (hΘ e ie he).1 hx2 (ev_ok hE hi') (ev_ok hE hj) (ev_ok hE hm) (fun w c hF=>own_rep (ownI_own hs hF)) (hb hx)).weaken' (fun y=>⟨η.setH n y.1,η.setH_agr n y.1⟩) (fun y=>?_) fun y w c _=>?_
        · simp [AV.val,Lf.val,Vn.setH_at]
        · refine Heap.cons ?_ (Heap.nil _ _)
          simp only [AF.ha,Vn.setH_at,HA.holds]
          rw [(η.setH_agr n y.1 h hc.2).1]
          exact y.2
      · exact Snd.none
    · exact Snd.none
  · exact Snd.none
def padA {α:Type} (m:Nat) (d:α) (xs:List α):List α:=(List.range m).map fun q=>xs.getD q d
theorem cellsOf_sc (s:SC) : ∀ {xs:List s.den} {ys:List Unit},xs.length=ys.length→cellsOf (TC.sc s).ty xs ys=xs.map s.val
  | [],_,_=>by simp [cellsOf]
  | x::xs,y::ys,h=>by
    have:=cellsOf_sc s (xs:=xs) (ys:=ys) (by simpa using h)
    simp only [cellsOf,List.map_cons,this]
    rfl
  | _::_,[],h=>by simp at h
theorem ok_sliceA {ρ:Env} {L:List HA} {t e:TypeId} {x:Operand} {lo hi:Option Operand} {i j:Int} {m b ci:Nat} {s:SC} {xs:List s.den} {by_:Nat} {z:Value} (ho:o.op = .slice t x lo hi none) (ht:P.underlying t=some (.array m e)) (hti:TI P e 1 by_ z)
    (hx:evo ρ x = .pointer (some ⟨b,0,none⟩)) (hlo:(lo=none∧i=0)∨∃ x kk,lo=some x∧evo ρ x = .int kk i) (hhi:(hi=none∧j=m)∨∃ x kk,hi=some x∧evo ρ x = .int kk j)
    (hL : ∀ w c,Heap w c L→HA.holds w c (.box ci b ((TC.arr m s).ty.fill xs ()))) (hb:decide (0≤i∧i≤j∧j≤m)=true) (hm:Nat.ble m 16777216=true) :
    OpOk P ρ o L [] (fun _:Unit=>(⟨some (if m=i.toNat then ⟨b,0,none⟩ else ⟨b,i.toNat,none⟩),j.toNat - i.toNat,m - i.toNat⟩:Hd).val)
      (fun _=>[.rep (TC.sc s).ty [ci] (((padA m s.dft xs).take j.toNat).drop i.toNat) ⟨some (if m=i.toNat then ⟨b,0,none⟩ else ⟨b,i.toNat,none⟩),j.toNat - i.toNat,m - i.toNat⟩]):=ok_val fun ev w c hev hF=>by
  have hb' := of_decide_eq_true hb
  obtain ⟨b0,b1,b2⟩:=hb'
  have hm:=Nat.le_of_ble_eq_true hm
  obtain ⟨inf,hinf,_,hs',_⟩:=hti.get
  obtain ⟨⟨ty,hbb⟩,hc⟩:=hL w c hF
  have hlen:(((padA m s.dft xs).take j.toNat).drop i.toNat).length=j.toNat - i.toNat:=by simp [padA]; omega
  refine ⟨(),?_,Heap.cons ⟨List.replicate (j.toNat - i.toNat) (),?_,?_⟩ (Heap.nil _ _)⟩
  · subst hev
    have c3:=bounds_ok (P:=P) (w:=w) (isS:=false) (len:=m) (cap:=m) hlo hhi ⟨b0,b1,b2⟩
    have key:(Instr.sliceAt t (.pointer (some ⟨b,0,none⟩)) (lo.map (evo ρ)) (hi.map (evo ρ)) none).run P w = .ok (.slice (some (if m=i.toNat then ⟨b,0,none⟩ else ⟨b,i.toNat,none⟩)) (j.toNat - i.toNat) (m - i.toNat)) w:=by
      simp [Instr.sliceAt,Instr.sureAddr,run_underlying ht,c3,sizeOf,typeInfo,hinf,hs',Result.andThen,addr_add]
    simp only [execOp,ho,hx,Option.map_none,key,Sem.run_bind,Result.andThen_ok,Sem.run_pure]
  · have gen : ∀ (l:List s.den) (q:Nat),l.length=q→RepAll (RepR w (fun b=>c b∈[ci]) (TC.sc s).ty) l (List.replicate q ()):=by
      intro l
      induction l with
      | nil=>intro q hq; simp at hq; subst hq; trivial
      | cons a l ih=>
        intro q hq
        cases q with
        | zero=>simp at hq
        | succ q=>exact ⟨trivial,ih q (by simpa using hq)⟩
    exact gen _ _ hlen
  · refine ⟨by rw [hlen],by simp; omega,by simp [maxLen]; omega,?_⟩
    by_cases hmi:m=i.toNat
    · exact .inl ⟨trivial,by simp; omega⟩
    · refine .inr ⟨b,i.toNat,_,ty,_,by simp [hmi],by simp [hc],hbb,?_,?_⟩
      · simp [Ty.fill,TC.ty,Ty.sz]; omega
      · rw [cellsOf_sc s (by rw [hlen]; simp),hlen]
        simp only [TC.ty,Ty.sz,Nat.mul_one,Ty.fill,padA]
        rw [← List.map_take,List.take_drop]
        simp only [List.map_drop,List.map_take,List.map_map]
        rw [show i.toNat+(j.toNat - i.toNat)=j.toNat by omega]
        rfl
def sSliceA (Θ:Tb) (E:SE) (ex:Option Bool) (n:Nat) (t:TypeId) (b:Nat) (lo hi:Option Operand) (F:List AF) (k:Out→Option R):Option R:=match Θ t,boxI b F with
  | some ⟨.arr m e,_,_,_,_⟩,some (ci,[.ar m' s xs])=>match Θ e,bndI E lo 0,bndI E hi m with
    | some ie,some i,some j=>bif Nat.beq m' m&&Nat.beq ie.sz 1&&Nat.ble m 16777216 then gchk ex (decide (0≤i∧i≤j∧j≤m)) (k ⟨.lf (.sl n),[.rep (.sc s) [ci] (((padA m' s.dft xs).take j.toNat).drop i.toNat) n],[]⟩) else none
    | _,_,_=>none
  | _,_=>none
theorem sSliceA_ok (hΘ:Θ.ok P) {t:TypeId} {x:Operand} {b:Nat} {lo hi:Option Operand} (ho:o.op = .slice t x lo hi none) (h1:ev E x=some (.lf (.bp b 0))) (k:Out→Option R):Snd ex P o E F n (sSliceA Θ E ex n t b lo hi F k) k:=by
  unfold sSliceA
  split
  · rename_i m e _ _ _ _ ci m' s xs ht hbx
    split
    · rename_i ie i j he hi' hj'
      refine Snd.bif fun hc=>Snd.gchk fun hb=>Snd.of fun hx η ρ hE=>?_
      simp only [Bool.and_eq_true] at hc
      obtain ⟨⟨hm,hsz⟩,hmx⟩:=hc
      obtain rfl:=Nat.eq_of_beq_eq_true hm
      have hti:=(hΘ e ie he).1
      rw [Nat.eq_of_beq_eq_true hsz] at hti
      refine (ok_sliceA (ci:=ci) (s:=s) (xs:=xs) ho (hΘ t _ ht).2.1 hti (ev_ok hE h1) (bndI_ok hi' hE) (bndI_ok hj' hE) (fun w c hF=>?_) (hb hx) hmx).map (fun _=>⟨η.setH n ⟨some (if m' = i.toNat then ⟨η.b b,0,none⟩ else ⟨η.b b,i.toNat,none⟩),j.toNat - i.toNat,m' - i.toNat⟩,η.setH_agr n _⟩) (fun _=>?_) fun _=>?_
      · have:=boxI_holds hbx hF
        simpa [cellsL,Lf.cells] using this
      · simp [AV.val,Lf.val,Vn.setH_at]
      · simp [AF.ha,Vn.setH_at]
    · exact Snd.none
  · exact Snd.none
def EqOk (P:Program) (t:TypeId):Prop:=P.eqGuardType P.depth t=false∧P.stoodInHeld t=false∧(P.fieldsOf t).toList.all (fun f=>!(f.name == "_"))=true
def eqLv (Θ:Tb):List (TypeId×Nat)→List Lf→List Lf→Nat→Option Bool
  | [],[],[],_=>some true
  | (ft,off)::fs, .c s a::r, .c s' b::r',pos=>match Θ ft with
    | some i=>match i.d,s,s',a,b with
      | .int _, .int k, .int k',a,b=>if k' = k∧off=pos then (eqLv Θ fs r r' (pos+1)).map fun e=>(show Int from a)==(show Int from b)&&e else none
      | .bool, .bool, .bool,a,b=>if off=pos then (eqLv Θ fs r r' (pos+1)).map fun e=>(show Bool from a)==(show Bool from b)&&e else none
      | .str, .str, .str,a,b=>if off=pos then (eqLv Θ fs r r' (pos+1)).map fun e=>(show List UInt8 from a)==(show List UInt8 from b)&&e else none
      | _,_,_,_,_=>none
    | none=>none
  | _,_,_,_=>none
theorem eqLv_ok (hΘ:Θ.ok P) {w:World} {η:Vn} {xs ys:Array Value} {d:Nat} : ∀ {fl:List Field} {fs:List (TypeId×Nat)} {r r' : List Lf} {pos:Nat} {e:Bool},fl.map (fun f=>(f.type,f.offset))=fs→fl.all (fun f=>!(f.name == "_"))=true→eqLv Θ fs r r' pos=some e →
    (∀ j,xs[pos+j]? = (cellsL η r)[j]?)→(∀ j,ys[pos+j]? = (cellsL η r')[j]?)→(Op.eqFields (d+1) xs ys fl).run P w = .ok e w
  | [],_,r,r',pos,e,hm,_,h,_,_=>by
    simp only [List.map_nil] at hm
    subst hm
    cases r <;> cases r' <;> simp [eqLv] at h
    subst h
    simp [Op.eqFields,Sem.run_pure]
  | f::fl,fs,r,r',pos,e,hm,hn,h,hx,hy=>by
    simp only [List.map_cons] at hm
    subst hm
    simp only [List.all_cons,Bool.and_eq_true,Bool.not_eq_true',beq_eq_false_iff_ne,ne_eq] at hn
    cases r with
    | nil=>simp [eqLv] at h
    | cons l r=>
      cases r' with
      | nil=>cases l <;> simp [eqLv] at h
      | cons l' r' =>
        cases l <;> cases l' <;> simp only [eqLv] at h <;> try cases h
        rename_i s a s' b
        split at h
        · rename_i i hi
          have hfit:=(hΘ f.type i hi).2.1
          have hx0:=hx 0
          have hy0:=hy 0
          have hxr : ∀ j,xs[pos+1+j]? = (cellsL η r)[j]? := fun j=>by
            have:=hx (j+1)
            rw [show pos+(j+1)=pos+1+j by omega] at this
            simpa [cellsL,Lf.cells] using this
          have hyr : ∀ j,ys[pos+1+j]? = (cellsL η r')[j]? := fun j=>by
            have:=hy (j+1)
            rw [show pos+(j+1)=pos+1+j by omega] at this
            simpa [cellsL,Lf.cells] using this
          simp only [Nat.add_zero,cellsL,Lf.cells,List.cons_append,List.getElem?_cons_zero] at hx0 hy0
          cases hd:i.d <;> rw [hd] at h hfit <;> cases s <;> cases s' <;> simp only at h <;> try cases h
          · rename_i k k'
            split at h
            · rename_i hc
              obtain ⟨rfl,hoff⟩:=hc
              simp only [Option.map_eq_some_iff] at h
              obtain ⟨e',he,rfl⟩:=h
              have ih:=eqLv_ok hΘ (d:=d) rfl hn.2 he hxr hyr (w:=w)
              have hfit:P.underlying f.type=some (.int _):=hfit
              have p1:(part f.type xs f.offset).run P w = .ok (.int k' a) w:=by simp [part,notAgg hfit rfl,hoff,hx0,Result.andThen]
              have p2:(part f.type ys f.offset).run P w = .ok (.int k' b) w:=by simp [part,notAgg hfit rfl,hoff,hy0,Result.andThen]
              have p3:=run_equalIn_int (P:=P) w d f.type k' _ a b hfit
              simp only [Op.eqFields,hn.1,ne_eq,not_false_eq_true,if_true,Sem.run_bind,p1,p2,p3,Result.andThen_ok]
              cases hab:((show Int from a)==(show Int from b))
              · simp [Sem.run_pure]
              · simpa using ih
            · cases h
          · skip
            split at h
            · rename_i hoff
              simp only [Option.map_eq_some_iff] at h
              obtain ⟨e',he,rfl⟩:=h
              have ih:=eqLv_ok hΘ (d:=d) rfl hn.2 he hxr hyr (w:=w)
              have hfit:P.underlying f.type=some .bool:=hfit
              have p1:(part f.type xs f.offset).run P w = .ok (.bool a) w:=by simp [part,notAgg hfit rfl,hoff,hx0,Result.andThen]
              have p2:(part f.type ys f.offset).run P w = .ok (.bool b) w:=by simp [part,notAgg hfit rfl,hoff,hy0,Result.andThen]
              have p3:=run_equalIn_bool' (P:=P) w d f.type a b hfit
              simp only [Op.eqFields,hn.1,ne_eq,not_false_eq_true,if_true,Sem.run_bind,p1,p2,p3,Result.andThen_ok]
              cases hab:((show Bool from a)==(show Bool from b))
              · simp [Sem.run_pure]
              · simpa using ih
            · cases h
          · skip
            split at h
            · rename_i hoff
              simp only [Option.map_eq_some_iff] at h
              obtain ⟨e',he,rfl⟩:=h
              have ih:=eqLv_ok hΘ (d:=d) rfl hn.2 he hxr hyr (w:=w)
              have hfit:P.underlying f.type=some .string:=hfit
              have p1:(part f.type xs f.offset).run P w = .ok (.string ⟨(show List UInt8 from a).toArray⟩) w:=by simp [part,notAgg hfit rfl,hoff,hx0,Result.andThen]
              have p2:(part f.type ys f.offset).run P w = .ok (.string ⟨(show List UInt8 from b).toArray⟩) w:=by simp [part,notAgg hfit rfl,hoff,hy0,Result.andThen]
              have p3:=run_equalIn_string (P:=P) w d f.type ⟨(show List UInt8 from a).toArray⟩ ⟨(show List UInt8 from b).toArray⟩ hfit
              simp only [Op.eqFields,hn.1,ne_eq,not_false_eq_true,if_true,Sem.run_bind,p1,p2,p3,Result.andThen_ok]
              have hl:((⟨(show List UInt8 from a).toArray⟩:ByteArray).toList==(⟨(show List UInt8 from b).toArray⟩:ByteArray).toList)=((show List UInt8 from a)==(show List UInt8 from b)):=by
                have e : ∀ (z:List UInt8),(⟨z.toArray⟩:ByteArray).toList=z:=fun z=>by rw [ByteArray.toList_eq]
                rw [e,e]
              rw [hl]
              cases hab:((show List UInt8 from a)==(show List UInt8 from b))
              · simp [Sem.run_pure]
              · simpa using ih
            · cases h
        · cases h
def binSt (Θ:Tb) (Gq:TypeId→Bool) (op:BinOp) (t:TypeId) (a b:List Lf) (k:Out→Option R):Option R:=match Θ t with
  | some ⟨.st fs,_,_,_,_⟩=>bif Gq t then match eqLv Θ fs a b 0,op with
    | some e, .eql=>k (pureO (boolL e))
    | some e, .neq=>k (pureO (boolL (!e)))
    | _,_=>none
    else none
  | _=>none
theorem binSt_ok (hΘ:Θ.ok P) {Gq:TypeId→Bool} (hG : ∀ t,Gq t=true→EqOk P t) {op:BinOp} {t t' : TypeId} {x y:Operand} {a b:List Lf} (ho:o.op = .binOp op t x y t') (h1:ev E x=some (.ag a)) (h2:ev E y=some (.ag b)) (k:Out→Option R) :
    Snd ex P o E F n (binSt Θ Gq op t a b k) k:=by
  unfold binSt
  split
  · rename_i fs _ _ _ _ ht
    refine Snd.bif fun hg=>?_
    obtain ⟨g1,g2,g3⟩:=hG t hg
    obtain ⟨Fd,hs,hm⟩:=(hΘ t _ ht).2.1
    have hf:P.fieldsOf t=Fd:=by simp [Program.fieldsOf,hs]
    have key : ∀ {e:Bool} {η:Vn} {w:World},eqLv Θ fs a b 0=some e→(Op.equalIn 10000 t (.agg (cellsL η a).toArray) (.agg (cellsL η b).toArray)).run P w = .ok e w:=by
      intro e η w he
      rw [run_equalIn_struct (P:=P) w 9999 t _ _ (by rw [hf]; exact hs) g2,hf]
      rw [hf] at g3
      exact eqLv_ok hΘ (η:=η) (d:=9998) hm g3 he (fun j=>by simp) (fun j=>by simp)
    split
    · rename_i e he
      refine Snd.of fun _=>(OpS.pure fun η ρ hE ev w c hev _=>?_)
      have e1:=ev_ok hE h1
      have e2:=ev_ok hE h2
      subst hev
      simp only [AV.val] at e1 e2
      have hgd:(eqGuard .eql t x y (.agg (cellsL η a).toArray) (.agg (cellsL η b).toArray)).run P w = .ok () w:=run_eqGuard_agg w .eql t x y _ _ g1
      have hb:(binOp .eql t (.agg (cellsL η a).toArray) (.agg (cellsL η b).toArray)).run P w = .ok (.bool e) w:=by
        rw [run_eql_struct,key he]; rfl
      simp only [execOp,ho,e1,e2,Sem.run_bind,hgd,hb,Result.andThen_ok,Sem.run_pure,AV.val,Lf.val]
    · rename_i e he
      refine Snd.of fun _=>(OpS.pure fun η ρ hE ev w c hev _=>?_)
      have e1:=ev_ok hE h1
      have e2:=ev_ok hE h2
      subst hev
      simp only [AV.val] at e1 e2
      have hgd:(eqGuard .neq t x y (.agg (cellsL η a).toArray) (.agg (cellsL η b).toArray)).run P w = .ok () w:=run_eqGuard_agg w .neq t x y _ _ g1
      have hb:(binOp .neq t (.agg (cellsL η a).toArray) (.agg (cellsL η b).toArray)).run P w = .ok (.bool (!e)) w:=by
        rw [run_neq_struct,key he]; rfl
      simp only [execOp,ho,e1,e2,Sem.run_bind,hgd,hb,Result.andThen_ok,Sem.run_pure,AV.val,Lf.val]
    · exact Snd.none
  · exact Snd.none
end
end
end Go.Sm
