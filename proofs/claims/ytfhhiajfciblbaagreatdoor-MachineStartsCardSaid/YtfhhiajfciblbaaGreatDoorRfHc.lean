/-
  The symbolic evaluator: variables of the program, function values, nil checks. Nothing of a program is named here; no condition.
-/
import Derived.Laws.IdiomStrings
import Derived.Test.YtfhhiajfciblbaaGreatDoorRfH
import Derived.Laws.StructEq
namespace Go.Sm
set_option linter.unusedSectionVars false
section
variable [X:XTab] [G:GTab]
section
variable {R:Type} {P:Program} {o:Oper} {E:SE} {F:List AF} {n:Nat} {Θ:Tb} {ex:Option Bool}
def UL (v:AV) (k:Out→Option R):Option R:=match v with
  | .lf (.bp b off)=>k (bc (.lf (.bp b off)))
  | .lf (.rp h t i u p)=>k (bc (.lf (.rp h t i u p)))
  | .lf (.gp g t i u p)=>k (bc (.lf (.gp g t i u p)))
  | .lf (.fn f)=>k (bc (.lf (.fn f)))
  | .lf (.clo f b)=>k (bc (.lf (.clo f b)))
  | .lf (.c .fnc f)=>k (bc (.lf (.c .fnc f)))
  | _=>none
theorem Zq {x:Operand} {v:AV} (ho:o.op = .nilCheck x) (hv:ev E x=some v) (k:Out→Option R):aj ex P o E F n (UL v k) k:=by
  unfold UL
  split
  all_goals first
    | exact aj.none
    | (refine aj.of fun _=>(cS.pure fun η ρ hE ev w c he _=>?_)
       have h:=aF hE hv
       subst he
       simp only [AV.val,Lf.val] at h ⊢
       simp only [execOp,ho,h]; rfl)
def NN (E:SE) (fn:Fn) (first cap:List Operand) (k:Out→Option R):Option R:=match fn,first,cap with
  | .func f,[],[]=>k (bc (.lf (.fn f)))
  | .func f,[],[x]=>match ev E x with
    | some (.lf (.bp b 0))=>k (bc (.lf (.clo f b)))
    | _=>none
  | _,_,_=>none
theorem T3 {fn:Fn} {first cap:Array Operand} (ho:o.op = .makeFunc fn first cap) (k:Out→Option R):aj ex P o E F n (NN E fn first.toList cap.toList k) k:=by
  unfold NN
  split
  · rename_i f h1 h2
    refine aj.of fun _=>(cS.pure fun η ρ hE ev w c he _=>?_)
    have e1:first = #[]:=by simpa using h1
    have e2:cap = #[]:=by simpa using h2
    subst he e1 e2
    simp [execOp,ho,Instr.makeFunc,AV.val,Lf.val,Result.andThen]
  · rename_i f x h1 h2
    split
    · rename_i b hv
      refine aj.of fun _=>(cS.pure fun η ρ hE ev w c he _=>?_)
      have e1:first = #[]:=by simpa using h1
      have e2:cap = #[x]:=by apply Array.ext'; simpa using h2
      have h:=aF hE hv
      subst he e1 e2
      simp [execOp,ho,h,Instr.makeFunc,AV.val,Lf.val,Result.andThen]
    · exact aj.none
  · exact aj.none
def B9 (g:Nat) (t:TC):List GEnt→Option (List t.den)
  | []=>none
  | e::r=>bif Nat.beq g e.g then (if h:e.t=t then (bif e.t.ty.pureB then some (zf h e.xs) else none) else none) else B9 g t r
theorem AX {g:Nat} {t:TC} : ∀ {l:List GEnt} {xs:List t.den},B9 g t l=some xs→(⟨g,t,xs⟩:GEnt)∈l∧t.ty.pureB=true
  | [],_,h=>by simp [B9] at h
  | e::r,xs,h=>by
    simp only [B9] at h
    cases hb:Nat.beq g e.g
    · rw [hb] at h; exact ⟨List.mem_cons_of_mem _ (AX h).1,(AX h).2⟩
    · rw [hb] at h
      simp only [cond_true] at h
      split at h
      · rename_i he
        cases hp:e.t.ty.pureB
        · rw [hp] at h; cases h
        rw [hp] at h
        obtain ⟨eg,et,exs⟩:=e
        simp only at he hb
        subst he
        simp only [cond_true,Option.some.injEq] at h
        subst h
        rw [Nat.eq_of_beq_eq_true hb]
        exact ⟨List.mem_cons_self,hp⟩
      · cases h
abbrev I6 (g n:Nat):Hd:=⟨some ⟨g,0,none⟩,n,n⟩
theorem xw {w:World} {S:Nat→Prop} {t:TC} (hp:t.ty.pureB=true) : ∀ xs:List t.den,bK (bA w S t.ty) xs (List.replicate xs.length t.ref0)
  | []=>trivial
  | x::xs=>by
    rw [List.length_cons,List.replicate_succ]
    exact ⟨bA.pure t.ty x t.ref0 hp,xw hp xs⟩
theorem QG {g:Nat} {t:TC} {xs:List t.den} (h:B9 g t G.gl=some xs) {w:World} {c:bd} {L:List HA} (hH:ai w c (L++lJ)):HA.holds w c (.rep t.ty [0,1] xs (I6 g xs.length)):=by
  obtain ⟨hm,hp⟩:=AX h
  obtain ⟨⟨ty,fz,hb⟩,hc,hn⟩:=hH _ (List.mem_append_right _ (List.mem_map.2 ⟨_,hm,rfl⟩))
  have hl:(cellsOf t.ty xs (List.replicate xs.length t.ref0)).length=xs.length * t.ty.sz:=bU t.ty (by simp)
  refine ⟨List.replicate xs.length t.ref0,xw hp xs,rfl,Nat.le_refl _,hn, .inr ⟨g,0,_,ty,fz,rfl,?_,hb,?_,?_⟩⟩
  · show c g∈([0,1]:List Nat)
    have hc:c g≤1:=hc
    rcases (show c g=0∨c g=1 by omega) with e | e <;> rw [e] <;> simp
  · show 0+xs.length * t.ty.sz≤_
    simp [hl]
  · show ((cellsOf t.ty xs (List.replicate xs.length t.ref0)).drop 0).take (xs.length * t.ty.sz)=_
    rw [List.drop_zero,List.take_of_length_le (by omega)]
def Md (Θ:Tb) (ex:Option Bool) (t:TypeId) (g:Nat) (i:Int) (k:Out→Option R):Option R:=match Θ t with
  | some ⟨.arr m e,_,_,_,_⟩=>match Θ e with
    | some ie=>bif Nat.beq ie.sz ie.tc.ty.sz then gchk ex (decide (0≤i∧i<m)) (k (bc (.lf (.gp g ie.tc i ie.tc .here)))) else none
    | none=>none
  | _=>none
theorem aak {ρ:cF} {L:List HA} {t e:TypeId} {x ix:Operand} {ki:IntKind} {i:Int} {m:Nat} {b o' : Nat} {sz by_:Nat} {z:Value} (ho:o.op = .indexAddr t x ix) (ht:P.underlying t=some (.array m e)) (hi:TI P e sz by_ z)
    (hx:aK ρ x = .pointer (some ⟨b,o',none⟩)) (hix:aK ρ ix = .int ki i) (h0:decide (0≤i∧i<m)=true):aY P ρ o L (.pointer (some ⟨b,o' + i.toNat * sz,none⟩)):=fun ev w c he hL=>by
  subst he
  have htihi:=hi; clear hi
  obtain ⟨inf,hi,_,hs,_⟩:=htihi.get
  have hi0:0≤i∧i<m:=of_decide_eq_true h0
  simp [execOp,ho,hx,hix,Instr.indexAt,Instr.sureAddr,asIntOf,run_underlying ht,sizeOf,typeInfo,hi,hs,hi0,d6,Result.andThen]
theorem S7 (hΘ:Θ.ok P) {t:TypeId} {g:Nat} {ix:Operand} {ki:IntKind} {i:Int} (ho:o.op = .indexAddr t (.global g) ix) (h2:ev E ix=some (eZ ki i)) (k:Out→Option R) :
    aj ex P o E F n (Md Θ ex t g i k) k:=by
  unfold Md
  split
  · rename_i m e _ _ _ _ ht
    split
    · rename_i ie he
      refine aj.bif fun hsz=>aj.gchk fun hb=>aj.of fun hx=>(cS.pure fun η ρ hE=>?_)
      have:=aak (o:=o) (ρ:=ρ) (L:=F.map (AF.ha η)) ho (hΘ t _ ht).2.1 (hΘ e ie he).1 (rfl:aK ρ (.global g) = .pointer (some ⟨g,0,none⟩)) (aF hE h2) (hb hx)
      simp only [AV.val,Lf.val,Pa.off,Nat.add_zero]
      rw [Nat.zero_add,Nat.eq_of_beq_eq_true hsz] at this
      exact this
    · exact aj.none
  · exact aj.none
def Hw (Θ:Tb) (ex:Option Bool) (n:Nat) (t:TypeId) (g:Nat) (te:TC) (i:Int) (u:TC) (p:Pa te u) (k:Out→Option R):Option R:=match Θ t,B9 g te G.gl with
  | some inf,some xs=>bif Nat.beq inf.sz u.ty.sz&&Nat.ble u.nh 64&&(inf.d.agg==u.aggT) && !u.isMp then nchk ex p.needs (gbind ex te.dft (ac xs i) fun x=>k ⟨nP u (p.get x) n,qu u (p.get x) [0,1] n,[]⟩) else none
  | _,_=>none
theorem aaQ {η:Vn} {te:TC} {g:Nat} {xs:List te.den} (hs:B9 g te G.gl=some xs) {i:Int} {v:te.den} (hv:ac xs i=some v):El (F.map (AF.ha η)++lJ) te.ty [0,1] v (I6 g xs.length) (i.toNat * te.ty.sz):=fun w c hH=>
  G9 (L:=.rep te.ty [0,1] xs (I6 g xs.length)::(F.map (AF.ha η)++lJ)) 0 rfl rfl hv w c (ai.cons (QG hs hH) hH)
theorem aaR (g n x:Nat):dP (I6 g n) x=⟨g,x,none⟩:=by simp [dP,I6]
theorem OW (hΘ:Θ.ok P) {t:TypeId} {x:Operand} {g:Nat} {te:TC} {i:Int} {u:TC} {p:Pa te u} (ho:o.op = .load t x) (h1:ev E x=some (.lf (.gp g te i u p))) (k:Out→Option R) :
    aj ex P o E F n (Hw Θ ex n t g te i u p k) k:=by
  unfold Hw
  split
  · rename_i inf xs hi hs
    refine aj.bif fun hc=>aj.nchk fun hf=>aj.gbind fun v hv=>aj.ofG fun hx η ρ hE=>?_
    simp only [Bool.and_eq_true,beq_iff_eq,Bool.not_eq_true'] at hc
    obtain ⟨⟨⟨hsz,hnh⟩,hag⟩,hmp⟩:=hc
    have hsz:=Nat.eq_of_beq_eq_true hsz
    have hnh:=Nat.le_of_ble_eq_true hnh
    obtain ⟨g1,g2,_,_⟩:=hΘ t inf hi
    obtain ⟨td,ht,hd⟩:=kY g2
    rw [hag] at hd
    have hE' := xg p (aaQ (F:=F) (η:=η) hs (hv hx)) (hf hx)
    have hp:aK ρ x = .pointer (some (dP (I6 g xs.length) (i.toNat * te.ty.sz+p.off))):=by rw [aaR]; exact aF hE h1
    cases u with
    | sc sk=>exact (aY.op (sE hE' ho ht hd hp)).map (fun _=>⟨η,Vn.agr_refl n η⟩) (fun _=>rfl) (fun _=>rfl)
    | ext m=>exact (aY.op (sE hE' ho ht hd hp)).map (fun _=>⟨η,Vn.agr_refl n η⟩) (fun _=>rfl) (fun _=>rfl)
    | slice t' =>
      refine (vg hE' ho ht hd hp).map (fun hh=>⟨η.setH n hh,η.setH_agr n hh⟩) (fun hh=>?_) fun hh=>?_
      · simp [nP,AV.val,Lf.val,Vn.setH_at]
      · simp [qu,AF.ha,Vn.setH_at]
    | arr m sk=>
      refine (dV hE' ho ht hd g1 hsz hp).map (fun y=>⟨η.set n (cg _ y),Vn.set_agr (by rw [cE]; exact hnh)⟩) (fun y=>?_) fun y=>?_
      · exact (kG (u:=.arr m sk) rfl cT.set).symm
      · exact (kg (.arr m sk) _ y n cT.set).symm
    | unit=>
      refine (dV hE' ho ht hd g1 hsz hp).map (fun y=>⟨η.set n (cg _ y),Vn.set_agr (by rw [cE]; exact hnh)⟩) (fun y=>?_) fun y=>?_
      · exact (kG (u:=.unit) rfl cT.set).symm
      · exact (kg .unit _ y n cT.set).symm
    | st a=>
      refine (dV hE' ho ht hd g1 hsz hp).map (fun y=>⟨η.set n (cg a y),Vn.set_agr (by rw [cE]; exact hnh)⟩) (fun y=>?_) fun y=>?_
      · exact (kG (u:=.st a) rfl (cT.set (l:=cg a y))).symm
      · exact (kg a _ y n cT.set).symm
    | pair a b=>
      refine (dV hE' ho ht hd g1 hsz hp).map (fun y=>⟨η.set n (cg _ y),Vn.set_agr (by rw [cE]; exact hnh)⟩) (fun y=>?_) fun y=>?_
      · exact (kG (u:=.pair a b) rfl cT.set).symm
      · exact (kg (.pair a b) _ y n cT.set).symm
    | node=>
      refine (dV hE' ho ht hd g1 hsz hp).map (fun y=>⟨η.set n (cg .node y),Vn.set_agr (by rw [cE]; exact hnh)⟩) (fun y=>?_) fun y=>?_
      · exact (kG (u:=.node) rfl (cT.set (l:=cg .node y))).symm
      · exact (kg .node _ y n cT.set).symm
    | mp _ _=>cases hmp
  · exact aj.none
theorem lY:(t:Ty)→t.pureB=true→(x:t.den)→(y y' : t.Refs)→t.fill x y=t.fill x y'
  | .one _ _ _,_,_,_,_=>rfl
  | .arr _ _ _ _ _,_,_,_,_=>rfl
  | .unit,_,_,_,_=>rfl
  | .pair a b,h,x,y,y' => by
    simp only [Ty.pureB,Bool.and_eq_true] at h
    simp only [Ty.fill]
    rw [lY a h.1 x.1 y.1 y'.1,lY b h.2 x.2 y.2 y'.2]
  | .slice _,h,_,_,_=>by cases h
  | .node,h,_,_,_=>by cases h
  | .mp _ _,h,_,_,_=>by cases h
theorem wm (t:Ty) (h:t.pureB=true) : ∀ {xs:List t.den} {ys ys' : List t.Refs},xs.length=ys.length→xs.length=ys'.length→cellsOf t xs ys=cellsOf t xs ys'
  | [],_,_,_,_=>by simp [cellsOf]
  | x::xs,y::ys,y' :: ys',h1,h2=>by
    simp only [cellsOf]
    rw [lY t h x y y',wm t h (by simpa using h1) (by simpa using h2)]
  | _::_,[],_,h1,_=>by simp at h1
  | _::_,_::_,[],_,h2=>by simp at h2
def FU (Θ:Tb) (t:TypeId) (g:Nat) (k:Out→Option R):Option R:=match Θ t with
  | some ⟨.arr _ e,sz,_,_,_⟩=>match Θ e with
    | some ie=>match B9 g ie.tc G.gl with
      | some xs=>bif Nat.ble 1 xs.length&&ie.tc.ty.pureB&&Nat.beq sz (xs.length * ie.tc.ty.sz) then k (bc (.lf (.ars ie.tc xs))) else none
      | none=>none
    | none=>none
  | _=>none
theorem Pz (hΘ:Θ.ok P) {t:TypeId} {g:Nat} (ho:o.op = .load t (.global g)) (k:Out→Option R):aj ex P o E F n (FU Θ t g k) k:=by
  unfold FU
  split
  · rename_i m e sz by_ zl tc ht
    split
    · rename_i ie he
      split
      · rename_i xs hs
        refine aj.bif fun hc=>aj.ofG fun hx η ρ hE=>?_
        simp only [Bool.and_eq_true] at hc
        obtain ⟨⟨hm,hp⟩,hsz⟩:=hc
        have hsz:=Nat.eq_of_beq_eq_true hsz
        obtain ⟨g1,g2,_,_⟩:=hΘ t _ ht
        obtain ⟨inf,hi,_,hs',_⟩:=g1.get
        refine (aY.op (v:=(AV.lf (.ars ie.tc xs)).val η) fun ev w c hev hH=>?_).map (fun _=>⟨η,Vn.agr_refl n η⟩) (fun _=>rfl) (fun _=>rfl)
        subst hev
        obtain ⟨ys,hys,hn,_,_,hcs⟩:=QG hs hH
        have hfin : ∀ {b off:Nat} {arr:Array Value} {ty:TypeId} {fz:Nat×Nat},some (⟨g,0,none⟩:Addr)=some ⟨b,off,none⟩→w.heap[b]? = some (.cells arr ty fz)→(arr.toList.drop off).take (xs.length * ie.tc.ty.sz)=cellsOf ie.tc.ty xs ys →
            (execOp (aK ρ) o).run P w = .ok (.value ((AV.lf (.ars ie.tc xs)).val η)) w:=by
          intro b off arr ty fz ha hb hcl
          simp only [Option.some.injEq,Addr.mk.injEq,and_true] at ha
          obtain ⟨rfl,rfl⟩:=ha
          have hlen:(cellsOf ie.tc.ty xs ys).length=inf.size:=by
            rw [bU _ hys.length,hs',hsz]
          have hl:=rX (P:=P) (w:=w) (t:=t) g2 rfl hi hb (cs:=cellsOf ie.tc.ty xs ys) (by rw [hs',hsz]; exact hcl) hlen
          have e1:cellsOf ie.tc.ty xs ys=cellsOf ie.tc.ty xs (List.replicate xs.length ie.tc.ref0):=wm _ hp hys.length (by simp)
          simp only [execOp,ho,aK,hl,AV.val,Lf.val,← e1,Sem.run_bind,Result.andThen_ok,Sem.run_pure]
        rcases hcs with ⟨_,h0⟩ | ⟨b,off,arr,ty,fz,ha,_,hb,_,hcl⟩
        · have:=Nat.le_of_ble_eq_true hm
          simp only at h0
          omega
        · exact hfin ha hb hcl
      · exact aj.none
    · exact aj.none
  · exact aj.none
theorem tZ:(t:TC)→t.ty.pureB=true→t.nh=0
  | .sc _,_=>rfl
  | .arr _ _,_=>rfl
  | .unit,_=>rfl
  | .pair a b,h=>by
    simp only [TC.ty,Ty.pureB,Bool.and_eq_true] at h
    simp only [TC.nh,tZ a h.1,tZ b h.2]
  | .slice _,h=>by cases h
  | .st a,h=>tZ a h
  | .ext _,_=>rfl
def Av (Θ:Tb) (ex:Option Bool) (t:TypeId) (te:TC) (xs:List te.den) (i:Int) (k:Out→Option R):Option R:=match Θ t with
  | some ⟨.arr m e,_,_,_,_⟩=>match Θ e with
    | some ie=>bif Nat.beq xs.length m&&Nat.beq ie.sz te.ty.sz&&ie.d.agg&&te.ty.pureB&&te.aggT then gbind ex te.dft (ac xs i) fun x=>k (bc (nP te x 0)) else none
    | none=>none
  | _=>none
theorem KZ (hΘ:Θ.ok P) {t:TypeId} {x y:Operand} {ki:IntKind} {i:Int} {te:TC} {xs:List te.den} (ho:o.op = .index t x y) (h1:ev E x=some (.lf (.ars te xs))) (h2:ev E y=some (eZ ki i)) (k:Out→Option R) :
    aj ex P o E F n (Av Θ ex t te xs i k) k:=by
  unfold Av
  split
  · rename_i m e _ _ _ _ ht
    split
    · rename_i ie he
      refine aj.bif fun hc=>aj.gbind fun v hv=>aj.of fun hx=>(cS.pure fun η ρ hE ev w c hev _=>?_)
      simp only [Bool.and_eq_true] at hc
      obtain ⟨⟨⟨⟨hm,hsz⟩,hag⟩,hp⟩,hta⟩:=hc
      obtain rfl:=Nat.eq_of_beq_eq_true hm
      have hsz:=Nat.eq_of_beq_eq_true hsz
      obtain ⟨g1,g2,_,_⟩:=hΘ e ie he
      obtain ⟨td,htd,hd⟩:=kY g2
      rw [hag] at hd
      obtain ⟨inf,hi,_,hs',_⟩:=g1.get
      have e1:=aF hE h1
      have e2:=aF hE h2
      subst hev
      obtain ⟨h0,hg,hlt⟩:=lg (hv hx)
      have hcell:=px te.ty (ys:=List.replicate xs.length te.ref0) (i:=i.toNat) (x:=v) (y:=te.ref0) hg (by rw [List.getElem?_replicate,if_pos hlt])
      have hval:(nP te v 0).val η = .agg (te.ty.fill v te.ref0).toArray:=kG hta (fun j h hj=>by
        have:=(List.getElem?_eq_some_iff.1 hj).1
        rw [cE,tZ te hp] at this
        omega)
      rw [hval]
      simp only [AV.val,Lf.val] at e1 e2
      have hi0:0≤i∧i<(xs.length:Int):=⟨h0,by omega⟩
      simp [execOp,ho,e1,e2,Instr.index,asIntOf,run_underlying (hΘ t _ ht).2.1,hi0,sizeOf,typeInfo,hi,hs',hsz,part,uK htd hd,Result.andThen]
      exact hcell
    · exact aj.none
  · exact aj.none
def x6 (h:Nat):List AF→Option Bool
  | []=>none
  | .isn h' b::r=>bif Nat.beq h h' then some b else x6 h r
  | _::r=>x6 h r
theorem jV {h:Nat} : ∀ {F:List AF} {b:Bool},x6 h F=some b→.isn h b∈F
  | [],_,hh=>by simp [x6] at hh
  | .isn h' b' :: r,b,hh=>by
    simp only [x6] at hh
    cases hb:Nat.beq h h'
    · rw [hb] at hh; exact List.mem_cons_of_mem _ (jV hh)
    · rw [hb] at hh
      simp only [cond_true,Option.some.injEq] at hh
      subst hh
      rw [Nat.eq_of_beq_eq_true hb]
      exact List.mem_cons_self
  | .rep _ _ _ _::r,_,hh=>List.mem_cons_of_mem _ (jV (F:=r) hh)
  | .own _ _ _ _ _ _::r,_,hh=>List.mem_cons_of_mem _ (jV (F:=r) hh)
  | .box _ _ _::r,_,hh=>List.mem_cons_of_mem _ (jV (F:=r) hh)
  | .prt _ _ _ _ _::r,_,hh=>List.mem_cons_of_mem _ (jV (F:=r) hh)
  | .hol _ _ _ _ _ _ _::r,_,hh=>List.mem_cons_of_mem _ (jV (F:=r) hh)
  | .mp _ _ _ _ _::r,_,hh=>List.mem_cons_of_mem _ (jV (F:=r) hh)
  | .pt _ _ _ _ _ _ _::r,_,hh=>List.mem_cons_of_mem _ (jV (F:=r) hh)
def NY (Θ:Tb) (op:BinOp) (t:TypeId) (l:Lf) (F:List AF) (k:Out→Option R):Option R:=match Θ t,op,l with
  | some ⟨.slice _,_,_,_,_⟩, .eql, .sl h=>match x6 h F with
    | some b=>k (bc (dI b))
    | none=>none
  | some ⟨.slice _,_,_,_,_⟩, .neq, .sl h=>match x6 h F with
    | some b=>k (bc (dI (!b)))
    | none=>none
  | some ⟨.slice _,_,_,_,_⟩, .eql, .nl=>k (bc (dI true))
  | some ⟨.slice _,_,_,_,_⟩, .neq, .nl=>k (bc (dI false))
  | _,_,_=>none
theorem aY.of {ρ:cF} {L:List HA} {v v' : Value} (p:Prop) (h : ∀ w c,ai w c L→p) (hp:p→v=v') (hv:aY P ρ o L v):aY P ρ o L v' := fun ev w c he hL=>by
  rw [← hp (h w c hL)]; exact hv ev w c he hL
theorem U8 (hΘ:Θ.ok P) {op:BinOp} {t t' : TypeId} {x y:Operand} {l:Lf} (ho:o.op = .binOp op t x y t') (h1:ev E x=some (.lf l)) (h2:ev E y=some (.lf .nl)) (k:Out→Option R):aj ex P o E F n (NY Θ op t l F k) k:=by
  unfold NY
  split
  · rename_i ht
    split
    · rename_i b hb
      refine aj.of fun _=>(cS.pure fun η ρ hE=>?_)
      exact aY.of _ (fun w c hH=>hH _ (List.mem_map.2 ⟨_,jV hb,rfl⟩)) (fun hp=>by rw [← show (η.h _).isNil=b from hp]; rfl) (JT ho (hΘ t _ ht).2.1 (aF hE h1) (aF hE h2))
    · exact aj.none
  · rename_i ht
    split
    · rename_i b hb
      refine aj.of fun _=>(cS.pure fun η ρ hE=>?_)
      exact aY.of _ (fun w c hH=>hH _ (List.mem_map.2 ⟨_,jV hb,rfl⟩)) (fun hp=>by rw [← show (η.h _).isNil=b from hp]; rfl) (GA ho (hΘ t _ ht).2.1 (aF hE h1) (aF hE h2))
    · exact aj.none
  · rename_i ht
    exact aj.of fun _=>(cS.pure fun η ρ hE=>JT (h:=dU) ho (hΘ t _ ht).2.1 (aF hE h1) (aF hE h2))
  · rename_i ht
    exact aj.of fun _=>(cS.pure fun η ρ hE=>GA (h:=dU) ho (hΘ t _ ht).2.1 (aF hE h1) (aF hE h2))
  · exact aj.none
def AJ (E:SE) (q:Option Operand) (d:Int):Option Int:=match q with
  | none=>some d
  | some q=>match ev E q with
    | some (.lf (.c (.int _) i))=>some i
    | _=>none
theorem wQ {q:Option Operand} {d i:Int} (h:AJ E q d=some i) {η:Vn} {ρ:cF} (hE:kH η ρ E):(q=none∧i=d)∨∃ x kk,q=some x∧aK ρ x = .int kk i:=by
  unfold AJ at h
  split at h
  · simp only [Option.some.injEq] at h; exact .inl ⟨rfl,h.symm⟩
  · split at h
    · rename_i x _ kk j hv
      simp only [Option.some.injEq] at h
      subst h
      exact .inr ⟨x,kk,rfl,aF hE hv⟩
    · cases h
theorem BU {ρ:cF} {w:World} {isS:Bool} {len cap:Nat} {lo hi:Option Operand} {i j:Int} (hlo:(lo=none∧i=0)∨∃ x kk,lo=some x∧aK ρ x = .int kk i) (hhi:(hi=none∧j=len)∨∃ x kk,hi=some x∧aK ρ x = .int kk j)
    (hb:0≤i∧i≤j∧j≤cap):(Instr.sliceBounds isS len cap (lo.map (aK ρ)) (hi.map (aK ρ)) none).run P w = .ok (i.toNat,j.toNat,cap) w:=by
  obtain ⟨h0,h1,h2⟩:=hb
  have b1 : ∀ x kk code,aK ρ x = .int kk j→(Instr.sliceBound (aK ρ x) cap code).run P w = .ok j.toNat w:=fun x kk code hx=>by rw [hx]; exact kK (by omega) h2
  have b2 : ∀ x kk code,aK ρ x = .int kk i→(Instr.sliceBound (aK ρ x) j.toNat code).run P w = .ok i.toNat w:=fun x kk code hx=>by rw [hx]; exact kK h0 (by omega)
  rcases hhi with ⟨rfl,rfl⟩ | ⟨x,kk,rfl,hx⟩ <;> rcases hlo with ⟨rfl,rfl⟩ | ⟨y,kk',rfl,hy⟩
  · simp [Instr.sliceBounds]
  · have:=b2 y kk' .sliceB hy
    simp only [Int.toNat_natCast] at this
    simp [Instr.sliceBounds,this,Result.andThen]
  · cases isS <;> simp [Instr.sliceBounds,b1 x kk _ hx,Result.andThen]
  · cases isS <;> simp [Instr.sliceBounds,b1 x kk _ hx,b2 y kk' _ hy,Result.andThen]
def AB (Θ:Tb) (E:SE) (ex:Option Bool) (t:TypeId) (s:List UInt8) (lo hi:Option Operand) (k:Out→Option R):Option R:=match Θ t,AJ E lo 0,AJ E hi s.length with
  | some ⟨.str,_,_,_,_⟩,some i,some j=>gchk ex (decide (0≤i∧i≤j∧j≤s.length)) (k (bc (uP ((s.take j.toNat).drop i.toNat))))
  | _,_,_=>none
theorem M9 (hΘ:Θ.ok P) {t:TypeId} {x:Operand} {s:List UInt8} {lo hi:Option Operand} (ho:o.op = .slice t x lo hi none) (h1:ev E x=some (uP s)) (k:Out→Option R):aj ex P o E F n (AB Θ E ex t s lo hi k) k:=by
  unfold AB
  split
  · rename_i i j ht hbi hbj
    refine aj.gchk fun hb=>aj.of fun hx=>(cS.pure fun η ρ hE ev w c he _=>?_)
    have hb:=of_decide_eq_true (hb hx)
    have hx:=aF hE h1
    subst he
    have hbd:=BU (P:=P) (w:=w) (isS:=false) (len:=s.length) (cap:=s.length) (wQ hbi hE) (wQ hbj hE) hb
    have ht' : P.underlying t=some .string:=(hΘ t _ ht).2.1
    have hsz:(⟨s.toArray⟩:ByteArray).size=s.length:=by simp [ByteArray.size]
    have hext:(⟨s.toArray⟩:ByteArray).extract i.toNat j.toNat=⟨((s.take j.toNat).drop i.toNat).toArray⟩:=by
      apply ByteArray.ext
      apply Array.ext'
      simp [ByteArray.data_extract,List.drop_take]
    simp only [AV.val,Lf.val] at hx ⊢
    have h2:(Instr.slice t (.string ⟨s.toArray⟩) (lo.map (aK ρ)) (hi.map (aK ρ)) none).run P w = .ok (.string ⟨((s.take j.toNat).drop i.toNat).toArray⟩) w:=by
      simp [Instr.slice,run_underlying ht',hsz,hbd,hext,Result.andThen]
    simp [execOp,ho,hx,Instr.sliceAt,run_underlying ht',h2,Result.andThen]
  · exact aj.none
theorem zd : ∀ (ns:List Int) (a:Array UInt8),ns.foldl (fun (r:ByteArray) n=>r.push (UInt8.ofNat n.toNat)) ⟨a⟩=⟨a++(ns.map fun n=>UInt8.ofNat n.toNat).toArray⟩
  | [],a=>by simp
  | n::r,a=>by
    simp only [List.foldl_cons,List.map_cons]
    rw [show (⟨a⟩:ByteArray).push (UInt8.ofNat n.toNat)=⟨a.push (UInt8.ofNat n.toNat)⟩ from rfl,zd r]
    congr 1
    apply Array.ext'
    simp
theorem ue : ∀ {xs:List Int} {ys:List Unit},xs.length=ys.length→cellsOf (TC.sc (.int .u8)).ty xs ys=xs.map (Value.int .u8)
  | [],_,_=>by simp [cellsOf]
  | x::xs,y::ys,h=>by
    have:=ue (xs:=xs) (ys:=ys) (by simpa using h)
    simp only [cellsOf,List.map_cons,this]
    rfl
  | _::_,[],h=>by simp at h
def zV (Θ:Tb) (s d:TypeId) (l:Lf) (F:List AF) (k:Out→Option R):Option R:=match Θ s,Θ d with
  | some ⟨.slice e,_,_,_,_⟩,some ⟨.str,_,_,_,_⟩=>match Θ e with
    | some ⟨.int .u8,_,_,_,_⟩=>match gb (.sc (.int .u8)) F l with
      | some q=>k (bc (uP ((show List Int from q.xs).map fun n=>UInt8.ofNat n.toNat)))
      | none=>none
    | _=>none
  | _,_=>none
theorem Cf (hΘ:Θ.ok P) {s d:TypeId} {x:Operand} {l:Lf} (ho:o.op = .convert s d x) (h1:ev E x=some (.lf l)) (k:Out→Option R):aj ex P o E F n (zV Θ s d l F k) k:=by
  unfold zV
  split
  · rename_i e _ _ _ _ _ _ _ _ hs hd
    split
    · rename_i he
      split
      · rename_i q hq
        refine aj.of fun _=>(cS.pure fun η ρ hE ev w c hev hH=>?_)
        have hx:=aF hE h1
        simp only [AV.val] at hx
        rw [(ln hq η).1] at hx
        obtain ⟨ys,hys,hn,_,_,hc⟩:=iN hq hH
        subst hev
        have hconv:=run_convert_bytes_string w s d e (l.hd η).a (l.hd η).n (l.hd η).cap (hΘ s _ hs).2.1 (hΘ e _ he).2.1 (hΘ d _ hd).2.1
        have hfin : ∀ {ns:List Int},(Conv.bytesToString (l.hd η).val).run P w = .ok (.string ⟨(ns.map fun n=>UInt8.ofNat n.toNat).toArray⟩) w→ns=q.xs→(execOp (aK ρ) o).run P w = .ok (.value (.string ⟨((show List Int from q.xs).map fun n=>UInt8.ofNat n.toNat).toArray⟩)) w:=by
          intro ns h e
          subst e
          simp [execOp,ho,hx,hconv,h,Result.andThen]
        simp only [AV.val,Lf.val]
        rcases hc with ⟨_,h0⟩ | ⟨b,off,arr,ty,fz,ha,_,hb,hfit,hcl⟩
        · have hx0:q.xs=([]:List Int):=List.eq_nil_of_length_eq_zero (by omega)
          refine hfin (ns:=[]) ?_ hx0.symm
          have hn0:(l.hd η).n=0:=by rw [hn,hx0]; rfl
          cases ha:(l.hd η).a with
          | none=>
            simp only [Hd.val,ha,hn0]
            rfl
          | some a=>
            have hl:(loadCells a 0).run P w = .ok (([]:List Int).map (Value.int .u8)).toArray w:=run_loadCells_list w a [] (fun j v h=>by cases h)
            have:=run_bytesToString (P:=P) w a 0 (l.hd η).cap [] hl
            simp only [Hd.val,ha,hn0]
            rw [this]; rfl
        · have hcells:cellsOf (TC.sc (.int .u8)).ty q.xs ys=(show List Int from q.xs).map (Value.int .u8):=ue hys.length
          have hl:(loadCells ⟨b,off,none⟩ q.xs.length).run P w = .ok ((show List Int from q.xs).map (Value.int .u8)).toArray w:=by
            have:=run_loadCells_list (P:=P) w ⟨b,off,none⟩ ((show List Int from q.xs).map (Value.int .u8)) (fun j v hv=>by
              rw [d6,kn hb]
              rw [← hcells,← hcl,List.getElem?_take] at hv
              split at hv
              · simpa [List.getElem?_drop] using hv
              · cases hv)
            simpa using this
          have:=run_bytesToString (P:=P) w ⟨b,off,none⟩ q.xs.length (l.hd η).cap (show List Int from q.xs) hl
          refine hfin (ns:=q.xs) ?_ rfl
          simp only [Hd.val,ha,hn]
          rw [this,show ByteArray.empty=⟨#[]⟩ from rfl,zd]
          simp
      · exact aj.none
    · exact aj.none
  · exact aj.none
theorem Iv {w:World} {c:bd} {w' : World} {c' : bd} (h:Stp [] w.drew c w' c'):Stp [] w c w' c' := ⟨h.size,h.col,h.same,h.two,h.env⟩
theorem PN {w:World} {S:Nat→Prop} (s:SC) : ∀ l:List s.den,bK (bA w S (TC.sc s).ty) l (List.replicate l.length ())
  | []=>trivial
  | _::r=>⟨trivial,PN s r⟩
theorem To {ρ:cF} {L:List HA} {s d e:TypeId} {x:Operand} {bs:List UInt8} {N:Nat} (ho:o.op = .convert s d x) (hs:P.underlying s=some .string) (hd:P.underlying d=some (.slice e)) (he:P.underlying e=some (.int .u8))
    (hx:aK ρ x = .string ⟨bs.toArray⟩) (hN:Nat.ble 2 N=true) (hl:decide (bs.length≤maxLen)=true) :
    cz P ρ o L [] Hd.val (fun h=>[.own (TC.sc (.int .u8)).ty (e+1048576) N [] (bs.map fun b=>(b.toNat:Int)) h]):=by
  intro a ev w c next Q ha hL hk
  have hlen:bs.length≤maxLen:=of_decide_eq_true hl
  have hrun:=run_bytes_of_string (P:=P) w s d e ⟨bs.toArray⟩ hs hd he
  have hge:=grownCap_ge w bs.length 0 e
  have hle:=grownCap_le_maxLen w bs.length 0 e hlen
  have hsz:(ByteArray.mk bs.toArray).size=bs.length:=by simp [ByteArray.size]
  rw [hsz] at hrun
  generalize hcap:grownCap w bs.length 0 e=cap at hrun hge hle
  have hrow:bytesRow ⟨bs.toArray⟩ cap=((bs.map fun (b:UInt8)=>Value.int .u8 (b.toNat:Int))++List.replicate (cap - bs.length) (Value.int .u8 0)).toArray:=by
    simp [bytesRow,hsz]
  have hrsz:(bytesRow ⟨bs.toArray⟩ cap).size=cap:=by
    rw [hrow]; simp; omega
  have hex:(execOp ev o).run P w = .ok (.value (.slice (some ⟨w.heap.size,0,none⟩) bs.length cap)) (w.drew.alloc (.cells (bytesRow ⟨bs.toArray⟩ cap) e ((bytesRow ⟨bs.toArray⟩ cap).size,(bytesRow ⟨bs.toArray⟩ cap).size+1))):=by
    simp [execOp,ho,ha,hx,hrun,Result.andThen]
  rw [hex]
  have hst:=Iv (qM (w:=w.drew) (c:=c) hN (.cells (bytesRow ⟨bs.toArray⟩ cap) e ((bytesRow ⟨bs.toArray⟩ cap).size,(bytesRow ⟨bs.toArray⟩ cap).size+1)))
  have hcells:cellsOf (TC.sc (.int .u8)).ty (bs.map fun (b:UInt8)=>(b.toNat:Int)) (List.replicate bs.length ())=bs.map fun (b:UInt8)=>Value.int .u8 (b.toNat:Int):=by
    rw [ue (by simp),List.map_map]; rfl
  refine hk ⟨some ⟨w.heap.size,0,none⟩,bs.length,cap⟩ _ _ hst (ai.cons ⟨List.replicate bs.length (),?_,⟨?_, .inr ⟨w.heap.size,cap,bytesRow ⟨bs.toArray⟩ cap,e,((bytesRow ⟨bs.toArray⟩ cap).size,(bytesRow ⟨bs.toArray⟩ cap).size+1),?_,heap_alloc_new w.drew _, .inr ⟨Nat.le_add_left _ _,Nat.le_refl _⟩,?_,hle,?_,?_⟩⟩,fun g hg=>?_⟩ (ai.nil _ _))
  · have:=PN (w:=w.drew.alloc (.cells (bytesRow ⟨bs.toArray⟩ cap) e ((bytesRow ⟨bs.toArray⟩ cap).size,(bytesRow ⟨bs.toArray⟩ cap).size+1))) (S:=fun b=>(if b<w.drew.heap.size then c b else N)∈([]:List Nat)) (.int .u8) (bs.map fun (b:UInt8)=>(b.toNat:Int))
    rw [List.length_map] at this
    exact this
  · rw [hcells]; simp [Ty.sz]
  · simp
  · simpa using hge
  · rw [hrsz]; simp [Ty.sz]
  · rw [hcells,hrow]
    simp [Ty.sz]
  · simp only [Hd.val,Value.ownBlock,Option.some.injEq] at hg
    subst hg
    have : ¬ (w.heap.size<w.drew.heap.size):=Nat.lt_irrefl _
    simp [this]
def EP (Θ:Tb) (ex:Option Bool) (n N:Nat) (s d:TypeId) (a:List UInt8) (k:Out→Option R):Option R:=match Θ s,Θ d with
  | some ⟨.str,_,_,_,_⟩,some ⟨.str,_,_,_,_⟩=>k (bc (uP a))
  | some ⟨.str,_,_,_,_⟩,some ⟨.slice e,_,_,_,_⟩=>match Θ e with
    | some ⟨.int .u8,_,_,_,_⟩=>bif Nat.ble 2 N && !(ep (e+1048576)) then gchk ex (decide (a.length≤maxLen)) (k ⟨.lf (.sl n),[.own (.sc (.int .u8)) (e+1048576) N [] (a.map fun b=>(b.toNat:Int)) n],[]⟩) else none
    | _=>none
  | _,_=>none
theorem P1 (hΘ:Θ.ok P) {N:Nat} {s d:TypeId} {x:Operand} {a:List UInt8} (ho:o.op = .convert s d x) (h1:ev E x=some (uP a)) (k:Out→Option R):aj ex P o E F n (EP Θ ex n N s d a k) k:=by
  unfold EP
  split
  · rename_i _ _ _ _ _ _ _ _ hs hd
    refine aj.of fun hx=>(cS.pure fun η ρ hE ev w c he _=>?_)
    have hs' := (hΘ s _ hs).2.1
    have hd' := (hΘ d _ hd).2.1
    have h2:=aF hE h1
    subst he
    simp only [AV.val,Lf.val] at h2 ⊢
    simp [execOp,ho,h2,convert,run_underlying hs',run_underlying hd',Result.andThen]
  · rename_i _ _ _ _ e _ _ _ _ hs hd
    split
    · rename_i he
      refine aj.bif fun hN0=>aj.gchk fun hl=>aj.of fun hx η ρ hE=>?_
      simp only [Bool.and_eq_true] at hN0
      obtain ⟨hN,htr⟩:=hN0
      have htr:=pH htr
      refine (To (o:=o) (ρ:=ρ) ho (hΘ s _ hs).2.1 (hΘ d _ hd).2.1 (hΘ e _ he).2.1 (aF hE h1) hN (hl hx)).map (fun hh=>⟨η.setH n hh,η.setH_agr n hh⟩) (fun hh=>?_) fun hh=>?_
      · simp [AV.val,Lf.val,Vn.setH_at]
      · simp [AF.ha,Vn.setH_at,dw htr]
    · exact aj.none
  · exact aj.none
def Bn (Θ:Tb) (E:SE) (ex:Option Bool) (n:Nat) (t:TypeId) (l:Lf) (hi mx:Operand) (F:List AF) (k:Out→Option R):Option R:=match Θ t,ev E hi,ev E mx with
  | some ⟨.slice e,_,_,_,_⟩,some (.lf (.c (.int _) j)),some (.lf (.c (.int _) m))=>match Θ e with
    | some ie=>match gb ie.tc F l with
      | some s=>bif Nat.beq ie.sz ie.tc.ty.sz then gchk ex (decide (0≤j∧j≤m∧m≤s.xs.length)) (k ⟨.lf (.sl n),[.rep ie.tc s.all (s.xs.take j.toNat) n],[]⟩) else none
      | none=>none
    | none=>none
  | _,_,_=>none
theorem PR {ρ:cF} {L:List HA} {t e:TypeId} {x hi mx:Operand} {kj km:IntKind} {j m:Int} {ty:Ty} {K:List Nat} {xs:List ty.den} {hd:Hd} {sz by_:Nat} {z:Value} (ho:o.op = .slice t x none (some hi) (some mx)) (ht:P.underlying t=some (.slice e)) (hti:TI P e sz by_ z)
    (hx:aK ρ x=hd.val) (hj:aK ρ hi = .int kj j) (hm:aK ρ mx = .int km m) (hL : ∀ w c,ai w c L→HA.holds w c (.rep ty K xs hd)) (hb:decide (0≤j∧j≤m∧m≤xs.length)=true) :
    cz P ρ o L [] (fun _:Unit=>(⟨hd.a,j.toNat,m.toNat⟩:Hd).val) (fun _=>[.rep ty K (xs.take j.toNat) ⟨hd.a,j.toNat,m.toNat⟩]):=tJ fun ev w c hev hF=>by
  obtain ⟨b0,b1,b2⟩:=of_decide_eq_true hb
  obtain ⟨inf,hinf,_,hs',_⟩:=hti.get
  obtain ⟨ys,hys,hn,hle,hmx,hc⟩:=hL w c hF
  refine ⟨(),?_,ai.cons ⟨ys.take j.toNat,hys.take _,?_⟩ (ai.nil _ _)⟩
  · subst hev
    have c1:(Instr.sliceBound (aK ρ mx) hd.cap .slice3Acap).run P w = .ok m.toNat w:=by rw [hm]; exact kK (by omega) (by omega)
    have c2:(Instr.sliceBound (aK ρ hi) m.toNat .slice3B).run P w = .ok j.toNat w:=by rw [hj]; exact kK b0 (by omega)
    have c3:(Instr.sliceBounds true hd.n hd.cap none (some (aK ρ hi)) (some (aK ρ mx))).run P w = .ok (0,j.toNat,m.toNat) w:=by
      simp [Instr.sliceBounds,c1,c2,Result.andThen]
    have hid:Option.map (fun a:Addr=>a.add 0) hd.a=hd.a:=by
      cases hd.a with
      | none=>rfl
      | some a=>obtain ⟨b,o',f⟩:=a; rfl
    have c4:(Instr.slice t hd.val none (some (aK ρ hi)) (some (aK ρ mx))).run P w = .ok (⟨hd.a,j.toNat,m.toNat⟩:Hd).val w:=by
      simp [Instr.slice,run_underlying ht,c3,sizeOf,typeInfo,hinf,hid,Result.andThen]
    simp [execOp,ho,hx,Instr.sliceAt,run_underlying ht,c4,Result.andThen]
  · refine ⟨by simp; omega,by simp; omega,by simp; omega,?_⟩
    rcases hc with ⟨_,h0⟩ | ⟨b,off,arr,tt,fz,ha,hS,hbb,hfit,hcl⟩
    · exact .inl ⟨trivial,by simp; omega⟩
    · have h4:m.toNat * ty.sz≤hd.cap * ty.sz:=Nat.mul_le_mul_right _ (by omega)
      have h2:j.toNat≤xs.length:=by omega
      have h3:j.toNat * ty.sz≤xs.length * ty.sz:=Nat.mul_le_mul_right _ h2
      refine .inr ⟨b,off,arr,tt,fz,ha,hS,hbb,?_,?_⟩
      · show off+m.toNat * ty.sz≤arr.size
        omega
      · rw [gO ty j.toNat hys.length,← hcl,List.take_take,List.length_take,Nat.min_eq_left h2,Nat.min_eq_left h3]
theorem MT (hΘ:Θ.ok P) {t:TypeId} {x hi mx:Operand} {l:Lf} (ho:o.op = .slice t x none (some hi) (some mx)) (h1:ev E x=some (.lf l)) (k:Out→Option R):aj ex P o E F n (Bn Θ E ex n t l hi mx F k) k:=by
  unfold Bn
  split
  · rename_i e _ _ _ _ kj j km m ht hj hm
    split
    · rename_i ie he
      split
      · rename_i s hs
        refine aj.bif fun hsz=>aj.gchk fun hb=>aj.of fun hx η ρ hE=>?_
        have hx2:=aF hE h1
        simp only [AV.val] at hx2
        rw [(ln hs η).1] at hx2
        refine (PR (j:=j) (m:=m) ho (hΘ t _ ht).2.1 (hΘ e ie he).1 hx2 (aF hE hj) (aF hE hm) (fun w c hF=>iN hs hF) (hb hx)).map (fun _=>⟨η.setH n ⟨(l.hd η).a,j.toNat,m.toNat⟩,η.setH_agr n _⟩) (fun _=>?_) fun _=>?_
        · simp [AV.val,Lf.val,Vn.setH_at]
        · simp [AF.ha,Vn.setH_at]
      · exact aj.none
    · exact aj.none
  · exact aj.none
theorem cz.weaken' {P:Program} {ρ:cF} {o:Oper} {L:List HA} {κ:List Nat} {Y Y' : Type} {val:Y→Value} {Φ:Y→List HA} {val' : Y' → Value} {Φ' : Y' → List HA} (h:cz P ρ o L κ val Φ) (g:Y→Y')
    (hv : ∀ y,val y=val' (g y)) (hΦ : ∀ y w c,ai w c (Φ y)→ai w c (Φ' (g y))):cz P ρ o L κ val' Φ' := by
  intro a ev w c next Q ha hL hk
  refine h a ev w c next Q ha hL fun y w' c' hs hF=>?_
  rw [hv y]
  exact hk (g y) w' c' hs (hΦ y w' c' hF)
def AE (Θ:Tb) (E:SE) (ex:Option Bool) (n:Nat) (t:TypeId) (l:Lf) (lo hi mx:Operand) (F:List AF) (k:Out→Option R):Option R:=match Θ t,ev E lo,ev E hi,ev E mx with
  | some ⟨.slice e,_,_,_,_⟩,some (.lf (.c (.int _) i)),some (.lf (.c (.int _) j)),some (.lf (.c (.int _) m))=>match Θ e,l with
    | some ie, .sl h=>match eN ie.tc e 0 F (.sl h) with
      | some (_,_,xs)=>bif Nat.beq ie.sz ie.tc.ty.sz&&cq n h then gchk ex (decide (0≤i∧i≤j∧j≤m∧m≤xs.length)) (k ⟨.lf (.sl n),[.prt n h ie.sz i j],[]⟩) else none
      | none=>none
    | _,_=>none
  | _,_,_,_=>none
theorem QI {ρ:cF} {L:List HA} {t e:TypeId} {x lo hi mx:Operand} {ki kj km:IntKind} {i j m:Int} {ty:Ty} {K:List Nat} {xs:List ty.den} {hd:Hd} {sz by_:Nat} {z:Value} (ho:o.op = .slice t x (some lo) (some hi) (some mx)) (ht:P.underlying t=some (.slice e)) (hti:TI P e sz by_ z)
    (hx:aK ρ x=hd.val) (hi' : aK ρ lo = .int ki i) (hj:aK ρ hi = .int kj j) (hm:aK ρ mx = .int km m) (hL : ∀ w c,ai w c L→HA.holds w c (.rep ty K xs hd)) (hb:decide (0≤i∧i≤j∧j≤m∧m≤xs.length)=true) :
    cz P ρ o L [] (fun y : { h:Hd // mV h hd sz i j }=>y.1.val) (fun _=>[]):=tJ fun ev w c hev hF=>by
  obtain ⟨b0,b1,b2,b3⟩:=of_decide_eq_true hb
  obtain ⟨inf,hinf,_,hs',_⟩:=hti.get
  obtain ⟨ys,hys,hn,hle,hmx,hc⟩:=hL w c hF
  subst hev
  have c1:(Instr.sliceBound (aK ρ mx) hd.cap .slice3Acap).run P w = .ok m.toNat w:=by rw [hm]; exact kK (by omega) (by omega)
  have c2:(Instr.sliceBound (aK ρ hi) m.toNat .slice3B).run P w = .ok j.toNat w:=by rw [hj]; exact kK (by omega) (by omega)
  have c0:(Instr.sliceBound (aK ρ lo) j.toNat .slice3C).run P w = .ok i.toNat w:=by rw [hi']; exact kK b0 (by omega)
  have c3:(Instr.sliceBounds true hd.n hd.cap (some (aK ρ lo)) (some (aK ρ hi)) (some (aK ρ mx))).run P w = .ok (i.toNat,j.toNat,m.toNat) w:=by
    simp [Instr.sliceBounds,c0,c1,c2,Result.andThen]
  refine ⟨⟨⟨if m.toNat=i.toNat then hd.a else hd.a.map (·.add (i.toNat * inf.size)),j.toNat - i.toNat,m.toNat - i.toNat⟩,⟨b0,by simp only; omega,fun hlt=>?_⟩⟩,?_,ai.nil _ _⟩
  · rcases hc with ⟨_,h0⟩ | ⟨b,off,arr,tt,fz,ha,hS,hbb,hfit,hcl⟩
    · omega
    · refine ⟨b,off+i.toNat * inf.size,?_,?_⟩
      · simp only
        rw [if_neg (by omega),ha]
        simp [d6]
      · simp [dP,ha,hs']
  · have c4:(Instr.slice t hd.val (some (aK ρ lo)) (some (aK ρ hi)) (some (aK ρ mx))).run P w = .ok (⟨if m.toNat=i.toNat then hd.a else hd.a.map (·.add (i.toNat * inf.size)),j.toNat - i.toNat,m.toNat - i.toNat⟩:Hd).val w:=by
      simp [Instr.slice,run_underlying ht,c3,sizeOf,typeInfo,hinf,Result.andThen]
    simp [execOp,ho,hx,Instr.sliceAt,run_underlying ht,c4,Result.andThen]
theorem KO (hΘ:Θ.ok P) {t:TypeId} {x lo hi mx:Operand} {l:Lf} (ho:o.op = .slice t x (some lo) (some hi) (some mx)) (h1:ev E x=some (.lf l)) (k:Out→Option R):aj ex P o E F n (AE Θ E ex n t l lo hi mx F k) k:=by
  unfold AE
  split
  · rename_i e _ _ _ _ _ i _ j _ m ht hi' hj hm
    split
    · rename_i ie h he
      split
      · rename_i ci K xs hs
        refine aj.bif fun hc=>aj.gchk fun hb=>aj.of fun hx η ρ hE=>?_
        simp only [Bool.and_eq_true] at hc
        have hx2:=aF hE h1
        simp only [AV.val,Lf.val] at hx2
        refine (QI (o:=o) (ρ:=ρ) (L:=F.map (AF.ha η)) (K:=ci::K) (i:=i) (j:=j) (m:=m) ho (hΘ t _ ht).2.1 (hΘ e ie he).1 hx2 (aF hE hi') (aF hE hj) (aF hE hm) (fun w c hF=>HC (eC hs hF)) (hb hx)).weaken' (fun y=>⟨η.setH n y.1,η.setH_agr n y.1⟩) (fun y=>?_) fun y w c _=>?_
        · simp [AV.val,Lf.val,Vn.setH_at]
        · refine ai.cons ?_ (ai.nil _ _)
          simp only [AF.ha,Vn.setH_at,HA.holds]
          rw [(η.setH_agr n y.1 h hc.2).1]
          exact y.2
      · exact aj.none
    · exact aj.none
  · exact aj.none
def Hu {α:Type} (m:Nat) (d:α) (xs:List α):List α:=(List.range m).map fun q=>xs.getD q d
theorem Ah (s:SC) : ∀ {xs:List s.den} {ys:List Unit},xs.length=ys.length→cellsOf (TC.sc s).ty xs ys=xs.map s.val
  | [],_,_=>by simp [cellsOf]
  | x::xs,y::ys,h=>by
    have:=Ah s (xs:=xs) (ys:=ys) (by simpa using h)
    simp only [cellsOf,List.map_cons,this]
    rfl
  | _::_,[],h=>by simp at h
theorem Qx {ρ:cF} {L:List HA} {t e:TypeId} {x:Operand} {lo hi:Option Operand} {i j:Int} {m b ci:Nat} {s:SC} {xs:List s.den} {by_:Nat} {z:Value} (ho:o.op = .slice t x lo hi none) (ht:P.underlying t=some (.array m e)) (hti:TI P e 1 by_ z)
    (hx:aK ρ x = .pointer (some ⟨b,0,none⟩)) (hlo:(lo=none∧i=0)∨∃ x kk,lo=some x∧aK ρ x = .int kk i) (hhi:(hi=none∧j=m)∨∃ x kk,hi=some x∧aK ρ x = .int kk j)
    (hL : ∀ w c,ai w c L→HA.holds w c (.box ci b ((TC.arr m s).ty.fill xs ()))) (hb:decide (0≤i∧i≤j∧j≤m)=true) (hm:Nat.ble m 16777216=true) :
    cz P ρ o L [] (fun _:Unit=>(⟨some (if m=i.toNat then ⟨b,0,none⟩ else ⟨b,i.toNat,none⟩),j.toNat - i.toNat,m - i.toNat⟩:Hd).val)
      (fun _=>[.rep (TC.sc s).ty [ci] (((Hu m s.dft xs).take j.toNat).drop i.toNat) ⟨some (if m=i.toNat then ⟨b,0,none⟩ else ⟨b,i.toNat,none⟩),j.toNat - i.toNat,m - i.toNat⟩]):=tJ fun ev w c hev hF=>by
  have hb' := of_decide_eq_true hb
  obtain ⟨b0,b1,b2⟩:=hb'
  have hm:=Nat.le_of_ble_eq_true hm
  obtain ⟨inf,hinf,_,hs',_⟩:=hti.get
  obtain ⟨⟨ty,hbb⟩,hc⟩:=hL w c hF
  have hlen:(((Hu m s.dft xs).take j.toNat).drop i.toNat).length=j.toNat - i.toNat:=by simp [Hu]; omega
  refine ⟨(),?_,ai.cons ⟨List.replicate (j.toNat - i.toNat) (),?_,?_⟩ (ai.nil _ _)⟩
  · subst hev
    have c3:=BU (P:=P) (w:=w) (isS:=false) (len:=m) (cap:=m) hlo hhi ⟨b0,b1,b2⟩
    have key:(Instr.sliceAt t (.pointer (some ⟨b,0,none⟩)) (lo.map (aK ρ)) (hi.map (aK ρ)) none).run P w = .ok (.slice (some (if m=i.toNat then ⟨b,0,none⟩ else ⟨b,i.toNat,none⟩)) (j.toNat - i.toNat) (m - i.toNat)) w:=by
      simp [Instr.sliceAt,Instr.sureAddr,run_underlying ht,c3,sizeOf,typeInfo,hinf,hs',Result.andThen,d6]
    simp only [execOp,ho,hx,Option.map_none,key,Sem.run_bind,Result.andThen_ok,Sem.run_pure]
  · have gen : ∀ (l:List s.den) (q:Nat),l.length=q→bK (bA w (fun b=>c b∈[ci]) (TC.sc s).ty) l (List.replicate q ()):=by
      intro l
      induction l with
      | nil=>intro q hq; simp at hq; subst hq; trivial
      | cons a l ih=>
        intro q hq
        cases q with
        | zero=>simp at hq
        | succ q=>exact ⟨trivial,ih q (by simpa using hq)⟩
    exact gen _ _ hlen
  · refine ⟨by rw [hlen],by simp; omega,by simp [maxLen]; omega,?_⟩
    by_cases hmi:m=i.toNat
    · exact .inl ⟨trivial,by simp; omega⟩
    · refine .inr ⟨b,i.toNat,_,ty,_,by simp [hmi],by simp [hc],hbb,?_,?_⟩
      · simp [Ty.fill,TC.ty,Ty.sz]; omega
      · rw [Ah s (by rw [hlen]; simp),hlen]
        simp only [TC.ty,Ty.sz,Nat.mul_one,Ty.fill,Hu]
        rw [← List.map_take,List.take_drop]
        simp only [List.map_drop,List.map_take,List.map_map]
        rw [show i.toNat+(j.toNat - i.toNat)=j.toNat by omega]
        rfl
def AR (Θ:Tb) (E:SE) (ex:Option Bool) (n:Nat) (t:TypeId) (b:Nat) (lo hi:Option Operand) (F:List AF) (k:Out→Option R):Option R:=match Θ t,ja b F with
  | some ⟨.arr m e,_,_,_,_⟩,some (ci,[.ar m' s xs])=>match Θ e,AJ E lo 0,AJ E hi m with
    | some ie,some i,some j=>bif Nat.beq m' m&&Nat.beq ie.sz 1&&Nat.ble m 16777216 then gchk ex (decide (0≤i∧i≤j∧j≤m)) (k ⟨.lf (.sl n),[.rep (.sc s) [ci] (((Hu m' s.dft xs).take j.toNat).drop i.toNat) n],[]⟩) else none
    | _,_,_=>none
  | _,_=>none
theorem N6 (hΘ:Θ.ok P) {t:TypeId} {x:Operand} {b:Nat} {lo hi:Option Operand} (ho:o.op = .slice t x lo hi none) (h1:ev E x=some (.lf (.bp b 0))) (k:Out→Option R):aj ex P o E F n (AR Θ E ex n t b lo hi F k) k:=by
  unfold AR
  split
  · rename_i m e _ _ _ _ ci m' s xs ht hbx
    split
    · rename_i ie i j he hi' hj'
      refine aj.bif fun hc=>aj.gchk fun hb=>aj.of fun hx η ρ hE=>?_
      simp only [Bool.and_eq_true] at hc
      obtain ⟨⟨hm,hsz⟩,hmx⟩:=hc
      obtain rfl:=Nat.eq_of_beq_eq_true hm
      have hti:=(hΘ e ie he).1
      rw [Nat.eq_of_beq_eq_true hsz] at hti
      refine (Qx (ci:=ci) (s:=s) (xs:=xs) ho (hΘ t _ ht).2.1 hti (aF hE h1) (wQ hi' hE) (wQ hj' hE) (fun w c hF=>?_) (hb hx) hmx).map (fun _=>⟨η.setH n ⟨some (if m' = i.toNat then ⟨η.b b,0,none⟩ else ⟨η.b b,i.toNat,none⟩),j.toNat - i.toNat,m' - i.toNat⟩,η.setH_agr n _⟩) (fun _=>?_) fun _=>?_
      · have:=uV hbx hF
        simpa [aq,Lf.cells] using this
      · simp [AV.val,Lf.val,Vn.setH_at]
      · simp [AF.ha,Vn.setH_at]
    · exact aj.none
  · exact aj.none
def wg (P:Program) (t:TypeId):Prop:=P.eqGuardType P.depth t=false∧P.stoodInHeld t=false∧(P.fieldsOf t).toList.all (fun f=>!(f.name == "_"))=true
def lL (Θ:Tb):List (TypeId×Nat)→List Lf→List Lf→Nat→Option Bool
  | [],[],[],_=>some true
  | (ft,off)::fs, .c s a::r, .c s' b::r',pos=>match Θ ft with
    | some i=>match i.d,s,s',a,b with
      | .int _, .int k, .int k',a,b=>if k' = k∧off=pos then (lL Θ fs r r' (pos+1)).map fun e=>(show Int from a)==(show Int from b)&&e else none
      | .bool, .bool, .bool,a,b=>if off=pos then (lL Θ fs r r' (pos+1)).map fun e=>(show Bool from a)==(show Bool from b)&&e else none
      | .str, .str, .str,a,b=>if off=pos then (lL Θ fs r r' (pos+1)).map fun e=>(show List UInt8 from a)==(show List UInt8 from b)&&e else none
      | _,_,_,_,_=>none
    | none=>none
  | _,_,_,_=>none
theorem tF (hΘ:Θ.ok P) {w:World} {η:Vn} {xs ys:Array Value} {d:Nat} : ∀ {fl:List Field} {fs:List (TypeId×Nat)} {r r' : List Lf} {pos:Nat} {e:Bool},fl.map (fun f=>(f.type,f.offset))=fs→fl.all (fun f=>!(f.name == "_"))=true→lL Θ fs r r' pos=some e →
    (∀ j,xs[pos+j]? = (aq η r)[j]?)→(∀ j,ys[pos+j]? = (aq η r')[j]?)→(Op.eqFields (d+1) xs ys fl).run P w = .ok e w
  | [],_,r,r',pos,e,hm,_,h,_,_=>by
    simp only [List.map_nil] at hm
    subst hm
    cases r <;> cases r' <;> simp [lL] at h
    subst h
    simp [Op.eqFields,Sem.run_pure]
  | f::fl,fs,r,r',pos,e,hm,hn,h,hx,hy=>by
    simp only [List.map_cons] at hm
    subst hm
    simp only [List.all_cons,Bool.and_eq_true,Bool.not_eq_true',beq_eq_false_iff_ne,ne_eq] at hn
    cases r with
    | nil=>simp [lL] at h
    | cons l r=>
      cases r' with
      | nil=>cases l <;> simp [lL] at h
      | cons l' r' =>
        cases l <;> cases l' <;> simp only [lL] at h <;> try cases h
        rename_i s a s' b
        split at h
        · rename_i i hi
          have hfit:=(hΘ f.type i hi).2.1
          have hx0:=hx 0
          have hy0:=hy 0
          have hxr : ∀ j,xs[pos+1+j]? = (aq η r)[j]? := fun j=>by
            have:=hx (j+1)
            rw [show pos+(j+1)=pos+1+j by omega] at this
            simpa [aq,Lf.cells] using this
          have hyr : ∀ j,ys[pos+1+j]? = (aq η r')[j]? := fun j=>by
            have:=hy (j+1)
            rw [show pos+(j+1)=pos+1+j by omega] at this
            simpa [aq,Lf.cells] using this
          simp only [Nat.add_zero,aq,Lf.cells,List.cons_append,List.getElem?_cons_zero] at hx0 hy0
          cases hd:i.d <;> rw [hd] at h hfit <;> cases s <;> cases s' <;> simp only at h <;> try cases h
          · rename_i k k'
            split at h
            · rename_i hc
              obtain ⟨rfl,hoff⟩:=hc
              simp only [Option.map_eq_some_iff] at h
              obtain ⟨e',he,rfl⟩:=h
              have ih:=tF hΘ (d:=d) rfl hn.2 he hxr hyr (w:=w)
              have hfit:P.underlying f.type=some (.int _):=hfit
              have p1:(part f.type xs f.offset).run P w = .ok (.int k' a) w:=by simp [part,ko hfit rfl,hoff,hx0,Result.andThen]
              have p2:(part f.type ys f.offset).run P w = .ok (.int k' b) w:=by simp [part,ko hfit rfl,hoff,hy0,Result.andThen]
              have p3:=run_equalIn_int (P:=P) w d f.type k' _ a b hfit
              simp only [Op.eqFields,hn.1,ne_eq,not_false_eq_true,if_true,Sem.run_bind,p1,p2,p3,Result.andThen_ok]
              cases hab:((show Int from a)==(show Int from b))
              · simp [Sem.run_pure]
              · simpa using ih
            · cases h
          · skip
            split at h
            · rename_i hoff
              simp only [Option.map_eq_some_iff] at h
              obtain ⟨e',he,rfl⟩:=h
              have ih:=tF hΘ (d:=d) rfl hn.2 he hxr hyr (w:=w)
              have hfit:P.underlying f.type=some .bool:=hfit
              have p1:(part f.type xs f.offset).run P w = .ok (.bool a) w:=by simp [part,ko hfit rfl,hoff,hx0,Result.andThen]
              have p2:(part f.type ys f.offset).run P w = .ok (.bool b) w:=by simp [part,ko hfit rfl,hoff,hy0,Result.andThen]
              have p3:=run_equalIn_bool' (P:=P) w d f.type a b hfit
              simp only [Op.eqFields,hn.1,ne_eq,not_false_eq_true,if_true,Sem.run_bind,p1,p2,p3,Result.andThen_ok]
              cases hab:((show Bool from a)==(show Bool from b))
              · simp [Sem.run_pure]
              · simpa using ih
            · cases h
          · skip
            split at h
            · rename_i hoff
              simp only [Option.map_eq_some_iff] at h
              obtain ⟨e',he,rfl⟩:=h
              have ih:=tF hΘ (d:=d) rfl hn.2 he hxr hyr (w:=w)
              have hfit:P.underlying f.type=some .string:=hfit
              have p1:(part f.type xs f.offset).run P w = .ok (.string ⟨(show List UInt8 from a).toArray⟩) w:=by simp [part,ko hfit rfl,hoff,hx0,Result.andThen]
              have p2:(part f.type ys f.offset).run P w = .ok (.string ⟨(show List UInt8 from b).toArray⟩) w:=by simp [part,ko hfit rfl,hoff,hy0,Result.andThen]
              have p3:=run_equalIn_string (P:=P) w d f.type ⟨(show List UInt8 from a).toArray⟩ ⟨(show List UInt8 from b).toArray⟩ hfit
              simp only [Op.eqFields,hn.1,ne_eq,not_false_eq_true,if_true,Sem.run_bind,p1,p2,p3,Result.andThen_ok]
              have hl:((⟨(show List UInt8 from a).toArray⟩:ByteArray).toList==(⟨(show List UInt8 from b).toArray⟩:ByteArray).toList)=((show List UInt8 from a)==(show List UInt8 from b)):=by
                have e : ∀ (z:List UInt8),(⟨z.toArray⟩:ByteArray).toList=z:=fun z=>by rw [ByteArray.toList_eq]
                rw [e,e]
              rw [hl]
              cases hab:((show List UInt8 from a)==(show List UInt8 from b))
              · simp [Sem.run_pure]
              · simpa using ih
            · cases h
        · cases h
def MV (Θ:Tb) (Gq:TypeId→Bool) (op:BinOp) (t:TypeId) (a b:List Lf) (k:Out→Option R):Option R:=match Θ t with
  | some ⟨.st fs,_,_,_,_⟩=>bif Gq t then match lL Θ fs a b 0,op with
    | some e, .eql=>k (bc (dI e))
    | some e, .neq=>k (bc (dI (!e)))
    | _,_=>none
    else none
  | _=>none
theorem Rk (hΘ:Θ.ok P) {Gq:TypeId→Bool} (hG : ∀ t,Gq t=true→wg P t) {op:BinOp} {t t' : TypeId} {x y:Operand} {a b:List Lf} (ho:o.op = .binOp op t x y t') (h1:ev E x=some (.ag a)) (h2:ev E y=some (.ag b)) (k:Out→Option R) :
    aj ex P o E F n (MV Θ Gq op t a b k) k:=by
  unfold MV
  split
  · rename_i fs _ _ _ _ ht
    refine aj.bif fun hg=>?_
    obtain ⟨g1,g2,g3⟩:=hG t hg
    obtain ⟨Fd,hs,hm⟩:=(hΘ t _ ht).2.1
    have hf:P.fieldsOf t=Fd:=by simp [Program.fieldsOf,hs]
    have key : ∀ {e:Bool} {η:Vn} {w:World},lL Θ fs a b 0=some e→(Op.equalIn 10000 t (.agg (aq η a).toArray) (.agg (aq η b).toArray)).run P w = .ok e w:=by
      intro e η w he
      rw [run_equalIn_struct (P:=P) w 9999 t _ _ (by rw [hf]; exact hs) g2,hf]
      rw [hf] at g3
      exact tF hΘ (η:=η) (d:=9998) hm g3 he (fun j=>by simp) (fun j=>by simp)
    split
    · rename_i e he
      refine aj.of fun _=>(cS.pure fun η ρ hE ev w c hev _=>?_)
      have e1:=aF hE h1
      have e2:=aF hE h2
      subst hev
      simp only [AV.val] at e1 e2
      have hgd:(eqGuard .eql t x y (.agg (aq η a).toArray) (.agg (aq η b).toArray)).run P w = .ok () w:=run_eqGuard_agg w .eql t x y _ _ g1
      have hb:(binOp .eql t (.agg (aq η a).toArray) (.agg (aq η b).toArray)).run P w = .ok (.bool e) w:=by
        rw [run_eql_struct,key he]; rfl
      simp only [execOp,ho,e1,e2,Sem.run_bind,hgd,hb,Result.andThen_ok,Sem.run_pure,AV.val,Lf.val]
    · rename_i e he
      refine aj.of fun _=>(cS.pure fun η ρ hE ev w c hev _=>?_)
      have e1:=aF hE h1
      have e2:=aF hE h2
      subst hev
      simp only [AV.val] at e1 e2
      have hgd:(eqGuard .neq t x y (.agg (aq η a).toArray) (.agg (aq η b).toArray)).run P w = .ok () w:=run_eqGuard_agg w .neq t x y _ _ g1
      have hb:(binOp .neq t (.agg (aq η a).toArray) (.agg (aq η b).toArray)).run P w = .ok (.bool (!e)) w:=by
        rw [run_neq_struct,key he]; rfl
      simp only [execOp,ho,e1,e2,Sem.run_bind,hgd,hb,Result.andThen_ok,Sem.run_pure,AV.val,Lf.val]
    · exact aj.none
  · exact aj.none
end
end
end Go.Sm
namespace Go.Sm
set_option linter.unusedSectionVars false
section
variable [X:XTab] [G:GTab]
section
variable {R:Type} {P:Program} {o:Oper} {E:SE} {F:List AF} {n:Nat} {Θ:Tb} {ex:Option Bool}
def F8 (Θ:Tb) (ex:Option Bool) (t:TypeId) (b off m:Nat) (s:SC) (j:Int) (F:List AF) (k:Out→Option R):Option R:=match Θ t,ja b F with
 | some i,some (_,cs)=>match kU cs off with
  | some (_, .ar m' s' x::_)=>bif Nat.beq m m' && Nat.beq i.sz 1 && !i.d.agg then (if h:s' = s then gchk ex (decide (0≤j∧j<m')) (k (bc (.lf (.c s (List.getD (α:=s.den) (wz h x) j.toNat s.dft))))) else none) else none
  | _=>none
 | _,_=>none
theorem qZ (m:Nat) (s:SC) (x:List s.den) {j:Nat} (h:j<m):((TC.arr m s).ty.fill x ())[j]? = some (s.val (List.getD (α:=s.den) x j s.dft)):=by
 simp [Ty.fill,h]
theorem OY (hΘ:Θ.ok P) {t:TypeId} {x:Operand} {b off m:Nat} {s:SC} {j:Int} (ho:o.op = .load t x) (hx:ev E x=some (.lf (.bq b off m s j))) (k:Out→Option R):aj ex P o E F n (F8 Θ ex t b off m s j F k) k:=by
 unfold F8
 split
 ·rename_i i ci cs hi hb
  split
  ·rename_i a m' s' xs r hc
   refine aj.bif fun hB=>?_
   simp only [Bool.and_eq_true,Bool.not_eq_true'] at hB
   obtain ⟨⟨hm,hsz⟩,hag⟩:=hB
   split
   ·rename_i h
    subst h
    refine aj.gchk fun hj=>aj.of fun hex=>(cS.pure fun η ρ hE=>?_)
    have hj:=of_decide_eq_true (hj hex)
    obtain ⟨h1,h2,_,_⟩:=hΘ t i hi
    obtain ⟨td,ht,hd⟩:=kY h2
    rw [hag] at hd
    obtain ⟨q,hq⟩:=kz (eP hb) η
    obtain ⟨e,hl⟩:=il hc
    refine yY q hq ho ht hd (aF hE hx) ?_
    have hlen:=hl η
    rw [e,aR]
    rw [List.getElem?_append_right (by omega),show off+j.toNat - (aq η a).length=j.toNat by omega]
    simp only [aq,Lf.cells]
    rw [List.getElem?_append_left (by rw [Ty.fill_length]; show j.toNat<m'; omega)]
    exact qZ m' s' xs (by omega)
   ·exact aj.none
  ·exact aj.none
 ·exact aj.none
def Bj (Θ:Tb) (ex:Option Bool) (t:TypeId) (b off m:Nat) (s:SC) (j:Int) (v:AV) (F:List AF) (k:Out→Option R):Option R:=match Θ t,ja b F,v.lvs with
 | some i,some (ci,cs),some ls=>match kU cs off,bH F (.sc s) ls with
  | some (a, .ar m' s' x::r),some (y,_,_,[])=>bif Nat.beq m m' && Nat.beq i.sz 1 then (if h:s' = s then gchk ex (decide (0≤j∧j<m')) (k ⟨.lf (.v undef),[.box ci b (a++(.ar m' s (mP m' s.dft (wz h x) j.toNat y)::r))],[ci]⟩) else none) else none
  | _,_=>none
 | _,_,_=>none
theorem ab7 (m:Nat) (s:SC) (x:List s.den) (y:s.den) {j:Nat} (h:j<m) :
  ((TC.arr m s).ty.fill x ()).take j++[s.val y]++((TC.arr m s).ty.fill x ()).drop (j+1)=(TC.arr m s).ty.fill (mP m s.dft x j y) ():=by
 apply List.ext_getElem?
 intro q
 have hl:((TC.arr m s).ty.fill x ()).length=m:=Ty.fill_length _ _ _
 have hr:((TC.arr m s).ty.fill (mP m s.dft x j y) ()).length=m:=Ty.fill_length _ _ _
 have htk:(((TC.arr m s).ty.fill x ()).take j).length=j:=by simp; omega
 rcases Nat.lt_trichotomy q j with hq | hq | hq
 ·rw [List.append_assoc,List.getElem?_append_left (by omega),List.getElem?_take,if_pos hq,qZ m s x (by omega),qZ m s _ (by omega)]
  congr 2
  simp only [mP,List.getD_eq_getElem?_getD,List.getElem?_map,List.getElem?_range (show q<m by omega)]
  simp [show q≠j by omega]
 ·subst hq
  rw [List.append_assoc,List.getElem?_append_right (by omega),htk,Nat.sub_self,qZ m s _ h]
  simp [mP,List.getD_eq_getElem?_getD,h]
 ·by_cases hqm:q<m
  ·rw [List.getElem?_append_right (by simp; omega),qZ m s _ hqm]
   rw [List.length_append,htk,List.length_singleton,List.getElem?_drop,show j+1+(q - (j+1))=q by omega,qZ m s x hqm]
   congr 2
   simp only [mP,List.getD_eq_getElem?_getD,List.getElem?_map,List.getElem?_range hqm]
   simp [show q≠j by omega]
  ·rw [List.getElem?_eq_none (by simp; omega),List.getElem?_eq_none (by omega)]
theorem Nh (hΘ:Θ.ok P) {t:TypeId} {x y:Operand} {b off m:Nat} {s:SC} {j:Int} {v:AV} (ho:o.op = .store t x y) (hx:ev E x=some (.lf (.bq b off m s j))) (hy:ev E y=some v) (k:Out→Option R):aj ex P o E F n (Bj Θ ex t b off m s j v F k) k:=by
 unfold Bj
 split
 ·rename_i i ci cs ls hi hb hls
  split
  ·rename_i a m' s' xs r z _ _ hc hd
   refine aj.bif fun hB=>?_
   simp only [Bool.and_eq_true] at hB
   obtain ⟨hm,hsz⟩:=hB
   split
   ·rename_i h
    subst h
    refine aj.gchk fun hj=>aj.of fun hex η ρ hE=>?_
    have hj:=of_decide_eq_true (hj hex)
    obtain ⟨h1,_,_,_⟩:=hΘ t i hi
    rw [Nat.eq_of_beq_eq_true hsz] at h1
    obtain ⟨q,hq⟩:=kz (eP hb) η
    obtain ⟨e,hl⟩:=il hc
    have hlen:=hl η
    have hcell:=Kc hd η
    have hfl:((TC.arr m' s').ty.fill xs ()).length=m' := Ty.fill_length _ _ _
    refine (wt (cs' := aq η (a++(.ar m' s' (mP m' s'.dft xs j.toNat z)::r))) q hq ho h1 (aF hE hx) (aF hE hy) (v.lvs_cells hls η) (by rw [hcell]; rfl) ?_ ?_ ?_).map (fun _=>⟨η,Vn.agr_refl n η⟩) (fun _=>rfl) (fun _=>rfl)
    ·rw [hcell]; simp [s'.one]
    ·rw [e,aR,hcell]
     refine Nat.ble_eq_true_of_le ?_
     simp only [aq,Lf.cells,List.length_append,hfl,List.length_singleton]
     omega
    ·rw [e,aR,aR,hcell]
     simp only [aq,Lf.cells,List.length_singleton]
     rw [← ab7 m' s' xs z (by omega)]
     rw [List.take_append,List.take_of_length_le (by omega),show off+j.toNat - (aq η a).length=j.toNat by omega,List.take_append,show j.toNat - ((TC.arr m' s').ty.fill xs ()).length=0 by omega,List.take_zero,
      List.append_nil,List.drop_append,List.drop_eq_nil_of_le (as:=aq η a) (by omega),List.nil_append,show off+j.toNat+1 - (aq η a).length=j.toNat+1 by omega,List.drop_append,
      show j.toNat+1 - ((TC.arr m' s').ty.fill xs ()).length=0 by omega,List.drop_zero]
     simp
   ·exact aj.none
  ·exact aj.none
 ·exact aj.none
end
end
end Go.Sm
