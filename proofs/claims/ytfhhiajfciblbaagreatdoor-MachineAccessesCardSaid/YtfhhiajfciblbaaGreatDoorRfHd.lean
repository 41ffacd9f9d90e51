/- Laws for the row. No condition. -/
import Derived.Laws.IdiomStrings
import Derived.Test.YtfhhiajfciblbaaGreatDoorRfH
import Derived.Laws.StructEq
namespace Go.Sm
set_option linter.unusedSectionVars false
variable {x y mx:Operand} {t e s d:TypeId} {i j:Int} {g b m by_ N sz:Nat} {ki:IntKind} {z:Value} {lo hi:Option Operand} {w:World}
section
variable [X:XTab] [G:GTab]
section
variable {R:Type} {P:Program} {o:Oper} {E:SE} {F:List AF} {n:Nat} {Θ:Tb} {ex:Option Bool}
def aap (v:AV) (k:Out→Option R):Option R:=match v with
  | .lf (.bp b off)=>k (bC (.lf (.bp b off)))
  | .lf (.rp h t i u p)=>k (bC (.lf (.rp h t i u p)))
  | .lf (.gp g t i u p)=>k (bC (.lf (.gp g t i u p)))
  | .lf (.fn f)=>k (bC (.lf (.fn f)))
  | .lf (.clo f b)=>k (bC (.lf (.clo f b)))
  | .lf (.c .fnc f)=>k (bC (.lf (.c .fnc f)))
  | _=>none
theorem afj {v:AV} (ho:o.op = .nilCheck x) (hv:ev E x=some v) (k:Out→Option R):ao ex P o E F n (aap v k) k:=by
  unfold aap
  split
  all_goals first
    | exact ao.none
    | (refine ao.of fun _=>(dJ.pure fun η ρ hE ev w c he _=>?_)
       have h:=aN hE hv
       subst he
       simp only [AV.val,Lf.val] at h ⊢
       simp only [execOp,ho,h]; rfl)
def Qs (E:SE) (fn:Fn) (first cap:List Operand) (k:Out→Option R):Option R:=match fn,first,cap with
  | .func f,[],[]=>k (bC (.lf (.fn f)))
  | .func f,[],[x]=>match ev E x with
    | some (.lf (.bp b 0))=>k (bC (.lf (.clo f b)))
    | _=>none
  | _,_,_=>none
theorem ZG {fn:Fn} {first cap:Array Operand} (ho:o.op = .makeFunc fn first cap) (k:Out→Option R):ao ex P o E F n (Qs E fn first.toList cap.toList k) k:=by
  unfold Qs
  split
  · rename_i f h1 h2
    refine ao.of fun _=>(dJ.pure fun η ρ hE ev w c he _=>?_)
    have e1:first = #[]:=by simpa using h1
    have e2:cap = #[]:=by simpa using h2
    subst he e1 e2
    simp [execOp,ho,Instr.makeFunc,AV.val,Lf.val,Result.andThen]
  · rename_i f x h1 h2
    split
    · rename_i b hv
      refine ao.of fun _=>(dJ.pure fun η ρ hE ev w c he _=>?_)
      have e1:first = #[]:=by simpa using h1
      have e2:cap = #[x]:=by grind
      have h:=aN hE hv
      subst he e1 e2
      simp [execOp,ho,h,Instr.makeFunc,AV.val,Lf.val,Result.andThen]
    · exact ao.none
  · exact ao.none
def Fg (g:Nat) (t:TC):List GEnt→Option (List t.den)
  | []=>none
  | e::r=>bif Nat.beq g e.g then (if h:e.t=t then (bif e.t.ty.pureB then some (Dk h e.xs) else none) else none) else Fg g t r
theorem DV {g:Nat} {t:TC} : ∀ {l:List GEnt} {xs:List t.den},Fg g t l=some xs→(⟨g,t,xs⟩:GEnt)∈l∧t.ty.pureB=true
  | [],_,h=>by simp [Fg] at h
  | e::r,xs,h=>by
    simp only [Fg] at h
    cases hb:Nat.beq g e.g
    · rw [hb] at h; exact ⟨Wq _ (DV h).1,(DV h).2⟩
    · rw [hb] at h
      simp only [f9] at h
      split at h
      · rename_i he
        cases hp:e.t.ty.pureB
        · grind
        rw [hp] at h
        obtain ⟨eg,et,exs⟩:=e
        simp only at he hb
        subst he
        simp only [f9,Wn] at h
        subst h
        rw [Wo hb]
        exact ⟨W7,hp⟩
      · cases h
abbrev Oh (g n:Nat):Hd:=⟨some ⟨g,0,none⟩,n,n⟩
theorem AI {w:World} {S:Nat→Prop} {t:TC} (hp:t.ty.pureB=true) : ∀ xs:List t.den,cp (bT w S t.ty) xs (List.replicate xs.length t.ref0)
  | []=>trivial
  | x::xs=>by
    rw [XM,adE]
    exact ⟨bT.pure t.ty x t.ref0 hp,AI hp xs⟩
theorem Uw {t:TC} {xs:List t.den} (h:Fg g t G.gl=some xs)  {c:bD} {L:List HA} (hH:am w c (L++ov)):HA.holds w c (.rep t.ty [0,1] xs (Oh g xs.length)):=by
  obtain ⟨hm,hp⟩:=DV h
  obtain ⟨⟨ty,fz,hb⟩,hc,hn⟩:=hH _ (X5 _ (W6.2 ⟨_,hm,rfl⟩))
  have hl:(cellsOf t.ty xs (List.replicate xs.length t.ref0)).length=xs.length * t.ty.sz:=cT t.ty (by simp)
  refine ⟨List.replicate xs.length t.ref0,AI hp xs,rfl,Xw _,hn, .inr ⟨g,0,_,ty,fz,rfl,?_,hb,?_,?_⟩⟩
  · grind
  · grind
  grind
def PD (Θ:Tb) (ex:Option Bool) (t:TypeId) (g:Nat) (i:Int) (k:Out→Option R):Option R:=match Θ t with
  | some ⟨.arr m e,_,_,_,_⟩=>match Θ e with
    | some ie=>bif Nat.beq ie.sz ie.tc.ty.sz then gchk ex (decide (0≤i∧i<m)) (k (bC (.lf (.gp g ie.tc i ie.tc .here)))) else none
    | none=>none
  | _=>none
theorem aeN {ρ:dm} {L:List HA} {ix:Operand}    {o':Nat}   (ho:o.op = .indexAddr t x ix) (ht:P.underlying t=some (.array m e)) (hi:TI P e sz by_ z)
    (hx:aR ρ x = .pointer (some ⟨b,o',none⟩)) (hix:aR ρ ix = .int ki i) (h0:decide (0≤i∧i<m)=true):br P ρ o L (.pointer (some ⟨b,o' + i.toNat * sz,none⟩)):=fun ev w c he hL=>by
  subst he
  have htihi:=hi; clear hi
  obtain ⟨inf,hi,_,hs,_⟩:=htihi.get
  have hi0:0≤i∧i<m:=Yd h0
  simp [execOp,ho,hx,hix,Instr.indexAt,Instr.sureAddr,asIntOf,run_underlying ht,sizeOf,typeInfo,hi,hs,hi0,fj,Result.andThen]
theorem aah (hΘ:Θ.ok P) {ix:Operand}   (ho:o.op = .indexAddr t (.global g) ix) (h2:ev E ix=some (gt ki i)) (k:Out→Option R) :
    ao ex P o E F n (PD Θ ex t g i k) k:=by
  unfold PD
  split
  · rename_i m e _ _ _ _ ht
    split
    · rename_i ie he
      refine ao.bif fun hsz=>ao.gchk fun hb=>ao.of fun hx=>(dJ.pure fun η ρ hE=>?_)
      have:=aeN (o:=o) (ρ:=ρ) (L:=F.map (AF.ha η)) ho (hΘ t _ ht).2.1 (hΘ e ie he).1 (rfl:aR ρ (.global g) = .pointer (some ⟨g,0,none⟩)) (aN hE h2) (hb hx)
      simp only [AV.val,Lf.val,Pa.off,Yk]
      simp_all
    · exact ao.none
  · exact ao.none
def LU (Θ:Tb) (ex:Option Bool) (n:Nat) (t:TypeId) (g:Nat) (te:TC) (i:Int) (u:TC) (p:Pa te u) (k:Out→Option R):Option R:=match Θ t,Fg g te G.gl with
  | some inf,some xs=>bif Nat.beq inf.sz u.ty.sz&&Nat.ble u.nh 64&&(inf.d.agg==u.aggT) && !u.isMp then nchk ex p.needs (gbind ex te.dft (ac xs i) fun x=>k ⟨ra u (p.get x) n,tD u (p.get x) [0,1] n,[]⟩) else none
  | _,_=>none
theorem ae8 {η:Vn} {te:TC} {xs:List te.den} (hs:Fg g te G.gl=some xs)  {v:te.den} (hv:ac xs i=some v):El (F.map (AF.ha η)++ov) te.ty [0,1] v (Oh g xs.length) (i.toNat * te.ty.sz):=fun w c hH=>
  Ix (L:=.rep te.ty [0,1] xs (Oh g xs.length)::(F.map (AF.ha η)++ov)) 0 rfl rfl hv w c (am.cons (Uw hs hH) hH)
theorem afH (g n x:Nat):eQ (Oh g n) x=⟨g,x,none⟩:=by simp [eQ,Oh]
theorem U5 (hΘ:Θ.ok P) {te:TC}  {u:TC} {p:Pa te u} (ho:o.op = .load t x) (h1:ev E x=some (.lf (.gp g te i u p))) (k:Out→Option R) :
    ao ex P o E F n (LU Θ ex n t g te i u p k) k:=by
  unfold LU
  split
  · rename_i inf xs hi hs
    refine ao.bif fun hc=>ao.nchk fun hf=>ao.gbind fun v hv=>ao.ofG fun hx η ρ hE=>?_
    simp only [Wp,abd,YW] at hc
    obtain ⟨⟨⟨hsz,hnh⟩,hag⟩,hmp⟩:=hc
    have hsz:=Wo hsz
    have hnh:=Wt hnh
    obtain ⟨g1,g2,_,_⟩:=hΘ t inf hi
    obtain ⟨td,ht,hd⟩:=nW g2
    rw [hag] at hd
    have hE' := Ah p (ae8 (F:=F) (η:=η) hs (hv hx)) (hf hx)
    have hp:aR ρ x = .pointer (some (eQ (Oh g xs.length) (i.toNat * te.ty.sz+p.off))):=by rw [afH]; exact aN hE h1
    cases u with
    | sc sk=>exact (br.op (vz hE' ho ht hd hp)).map (fun _=>⟨η,Vn.agr_refl n η⟩) (fun _=>rfl) (fun _=>rfl)
    | ext m=>exact (br.op (vz hE' ho ht hd hp)).map (fun _=>⟨η,Vn.agr_refl n η⟩) (fun _=>rfl) (fun _=>rfl)
    | slice t' =>
      refine (ye hE' ho ht hd hp).map (fun hh=>⟨η.setH n hh,η.setH_agr n hh⟩) (fun hh=>?_) fun hh=>?_
      · simp [ra,AV.val,Lf.val,Vn.setH_at]
      · simp [tD,AF.ha,Vn.setH_at]
    | arr m sk=>
      refine (eT hE' ho ht hd g1 hsz hp).map (fun y=>⟨η.set n (cI _ y),Vn.set_agr (by rw [dg]; exact hnh)⟩) (fun y=>?_) fun y=>?_
      · rfl
      rfl
    | unit=>
      refine (eT hE' ho ht hd g1 hsz hp).map (fun y=>⟨η.set n (cI _ y),Vn.set_agr (by rw [dg]; exact hnh)⟩) (fun y=>?_) fun y=>?_
      · rfl
      rfl
    | st a=>
      refine (eT hE' ho ht hd g1 hsz hp).map (fun y=>⟨η.set n (cI a y),Vn.set_agr (by rw [dg]; exact hnh)⟩) (fun y=>?_) fun y=>?_
      · exact (rT (u:=.st a) rfl (fF.set (l:=cI a y))).symm
      · exact (rm a _ y n fF.set).symm
    | pair a b=>
      refine (eT hE' ho ht hd g1 hsz hp).map (fun y=>⟨η.set n (cI _ y),Vn.set_agr (by rw [dg]; exact hnh)⟩) (fun y=>?_) fun y=>?_
      · exact (rT (u:=.pair a b) rfl fF.set).symm
      · exact (rm (.pair a b) _ y n fF.set).symm
    | node=>
      refine (eT hE' ho ht hd g1 hsz hp).map (fun y=>⟨η.set n (cI .node y),Vn.set_agr (by rw [dg]; exact hnh)⟩) (fun y=>?_) fun y=>?_
      · exact (rT (u:=.node) rfl (fF.set (l:=cI .node y))).symm
      · exact (rm .node _ y n fF.set).symm
    | mp _ _=>cases hmp
  · exact ao.none
theorem oT:(t:Ty)→t.pureB=true→(x:t.den)→(y y' : t.Refs)→t.fill x y=t.fill x y'
  | .one _ _ _,_,_,_,_=>rfl
  | .arr _ _ _ _ _,_,_,_,_=>rfl
  | .unit,_,_,_,_=>rfl
  | .pair a b,h,x,y,y' => by
    simp only [Ty.pureB,Wp] at h
    simp only [Ty.fill]
    rw [oT a h.1 x.1 y.1 y'.1,oT b h.2 x.2 y.2 y'.2]
  | .slice _,h,_,_,_=>by cases h
  | .node,h,_,_,_=>by cases h
  | .mp _ _,h,_,_,_=>by cases h
theorem zn (t:Ty) (h:t.pureB=true) : ∀ {xs:List t.den} {ys ys' : List t.Refs},xs.length=ys.length→xs.length=ys'.length→cellsOf t xs ys=cellsOf t xs ys'
  | [],_,_,_,_=>by simp [cellsOf]
  | x::xs,y::ys,y' :: ys',h1,h2=>by
    simp only [cellsOf]
    rw [oT t h x y y',zn t h (by simpa using h1) (by simpa using h2)]
  | _::_,[],_,h1,_=>by simp at h1
  | _::_,_::_,[],_,h2=>by simp at h2
def Kg (Θ:Tb) (t:TypeId) (g:Nat) (k:Out→Option R):Option R:=match Θ t with
  | some ⟨.arr _ e,sz,_,_,_⟩=>match Θ e with
    | some ie=>match Fg g ie.tc G.gl with
      | some xs=>bif Nat.ble 1 xs.length&&ie.tc.ty.pureB&&Nat.beq sz (xs.length * ie.tc.ty.sz) then k (bC (.lf (.ars ie.tc xs))) else none
      | none=>none
    | none=>none
  | _=>none
theorem Ua (hΘ:Θ.ok P) (ho:o.op = .load t (.global g)) (k:Out→Option R):ao ex P o E F n (Kg Θ t g k) k:=by
  unfold Kg
  split
  · rename_i m e sz by_ zl tc ht
    split
    · rename_i ie he
      split
      · rename_i xs hs
        refine ao.bif fun hc=>ao.ofG fun hx η ρ hE=>?_
        simp only [Wp] at hc
        obtain ⟨⟨hm,hp⟩,hsz⟩:=hc
        have hsz:=Wo hsz
        obtain ⟨g1,g2,_,_⟩:=hΘ t _ ht
        obtain ⟨inf,hi,_,hs',_⟩:=g1.get
        refine (br.op (v:=(AV.lf (.ars ie.tc xs)).val η) fun ev w c hev hH=>?_).map (fun _=>⟨η,Vn.agr_refl n η⟩) (fun _=>rfl) (fun _=>rfl)
        subst hev
        obtain ⟨ys,hys,hn,_,_,hcs⟩:=Uw hs hH
        have hfin : ∀ {b off:Nat} {arr:Array Value} {ty:TypeId} {fz:Nat×Nat},some (⟨g,0,none⟩:Addr)=some ⟨b,off,none⟩→w.heap[b]? = some (.cells arr ty fz)→(arr.toList.drop off).take (xs.length * ie.tc.ty.sz)=cellsOf ie.tc.ty xs ys →
            (execOp (aR ρ) o).run P w = .ok (.value ((AV.lf (.ars ie.tc xs)).val η)) w:=by
          intro b off arr ty fz ha hb hcl
          simp only [Wn,Addr.mk.injEq,ai3] at ha
          obtain ⟨rfl,rfl⟩:=ha
          have hlen:(cellsOf ie.tc.ty xs ys).length=inf.size:=by
            grind
          have hl:=vI (P:=P) (w:=w) (t:=t) g2 rfl hi hb (cs:=cellsOf ie.tc.ty xs ys) (by rw [hs',hsz]; exact hcl) hlen
          have e1:cellsOf ie.tc.ty xs ys=cellsOf ie.tc.ty xs (List.replicate xs.length ie.tc.ref0):=zn _ hp hys.length (by simp)
          simp only [execOp,ho,aR,hl,AV.val,Lf.val,← e1,Sem.run_bind,Result.andThen_ok,Sem.run_pure]
        rcases hcs with ⟨_,h0⟩ | ⟨b,off,arr,ty,fz,ha,_,hb,_,hcl⟩
        · simp_all
        grind
      · exact ao.none
    · exact ao.none
  · exact ao.none
theorem wT:(t:TC)→t.ty.pureB=true→t.nh=0
  | .sc _,_=>rfl
  | .arr _ _,_=>rfl
  | .unit,_=>rfl
  | .pair a b,h=>by
    simp only [TC.ty,Ty.pureB,Wp] at h
    simp only [TC.nh,wT a h.1,wT b h.2]
  | .slice _,h=>by cases h
  | .st a,h=>wT a h
  | .ext _,_=>rfl
def DQ (Θ:Tb) (ex:Option Bool) (t:TypeId) (te:TC) (xs:List te.den) (i:Int) (k:Out→Option R):Option R:=match Θ t with
  | some ⟨.arr m e,_,_,_,_⟩=>match Θ e with
    | some ie=>bif Nat.beq xs.length m&&Nat.beq ie.sz te.ty.sz&&ie.d.agg&&te.ty.pureB&&te.aggT then gbind ex te.dft (ac xs i) fun x=>k (bC (ra te x 0)) else none
    | none=>none
  | _=>none
theorem R4 (hΘ:Θ.ok P) {te:TC} {xs:List te.den} (ho:o.op = .index t x y) (h1:ev E x=some (.lf (.ars te xs))) (h2:ev E y=some (gt ki i)) (k:Out→Option R) :
    ao ex P o E F n (DQ Θ ex t te xs i k) k:=by
  unfold DQ
  split
  · rename_i m e _ _ _ _ ht
    split
    · rename_i ie he
      refine ao.bif fun hc=>ao.gbind fun v hv=>ao.of fun hx=>(dJ.pure fun η ρ hE ev w c hev _=>?_)
      simp only [Wp] at hc
      obtain ⟨⟨⟨⟨hm,hsz⟩,hag⟩,hp⟩,hta⟩:=hc
      obtain rfl:=Wo hm
      have hsz:=Wo hsz
      obtain ⟨g1,g2,_,_⟩:=hΘ e ie he
      obtain ⟨td,htd,hd⟩:=nW g2
      rw [hag] at hd
      obtain ⟨inf,hi,_,hs',_⟩:=g1.get
      have e1:=aN hE h1
      have e2:=aN hE h2
      subst hev
      obtain ⟨h0,hg,hlt⟩:=nN (hv hx)
      have hcell:=sv te.ty (ys:=List.replicate xs.length te.ref0) (i:=i.toNat) (x:=v) (y:=te.ref0) hg (by grind)
      have hval:(ra te v 0).val η = .agg (te.ty.fill v te.ref0).toArray:=rT hta (fun j h hj=>by
        have:=(XW.1 hj).1
        rw [dg,wT te hp] at this
        omega)
      rw [hval]
      simp only [AV.val,Lf.val] at e1 e2
      have hi0:0≤i∧i<(xs.length:Int):=⟨h0,by omega⟩
      simp [execOp,ho,e1,e2,Instr.index,asIntOf,run_underlying (hΘ t _ ht).2.1,hi0,sizeOf,typeInfo,hi,hs',hsz,part,xi htd hd,Result.andThen]
      exact hcell
    · exact ao.none
  · exact ao.none
def A7 (h:Nat):List AF→Option Bool
  | []=>none
  | .isn h' b::r=>bif Nat.beq h h' then some b else A7 h r
  | _::r=>A7 h r
theorem mC {h:Nat} : ∀ {F:List AF} {b:Bool},A7 h F=some b→.isn h b∈F
  | [],_,hh=>by simp [A7] at hh
  | .isn h' b' :: r,b,hh=>by
    simp only [A7] at hh
    cases hb:Nat.beq h h'
    · rw [hb] at hh; exact Wq _ (mC hh)
    simp_all
  | .rep _ _ _ _::r,_,hh=>Wq _ (mC (F:=r) hh)
  | .own _ _ _ _ _ _::r,_,hh=>Wq _ (mC (F:=r) hh)
  | .box _ _ _::r,_,hh=>Wq _ (mC (F:=r) hh)
  | .prt _ _ _ _ _::r,_,hh=>Wq _ (mC (F:=r) hh)
  | .hol _ _ _ _ _ _ _::r,_,hh=>Wq _ (mC (F:=r) hh)
  | .mp _ _ _ _ _::r,_,hh=>Wq _ (mC (F:=r) hh)
  | .pt _ _ _ _ _ _ _::r,_,hh=>Wq _ (mC (F:=r) hh)
def Px (Θ:Tb) (op:BinOp) (t:TypeId) (l:Lf) (F:List AF) (k:Out→Option R):Option R:=match Θ t,op,l with
  | some ⟨.slice _,_,_,_,_⟩, .eql, .sl h=>match A7 h F with
    | some b=>k (bC (eI b))
    | none=>none
  | some ⟨.slice _,_,_,_,_⟩, .neq, .sl h=>match A7 h F with
    | some b=>k (bC (eI (!b)))
    | none=>none
  | some ⟨.slice _,_,_,_,_⟩, .eql, .nl=>k (bC (eI true))
  | some ⟨.slice _,_,_,_,_⟩, .neq, .nl=>k (bC (eI false))
  | _,_,_=>none
theorem br.of {ρ:dm} {L:List HA} {v v' : Value} (p:Prop) (h : ∀ w c,am w c L→p) (hp:p→v=v') (hv:br P ρ o L v):br P ρ o L v' := fun ev w c he hL=>by
  rw [← hp (h w c hL)]; exact hv ev w c he hL
theorem ZS (hΘ:Θ.ok P) {op:BinOp} {t':TypeId} {l:Lf} (ho:o.op = .binOp op t x y t') (h1:ev E x=some (.lf l)) (h2:ev E y=some (.lf .nl)) (k:Out→Option R):ao ex P o E F n (Px Θ op t l F k) k:=by
  unfold Px
  split
  · rename_i ht
    split
    · rename_i b hb
      refine ao.of fun _=>(dJ.pure fun η ρ hE=>?_)
      exact br.of _ (fun w c hH=>hH _ (W6.2 ⟨_,mC hb,rfl⟩)) (fun hp=>by rw [← show (η.h _).isNil=b from hp]; rfl) (O9 ho (hΘ t _ ht).2.1 (aN hE h1) (aN hE h2))
    · exact ao.none
  · rename_i ht
    split
    · rename_i b hb
      refine ao.of fun _=>(dJ.pure fun η ρ hE=>?_)
      exact br.of _ (fun w c hH=>hH _ (W6.2 ⟨_,mC hb,rfl⟩)) (fun hp=>by rw [← show (η.h _).isNil=b from hp]; rfl) (LL ho (hΘ t _ ht).2.1 (aN hE h1) (aN hE h2))
    · exact ao.none
  · rename_i ht
    exact ao.of fun _=>(dJ.pure fun η ρ hE=>O9 (h:=eR) ho (hΘ t _ ht).2.1 (aN hE h1) (aN hE h2))
  · rename_i ht
    exact ao.of fun _=>(dJ.pure fun η ρ hE=>LL (h:=eR) ho (hΘ t _ ht).2.1 (aN hE h1) (aN hE h2))
  · exact ao.none
def Ec (E:SE) (q:Option Operand) (d:Int):Option Int:=match q with
  | none=>some d
  | some q=>match ev E q with
    | some (.lf (.c (.int _) i))=>some i
    | _=>none
theorem zU {q:Option Operand} {d:Int} (h:Ec E q d=some i) {η:Vn} {ρ:dm} (hE:nA η ρ E):(q=none∧i=d)∨∃ x kk,q=some x∧aR ρ x = .int kk i:=by
  unfold Ec at h
  split at h
  · grind
  · split at h
    · rename_i x _ kk j hv
      simp only [Wn] at h
      subst h
      exact .inr ⟨x,kk,rfl,aN hE hv⟩
    · cases h
theorem Ft {ρ:dm} {isS:Bool} {len cap:Nat}   (hlo:(lo=none∧i=0)∨∃ x kk,lo=some x∧aR ρ x = .int kk i) (hhi:(hi=none∧j=len)∨∃ x kk,hi=some x∧aR ρ x = .int kk j)
    (hb:0≤i∧i≤j∧j≤cap):(Instr.sliceBounds isS len cap (lo.map (aR ρ)) (hi.map (aR ρ)) none).run P w = .ok (i.toNat,j.toNat,cap) w:=by
  obtain ⟨h0,h1,h2⟩:=hb
  have b1 : ∀ x kk code,aR ρ x = .int kk j→(Instr.sliceBound (aR ρ x) cap code).run P w = .ok j.toNat w:=fun x kk code hx=>by rw [hx]; exact nM (by omega) h2
  have b2 : ∀ x kk code,aR ρ x = .int kk i→(Instr.sliceBound (aR ρ x) j.toNat code).run P w = .ok i.toNat w:=fun x kk code hx=>by rw [hx]; exact nM h0 (by omega)
  rcases hhi with ⟨rfl,rfl⟩ | ⟨x,kk,rfl,hx⟩ <;> rcases hlo with ⟨rfl,rfl⟩ | ⟨y,kk',rfl,hy⟩
  · rfl
  · have:=b2 y kk' .sliceB hy
    simp only [W4] at this
    simp [Instr.sliceBounds,this,Result.andThen]
  · cases isS <;> simp [Instr.sliceBounds,b1 x kk _ hx,Result.andThen]
  · cases isS <;> simp [Instr.sliceBounds,b1 x kk _ hx,b2 y kk' _ hy,Result.andThen]
def DM (Θ:Tb) (E:SE) (ex:Option Bool) (t:TypeId) (s:List UInt8) (lo hi:Option Operand) (k:Out→Option R):Option R:=match Θ t,Ec E lo 0,Ec E hi s.length with
  | some ⟨.str,_,_,_,_⟩,some i,some j=>gchk ex (decide (0≤i∧i≤j∧j≤s.length)) (k (bC (xY ((s.take j.toNat).drop i.toNat))))
  | _,_,_=>none
theorem S9 (hΘ:Θ.ok P) {s:List UInt8}  (ho:o.op = .slice t x lo hi none) (h1:ev E x=some (xY s)) (k:Out→Option R):ao ex P o E F n (DM Θ E ex t s lo hi k) k:=by
  unfold DM
  split
  · rename_i i j ht hbi hbj
    refine ao.gchk fun hb=>ao.of fun hx=>(dJ.pure fun η ρ hE ev w c he _=>?_)
    have hb:=Yd (hb hx)
    have hx:=aN hE h1
    subst he
    have hbd:=Ft (P:=P) (w:=w) (isS:=false) (len:=s.length) (cap:=s.length) (zU hbi hE) (zU hbj hE) hb
    have ht' : P.underlying t=some .string:=(hΘ t _ ht).2.1
    have hsz:(⟨s.toArray⟩:ByteArray).size=s.length:=by rfl
    have hext:(⟨s.toArray⟩:ByteArray).extract i.toNat j.toNat=⟨((s.take j.toNat).drop i.toNat).toArray⟩:=by
      apply ByteArray.ext
      apply akY
      simp [ByteArray.data_extract,aeR]
    simp only [AV.val,Lf.val] at hx ⊢
    have h2:(Instr.slice t (.string ⟨s.toArray⟩) (lo.map (aR ρ)) (hi.map (aR ρ)) none).run P w = .ok (.string ⟨((s.take j.toNat).drop i.toNat).toArray⟩) w:=by
      simp [Instr.slice,run_underlying ht',hsz,hbd,hext,Result.andThen]
    simp [execOp,ho,hx,Instr.sliceAt,run_underlying ht',h2,Result.andThen]
  · exact ao.none
theorem Cg : ∀ (ns:List Int) (a:Array UInt8),ns.foldl (fun (r:ByteArray) n=>r.push (UInt8.ofNat n.toNat)) ⟨a⟩=⟨a++(ns.map fun n=>UInt8.ofNat n.toNat).toArray⟩
  | [],a=>by simp
  | n::r,a=>by
    simp only [agi,XH]
    rw [show (⟨a⟩:ByteArray).push (UInt8.ofNat n.toNat)=⟨a.push (UInt8.ofNat n.toNat)⟩ from rfl,Cg r]
    simp_all
theorem wX : ∀ {xs:List Int} {ys:List Unit},xs.length=ys.length→cellsOf (TC.sc (.int .u8)).ty xs ys=xs.map (Value.int .u8)
  | [],_,_=>by simp [cellsOf]
  | x::xs,y::ys,h=>by
    have:=wX (xs:=xs) (ys:=ys) (by simpa using h)
    simp only [cellsOf,XH,this]
    rfl
  | _::_,[],h=>by simp at h
def Dd (Θ:Tb) (s d:TypeId) (l:Lf) (F:List AF) (k:Out→Option R):Option R:=match Θ s,Θ d with
  | some ⟨.slice e,_,_,_,_⟩,some ⟨.str,_,_,_,_⟩=>match Θ e with
    | some ⟨.int .u8,_,_,_,_⟩=>match jj (.sc (.int .u8)) F l with
      | some q=>k (bC (xY ((show List Int from q.xs).map fun n=>UInt8.ofNat n.toNat)))
      | none=>none
    | _=>none
  | _,_=>none
theorem FC (hΘ:Θ.ok P) {l:Lf} (ho:o.op = .convert s d x) (h1:ev E x=some (.lf l)) (k:Out→Option R):ao ex P o E F n (Dd Θ s d l F k) k:=by
  unfold Dd
  split
  · rename_i e _ _ _ _ _ _ _ _ hs hd
    split
    · rename_i he
      split
      · rename_i q hq
        refine ao.of fun _=>(dJ.pure fun η ρ hE ev w c hev hH=>?_)
        have hx:=aN hE h1
        simp only [AV.val] at hx
        rw [(oi hq η).1] at hx
        obtain ⟨ys,hys,hn,_,_,hc⟩:=kS hq hH
        subst hev
        have hconv:=run_convert_bytes_string w s d e (l.hd η).a (l.hd η).n (l.hd η).cap (hΘ s _ hs).2.1 (hΘ e _ he).2.1 (hΘ d _ hd).2.1
        have hfin : ∀ {ns:List Int},(Conv.bytesToString (l.hd η).val).run P w = .ok (.string ⟨(ns.map fun n=>UInt8.ofNat n.toNat).toArray⟩) w→ns=q.xs→(execOp (aR ρ) o).run P w = .ok (.value (.string ⟨((show List Int from q.xs).map fun n=>UInt8.ofNat n.toNat).toArray⟩)) w:=by
          intro ns h e
          subst e
          simp [execOp,ho,hx,hconv,h,Result.andThen]
        simp only [AV.val,Lf.val]
        rcases hc with ⟨_,h0⟩ | ⟨b,off,arr,ty,fz,ha,_,hb,hfit,hcl⟩
        · have hx0:q.xs=([]:List Int):=Z1 (by omega)
          refine hfin (ns:=[]) ?_ hx0.symm
          have hn0:(l.hd η).n=0:=by grind
          cases ha:(l.hd η).a with
          | none=>
            simp only [Hd.val,ha,hn0]
            rfl
          | some a=>
            have hl:(loadCells a 0).run P w = .ok (([]:List Int).map (Value.int .u8)).toArray w:=run_loadCells_list w a [] (fun j v h=>by cases h)
            have:=run_bytesToString (P:=P) w a 0 (l.hd η).cap [] hl
            simp only [Hd.val,ha,hn0]
            rw [this]; rfl
        · have hcells:cellsOf (TC.sc (.int .u8)).ty q.xs ys=(show List Int from q.xs).map (Value.int .u8):=wX hys.length
          have hl:(loadCells ⟨b,off,none⟩ q.xs.length).run P w = .ok ((show List Int from q.xs).map (Value.int .u8)).toArray w:=by
            have:=run_loadCells_list (P:=P) w ⟨b,off,none⟩ ((show List Int from q.xs).map (Value.int .u8)) (fun j v hv=>by
              rw [fj,mQ hb]
              grind)
            grind
          have:=run_bytesToString (P:=P) w ⟨b,off,none⟩ q.xs.length (l.hd η).cap (show List Int from q.xs) hl
          refine hfin (ns:=q.xs) ?_ rfl
          simp only [Hd.val,ha,hn]
          rw [this,show ByteArray.empty=⟨#[]⟩ from rfl,Cg]
          simp
      · exact ao.none
    · exact ao.none
  · exact ao.none
theorem MD {c:bD} {w' : World} {c' : bD} (h:Stp [] w.drew c w' c'):Stp [] w c w' c' := ⟨h.size,h.col,h.same,h.two,h.env⟩
theorem Uj {w:World} {S:Nat→Prop} (s:SC) : ∀ l:List s.den,cp (bT w S (TC.sc s).ty) l (List.replicate l.length ())
  | []=>trivial
  | _::r=>⟨trivial,Uj s r⟩
theorem aa2 {ρ:dm} {L:List HA} {bs:List UInt8}  (ho:o.op = .convert s d x) (hs:P.underlying s=some .string) (hd:P.underlying d=some (.slice e)) (he:P.underlying e=some (.int .u8))
    (hx:aR ρ x = .string ⟨bs.toArray⟩) (hN:Nat.ble 2 N=true) (hl:decide (bs.length≤maxLen)=true) :
    c9 P ρ o L [] Hd.val (fun h=>[.own (TC.sc (.int .u8)).ty (e+1048576) N [] (bs.map fun b=>(b.toNat:Int)) h]):=by
  intro a ev w c next Q ha hL hk
  have hlen:bs.length≤maxLen:=Yd hl
  have hrun:=run_bytes_of_string (P:=P) w s d e ⟨bs.toArray⟩ hs hd he
  have hge:=grownCap_ge w bs.length 0 e
  have hle:=grownCap_le_maxLen w bs.length 0 e hlen
  have hsz:(ByteArray.mk bs.toArray).size=bs.length:=by rfl
  rw [hsz] at hrun
  generalize hcap:grownCap w bs.length 0 e=cap at hrun hge hle
  have hrow:bytesRow ⟨bs.toArray⟩ cap=((bs.map fun (b:UInt8)=>Value.int .u8 (b.toNat:Int))++List.replicate (cap - bs.length) (Value.int .u8 0)).toArray:=by
    simp [bytesRow,hsz]
  have hrsz:(bytesRow ⟨bs.toArray⟩ cap).size=cap:=by
    grind
  have hex:(execOp ev o).run P w = .ok (.value (.slice (some ⟨w.heap.size,0,none⟩) bs.length cap)) (w.drew.alloc (.cells (bytesRow ⟨bs.toArray⟩ cap) e ((bytesRow ⟨bs.toArray⟩ cap).size,(bytesRow ⟨bs.toArray⟩ cap).size+1))):=by
    simp [execOp,ho,ha,hx,hrun,Result.andThen]
  rw [hex]
  have hst:=MD (uf (w:=w.drew) (c:=c) hN (.cells (bytesRow ⟨bs.toArray⟩ cap) e ((bytesRow ⟨bs.toArray⟩ cap).size,(bytesRow ⟨bs.toArray⟩ cap).size+1)))
  have hcells:cellsOf (TC.sc (.int .u8)).ty (bs.map fun (b:UInt8)=>(b.toNat:Int)) (List.replicate bs.length ())=bs.map fun (b:UInt8)=>Value.int .u8 (b.toNat:Int):=by
    rw [wX (by simp),afG]; rfl
  refine hk ⟨some ⟨w.heap.size,0,none⟩,bs.length,cap⟩ _ _ hst (am.cons ⟨List.replicate bs.length (),?_,⟨?_, .inr ⟨w.heap.size,cap,bytesRow ⟨bs.toArray⟩ cap,e,((bytesRow ⟨bs.toArray⟩ cap).size,(bytesRow ⟨bs.toArray⟩ cap).size+1),?_,heap_alloc_new w.drew _, .inr ⟨Nat.le_add_left _ _,Xw _⟩,?_,hle,?_,?_⟩⟩,fun g hg=>?_⟩ (am.nil _ _))
  · have:=Uj (w:=w.drew.alloc (.cells (bytesRow ⟨bs.toArray⟩ cap) e ((bytesRow ⟨bs.toArray⟩ cap).size,(bytesRow ⟨bs.toArray⟩ cap).size+1))) (S:=fun b=>(if b<w.drew.heap.size then c b else N)∈([]:List Nat)) (.int .u8) (bs.map fun (b:UInt8)=>(b.toNat:Int))
    grind
  · grind
  · simp
  · grind
  · grind
  · grind
  · simp only [Hd.val,Value.ownBlock,Wn] at hg
    simp_all
def Jo (Θ:Tb) (ex:Option Bool) (n N:Nat) (s d:TypeId) (a:List UInt8) (k:Out→Option R):Option R:=match Θ s,Θ d with
  | some ⟨.str,_,_,_,_⟩,some ⟨.str,_,_,_,_⟩=>k (bC (xY a))
  | some ⟨.str,_,_,_,_⟩,some ⟨.slice e,_,_,_,_⟩=>match Θ e with
    | some ⟨.int .u8,_,_,_,_⟩=>bif Nat.ble 2 N && !(fG (e+1048576)) then gchk ex (decide (a.length≤maxLen)) (k ⟨.lf (.sl n),[.own (.sc (.int .u8)) (e+1048576) N [] (a.map fun b=>(b.toNat:Int)) n],[]⟩) else none
    | _=>none
  | _,_=>none
theorem Up (hΘ:Θ.ok P) {a:List UInt8} (ho:o.op = .convert s d x) (h1:ev E x=some (xY a)) (k:Out→Option R):ao ex P o E F n (Jo Θ ex n N s d a k) k:=by
  unfold Jo
  split
  · rename_i _ _ _ _ _ _ _ _ hs hd
    refine ao.of fun hx=>(dJ.pure fun η ρ hE ev w c he _=>?_)
    have hs' := (hΘ s _ hs).2.1
    have hd' := (hΘ d _ hd).2.1
    have h2:=aN hE h1
    subst he
    simp only [AV.val,Lf.val] at h2 ⊢
    simp [execOp,ho,h2,convert,run_underlying hs',run_underlying hd',Result.andThen]
  · rename_i _ _ _ _ e _ _ _ _ hs hd
    split
    · rename_i he
      refine ao.bif fun hN0=>ao.gchk fun hl=>ao.of fun hx η ρ hE=>?_
      simp only [Wp] at hN0
      obtain ⟨hN,htr⟩:=hN0
      have htr:=sN htr
      refine (aa2 (o:=o) (ρ:=ρ) ho (hΘ s _ hs).2.1 (hΘ d _ hd).2.1 (hΘ e _ he).2.1 (aN hE h1) hN (hl hx)).map (fun hh=>⟨η.setH n hh,η.setH_agr n hh⟩) (fun hh=>?_) fun hh=>?_
      · simp [AV.val,Lf.val,Vn.setH_at]
      · simp [AF.ha,Vn.setH_at,eD htr]
    · exact ao.none
  · exact ao.none
def DX (Θ:Tb) (E:SE) (ex:Option Bool) (n:Nat) (t:TypeId) (l:Lf) (hi mx:Operand) (F:List AF) (k:Out→Option R):Option R:=match Θ t,ev E hi,ev E mx with
  | some ⟨.slice e,_,_,_,_⟩,some (.lf (.c (.int _) j)),some (.lf (.c (.int _) m))=>match Θ e with
    | some ie=>match jj ie.tc F l with
      | some s=>bif Nat.beq ie.sz ie.tc.ty.sz then gchk ex (decide (0≤j∧j≤m∧m≤s.xs.length)) (k ⟨.lf (.sl n),[.rep ie.tc s.all (s.xs.take j.toNat) n],[]⟩) else none
      | none=>none
    | none=>none
  | _,_,_=>none
theorem Ul {ρ:dm} {L:List HA} {hi:Operand} {kj km:IntKind} {m:Int} {ty:Ty} {K:List Nat} {xs:List ty.den} {hd:Hd}   (ho:o.op = .slice t x none (some hi) (some mx)) (ht:P.underlying t=some (.slice e)) (hti:TI P e sz by_ z)
    (hx:aR ρ x=hd.val) (hj:aR ρ hi = .int kj j) (hm:aR ρ mx = .int km m) (hL : ∀ w c,am w c L→HA.holds w c (.rep ty K xs hd)) (hb:decide (0≤j∧j≤m∧m≤xs.length)=true) :
    c9 P ρ o L [] (fun _:Unit=>(⟨hd.a,j.toNat,m.toNat⟩:Hd).val) (fun _=>[.rep ty K (xs.take j.toNat) ⟨hd.a,j.toNat,m.toNat⟩]):=wH fun ev w c hev hF=>by
  obtain ⟨b0,b1,b2⟩:=Yd hb
  obtain ⟨inf,hinf,_,hs',_⟩:=hti.get
  obtain ⟨ys,hys,hn,hle,hmx,hc⟩:=hL w c hF
  refine ⟨(),?_,am.cons ⟨ys.take j.toNat,hys.take _,?_⟩ (am.nil _ _)⟩
  · subst hev
    have c1:(Instr.sliceBound (aR ρ mx) hd.cap .slice3Acap).run P w = .ok m.toNat w:=by rw [hm]; exact nM (by omega) (by omega)
    have c2:(Instr.sliceBound (aR ρ hi) m.toNat .slice3B).run P w = .ok j.toNat w:=by rw [hj]; exact nM b0 (by omega)
    have c3:(Instr.sliceBounds true hd.n hd.cap none (some (aR ρ hi)) (some (aR ρ mx))).run P w = .ok (0,j.toNat,m.toNat) w:=by
      simp [Instr.sliceBounds,c1,c2,Result.andThen]
    have hid:Option.map (fun a:Addr=>a.add 0) hd.a=hd.a:=by
      cases hd.a with
      | none=>rfl
      | some a=>rfl
    have c4:(Instr.slice t hd.val none (some (aR ρ hi)) (some (aR ρ mx))).run P w = .ok (⟨hd.a,j.toNat,m.toNat⟩:Hd).val w:=by
      simp [Instr.slice,run_underlying ht,c3,sizeOf,typeInfo,hinf,hid,Result.andThen]
    simp [execOp,ho,hx,Instr.sliceAt,run_underlying ht,c4,Result.andThen]
  · refine ⟨by simp; omega,by simp; omega,by simp; omega,?_⟩
    rcases hc with ⟨_,h0⟩ | ⟨b,off,arr,tt,fz,ha,hS,hbb,hfit,hcl⟩
    · grind
    · have h4:m.toNat * ty.sz≤hd.cap * ty.sz:=Yq _ (by omega)
      have h2:j.toNat≤xs.length:=by omega
      have h3:j.toNat * ty.sz≤xs.length * ty.sz:=Yq _ h2
      refine .inr ⟨b,off,arr,tt,fz,ha,hS,hbb,?_,?_⟩
      · grind
      · rw [jz ty j.toNat hys.length,← hcl,acV,Xz,ZR h2,ZR h3]
theorem QR (hΘ:Θ.ok P) {hi:Operand} {l:Lf} (ho:o.op = .slice t x none (some hi) (some mx)) (h1:ev E x=some (.lf l)) (k:Out→Option R):ao ex P o E F n (DX Θ E ex n t l hi mx F k) k:=by
  unfold DX
  split
  · rename_i e _ _ _ _ kj j km m ht hj hm
    split
    · rename_i ie he
      split
      · rename_i s hs
        refine ao.bif fun hsz=>ao.gchk fun hb=>ao.of fun hx η ρ hE=>?_
        have hx2:=aN hE h1
        simp only [AV.val] at hx2
        rw [(oi hs η).1] at hx2
        refine (Ul (j:=j) (m:=m) ho (hΘ t _ ht).2.1 (hΘ e ie he).1 hx2 (aN hE hj) (aN hE hm) (fun w c hF=>kS hs hF) (hb hx)).map (fun _=>⟨η.setH n ⟨(l.hd η).a,j.toNat,m.toNat⟩,η.setH_agr n _⟩) (fun _=>?_) fun _=>?_
        · simp [AV.val,Lf.val,Vn.setH_at]
        · simp [AF.ha,Vn.setH_at]
      · exact ao.none
    · exact ao.none
  · exact ao.none
theorem c9.weaken' {P:Program} {ρ:dm} {o:Oper} {L:List HA} {κ:List Nat} {Y Y' : Type} {val:Y→Value} {Φ:Y→List HA} {val' : Y' → Value} {Φ' : Y' → List HA} (h:c9 P ρ o L κ val Φ) (g:Y→Y')
    (hv : ∀ y,val y=val' (g y)) (hΦ : ∀ y w c,am w c (Φ y)→am w c (Φ' (g y))):c9 P ρ o L κ val' Φ' := by
  intro a ev w c next Q ha hL hk
  refine h a ev w c next Q ha hL fun y w' c' hs hF=>?_
  grind
def DC (Θ:Tb) (E:SE) (ex:Option Bool) (n:Nat) (t:TypeId) (l:Lf) (lo hi mx:Operand) (F:List AF) (k:Out→Option R):Option R:=match Θ t,ev E lo,ev E hi,ev E mx with
  | some ⟨.slice e,_,_,_,_⟩,some (.lf (.c (.int _) i)),some (.lf (.c (.int _) j)),some (.lf (.c (.int _) m))=>match Θ e,l with
    | some ie, .sl h=>match gw ie.tc e 0 F (.sl h) with
      | some (_,_,xs)=>bif Nat.beq ie.sz ie.tc.ty.sz&&bw n h then gchk ex (decide (0≤i∧i≤j∧j≤m∧m≤xs.length)) (k ⟨.lf (.sl n),[.prt n h ie.sz i j],[]⟩) else none
      | none=>none
    | _,_=>none
  | _,_,_,_=>none
theorem Uc {ρ:dm} {L:List HA} {lo hi:Operand} {kj km:IntKind} {m:Int} {ty:Ty} {K:List Nat} {xs:List ty.den} {hd:Hd}   (ho:o.op = .slice t x (some lo) (some hi) (some mx)) (ht:P.underlying t=some (.slice e)) (hti:TI P e sz by_ z)
    (hx:aR ρ x=hd.val) (hi' : aR ρ lo = .int ki i) (hj:aR ρ hi = .int kj j) (hm:aR ρ mx = .int km m) (hL : ∀ w c,am w c L→HA.holds w c (.rep ty K xs hd)) (hb:decide (0≤i∧i≤j∧j≤m∧m≤xs.length)=true) :
    c9 P ρ o L [] (fun y : { h:Hd // pX h hd sz i j }=>y.1.val) (fun _=>[]):=wH fun ev w c hev hF=>by
  obtain ⟨b0,b1,b2,b3⟩:=Yd hb
  obtain ⟨inf,hinf,_,hs',_⟩:=hti.get
  obtain ⟨ys,hys,hn,hle,hmx,hc⟩:=hL w c hF
  subst hev
  have c1:(Instr.sliceBound (aR ρ mx) hd.cap .slice3Acap).run P w = .ok m.toNat w:=by rw [hm]; exact nM (by omega) (by omega)
  have c2:(Instr.sliceBound (aR ρ hi) m.toNat .slice3B).run P w = .ok j.toNat w:=by rw [hj]; exact nM (by omega) (by omega)
  have c0:(Instr.sliceBound (aR ρ lo) j.toNat .slice3C).run P w = .ok i.toNat w:=by rw [hi']; exact nM b0 (by omega)
  have c3:(Instr.sliceBounds true hd.n hd.cap (some (aR ρ lo)) (some (aR ρ hi)) (some (aR ρ mx))).run P w = .ok (i.toNat,j.toNat,m.toNat) w:=by
    simp [Instr.sliceBounds,c0,c1,c2,Result.andThen]
  refine ⟨⟨⟨if m.toNat=i.toNat then hd.a else hd.a.map (·.add (i.toNat * inf.size)),j.toNat - i.toNat,m.toNat - i.toNat⟩,⟨b0,by grind,fun hlt=>?_⟩⟩,?_,am.nil _ _⟩
  · rcases hc with ⟨_,h0⟩ | ⟨b,off,arr,tt,fz,ha,hS,hbb,hfit,hcl⟩
    · omega
    · refine ⟨b,off+i.toNat * inf.size,?_,?_⟩
      · simp only
        rw [if_neg (by omega),ha]
        simp [fj]
      · simp [eQ,ha,hs']
  · have c4:(Instr.slice t hd.val (some (aR ρ lo)) (some (aR ρ hi)) (some (aR ρ mx))).run P w = .ok (⟨if m.toNat=i.toNat then hd.a else hd.a.map (·.add (i.toNat * inf.size)),j.toNat - i.toNat,m.toNat - i.toNat⟩:Hd).val w:=by
      simp [Instr.slice,run_underlying ht,c3,sizeOf,typeInfo,hinf,Result.andThen]
    simp [execOp,ho,hx,Instr.sliceAt,run_underlying ht,c4,Result.andThen]
theorem Rm (hΘ:Θ.ok P) {lo hi:Operand} {l:Lf} (ho:o.op = .slice t x (some lo) (some hi) (some mx)) (h1:ev E x=some (.lf l)) (k:Out→Option R):ao ex P o E F n (DC Θ E ex n t l lo hi mx F k) k:=by
  unfold DC
  split
  · rename_i e _ _ _ _ _ i _ j _ m ht hi' hj hm
    split
    · rename_i ie h he
      split
      · rename_i ci K xs hs
        refine ao.bif fun hc=>ao.gchk fun hb=>ao.of fun hx η ρ hE=>?_
        simp only [Wp] at hc
        have hx2:=aN hE h1
        simp only [AV.val,Lf.val] at hx2
        refine (Uc (o:=o) (ρ:=ρ) (L:=F.map (AF.ha η)) (K:=ci::K) (i:=i) (j:=j) (m:=m) ho (hΘ t _ ht).2.1 (hΘ e ie he).1 hx2 (aN hE hi') (aN hE hj) (aN hE hm) (fun w c hF=>Iqw (gb hs hF)) (hb hx)).weaken' (fun y=>⟨η.setH n y.1,η.setH_agr n y.1⟩) (fun y=>?_) fun y w c _=>?_
        · simp [AV.val,Lf.val,Vn.setH_at]
        · refine am.cons ?_ (am.nil _ _)
          simp only [AF.ha,Vn.setH_at,HA.holds]
          rw [(η.setH_agr n y.1 h hc.2).1]
          exact y.2
      · exact ao.none
    · exact ao.none
  · exact ao.none
def Kk {α:Type} (m:Nat) (d:α) (xs:List α):List α:=(List.range m).map fun q=>xs.getD q d
theorem B7 (s:SC) : ∀ {xs:List s.den} {ys:List Unit},xs.length=ys.length→cellsOf (TC.sc s).ty xs ys=xs.map s.val
  | [],_,_=>by simp [cellsOf]
  | x::xs,y::ys,h=>by
    have:=B7 s (xs:=xs) (ys:=ys) (by simpa using h)
    simp only [cellsOf,XH,this]
    rfl
  | _::_,[],h=>by simp at h
theorem Vt {ρ:dm} {L:List HA} {ci:Nat} {s:SC} {xs:List s.den}   (ho:o.op = .slice t x lo hi none) (ht:P.underlying t=some (.array m e)) (hti:TI P e 1 by_ z)
    (hx:aR ρ x = .pointer (some ⟨b,0,none⟩)) (hlo:(lo=none∧i=0)∨∃ x kk,lo=some x∧aR ρ x = .int kk i) (hhi:(hi=none∧j=m)∨∃ x kk,hi=some x∧aR ρ x = .int kk j)
    (hL : ∀ w c,am w c L→HA.holds w c (.box ci b ((TC.arr m s).ty.fill xs ()))) (hb:decide (0≤i∧i≤j∧j≤m)=true) (hm:Nat.ble m 16777216=true) :
    c9 P ρ o L [] (fun _:Unit=>(⟨some (if m=i.toNat then ⟨b,0,none⟩ else ⟨b,i.toNat,none⟩),j.toNat - i.toNat,m - i.toNat⟩:Hd).val)
      (fun _=>[.rep (TC.sc s).ty [ci] (((Kk m s.dft xs).take j.toNat).drop i.toNat) ⟨some (if m=i.toNat then ⟨b,0,none⟩ else ⟨b,i.toNat,none⟩),j.toNat - i.toNat,m - i.toNat⟩]):=wH fun ev w c hev hF=>by
  have hb' := Yd hb
  obtain ⟨b0,b1,b2⟩:=hb'
  have hm:=Wt hm
  obtain ⟨inf,hinf,_,hs',_⟩:=hti.get
  obtain ⟨⟨ty,hbb⟩,hc⟩:=hL w c hF
  have hlen:(((Kk m s.dft xs).take j.toNat).drop i.toNat).length=j.toNat - i.toNat:=by simp [Kk]; omega
  refine ⟨(),?_,am.cons ⟨List.replicate (j.toNat - i.toNat) (),?_,?_⟩ (am.nil _ _)⟩
  · subst hev
    have c3:=Ft (P:=P) (w:=w) (isS:=false) (len:=m) (cap:=m) hlo hhi ⟨b0,b1,b2⟩
    have key:(Instr.sliceAt t (.pointer (some ⟨b,0,none⟩)) (lo.map (aR ρ)) (hi.map (aR ρ)) none).run P w = .ok (.slice (some (if m=i.toNat then ⟨b,0,none⟩ else ⟨b,i.toNat,none⟩)) (j.toNat - i.toNat) (m - i.toNat)) w:=by
      simp [Instr.sliceAt,Instr.sureAddr,run_underlying ht,c3,sizeOf,typeInfo,hinf,hs',Result.andThen,fj]
    simp only [execOp,ho,hx,Option.map_none,key,Sem.run_bind,Result.andThen_ok,Sem.run_pure]
  · have gen : ∀ (l:List s.den) (q:Nat),l.length=q→cp (bT w (fun b=>c b∈[ci]) (TC.sc s).ty) l (List.replicate q ()):=by
      intro l
      induction l with
      | nil=>intro q hq; simp at hq; subst hq; trivial
      | cons a l ih=>
        intro q hq
        cases q with
        | zero=>simp at hq
        | succ q=>exact ⟨trivial,ih q (by simpa using hq)⟩
    grind
  · refine ⟨by rw [hlen],by simp; omega,by simp [maxLen]; omega,?_⟩
    by_cases hmi:m=i.toNat
    · grind
    · refine .inr ⟨b,i.toNat,_,ty,_,by simp [hmi],by simp [hc],hbb,?_,?_⟩
      · simp [Ty.fill,TC.ty,Ty.sz]; omega
      · rw [B7 s (by grind),hlen]
        simp only [TC.ty,Ty.sz,abQ,Ty.fill,Kk]
        rw [← List.map_take,List.take_drop]
        simp only [List.map_drop,List.map_take,afG]
        rw [show i.toNat+(j.toNat - i.toNat)=j.toNat by omega]
        rfl
def Dt (Θ:Tb) (E:SE) (ex:Option Bool) (n:Nat) (t:TypeId) (b:Nat) (lo hi:Option Operand) (F:List AF) (k:Out→Option R):Option R:=match Θ t,kZ b F with
  | some ⟨.arr m e,_,_,_,_⟩,some (ci,[.ar m' s xs])=>match Θ e,Ec E lo 0,Ec E hi m with
    | some ie,some i,some j=>bif Nat.beq m' m&&Nat.beq ie.sz 1&&Nat.ble m 16777216 then gchk ex (decide (0≤i∧i≤j∧j≤m)) (k ⟨.lf (.sl n),[.rep (.sc s) [ci] (((Kk m' s.dft xs).take j.toNat).drop i.toNat) n],[]⟩) else none
    | _,_,_=>none
  | _,_=>none
theorem PV (hΘ:Θ.ok P) (ho:o.op = .slice t x lo hi none) (h1:ev E x=some (.lf (.bp b 0))) (k:Out→Option R):ao ex P o E F n (Dt Θ E ex n t b lo hi F k) k:=by
  unfold Dt
  split
  · rename_i m e _ _ _ _ ci m' s xs ht hbx
    split
    · rename_i ie i j he hi' hj'
      refine ao.bif fun hc=>ao.gchk fun hb=>ao.of fun hx η ρ hE=>?_
      simp only [Wp] at hc
      obtain ⟨⟨hm,hsz⟩,hmx⟩:=hc
      obtain rfl:=Wo hm
      have hti:=(hΘ e ie he).1
      rw [Wo hsz] at hti
      refine (Vt (ci:=ci) (s:=s) (xs:=xs) ho (hΘ t _ ht).2.1 hti (aN hE h1) (zU hi' hE) (zU hj' hE) (fun w c hF=>?_) (hb hx) hmx).map (fun _=>⟨η.setH n ⟨some (if m' = i.toNat then ⟨η.b b,0,none⟩ else ⟨η.b b,i.toNat,none⟩),j.toNat - i.toNat,m' - i.toNat⟩,η.setH_agr n _⟩) (fun _=>?_) fun _=>?_
      · have:=xH hbx hF
        simpa [aw,Lf.cells] using this
      · simp [AV.val,Lf.val,Vn.setH_at]
      · simp [AF.ha,Vn.setH_at]
    · exact ao.none
  · exact ao.none
def xB (P:Program) (t:TypeId):Prop:=P.eqGuardType P.depth t=false∧P.stoodInHeld t=false∧(P.fieldsOf t).toList.all (fun f=>!(f.name == "_"))=true
def oU (Θ:Tb):List (TypeId×Nat)→List Lf→List Lf→Nat→Option Bool
  | [],[],[],_=>some true
  | (ft,off)::fs, .c s a::r, .c s' b::r',pos=>match Θ ft with
    | some i=>match i.d,s,s',a,b with
      | .int _, .int k, .int k',a,b=>if k' = k∧off=pos then (oU Θ fs r r' (pos+1)).map fun e=>(show Int from a)==(show Int from b)&&e else none
      | .bool, .bool, .bool,a,b=>if off=pos then (oU Θ fs r r' (pos+1)).map fun e=>(show Bool from a)==(show Bool from b)&&e else none
      | .str, .str, .str,a,b=>if off=pos then (oU Θ fs r r' (pos+1)).map fun e=>(show List UInt8 from a)==(show List UInt8 from b)&&e else none
      | _,_,_,_,_=>none
    | none=>none
  | _,_,_,_=>none
theorem wU (hΘ:Θ.ok P) {w:World} {η:Vn} {xs ys:Array Value} {d:Nat} : ∀ {fl:List Field} {fs:List (TypeId×Nat)} {r r' : List Lf} {pos:Nat} {e:Bool},fl.map (fun f=>(f.type,f.offset))=fs→fl.all (fun f=>!(f.name == "_"))=true→oU Θ fs r r' pos=some e →
    (∀ j,xs[pos+j]? = (aw η r)[j]?)→(∀ j,ys[pos+j]? = (aw η r')[j]?)→(Op.eqFields (d+1) xs ys fl).run P w = .ok e w
  | [],_,r,r',pos,e,hm,_,h,_,_=>by
    simp only [aaz] at hm
    subst hm
    cases r <;> cases r' <;> simp [oU] at h
    subst h
    rfl
  | f::fl,fs,r,r',pos,e,hm,hn,h,hx,hy=>by
    simp only [XH] at hm
    subst hm
    simp only [aas,Wp,YW,XT,ne_eq] at hn
    cases r with
    | nil=>simp [oU] at h
    | cons l r=>
      cases r' with
      | nil=>cases l <;> simp [oU] at h
      | cons l' r' =>
        cases l <;> cases l' <;> simp only [oU] at h <;> try cases h
        rename_i s a s' b
        split at h
        · rename_i i hi
          have hfit:=(hΘ f.type i hi).2.1
          have hx0:=hx 0
          have hy0:=hy 0
          have hxr : ∀ j,xs[pos+1+j]? = (aw η r)[j]? := fun j=>by
            have:=hx (j+1)
            rw [show pos+(j+1)=pos+1+j by omega] at this
            simpa [aw,Lf.cells] using this
          have hyr : ∀ j,ys[pos+1+j]? = (aw η r')[j]? := fun j=>by
            have:=hy (j+1)
            rw [show pos+(j+1)=pos+1+j by omega] at this
            simpa [aw,Lf.cells] using this
          simp only [Yk,aw,Lf.cells,Zr,aaR] at hx0 hy0
          cases hd:i.d <;> rw [hd] at h hfit <;> cases s <;> cases s' <;> simp only at h <;> try cases h
          · rename_i k k'
            split at h
            · rename_i hc
              obtain ⟨rfl,hoff⟩:=hc
              simp only [YX] at h
              obtain ⟨e',he,rfl⟩:=h
              have ih:=wU hΘ (d:=d) rfl hn.2 he hxr hyr (w:=w)
              have hfit:P.underlying f.type=some (.int _):=hfit
              have p1:(part f.type xs f.offset).run P w = .ok (.int k' a) w:=by simp [part,ng hfit rfl,hoff,hx0,Result.andThen]
              have p2:(part f.type ys f.offset).run P w = .ok (.int k' b) w:=by simp [part,ng hfit rfl,hoff,hy0,Result.andThen]
              have p3:=run_equalIn_int (P:=P) w d f.type k' _ a b hfit
              simp only [Op.eqFields,hn.1,ne_eq,agx,Xa,Sem.run_bind,p1,p2,p3,Result.andThen_ok]
              cases hab:((show Int from a)==(show Int from b))
              · simp_all
              grind
            · cases h
          · skip
            split at h
            · rename_i hoff
              simp only [YX] at h
              obtain ⟨e',he,rfl⟩:=h
              have ih:=wU hΘ (d:=d) rfl hn.2 he hxr hyr (w:=w)
              have hfit:P.underlying f.type=some .bool:=hfit
              have p1:(part f.type xs f.offset).run P w = .ok (.bool a) w:=by simp [part,ng hfit rfl,hoff,hx0,Result.andThen]
              have p2:(part f.type ys f.offset).run P w = .ok (.bool b) w:=by simp [part,ng hfit rfl,hoff,hy0,Result.andThen]
              have p3:=run_equalIn_bool' (P:=P) w d f.type a b hfit
              simp only [Op.eqFields,hn.1,ne_eq,agx,Xa,Sem.run_bind,p1,p2,p3,Result.andThen_ok]
              cases hab:((show Bool from a)==(show Bool from b))
              · simp_all
              grind
            · cases h
          · skip
            split at h
            · rename_i hoff
              simp only [YX] at h
              obtain ⟨e',he,rfl⟩:=h
              have ih:=wU hΘ (d:=d) rfl hn.2 he hxr hyr (w:=w)
              have hfit:P.underlying f.type=some .string:=hfit
              have p1:(part f.type xs f.offset).run P w = .ok (.string ⟨(show List UInt8 from a).toArray⟩) w:=by simp [part,ng hfit rfl,hoff,hx0,Result.andThen]
              have p2:(part f.type ys f.offset).run P w = .ok (.string ⟨(show List UInt8 from b).toArray⟩) w:=by simp [part,ng hfit rfl,hoff,hy0,Result.andThen]
              have p3:=run_equalIn_string (P:=P) w d f.type ⟨(show List UInt8 from a).toArray⟩ ⟨(show List UInt8 from b).toArray⟩ hfit
              simp only [Op.eqFields,hn.1,ne_eq,agx,Xa,Sem.run_bind,p1,p2,p3,Result.andThen_ok]
              have hl:((⟨(show List UInt8 from a).toArray⟩:ByteArray).toList==(⟨(show List UInt8 from b).toArray⟩:ByteArray).toList)=((show List UInt8 from a)==(show List UInt8 from b)):=by
                simp_all
              rw [hl]
              cases hab:((show List UInt8 from a)==(show List UInt8 from b))
              · simp_all
              grind
            · cases h
        · cases h
def TV (Θ:Tb) (Gq:TypeId→Bool) (op:BinOp) (t:TypeId) (a b:List Lf) (k:Out→Option R):Option R:=match Θ t with
  | some ⟨.st fs,_,_,_,_⟩=>bif Gq t then match oU Θ fs a b 0,op with
    | some e, .eql=>k (bC (eI e))
    | some e, .neq=>k (bC (eI (!e)))
    | _,_=>none
    else none
  | _=>none
theorem ZY (hΘ:Θ.ok P) {Gq:TypeId→Bool} (hG : ∀ t,Gq t=true→xB P t) {op:BinOp} {t':TypeId} {a b:List Lf} (ho:o.op = .binOp op t x y t') (h1:ev E x=some (.ag a)) (h2:ev E y=some (.ag b)) (k:Out→Option R) :
    ao ex P o E F n (TV Θ Gq op t a b k) k:=by
  unfold TV
  split
  · rename_i fs _ _ _ _ ht
    refine ao.bif fun hg=>?_
    obtain ⟨g1,g2,g3⟩:=hG t hg
    obtain ⟨Fd,hs,hm⟩:=(hΘ t _ ht).2.1
    have hf:P.fieldsOf t=Fd:=by simp [Program.fieldsOf,hs]
    have key : ∀ {e:Bool} {η:Vn} {w:World},oU Θ fs a b 0=some e→(Op.equalIn 10000 t (.agg (aw η a).toArray) (.agg (aw η b).toArray)).run P w = .ok e w:=by
      intro e η w he
      rw [run_equalIn_struct (P:=P) w 9999 t _ _ (by grind) g2,hf]
      rw [hf] at g3
      exact wU hΘ (η:=η) (d:=9998) hm g3 he (fun j=>by simp) (fun j=>by simp)
    split
    · rename_i e he
      refine ao.of fun _=>(dJ.pure fun η ρ hE ev w c hev _=>?_)
      have e1:=aN hE h1
      have e2:=aN hE h2
      subst hev
      simp only [AV.val] at e1 e2
      have hgd:(eqGuard .eql t x y (.agg (aw η a).toArray) (.agg (aw η b).toArray)).run P w = .ok () w:=run_eqGuard_agg w .eql t x y _ _ g1
      have hb:(binOp .eql t (.agg (aw η a).toArray) (.agg (aw η b).toArray)).run P w = .ok (.bool e) w:=by
        rw [run_eql_struct,key he]; rfl
      simp only [execOp,ho,e1,e2,Sem.run_bind,hgd,hb,Result.andThen_ok,Sem.run_pure,AV.val,Lf.val]
    · rename_i e he
      refine ao.of fun _=>(dJ.pure fun η ρ hE ev w c hev _=>?_)
      have e1:=aN hE h1
      have e2:=aN hE h2
      subst hev
      simp only [AV.val] at e1 e2
      have hgd:(eqGuard .neq t x y (.agg (aw η a).toArray) (.agg (aw η b).toArray)).run P w = .ok () w:=run_eqGuard_agg w .neq t x y _ _ g1
      have hb:(binOp .neq t (.agg (aw η a).toArray) (.agg (aw η b).toArray)).run P w = .ok (.bool (!e)) w:=by
        rw [run_neq_struct,key he]; rfl
      simp only [execOp,ho,e1,e2,Sem.run_bind,hgd,hb,Result.andThen_ok,Sem.run_pure,AV.val,Lf.val]
    · exact ao.none
  · exact ao.none
end
end
section
variable [X:XTab] [G:GTab]
section
variable {R:Type} {P:Program} {o:Oper} {E:SE} {F:List AF} {n:Nat} {Θ:Tb} {ex:Option Bool}
def Lb (Θ:Tb) (ex:Option Bool) (t:TypeId) (b off m:Nat) (s:SC) (j:Int) (F:List AF) (k:Out→Option R):Option R:=match Θ t,kZ b F with
 | some i,some (_,cs)=>match nq cs off with
  | some (_, .ar m' s' x::_)=>bif Nat.beq m m' && Nat.beq i.sz 1 && !i.d.agg then (if h:s' = s then gchk ex (decide (0≤j∧j<m')) (k (bC (.lf (.c s (List.getD (α:=s.den) (zs h x) j.toNat s.dft))))) else none) else none
  | _=>none
 | _,_=>none
theorem uj (m:Nat) (s:SC) (x:List s.den) {j:Nat} (h:j<m):((TC.arr m s).ty.fill x ())[j]? = some (s.val (List.getD (α:=s.den) x j s.dft)):=by
 simp [Ty.fill,h]
theorem V8 (hΘ:Θ.ok P) {off:Nat} {s:SC}  (ho:o.op = .load t x) (hx:ev E x=some (.lf (.bq b off m s j))) (k:Out→Option R):ao ex P o E F n (Lb Θ ex t b off m s j F k) k:=by
 unfold Lb
 split
 ·rename_i i ci cs hi hb
  split
  ·rename_i a m' s' xs r hc
   refine ao.bif fun hB=>?_
   simp only [Wp,YW] at hB
   obtain ⟨⟨hm,hsz⟩,hag⟩:=hB
   split
   ·rename_i h
    subst h
    refine ao.gchk fun hj=>ao.of fun hex=>(dJ.pure fun η ρ hE=>?_)
    have hj:=Yd (hj hex)
    obtain ⟨h1,h2,_,_⟩:=hΘ t i hi
    obtain ⟨td,ht,hd⟩:=nW h2
    rw [hag] at hd
    obtain ⟨q,hq⟩:=m9 (gc hb) η
    obtain ⟨e,hl⟩:=jY hc
    refine CI q hq ho ht hd (aN hE hx) ?_
    have hlen:=hl η
    rw [e,bd]
    rw [aaW (by omega),show off+j.toNat - (aw η a).length=j.toNat by omega]
    simp only [aw,Lf.cells]
    rw [aa5 (by rw [Ty.fill_length]; grind)]
    exact uj m' s' xs (by omega)
   ·exact ao.none
  ·exact ao.none
 ·exact ao.none
def DW (Θ:Tb) (ex:Option Bool) (t:TypeId) (b off m:Nat) (s:SC) (j:Int) (v:AV) (F:List AF) (k:Out→Option R):Option R:=match Θ t,kZ b F,v.lvs with
 | some i,some (ci,cs),some ls=>match nq cs off,bZ F (.sc s) ls with
  | some (a, .ar m' s' x::r),some (y,_,_,[])=>bif Nat.beq m m' && Nat.beq i.sz 1 then (if h:s' = s then gchk ex (decide (0≤j∧j<m')) (k ⟨.lf (.v undef),[.box ci b (a++(.ar m' s (pO m' s.dft (zs h x) j.toNat y)::r))],[ci]⟩) else none) else none
  | _,_=>none
 | _,_,_=>none
theorem ajs (m:Nat) (s:SC) (x:List s.den) (y:s.den) {j:Nat} (h:j<m) :
  ((TC.arr m s).ty.fill x ()).take j++[s.val y]++((TC.arr m s).ty.fill x ()).drop (j+1)=(TC.arr m s).ty.fill (pO m s.dft x j y) ():=by
 apply aac
 intro q
 have hl:((TC.arr m s).ty.fill x ()).length=m:=Ty.fill_length _ _ _
 have hr:((TC.arr m s).ty.fill (pO m s.dft x j y) ()).length=m:=Ty.fill_length _ _ _
 have htk:(((TC.arr m s).ty.fill x ()).take j).length=j:=by simp; omega
 rcases ahb q j with hq | hq | hq
 ·rw [Yi,aa5 (by omega),aew,if_pos hq,uj m s x (by omega),uj m s _ (by omega)]
  congr 2
  simp only [pO,XF,aa1,aeL (show q<m by omega)]
  grind
 ·subst hq
  rw [Yi,aaW (by omega),htk,ai7,uj m s _ h]
  simp [pO,XF,h]
 ·by_cases hqm:q<m
  ·rw [aaW (by simp; omega),uj m s _ hqm]
   rw [Wu,htk,Wr,ZT,show j+1+(q - (j+1))=q by omega,uj m s x hqm]
   congr 2
   simp only [pO,XF,aa1,aeL hqm]
   grind
  grind
theorem Qd (hΘ:Θ.ok P) {off:Nat} {s:SC}  {v:AV} (ho:o.op = .store t x y) (hx:ev E x=some (.lf (.bq b off m s j))) (hy:ev E y=some v) (k:Out→Option R):ao ex P o E F n (DW Θ ex t b off m s j v F k) k:=by
 unfold DW
 split
 ·rename_i i ci cs ls hi hb hls
  split
  ·rename_i a m' s' xs r z _ _ hc hd
   refine ao.bif fun hB=>?_
   simp only [Wp] at hB
   obtain ⟨hm,hsz⟩:=hB
   split
   ·rename_i h
    subst h
    refine ao.gchk fun hj=>ao.of fun hex η ρ hE=>?_
    have hj:=Yd (hj hex)
    obtain ⟨h1,_,_,_⟩:=hΘ t i hi
    rw [Wo hsz] at h1
    obtain ⟨q,hq⟩:=m9 (gc hb) η
    obtain ⟨e,hl⟩:=jY hc
    have hlen:=hl η
    have hcell:=NH hd η
    have hfl:((TC.arr m' s').ty.fill xs ()).length=m' := Ty.fill_length _ _ _
    refine (zz (cs' := aw η (a++(.ar m' s' (pO m' s'.dft xs j.toNat z)::r))) q hq ho h1 (aN hE hx) (aN hE hy) (v.lvs_cells hls η) (by simp_all) ?_ ?_ ?_).map (fun _=>⟨η,Vn.agr_refl n η⟩) (fun _=>rfl) (fun _=>rfl)
    ·grind
    ·rw [e,bd,hcell]
     refine Yb ?_
     simp only [aw,Lf.cells,Wu,hfl,Wr]
     omega
    ·rw [e,bd,bd,hcell]
     simp only [aw,Lf.cells,Wr]
     rw [← ajs m' s' xs z (by omega)]
     rw [Z9,Yr (by omega),show off+j.toNat - (aw η a).length=j.toNat by omega,Z9,show j.toNat - ((TC.arr m' s').ty.fill xs ()).length=0 by omega,aeO,
      XE,YB,X2 (as:=aw η a) (by omega),Yv,show off+j.toNat+1 - (aw η a).length=j.toNat+1 by omega,YB,
      show j.toNat+1 - ((TC.arr m' s').ty.fill xs ()).length=0 by omega,Z3]
     simp
   ·exact ao.none
  ·exact ao.none
 ·exact ao.none
end
end
section
variable [X:XTab] [G:GTab]
def acK (P:Program) (f:FuncId) (vs:List AV) (F:List AF) (n:Nat) (u:Out):Prop:=∀ (η:Vn) (w:World) (c:bD),am w c (F.map (AF.ha η)++ov) →
 Calls P f (AV.vals η vs).toArray w (fun e w' => ∃ (y : { η' : Vn // η.agr n η' }) (c' : bD),e = .returned (u.av.val y.1)∧Stp u.κ w c w' c' ∧ am w' c' (u.fs.map (AF.ha y.1)))
structure Inl where
 rw_:Bool
 run : {R:Type}→(ex:Option Bool)→(n N:Nat)→List AV→List AF→(Out→Option R)→Option R
def Inl.sound (P:Program) (f:FuncId) (J:Inl):Prop:=
 (∃ fn cd,P.funcs[f]? = some fn∧fn.body=some cd∧(fn.name == "runtime.NumGoroutine")=false) ∧
 ∀ {R:Type} (ex:Option Bool) (n N:Nat) (vs:List AV) (F:List AF) (k:Out→Option R) (r:R),J.run ex n N vs F k=some r→∃ u,k u=some r∧(gi ex→acK P f vs F n u)
abbrev It:=FuncId→Option Inl
def It.ok (I:It) (P:Program):Prop:=∀ f J,I f=some J→J.sound P f
section
variable {R:Type} {P:Program} {o:Oper} {E:SE} {F:List AF} {n:Nat} {ex:Option Bool}
theorem afY {J:Inl} {f:FuncId} (hJ:J.sound P f) {x0:Operand} {xs:Array Operand} {ts:Array TypeId} {vs:List AV} (ho:o.op = .call { callee:=.value x0,args:=xs,argTypes:=ts }) (h0:ev E x0=some (.lf (.fn f))) (hvs:AE E xs.toList=some vs) (k:Out→Option R) :
  ao ex P o E F n (J.run ex n N vs F k) k:=by
 intro r hr
 obtain ⟨⟨fn,cd,hf,hb,hname⟩,hs⟩:=hJ
 obtain ⟨u,hu,hx⟩:=hs ex n N vs F k r hr
 refine ⟨u,hu,fun he η ρ hE a ev w c next Q ha hL hk=>?_⟩
 have hn' : ¬ fn.name = "runtime.NumGoroutine" := by grind
 have hargs:xs.map (aR ρ)=(AV.vals η vs).toArray:=akY (by simp [Ks hE hvs])
 have hcv:aR ρ x0 = .func (.func f) #[] #[]:=aN hE h0
 have hrun:(execOp ev o).run P w = .ok (.enter f (AV.vals η vs).toArray) w:=by
  simp [execOp,ho,resolve,ha,hcv,Deferred.ofValue,invoke,callFunc,hf,hb,hn',hargs,Result.andThen]
 rw [hrun,Oper.upon_enter]
 refine (hx he η w c hL).mono ?_
 rintro e w' ⟨y,c',rfl,hst,hH⟩
 grind
def KI (I:It) (Γ:Ct) (D:List DCtr) (E:SE) (ex:Option Bool) (n N:Nat) (v0:AV) (xs:List Operand) (F:List AF) (k:Out→Option R):Option R:=match v0 with
 | .lf (.fn f)=>match I f with
  | some J=>match AE E xs with
   | some vs=>J.run ex n N vs F k
   | none=>none
  | none=>Hu Γ D E ex n N v0 xs F k
 | v0=>Hu Γ D E ex n N v0 xs F k
theorem VM {I:It} (hI:I.ok P) {Γ:Ct} (hΓ:Γ.ok P) {D:List DCtr} (hD : ∀ C∈D,DCtr.sound P C) {v0:AV} {x0:Operand} {xs:Array Operand} {ts:Array TypeId} (ho:o.op = .call { callee:=.value x0,args:=xs,argTypes:=ts }) (h0:ev E x0=some v0) (k:Out→Option R) :
  ao ex P o E F n (KI I Γ D E ex n N v0 xs.toList F k) k:=by
 unfold KI
 split
 ·rename_i f
  split
  ·rename_i J hJ
   split
   ·rename_i vs hvs
    exact afY (hI f J hJ) ho h0 hvs k
   ·exact ao.none
  ·exact K7 hΓ hD ho h0 k
 ·exact K7 hΓ hD ho h0 k
end
end
end Go.Sm
