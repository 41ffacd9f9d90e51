/- Laws for the row. No condition. -/
import Derived.Laws.IdiomStrings
import Derived.Test.YtfhhiajfciblbaaGreatDoorRfH
import Derived.Laws.StructEq
namespace Go.Sm
set_option linter.unusedSectionVars false
variable {x y mx:Operand} {t e s d:TypeId} {i j:Int} {g b m by_ sz:Nat} {ki:IntKind} {z:Value} {lo hi:Option Operand} {w:World}
section
variable [X:XTab] [G:GTab]
section
variable {R:Type} {P:Program} {o:Oper} {E:SE} {F:List AF} {n:Nat} {Θ:Tb} {ex:Option Bool}
def ZK (v:AV) (k:Out→Option R):Option R:=match v with
  | .lf (.bp b off)=>k (br (.lf (.bp b off)))
  | .lf (.rp h t i u p)=>k (br (.lf (.rp h t i u p)))
  | .lf (.gp g t i u p)=>k (br (.lf (.gp g t i u p)))
  | .lf (.fn f)=>k (br (.lf (.fn f)))
  | .lf (.clo f b)=>k (br (.lf (.clo f b)))
  | .lf (.c .fnc f)=>k (br (.lf (.c .fnc f)))
  | _=>none
theorem ae9 {v:AV} (ho:o.op = .nilCheck x) (hv:ev E x=some v) (k:Out→Option R):ao ex P o E F n (ZK v k) k:=by
  unfold ZK
  split
  all_goals first
    | exact ao.none
    | (refine ao.of fun _=>(dw.pure fun η ρ hE ev w c he _=>?_)
       have h:=aM hE hv
       subst he
       simp only [AV.val,Lf.val] at h ⊢
       simp only [execOp,ho,h]; rfl)
def RC (E:SE) (fn:Fn) (first cap:List Operand) (k:Out→Option R):Option R:=match fn,first,cap with
  | .func f,[],[]=>k (br (.lf (.fn f)))
  | .func f,[],[x]=>match ev E x with
    | some (.lf (.bp b 0))=>k (br (.lf (.clo f b)))
    | _=>none
  | _,_,_=>none
theorem Wx {fn:Fn} {first cap:Array Operand} (ho:o.op = .makeFunc fn first cap) (k:Out→Option R):ao ex P o E F n (RC E fn first.toList cap.toList k) k:=by
  unfold RC
  split
  · rename_i f h1 h2
    refine ao.of fun _=>(dw.pure fun η ρ hE ev w c he _=>?_)
    have e1:first = #[]:=by simpa using h1
    have e2:cap = #[]:=by simpa using h2
    subst he e1 e2
    simp [execOp,ho,Instr.makeFunc,AV.val,Lf.val,Result.andThen]
  · rename_i f x h1 h2
    split
    · rename_i b hv
      refine ao.of fun _=>(dw.pure fun η ρ hE ev w c he _=>?_)
      have e1:first = #[]:=by simpa using h1
      have e2:cap = #[x]:=by apply aev; simpa using h2
      have h:=aM hE hv
      subst he e1 e2
      simp [execOp,ho,h,Instr.makeFunc,AV.val,Lf.val,Result.andThen]
    · exact ao.none
  · exact ao.none
def D3 (g:Nat) (t:TC):List GEnt→Option (List t.den)
  | []=>none
  | e::r=>bif Nat.beq g e.g then (if h:e.t=t then (bif e.t.ty.pureB then some (BV h e.xs) else none) else none) else D3 g t r
theorem C3 {g:Nat} {t:TC} : ∀ {l:List GEnt} {xs:List t.den},D3 g t l=some xs→(⟨g,t,xs⟩:GEnt)∈l∧t.ty.pureB=true
  | [],_,h=>by simp [D3] at h
  | e::r,xs,h=>by
    simp only [D3] at h
    cases hb:Nat.beq g e.g
    · rw [hb] at h; exact ⟨Vi _ (C3 h).1,(C3 h).2⟩
    · rw [hb] at h
      simp only [f9] at h
      split at h
      · rename_i he
        cases hp:e.t.ty.pureB
        · rw [hp] at h; cases h
        rw [hp] at h
        obtain ⟨eg,et,exs⟩:=e
        simp only at he hb
        subst he
        simp only [f9,Va] at h
        subst h
        rw [Vb hb]
        exact ⟨VU,hp⟩
      · cases h
abbrev Mw (g n:Nat):Hd:=⟨some ⟨g,0,none⟩,n,n⟩
theorem zU {w:World} {S:Nat→Prop} {t:TC} (hp:t.ty.pureB=true) : ∀ xs:List t.den,bX (bM w S t.ty) xs (List.replicate xs.length t.ref0)
  | []=>trivial
  | x::xs=>by
    rw [Ws,adl]
    exact ⟨bM.pure t.ty x t.ref0 hp,zU hp xs⟩
theorem TZ {t:TC} {xs:List t.den} (h:D3 g t G.gl=some xs)  {c:bu} {L:List HA} (hH:am w c (L++nR)):HA.holds w c (.rep t.ty [0,1] xs (Mw g xs.length)):=by
  obtain ⟨hm,hp⟩:=C3 h
  obtain ⟨⟨ty,fz,hb⟩,hc,hn⟩:=hH _ (WQ _ (VO.2 ⟨_,hm,rfl⟩))
  have hl:(cellsOf t.ty xs (List.replicate xs.length t.ref0)).length=xs.length * t.ty.sz:=cx t.ty (by simp)
  refine ⟨List.replicate xs.length t.ref0,zU hp xs,rfl,Wb _,hn, .inr ⟨g,0,_,ty,fz,rfl,?_,hb,?_,?_⟩⟩
  · show c g∈([0,1]:List Nat)
    have hc:c g≤1:=hc
    rcases (show c g=0∨c g=1 by omega) with e | e <;> rw [e] <;> simp
  · show 0+xs.length * t.ty.sz≤_
    simp [hl]
  · show ((cellsOf t.ty xs (List.replicate xs.length t.ref0)).drop 0).take (xs.length * t.ty.sz)=_
    rw [Yw,WF (by omega)]
def Pd (Θ:Tb) (ex:Option Bool) (t:TypeId) (g:Nat) (i:Int) (k:Out→Option R):Option R:=match Θ t with
  | some ⟨.arr m e,_,_,_,_⟩=>match Θ e with
    | some ie=>bif Nat.beq ie.sz ie.tc.ty.sz then gchk ex (decide (0≤i∧i<m)) (k (br (.lf (.gp g ie.tc i ie.tc .here)))) else none
    | none=>none
  | _=>none
theorem adV {ρ:db} {L:List HA} {ix:Operand}    {o':Nat}   (ho:o.op = .indexAddr t x ix) (ht:P.underlying t=some (.array m e)) (hi:TI P e sz by_ z)
    (hx:aQ ρ x = .pointer (some ⟨b,o',none⟩)) (hix:aQ ρ ix = .int ki i) (h0:decide (0≤i∧i<m)=true):bi P ρ o L (.pointer (some ⟨b,o' + i.toNat * sz,none⟩)):=fun ev w c he hL=>by
  subst he
  have htihi:=hi; clear hi
  obtain ⟨inf,hi,_,hs,_⟩:=htihi.get
  have hi0:0≤i∧i<m:=Xg h0
  simp [execOp,ho,hx,hix,Instr.indexAt,Instr.sureAddr,asIntOf,run_underlying ht,sizeOf,typeInfo,hi,hs,hi0,eP,Result.andThen]
theorem Xs (hΘ:Θ.ok P) {ix:Operand}   (ho:o.op = .indexAddr t (.global g) ix) (h2:ev E ix=some (ge ki i)) (k:Out→Option R) :
    ao ex P o E F n (Pd Θ ex t g i k) k:=by
  unfold Pd
  split
  · rename_i m e _ _ _ _ ht
    split
    · rename_i ie he
      refine ao.bif fun hsz=>ao.gchk fun hb=>ao.of fun hx=>(dw.pure fun η ρ hE=>?_)
      have:=adV (o:=o) (ρ:=ρ) (L:=F.map (AF.ha η)) ho (hΘ t _ ht).2.1 (hΘ e ie he).1 (rfl:aQ ρ (.global g) = .pointer (some ⟨g,0,none⟩)) (aM hE h2) (hb hx)
      simp only [AV.val,Lf.val,Pa.off,W4]
      rw [YK,Vb hsz] at this
      exact this
    · exact ao.none
  · exact ao.none
def IJ (Θ:Tb) (ex:Option Bool) (n:Nat) (t:TypeId) (g:Nat) (te:TC) (i:Int) (u:TC) (p:Pa te u) (k:Out→Option R):Option R:=match Θ t,D3 g te G.gl with
  | some inf,some xs=>bif Nat.beq inf.sz u.ty.sz&&Nat.ble u.nh 64&&(inf.d.agg==u.aggT) && !u.isMp then nchk ex p.needs (gbind ex te.dft (ac xs i) fun x=>k ⟨qJ u (p.get x) n,sK u (p.get x) [0,1] n,[]⟩) else none
  | _,_=>none
theorem adm {η:Vn} {te:TC} {xs:List te.den} (hs:D3 g te G.gl=some xs)  {v:te.den} (hv:ac xs i=some v):El (F.map (AF.ha η)++nR) te.ty [0,1] v (Mw g xs.length) (i.toNat * te.ty.sz):=fun w c hH=>
  IM (L:=.rep te.ty [0,1] xs (Mw g xs.length)::(F.map (AF.ha η)++nR)) 0 rfl rfl hv w c (am.cons (TZ hs hH) hH)
theorem afe (g n x:Nat):eu (Mw g n) x=⟨g,x,none⟩:=by simp [eu,Mw]
theorem T1 (hΘ:Θ.ok P) {te:TC}  {u:TC} {p:Pa te u} (ho:o.op = .load t x) (h1:ev E x=some (.lf (.gp g te i u p))) (k:Out→Option R) :
    ao ex P o E F n (IJ Θ ex n t g te i u p k) k:=by
  unfold IJ
  split
  · rename_i inf xs hi hs
    refine ao.bif fun hc=>ao.nchk fun hf=>ao.gbind fun v hv=>ao.ofG fun hx η ρ hE=>?_
    simp only [Vf,aag,X8] at hc
    obtain ⟨⟨⟨hsz,hnh⟩,hag⟩,hmp⟩:=hc
    have hsz:=Vb hsz
    have hnh:=Vg hnh
    obtain ⟨g1,g2,_,_⟩:=hΘ t inf hi
    obtain ⟨td,ht,hd⟩:=mN g2
    rw [hag] at hd
    have hE' := zg p (adm (F:=F) (η:=η) hs (hv hx)) (hf hx)
    have hp:aQ ρ x = .pointer (some (eu (Mw g xs.length) (i.toNat * te.ty.sz+p.off))):=by rw [afe]; exact aM hE h1
    cases u with
    | sc sk=>exact (bi.op (uI hE' ho ht hd hp)).map (fun _=>⟨η,Vn.agr_refl n η⟩) (fun _=>rfl) (fun _=>rfl)
    | ext m=>exact (bi.op (uI hE' ho ht hd hp)).map (fun _=>⟨η,Vn.agr_refl n η⟩) (fun _=>rfl) (fun _=>rfl)
    | slice t' =>
      refine (xm hE' ho ht hd hp).map (fun hh=>⟨η.setH n hh,η.setH_agr n hh⟩) (fun hh=>?_) fun hh=>?_
      · simp [qJ,AV.val,Lf.val,Vn.setH_at]
      · simp [sK,AF.ha,Vn.setH_at]
    | arr m sk=>
      refine (eG hE' ho ht hd g1 hsz hp).map (fun y=>⟨η.set n (cB _ y),Vn.set_agr (by rw [da]; exact hnh)⟩) (fun y=>?_) fun y=>?_
      · exact (mz (u:=.arr m sk) rfl dz.set).symm
      · exact (mB (.arr m sk) _ y n dz.set).symm
    | unit=>
      refine (eG hE' ho ht hd g1 hsz hp).map (fun y=>⟨η.set n (cB _ y),Vn.set_agr (by rw [da]; exact hnh)⟩) (fun y=>?_) fun y=>?_
      · exact (mz (u:=.unit) rfl dz.set).symm
      · exact (mB .unit _ y n dz.set).symm
    | st a=>
      refine (eG hE' ho ht hd g1 hsz hp).map (fun y=>⟨η.set n (cB a y),Vn.set_agr (by rw [da]; exact hnh)⟩) (fun y=>?_) fun y=>?_
      · exact (mz (u:=.st a) rfl (dz.set (l:=cB a y))).symm
      · exact (mB a _ y n dz.set).symm
    | pair a b=>
      refine (eG hE' ho ht hd g1 hsz hp).map (fun y=>⟨η.set n (cB _ y),Vn.set_agr (by rw [da]; exact hnh)⟩) (fun y=>?_) fun y=>?_
      · exact (mz (u:=.pair a b) rfl dz.set).symm
      · exact (mB (.pair a b) _ y n dz.set).symm
    | node=>
      refine (eG hE' ho ht hd g1 hsz hp).map (fun y=>⟨η.set n (cB .node y),Vn.set_agr (by rw [da]; exact hnh)⟩) (fun y=>?_) fun y=>?_
      · exact (mz (u:=.node) rfl (dz.set (l:=cB .node y))).symm
      · exact (mB .node _ y n dz.set).symm
    | mp _ _=>cases hmp
  · exact ao.none
theorem nV:(t:Ty)→t.pureB=true→(x:t.den)→(y y' : t.Refs)→t.fill x y=t.fill x y'
  | .one _ _ _,_,_,_,_=>rfl
  | .arr _ _ _ _ _,_,_,_,_=>rfl
  | .unit,_,_,_,_=>rfl
  | .pair a b,h,x,y,y' => by
    simp only [Ty.pureB,Vf] at h
    simp only [Ty.fill]
    rw [nV a h.1 x.1 y.1 y'.1,nV b h.2 x.2 y.2 y'.2]
  | .slice _,h,_,_,_=>by cases h
  | .node,h,_,_,_=>by cases h
  | .mp _ _,h,_,_,_=>by cases h
theorem xY (t:Ty) (h:t.pureB=true) : ∀ {xs:List t.den} {ys ys' : List t.Refs},xs.length=ys.length→xs.length=ys'.length→cellsOf t xs ys=cellsOf t xs ys'
  | [],_,_,_,_=>by simp [cellsOf]
  | x::xs,y::ys,y' :: ys',h1,h2=>by
    simp only [cellsOf]
    rw [nV t h x y y',xY t h (by simpa using h1) (by simpa using h2)]
  | _::_,[],_,h1,_=>by simp at h1
  | _::_,_::_,[],_,h2=>by simp at h2
def HG (Θ:Tb) (t:TypeId) (g:Nat) (k:Out→Option R):Option R:=match Θ t with
  | some ⟨.arr _ e,sz,_,_,_⟩=>match Θ e with
    | some ie=>match D3 g ie.tc G.gl with
      | some xs=>bif Nat.ble 1 xs.length&&ie.tc.ty.pureB&&Nat.beq sz (xs.length * ie.tc.ty.sz) then k (br (.lf (.ars ie.tc xs))) else none
      | none=>none
    | none=>none
  | _=>none
theorem Ta (hΘ:Θ.ok P) (ho:o.op = .load t (.global g)) (k:Out→Option R):ao ex P o E F n (HG Θ t g k) k:=by
  unfold HG
  split
  · rename_i m e sz by_ zl tc ht
    split
    · rename_i ie he
      split
      · rename_i xs hs
        refine ao.bif fun hc=>ao.ofG fun hx η ρ hE=>?_
        simp only [Vf] at hc
        obtain ⟨⟨hm,hp⟩,hsz⟩:=hc
        have hsz:=Vb hsz
        obtain ⟨g1,g2,_,_⟩:=hΘ t _ ht
        obtain ⟨inf,hi,_,hs',_⟩:=g1.get
        refine (bi.op (v:=(AV.lf (.ars ie.tc xs)).val η) fun ev w c hev hH=>?_).map (fun _=>⟨η,Vn.agr_refl n η⟩) (fun _=>rfl) (fun _=>rfl)
        subst hev
        obtain ⟨ys,hys,hn,_,_,hcs⟩:=TZ hs hH
        have hfin : ∀ {b off:Nat} {arr:Array Value} {ty:TypeId} {fz:Nat×Nat},some (⟨g,0,none⟩:Addr)=some ⟨b,off,none⟩→w.heap[b]? = some (.cells arr ty fz)→(arr.toList.drop off).take (xs.length * ie.tc.ty.sz)=cellsOf ie.tc.ty xs ys →
            (execOp (aQ ρ) o).run P w = .ok (.value ((AV.lf (.ars ie.tc xs)).val η)) w:=by
          intro b off arr ty fz ha hb hcl
          simp only [Va,Addr.mk.injEq,ajq] at ha
          obtain ⟨rfl,rfl⟩:=ha
          have hlen:(cellsOf ie.tc.ty xs ys).length=inf.size:=by
            rw [cx _ hys.length,hs',hsz]
          have hl:=u6 (P:=P) (w:=w) (t:=t) g2 rfl hi hb (cs:=cellsOf ie.tc.ty xs ys) (by rw [hs',hsz]; exact hcl) hlen
          have e1:cellsOf ie.tc.ty xs ys=cellsOf ie.tc.ty xs (List.replicate xs.length ie.tc.ref0):=xY _ hp hys.length (by simp)
          simp only [execOp,ho,aQ,hl,AV.val,Lf.val,← e1,Sem.run_bind,Result.andThen_ok,Sem.run_pure]
        rcases hcs with ⟨_,h0⟩ | ⟨b,off,arr,ty,fz,ha,_,hb,_,hcl⟩
        · have:=Vg hm
          simp only at h0
          omega
        · exact hfin ha hb hcl
      · exact ao.none
    · exact ao.none
  · exact ao.none
theorem vQ:(t:TC)→t.ty.pureB=true→t.nh=0
  | .sc _,_=>rfl
  | .arr _ _,_=>rfl
  | .unit,_=>rfl
  | .pair a b,h=>by
    simp only [TC.ty,Ty.pureB,Vf] at h
    simp only [TC.nh,vQ a h.1,vQ b h.2]
  | .slice _,h=>by cases h
  | .st a,h=>vQ a h
  | .ext _,_=>rfl
def CM (Θ:Tb) (ex:Option Bool) (t:TypeId) (te:TC) (xs:List te.den) (i:Int) (k:Out→Option R):Option R:=match Θ t with
  | some ⟨.arr m e,_,_,_,_⟩=>match Θ e with
    | some ie=>bif Nat.beq xs.length m&&Nat.beq ie.sz te.ty.sz&&ie.d.agg&&te.ty.pureB&&te.aggT then gbind ex te.dft (ac xs i) fun x=>k (br (qJ te x 0)) else none
    | none=>none
  | _=>none
theorem Pv (hΘ:Θ.ok P) {te:TC} {xs:List te.den} (ho:o.op = .index t x y) (h1:ev E x=some (.lf (.ars te xs))) (h2:ev E y=some (ge ki i)) (k:Out→Option R) :
    ao ex P o E F n (CM Θ ex t te xs i k) k:=by
  unfold CM
  split
  · rename_i m e _ _ _ _ ht
    split
    · rename_i ie he
      refine ao.bif fun hc=>ao.gbind fun v hv=>ao.of fun hx=>(dw.pure fun η ρ hE ev w c hev _=>?_)
      simp only [Vf] at hc
      obtain ⟨⟨⟨⟨hm,hsz⟩,hag⟩,hp⟩,hta⟩:=hc
      obtain rfl:=Vb hm
      have hsz:=Vb hsz
      obtain ⟨g1,g2,_,_⟩:=hΘ e ie he
      obtain ⟨td,htd,hd⟩:=mN g2
      rw [hag] at hd
      obtain ⟨inf,hi,_,hs',_⟩:=g1.get
      have e1:=aM hE h1
      have e2:=aM hE h2
      subst hev
      obtain ⟨h0,hg,hlt⟩:=nj (hv hx)
      have hcell:=rF te.ty (ys:=List.replicate xs.length te.ref0) (i:=i.toNat) (x:=v) (y:=te.ref0) hg (by rw [aer,if_pos hlt])
      have hval:(qJ te v 0).val η = .agg (te.ty.fill v te.ref0).toArray:=mz hta (fun j h hj=>by
        have:=(VN.1 hj).1
        rw [da,vQ te hp] at this
        omega)
      rw [hval]
      simp only [AV.val,Lf.val] at e1 e2
      have hi0:0≤i∧i<(xs.length:Int):=⟨h0,by omega⟩
      simp [execOp,ho,e1,e2,Instr.index,asIntOf,run_underlying (hΘ t _ ht).2.1,hi0,sizeOf,typeInfo,hi,hs',hsz,part,wP htd hd,Result.andThen]
      exact hcell
    · exact ao.none
  · exact ao.none
def AN (h:Nat):List AF→Option Bool
  | []=>none
  | .isn h' b::r=>bif Nat.beq h h' then some b else AN h r
  | _::r=>AN h r
theorem lR {h:Nat} : ∀ {F:List AF} {b:Bool},AN h F=some b→.isn h b∈F
  | [],_,hh=>by simp [AN] at hh
  | .isn h' b' :: r,b,hh=>by
    simp only [AN] at hh
    cases hb:Nat.beq h h'
    · rw [hb] at hh; exact Vi _ (lR hh)
    · rw [hb] at hh
      simp only [f9,Va] at hh
      subst hh
      rw [Vb hb]
      exact VU
  | .rep _ _ _ _::r,_,hh=>Vi _ (lR (F:=r) hh)
  | .own _ _ _ _ _ _::r,_,hh=>Vi _ (lR (F:=r) hh)
  | .box _ _ _::r,_,hh=>Vi _ (lR (F:=r) hh)
  | .prt _ _ _ _ _::r,_,hh=>Vi _ (lR (F:=r) hh)
  | .hol _ _ _ _ _ _ _::r,_,hh=>Vi _ (lR (F:=r) hh)
  | .mp _ _ _ _ _::r,_,hh=>Vi _ (lR (F:=r) hh)
  | .pt _ _ _ _ _ _ _::r,_,hh=>Vi _ (lR (F:=r) hh)
def Qb (Θ:Tb) (op:BinOp) (t:TypeId) (l:Lf) (F:List AF) (k:Out→Option R):Option R:=match Θ t,op,l with
  | some ⟨.slice _,_,_,_,_⟩, .eql, .sl h=>match AN h F with
    | some b=>k (br (d5 b))
    | none=>none
  | some ⟨.slice _,_,_,_,_⟩, .neq, .sl h=>match AN h F with
    | some b=>k (br (d5 (!b)))
    | none=>none
  | some ⟨.slice _,_,_,_,_⟩, .eql, .nl=>k (br (d5 true))
  | some ⟨.slice _,_,_,_,_⟩, .neq, .nl=>k (br (d5 false))
  | _,_,_=>none
theorem bi.of {ρ:db} {L:List HA} {v v' : Value} (p:Prop) (h : ∀ w c,am w c L→p) (hp:p→v=v') (hv:bi P ρ o L v):bi P ρ o L v' := fun ev w c he hL=>by
  rw [← hp (h w c hL)]; exact hv ev w c he hL
theorem X1 (hΘ:Θ.ok P) {op:BinOp} {t':TypeId} {l:Lf} (ho:o.op = .binOp op t x y t') (h1:ev E x=some (.lf l)) (h2:ev E y=some (.lf .nl)) (k:Out→Option R):ao ex P o E F n (Qb Θ op t l F k) k:=by
  unfold Qb
  split
  · rename_i ht
    split
    · rename_i b hb
      refine ao.of fun _=>(dw.pure fun η ρ hE=>?_)
      exact bi.of _ (fun w c hH=>hH _ (VO.2 ⟨_,lR hb,rfl⟩)) (fun hp=>by rw [← show (η.h _).isNil=b from hp]; rfl) (M9 ho (hΘ t _ ht).2.1 (aM hE h1) (aM hE h2))
    · exact ao.none
  · rename_i ht
    split
    · rename_i b hb
      refine ao.of fun _=>(dw.pure fun η ρ hE=>?_)
      exact bi.of _ (fun w c hH=>hH _ (VO.2 ⟨_,lR hb,rfl⟩)) (fun hp=>by rw [← show (η.h _).isNil=b from hp]; rfl) (K5 ho (hΘ t _ ht).2.1 (aM hE h1) (aM hE h2))
    · exact ao.none
  · rename_i ht
    exact ao.of fun _=>(dw.pure fun η ρ hE=>M9 (h:=eD) ho (hΘ t _ ht).2.1 (aM hE h1) (aM hE h2))
  · rename_i ht
    exact ao.of fun _=>(dw.pure fun η ρ hE=>K5 (h:=eD) ho (hΘ t _ ht).2.1 (aM hE h1) (aM hE h2))
  · exact ao.none
def Dd (E:SE) (q:Option Operand) (d:Int):Option Int:=match q with
  | none=>some d
  | some q=>match ev E q with
    | some (.lf (.c (.int _) i))=>some i
    | _=>none
theorem zu {q:Option Operand} {d:Int} (h:Dd E q d=some i) {η:Vn} {ρ:db} (hE:mL η ρ E):(q=none∧i=d)∨∃ x kk,q=some x∧aQ ρ x = .int kk i:=by
  unfold Dd at h
  split at h
  · simp only [Va] at h; exact .inl ⟨rfl,h.symm⟩
  · split at h
    · rename_i x _ kk j hv
      simp only [Va] at h
      subst h
      exact .inr ⟨x,kk,rfl,aM hE hv⟩
    · cases h
theorem Ef {ρ:db} {isS:Bool} {len cap:Nat}   (hlo:(lo=none∧i=0)∨∃ x kk,lo=some x∧aQ ρ x = .int kk i) (hhi:(hi=none∧j=len)∨∃ x kk,hi=some x∧aQ ρ x = .int kk j)
    (hb:0≤i∧i≤j∧j≤cap):(Instr.sliceBounds isS len cap (lo.map (aQ ρ)) (hi.map (aQ ρ)) none).run P w = .ok (i.toNat,j.toNat,cap) w:=by
  obtain ⟨h0,h1,h2⟩:=hb
  have b1 : ∀ x kk code,aQ ρ x = .int kk j→(Instr.sliceBound (aQ ρ x) cap code).run P w = .ok j.toNat w:=fun x kk code hx=>by rw [hx]; exact mH (by omega) h2
  have b2 : ∀ x kk code,aQ ρ x = .int kk i→(Instr.sliceBound (aQ ρ x) j.toNat code).run P w = .ok i.toNat w:=fun x kk code hx=>by rw [hx]; exact mH h0 (by omega)
  rcases hhi with ⟨rfl,rfl⟩ | ⟨x,kk,rfl,hx⟩ <;> rcases hlo with ⟨rfl,rfl⟩ | ⟨y,kk',rfl,hy⟩
  · simp [Instr.sliceBounds]
  · have:=b2 y kk' .sliceB hy
    simp only [VY] at this
    simp [Instr.sliceBounds,this,Result.andThen]
  · cases isS <;> simp [Instr.sliceBounds,b1 x kk _ hx,Result.andThen]
  · cases isS <;> simp [Instr.sliceBounds,b1 x kk _ hx,b2 y kk' _ hy,Result.andThen]
def CF (Θ:Tb) (E:SE) (ex:Option Bool) (t:TypeId) (s:List UInt8) (lo hi:Option Operand) (k:Out→Option R):Option R:=match Θ t,Dd E lo 0,Dd E hi s.length with
  | some ⟨.str,_,_,_,_⟩,some i,some j=>gchk ex (decide (0≤i∧i≤j∧j≤s.length)) (k (br (wE ((s.take j.toNat).drop i.toNat))))
  | _,_,_=>none
theorem OC (hΘ:Θ.ok P) {s:List UInt8}  (ho:o.op = .slice t x lo hi none) (h1:ev E x=some (wE s)) (k:Out→Option R):ao ex P o E F n (CF Θ E ex t s lo hi k) k:=by
  unfold CF
  split
  · rename_i i j ht hbi hbj
    refine ao.gchk fun hb=>ao.of fun hx=>(dw.pure fun η ρ hE ev w c he _=>?_)
    have hb:=Xg (hb hx)
    have hx:=aM hE h1
    subst he
    have hbd:=Ef (P:=P) (w:=w) (isS:=false) (len:=s.length) (cap:=s.length) (zu hbi hE) (zu hbj hE) hb
    have ht' : P.underlying t=some .string:=(hΘ t _ ht).2.1
    have hsz:(⟨s.toArray⟩:ByteArray).size=s.length:=by simp [ByteArray.size]
    have hext:(⟨s.toArray⟩:ByteArray).extract i.toNat j.toNat=⟨((s.take j.toNat).drop i.toNat).toArray⟩:=by
      apply ByteArray.ext
      apply aev
      simp [ByteArray.data_extract,adQ]
    simp only [AV.val,Lf.val] at hx ⊢
    have h2:(Instr.slice t (.string ⟨s.toArray⟩) (lo.map (aQ ρ)) (hi.map (aQ ρ)) none).run P w = .ok (.string ⟨((s.take j.toNat).drop i.toNat).toArray⟩) w:=by
      simp [Instr.slice,run_underlying ht',hsz,hbd,hext,Result.andThen]
    simp [execOp,ho,hx,Instr.sliceAt,run_underlying ht',h2,Result.andThen]
  · exact ao.none
theorem Cm : ∀ (ns:List Int) (a:Array UInt8),ns.foldl (fun (r:ByteArray) n=>r.push (UInt8.ofNat n.toNat)) ⟨a⟩=⟨a++(ns.map fun n=>UInt8.ofNat n.toNat).toArray⟩
  | [],a=>by simp
  | n::r,a=>by
    simp only [aeY,WD]
    rw [show (⟨a⟩:ByteArray).push (UInt8.ofNat n.toNat)=⟨a.push (UInt8.ofNat n.toNat)⟩ from rfl,Cm r]
    congr 1
    apply aev
    simp
theorem wM : ∀ {xs:List Int} {ys:List Unit},xs.length=ys.length→cellsOf (TC.sc (.int .u8)).ty xs ys=xs.map (Value.int .u8)
  | [],_,_=>by simp [cellsOf]
  | x::xs,y::ys,h=>by
    have:=wM (xs:=xs) (ys:=ys) (by simpa using h)
    simp only [cellsOf,WD,this]
    rfl
  | _::_,[],h=>by simp at h
def Cb (Θ:Tb) (s d:TypeId) (l:Lf) (F:List AF) (k:Out→Option R):Option R:=match Θ s,Θ d with
  | some ⟨.slice e,_,_,_,_⟩,some ⟨.str,_,_,_,_⟩=>match Θ e with
    | some ⟨.int .u8,_,_,_,_⟩=>match io (.sc (.int .u8)) F l with
      | some q=>k (br (wE ((show List Int from q.xs).map fun n=>UInt8.ofNat n.toNat)))
      | none=>none
    | _=>none
  | _,_=>none
theorem Eh (hΘ:Θ.ok P) {l:Lf} (ho:o.op = .convert s d x) (h1:ev E x=some (.lf l)) (k:Out→Option R):ao ex P o E F n (Cb Θ s d l F k) k:=by
  unfold Cb
  split
  · rename_i e _ _ _ _ _ _ _ _ hs hd
    split
    · rename_i he
      split
      · rename_i q hq
        refine ao.of fun _=>(dw.pure fun η ρ hE ev w c hev hH=>?_)
        have hx:=aM hE h1
        simp only [AV.val] at hx
        rw [(nE hq η).1] at hx
        obtain ⟨ys,hys,hn,_,_,hc⟩:=kp hq hH
        subst hev
        have hconv:=run_convert_bytes_string w s d e (l.hd η).a (l.hd η).n (l.hd η).cap (hΘ s _ hs).2.1 (hΘ e _ he).2.1 (hΘ d _ hd).2.1
        have hfin : ∀ {ns:List Int},(Conv.bytesToString (l.hd η).val).run P w = .ok (.string ⟨(ns.map fun n=>UInt8.ofNat n.toNat).toArray⟩) w→ns=q.xs→(execOp (aQ ρ) o).run P w = .ok (.value (.string ⟨((show List Int from q.xs).map fun n=>UInt8.ofNat n.toNat).toArray⟩)) w:=by
          intro ns h e
          subst e
          simp [execOp,ho,hx,hconv,h,Result.andThen]
        simp only [AV.val,Lf.val]
        rcases hc with ⟨_,h0⟩ | ⟨b,off,arr,ty,fz,ha,_,hb,hfit,hcl⟩
        · have hx0:q.xs=([]:List Int):=Ya (by omega)
          refine hfin (ns:=[]) ?_ hx0.symm
          have hn0:(l.hd η).n=0:=by rw [hn,hx0]; rfl
          cases ha:(l.hd η).a with
          | none=>
            simp only [Hd.val,ha,hn0]
            rfl
          | some a=>
            have hl:(loadCells a 0).run P w = .ok (([]:List Int).map (Value.int .u8)).toArray w:=run_loadCells_list w a [] (fun j v h=>by cases h)
            have:=run_bytesToString (P:=P) w a 0 (l.hd η).cap [] hl
            simp only [Hd.val,ha,hn0]
            rw [this]; rfl
        · have hcells:cellsOf (TC.sc (.int .u8)).ty q.xs ys=(show List Int from q.xs).map (Value.int .u8):=wM hys.length
          have hl:(loadCells ⟨b,off,none⟩ q.xs.length).run P w = .ok ((show List Int from q.xs).map (Value.int .u8)).toArray w:=by
            have:=run_loadCells_list (P:=P) w ⟨b,off,none⟩ ((show List Int from q.xs).map (Value.int .u8)) (fun j v hv=>by
              rw [eP,mC hb]
              rw [← hcells,← hcl,Xc] at hv
              split at hv
              · simpa [Xl] using hv
              · cases hv)
            simpa using this
          have:=run_bytesToString (P:=P) w ⟨b,off,none⟩ q.xs.length (l.hd η).cap (show List Int from q.xs) hl
          refine hfin (ns:=q.xs) ?_ rfl
          simp only [Hd.val,ha,hn]
          rw [this,show ByteArray.empty=⟨#[]⟩ from rfl,Cm]
          simp
      · exact ao.none
    · exact ao.none
  · exact ao.none
theorem LN {c:bu} {w' : World} {c' : bu} (h:Stp [] w.drew c w' c'):Stp [] w c w' c' := ⟨h.size,h.col,h.same,h.two,h.env⟩
theorem UG {w:World} {S:Nat→Prop} (s:SC) : ∀ l:List s.den,bX (bM w S (TC.sc s).ty) l (List.replicate l.length ())
  | []=>trivial
  | _::r=>⟨trivial,UG s r⟩
theorem XS {ρ:db} {L:List HA} {bs:List UInt8} {N:Nat} (ho:o.op = .convert s d x) (hs:P.underlying s=some .string) (hd:P.underlying d=some (.slice e)) (he:P.underlying e=some (.int .u8))
    (hx:aQ ρ x = .string ⟨bs.toArray⟩) (hN:Nat.ble 2 N=true) (hl:decide (bs.length≤maxLen)=true) :
    cU P ρ o L [] Hd.val (fun h=>[.own (TC.sc (.int .u8)).ty (e+1048576) N [] (bs.map fun b=>(b.toNat:Int)) h]):=by
  intro a ev w c next Q ha hL hk
  have hlen:bs.length≤maxLen:=Xg hl
  have hrun:=run_bytes_of_string (P:=P) w s d e ⟨bs.toArray⟩ hs hd he
  have hge:=grownCap_ge w bs.length 0 e
  have hle:=grownCap_le_maxLen w bs.length 0 e hlen
  have hsz:(ByteArray.mk bs.toArray).size=bs.length:=by simp [ByteArray.size]
  rw [hsz] at hrun
  generalize hcap:grownCap w bs.length 0 e=cap at hrun hge hle
  have hrow:bytesRow ⟨bs.toArray⟩ cap=((bs.map fun (b:UInt8)=>Value.int .u8 (b.toNat:Int))++List.replicate (cap - bs.length) (Value.int .u8 0)).toArray:=by
    simp [bytesRow,hsz]
  have hrsz:(bytesRow ⟨bs.toArray⟩ cap).size=cap:=by
    rw [hrow]; simp; omega
  have hex:(execOp ev o).run P w = .ok (.value (.slice (some ⟨w.heap.size,0,none⟩) bs.length cap)) (w.drew.alloc (.cells (bytesRow ⟨bs.toArray⟩ cap) e ((bytesRow ⟨bs.toArray⟩ cap).size,(bytesRow ⟨bs.toArray⟩ cap).size+1))):=by
    simp [execOp,ho,ha,hx,hrun,Result.andThen]
  rw [hex]
  have hst:=LN (tp (w:=w.drew) (c:=c) hN (.cells (bytesRow ⟨bs.toArray⟩ cap) e ((bytesRow ⟨bs.toArray⟩ cap).size,(bytesRow ⟨bs.toArray⟩ cap).size+1)))
  have hcells:cellsOf (TC.sc (.int .u8)).ty (bs.map fun (b:UInt8)=>(b.toNat:Int)) (List.replicate bs.length ())=bs.map fun (b:UInt8)=>Value.int .u8 (b.toNat:Int):=by
    rw [wM (by simp),ad1]; rfl
  refine hk ⟨some ⟨w.heap.size,0,none⟩,bs.length,cap⟩ _ _ hst (am.cons ⟨List.replicate bs.length (),?_,⟨?_, .inr ⟨w.heap.size,cap,bytesRow ⟨bs.toArray⟩ cap,e,((bytesRow ⟨bs.toArray⟩ cap).size,(bytesRow ⟨bs.toArray⟩ cap).size+1),?_,heap_alloc_new w.drew _, .inr ⟨Nat.le_add_left _ _,Wb _⟩,?_,hle,?_,?_⟩⟩,fun g hg=>?_⟩ (am.nil _ _))
  · have:=UG (w:=w.drew.alloc (.cells (bytesRow ⟨bs.toArray⟩ cap) e ((bytesRow ⟨bs.toArray⟩ cap).size,(bytesRow ⟨bs.toArray⟩ cap).size+1))) (S:=fun b=>(if b<w.drew.heap.size then c b else N)∈([]:List Nat)) (.int .u8) (bs.map fun (b:UInt8)=>(b.toNat:Int))
    rw [abn] at this
    exact this
  · rw [hcells]; simp [Ty.sz]
  · simp
  · simpa using hge
  · rw [hrsz]; simp [Ty.sz]
  · rw [hcells,hrow]
    simp [Ty.sz]
  · simp only [Hd.val,Value.ownBlock,Va] at hg
    subst hg
    have : ¬ (w.heap.size<w.drew.heap.size):=ajD _
    simp [this]
def Ip (Θ:Tb) (ex:Option Bool) (n N:Nat) (s d:TypeId) (a:List UInt8) (k:Out→Option R):Option R:=match Θ s,Θ d with
  | some ⟨.str,_,_,_,_⟩,some ⟨.str,_,_,_,_⟩=>k (br (wE a))
  | some ⟨.str,_,_,_,_⟩,some ⟨.slice e,_,_,_,_⟩=>match Θ e with
    | some ⟨.int .u8,_,_,_,_⟩=>bif Nat.ble 2 N && !(eW (e+1048576)) then gchk ex (decide (a.length≤maxLen)) (k ⟨.lf (.sl n),[.own (.sc (.int .u8)) (e+1048576) N [] (a.map fun b=>(b.toNat:Int)) n],[]⟩) else none
    | _=>none
  | _,_=>none
theorem TN (hΘ:Θ.ok P) {N:Nat} {a:List UInt8} (ho:o.op = .convert s d x) (h1:ev E x=some (wE a)) (k:Out→Option R):ao ex P o E F n (Ip Θ ex n N s d a k) k:=by
  unfold Ip
  split
  · rename_i _ _ _ _ _ _ _ _ hs hd
    refine ao.of fun hx=>(dw.pure fun η ρ hE ev w c he _=>?_)
    have hs' := (hΘ s _ hs).2.1
    have hd' := (hΘ d _ hd).2.1
    have h2:=aM hE h1
    subst he
    simp only [AV.val,Lf.val] at h2 ⊢
    simp [execOp,ho,h2,convert,run_underlying hs',run_underlying hd',Result.andThen]
  · rename_i _ _ _ _ e _ _ _ _ hs hd
    split
    · rename_i he
      refine ao.bif fun hN0=>ao.gchk fun hl=>ao.of fun hx η ρ hE=>?_
      simp only [Vf] at hN0
      obtain ⟨hN,htr⟩:=hN0
      have htr:=sf htr
      refine (XS (o:=o) (ρ:=ρ) ho (hΘ s _ hs).2.1 (hΘ d _ hd).2.1 (hΘ e _ he).2.1 (aM hE h1) hN (hl hx)).map (fun hh=>⟨η.setH n hh,η.setH_agr n hh⟩) (fun hh=>?_) fun hh=>?_
      · simp [AV.val,Lf.val,Vn.setH_at]
      · simp [AF.ha,Vn.setH_at,d7 htr]
    · exact ao.none
  · exact ao.none
def CV (Θ:Tb) (E:SE) (ex:Option Bool) (n:Nat) (t:TypeId) (l:Lf) (hi mx:Operand) (F:List AF) (k:Out→Option R):Option R:=match Θ t,ev E hi,ev E mx with
  | some ⟨.slice e,_,_,_,_⟩,some (.lf (.c (.int _) j)),some (.lf (.c (.int _) m))=>match Θ e with
    | some ie=>match io ie.tc F l with
      | some s=>bif Nat.beq ie.sz ie.tc.ty.sz then gchk ex (decide (0≤j∧j≤m∧m≤s.xs.length)) (k ⟨.lf (.sl n),[.rep ie.tc s.all (s.xs.take j.toNat) n],[]⟩) else none
      | none=>none
    | none=>none
  | _,_,_=>none
theorem UV {ρ:db} {L:List HA} {hi:Operand} {kj km:IntKind} {m:Int} {ty:Ty} {K:List Nat} {xs:List ty.den} {hd:Hd}   (ho:o.op = .slice t x none (some hi) (some mx)) (ht:P.underlying t=some (.slice e)) (hti:TI P e sz by_ z)
    (hx:aQ ρ x=hd.val) (hj:aQ ρ hi = .int kj j) (hm:aQ ρ mx = .int km m) (hL : ∀ w c,am w c L→HA.holds w c (.rep ty K xs hd)) (hb:decide (0≤j∧j≤m∧m≤xs.length)=true) :
    cU P ρ o L [] (fun _:Unit=>(⟨hd.a,j.toNat,m.toNat⟩:Hd).val) (fun _=>[.rep ty K (xs.take j.toNat) ⟨hd.a,j.toNat,m.toNat⟩]):=wc fun ev w c hev hF=>by
  obtain ⟨b0,b1,b2⟩:=Xg hb
  obtain ⟨inf,hinf,_,hs',_⟩:=hti.get
  obtain ⟨ys,hys,hn,hle,hmx,hc⟩:=hL w c hF
  refine ⟨(),?_,am.cons ⟨ys.take j.toNat,hys.take _,?_⟩ (am.nil _ _)⟩
  · subst hev
    have c1:(Instr.sliceBound (aQ ρ mx) hd.cap .slice3Acap).run P w = .ok m.toNat w:=by rw [hm]; exact mH (by omega) (by omega)
    have c2:(Instr.sliceBound (aQ ρ hi) m.toNat .slice3B).run P w = .ok j.toNat w:=by rw [hj]; exact mH b0 (by omega)
    have c3:(Instr.sliceBounds true hd.n hd.cap none (some (aQ ρ hi)) (some (aQ ρ mx))).run P w = .ok (0,j.toNat,m.toNat) w:=by
      simp [Instr.sliceBounds,c1,c2,Result.andThen]
    have hid:Option.map (fun a:Addr=>a.add 0) hd.a=hd.a:=by
      cases hd.a with
      | none=>rfl
      | some a=>obtain ⟨b,o',f⟩:=a; rfl
    have c4:(Instr.slice t hd.val none (some (aQ ρ hi)) (some (aQ ρ mx))).run P w = .ok (⟨hd.a,j.toNat,m.toNat⟩:Hd).val w:=by
      simp [Instr.slice,run_underlying ht,c3,sizeOf,typeInfo,hinf,hid,Result.andThen]
    simp [execOp,ho,hx,Instr.sliceAt,run_underlying ht,c4,Result.andThen]
  · refine ⟨by simp; omega,by simp; omega,by simp; omega,?_⟩
    rcases hc with ⟨_,h0⟩ | ⟨b,off,arr,tt,fz,ha,hS,hbb,hfit,hcl⟩
    · exact .inl ⟨trivial,by simp; omega⟩
    · have h4:m.toNat * ty.sz≤hd.cap * ty.sz:=XQ _ (by omega)
      have h2:j.toNat≤xs.length:=by omega
      have h3:j.toNat * ty.sz≤xs.length * ty.sz:=XQ _ h2
      refine .inr ⟨b,off,arr,tt,fz,ha,hS,hbb,?_,?_⟩
      · show off+m.toNat * ty.sz≤arr.size
        omega
      · rw [ja ty j.toNat hys.length,← hcl,aaY,V7,YG h2,YG h3]
theorem Qk (hΘ:Θ.ok P) {hi:Operand} {l:Lf} (ho:o.op = .slice t x none (some hi) (some mx)) (h1:ev E x=some (.lf l)) (k:Out→Option R):ao ex P o E F n (CV Θ E ex n t l hi mx F k) k:=by
  unfold CV
  split
  · rename_i e _ _ _ _ kj j km m ht hj hm
    split
    · rename_i ie he
      split
      · rename_i s hs
        refine ao.bif fun hsz=>ao.gchk fun hb=>ao.of fun hx η ρ hE=>?_
        have hx2:=aM hE h1
        simp only [AV.val] at hx2
        rw [(nE hs η).1] at hx2
        refine (UV (j:=j) (m:=m) ho (hΘ t _ ht).2.1 (hΘ e ie he).1 hx2 (aM hE hj) (aM hE hm) (fun w c hF=>kp hs hF) (hb hx)).map (fun _=>⟨η.setH n ⟨(l.hd η).a,j.toNat,m.toNat⟩,η.setH_agr n _⟩) (fun _=>?_) fun _=>?_
        · simp [AV.val,Lf.val,Vn.setH_at]
        · simp [AF.ha,Vn.setH_at]
      · exact ao.none
    · exact ao.none
  · exact ao.none
theorem cU.weaken' {P:Program} {ρ:db} {o:Oper} {L:List HA} {κ:List Nat} {Y Y' : Type} {val:Y→Value} {Φ:Y→List HA} {val' : Y' → Value} {Φ' : Y' → List HA} (h:cU P ρ o L κ val Φ) (g:Y→Y')
    (hv : ∀ y,val y=val' (g y)) (hΦ : ∀ y w c,am w c (Φ y)→am w c (Φ' (g y))):cU P ρ o L κ val' Φ' := by
  intro a ev w c next Q ha hL hk
  refine h a ev w c next Q ha hL fun y w' c' hs hF=>?_
  rw [hv y]
  exact hk (g y) w' c' hs (hΦ y w' c' hF)
def CY (Θ:Tb) (E:SE) (ex:Option Bool) (n:Nat) (t:TypeId) (l:Lf) (lo hi mx:Operand) (F:List AF) (k:Out→Option R):Option R:=match Θ t,ev E lo,ev E hi,ev E mx with
  | some ⟨.slice e,_,_,_,_⟩,some (.lf (.c (.int _) i)),some (.lf (.c (.int _) j)),some (.lf (.c (.int _) m))=>match Θ e,l with
    | some ie, .sl h=>match gf ie.tc e 0 F (.sl h) with
      | some (_,_,xs)=>bif Nat.beq ie.sz ie.tc.ty.sz&&bk n h then gchk ex (decide (0≤i∧i≤j∧j≤m∧m≤xs.length)) (k ⟨.lf (.sl n),[.prt n h ie.sz i j],[]⟩) else none
      | none=>none
    | _,_=>none
  | _,_,_,_=>none
theorem TM {ρ:db} {L:List HA} {lo hi:Operand} {kj km:IntKind} {m:Int} {ty:Ty} {K:List Nat} {xs:List ty.den} {hd:Hd}   (ho:o.op = .slice t x (some lo) (some hi) (some mx)) (ht:P.underlying t=some (.slice e)) (hti:TI P e sz by_ z)
    (hx:aQ ρ x=hd.val) (hi' : aQ ρ lo = .int ki i) (hj:aQ ρ hi = .int kj j) (hm:aQ ρ mx = .int km m) (hL : ∀ w c,am w c L→HA.holds w c (.rep ty K xs hd)) (hb:decide (0≤i∧i≤j∧j≤m∧m≤xs.length)=true) :
    cU P ρ o L [] (fun y : { h:Hd // pz h hd sz i j }=>y.1.val) (fun _=>[]):=wc fun ev w c hev hF=>by
  obtain ⟨b0,b1,b2,b3⟩:=Xg hb
  obtain ⟨inf,hinf,_,hs',_⟩:=hti.get
  obtain ⟨ys,hys,hn,hle,hmx,hc⟩:=hL w c hF
  subst hev
  have c1:(Instr.sliceBound (aQ ρ mx) hd.cap .slice3Acap).run P w = .ok m.toNat w:=by rw [hm]; exact mH (by omega) (by omega)
  have c2:(Instr.sliceBound (aQ ρ hi) m.toNat .slice3B).run P w = .ok j.toNat w:=by rw [hj]; exact mH (by omega) (by omega)
  have c0:(Instr.sliceBound (aQ ρ lo) j.toNat .slice3C).run P w = .ok i.toNat w:=by rw [hi']; exact mH b0 (by omega)
  have c3:(Instr.sliceBounds true hd.n hd.cap (some (aQ ρ lo)) (some (aQ ρ hi)) (some (aQ ρ mx))).run P w = .ok (i.toNat,j.toNat,m.toNat) w:=by
    simp [Instr.sliceBounds,c0,c1,c2,Result.andThen]
  refine ⟨⟨⟨if m.toNat=i.toNat then hd.a else hd.a.map (·.add (i.toNat * inf.size)),j.toNat - i.toNat,m.toNat - i.toNat⟩,⟨b0,by simp only; omega,fun hlt=>?_⟩⟩,?_,am.nil _ _⟩
  · rcases hc with ⟨_,h0⟩ | ⟨b,off,arr,tt,fz,ha,hS,hbb,hfit,hcl⟩
    · omega
    · refine ⟨b,off+i.toNat * inf.size,?_,?_⟩
      · simp only
        rw [if_neg (by omega),ha]
        simp [eP]
      · simp [eu,ha,hs']
  · have c4:(Instr.slice t hd.val (some (aQ ρ lo)) (some (aQ ρ hi)) (some (aQ ρ mx))).run P w = .ok (⟨if m.toNat=i.toNat then hd.a else hd.a.map (·.add (i.toNat * inf.size)),j.toNat - i.toNat,m.toNat - i.toNat⟩:Hd).val w:=by
      simp [Instr.slice,run_underlying ht,c3,sizeOf,typeInfo,hinf,Result.andThen]
    simp [execOp,ho,hx,Instr.sliceAt,run_underlying ht,c4,Result.andThen]
theorem Rj (hΘ:Θ.ok P) {lo hi:Operand} {l:Lf} (ho:o.op = .slice t x (some lo) (some hi) (some mx)) (h1:ev E x=some (.lf l)) (k:Out→Option R):ao ex P o E F n (CY Θ E ex n t l lo hi mx F k) k:=by
  unfold CY
  split
  · rename_i e _ _ _ _ _ i _ j _ m ht hi' hj hm
    split
    · rename_i ie h he
      split
      · rename_i ci K xs hs
        refine ao.bif fun hc=>ao.gchk fun hb=>ao.of fun hx η ρ hE=>?_
        simp only [Vf] at hc
        have hx2:=aM hE h1
        simp only [AV.val,Lf.val] at hx2
        refine (TM (o:=o) (ρ:=ρ) (L:=F.map (AF.ha η)) (K:=ci::K) (i:=i) (j:=j) (m:=m) ho (hΘ t _ ht).2.1 (hΘ e ie he).1 hx2 (aM hE hi') (aM hE hj) (aM hE hm) (fun w c hF=>H2 (fR hs hF)) (hb hx)).weaken' (fun y=>⟨η.setH n y.1,η.setH_agr n y.1⟩) (fun y=>?_) fun y w c _=>?_
        · simp [AV.val,Lf.val,Vn.setH_at]
        · refine am.cons ?_ (am.nil _ _)
          simp only [AF.ha,Vn.setH_at,HA.holds]
          rw [(η.setH_agr n y.1 h hc.2).1]
          exact y.2
      · exact ao.none
    · exact ao.none
  · exact ao.none
def KB {α:Type} (m:Nat) (d:α) (xs:List α):List α:=(List.range m).map fun q=>xs.getD q d
theorem Ch (s:SC) : ∀ {xs:List s.den} {ys:List Unit},xs.length=ys.length→cellsOf (TC.sc s).ty xs ys=xs.map s.val
  | [],_,_=>by simp [cellsOf]
  | x::xs,y::ys,h=>by
    have:=Ch s (xs:=xs) (ys:=ys) (by simpa using h)
    simp only [cellsOf,WD,this]
    rfl
  | _::_,[],h=>by simp at h
theorem Ux {ρ:db} {L:List HA} {ci:Nat} {s:SC} {xs:List s.den}   (ho:o.op = .slice t x lo hi none) (ht:P.underlying t=some (.array m e)) (hti:TI P e 1 by_ z)
    (hx:aQ ρ x = .pointer (some ⟨b,0,none⟩)) (hlo:(lo=none∧i=0)∨∃ x kk,lo=some x∧aQ ρ x = .int kk i) (hhi:(hi=none∧j=m)∨∃ x kk,hi=some x∧aQ ρ x = .int kk j)
    (hL : ∀ w c,am w c L→HA.holds w c (.box ci b ((TC.arr m s).ty.fill xs ()))) (hb:decide (0≤i∧i≤j∧j≤m)=true) (hm:Nat.ble m 16777216=true) :
    cU P ρ o L [] (fun _:Unit=>(⟨some (if m=i.toNat then ⟨b,0,none⟩ else ⟨b,i.toNat,none⟩),j.toNat - i.toNat,m - i.toNat⟩:Hd).val)
      (fun _=>[.rep (TC.sc s).ty [ci] (((KB m s.dft xs).take j.toNat).drop i.toNat) ⟨some (if m=i.toNat then ⟨b,0,none⟩ else ⟨b,i.toNat,none⟩),j.toNat - i.toNat,m - i.toNat⟩]):=wc fun ev w c hev hF=>by
  have hb' := Xg hb
  obtain ⟨b0,b1,b2⟩:=hb'
  have hm:=Vg hm
  obtain ⟨inf,hinf,_,hs',_⟩:=hti.get
  obtain ⟨⟨ty,hbb⟩,hc⟩:=hL w c hF
  have hlen:(((KB m s.dft xs).take j.toNat).drop i.toNat).length=j.toNat - i.toNat:=by simp [KB]; omega
  refine ⟨(),?_,am.cons ⟨List.replicate (j.toNat - i.toNat) (),?_,?_⟩ (am.nil _ _)⟩
  · subst hev
    have c3:=Ef (P:=P) (w:=w) (isS:=false) (len:=m) (cap:=m) hlo hhi ⟨b0,b1,b2⟩
    have key:(Instr.sliceAt t (.pointer (some ⟨b,0,none⟩)) (lo.map (aQ ρ)) (hi.map (aQ ρ)) none).run P w = .ok (.slice (some (if m=i.toNat then ⟨b,0,none⟩ else ⟨b,i.toNat,none⟩)) (j.toNat - i.toNat) (m - i.toNat)) w:=by
      simp [Instr.sliceAt,Instr.sureAddr,run_underlying ht,c3,sizeOf,typeInfo,hinf,hs',Result.andThen,eP]
    simp only [execOp,ho,hx,Option.map_none,key,Sem.run_bind,Result.andThen_ok,Sem.run_pure]
  · have gen : ∀ (l:List s.den) (q:Nat),l.length=q→bX (bM w (fun b=>c b∈[ci]) (TC.sc s).ty) l (List.replicate q ()):=by
      intro l
      induction l with
      | nil=>intro q hq; simp at hq; subst hq; trivial
      | cons a l ih=>
        intro q hq
        cases q with
        | zero=>simp at hq
        | succ q=>exact ⟨trivial,ih q (by simpa using hq)⟩
    exact gen _ _ hlen
  · refine ⟨by rw [hlen],by simp; omega,by simp [maxLen]; omega,?_⟩
    by_cases hmi:m=i.toNat
    · exact .inl ⟨trivial,by simp; omega⟩
    · refine .inr ⟨b,i.toNat,_,ty,_,by simp [hmi],by simp [hc],hbb,?_,?_⟩
      · simp [Ty.fill,TC.ty,Ty.sz]; omega
      · rw [Ch s (by rw [hlen]; simp),hlen]
        simp only [TC.ty,Ty.sz,ac9,Ty.fill,KB]
        rw [← List.map_take,List.take_drop]
        simp only [List.map_drop,List.map_take,ad1]
        rw [show i.toNat+(j.toNat - i.toNat)=j.toNat by omega]
        rfl
def CU (Θ:Tb) (E:SE) (ex:Option Bool) (n:Nat) (t:TypeId) (b:Nat) (lo hi:Option Operand) (F:List AF) (k:Out→Option R):Option R:=match Θ t,kN b F with
  | some ⟨.arr m e,_,_,_,_⟩,some (ci,[.ar m' s xs])=>match Θ e,Dd E lo 0,Dd E hi m with
    | some ie,some i,some j=>bif Nat.beq m' m&&Nat.beq ie.sz 1&&Nat.ble m 16777216 then gchk ex (decide (0≤i∧i≤j∧j≤m)) (k ⟨.lf (.sl n),[.rep (.sc s) [ci] (((KB m' s.dft xs).take j.toNat).drop i.toNat) n],[]⟩) else none
    | _,_,_=>none
  | _,_=>none
theorem O1 (hΘ:Θ.ok P) (ho:o.op = .slice t x lo hi none) (h1:ev E x=some (.lf (.bp b 0))) (k:Out→Option R):ao ex P o E F n (CU Θ E ex n t b lo hi F k) k:=by
  unfold CU
  split
  · rename_i m e _ _ _ _ ci m' s xs ht hbx
    split
    · rename_i ie i j he hi' hj'
      refine ao.bif fun hc=>ao.gchk fun hb=>ao.of fun hx η ρ hE=>?_
      simp only [Vf] at hc
      obtain ⟨⟨hm,hsz⟩,hmx⟩:=hc
      obtain rfl:=Vb hm
      have hti:=(hΘ e ie he).1
      rw [Vb hsz] at hti
      refine (Ux (ci:=ci) (s:=s) (xs:=xs) ho (hΘ t _ ht).2.1 hti (aM hE h1) (zu hi' hE) (zu hj' hE) (fun w c hF=>?_) (hb hx) hmx).map (fun _=>⟨η.setH n ⟨some (if m' = i.toNat then ⟨η.b b,0,none⟩ else ⟨η.b b,i.toNat,none⟩),j.toNat - i.toNat,m' - i.toNat⟩,η.setH_agr n _⟩) (fun _=>?_) fun _=>?_
      · have:=wQ hbx hF
        simpa [au,Lf.cells] using this
      · simp [AV.val,Lf.val,Vn.setH_at]
      · simp [AF.ha,Vn.setH_at]
    · exact ao.none
  · exact ao.none
def wt (P:Program) (t:TypeId):Prop:=P.eqGuardType P.depth t=false∧P.stoodInHeld t=false∧(P.fieldsOf t).toList.all (fun f=>!(f.name == "_"))=true
def nU (Θ:Tb):List (TypeId×Nat)→List Lf→List Lf→Nat→Option Bool
  | [],[],[],_=>some true
  | (ft,off)::fs, .c s a::r, .c s' b::r',pos=>match Θ ft with
    | some i=>match i.d,s,s',a,b with
      | .int _, .int k, .int k',a,b=>if k' = k∧off=pos then (nU Θ fs r r' (pos+1)).map fun e=>(show Int from a)==(show Int from b)&&e else none
      | .bool, .bool, .bool,a,b=>if off=pos then (nU Θ fs r r' (pos+1)).map fun e=>(show Bool from a)==(show Bool from b)&&e else none
      | .str, .str, .str,a,b=>if off=pos then (nU Θ fs r r' (pos+1)).map fun e=>(show List UInt8 from a)==(show List UInt8 from b)&&e else none
      | _,_,_,_,_=>none
    | none=>none
  | _,_,_,_=>none
theorem vK (hΘ:Θ.ok P) {w:World} {η:Vn} {xs ys:Array Value} {d:Nat} : ∀ {fl:List Field} {fs:List (TypeId×Nat)} {r r' : List Lf} {pos:Nat} {e:Bool},fl.map (fun f=>(f.type,f.offset))=fs→fl.all (fun f=>!(f.name == "_"))=true→nU Θ fs r r' pos=some e →
    (∀ j,xs[pos+j]? = (au η r)[j]?)→(∀ j,ys[pos+j]? = (au η r')[j]?)→(Op.eqFields (d+1) xs ys fl).run P w = .ok e w
  | [],_,r,r',pos,e,hm,_,h,_,_=>by
    simp only [Zy] at hm
    subst hm
    cases r <;> cases r' <;> simp [nU] at h
    subst h
    simp [Op.eqFields,Sem.run_pure]
  | f::fl,fs,r,r',pos,e,hm,hn,h,hx,hy=>by
    simp only [WD] at hm
    subst hm
    simp only [ZN,Vf,X8,WW,ne_eq] at hn
    cases r with
    | nil=>simp [nU] at h
    | cons l r=>
      cases r' with
      | nil=>cases l <;> simp [nU] at h
      | cons l' r' =>
        cases l <;> cases l' <;> simp only [nU] at h <;> try cases h
        rename_i s a s' b
        split at h
        · rename_i i hi
          have hfit:=(hΘ f.type i hi).2.1
          have hx0:=hx 0
          have hy0:=hy 0
          have hxr : ∀ j,xs[pos+1+j]? = (au η r)[j]? := fun j=>by
            have:=hx (j+1)
            rw [show pos+(j+1)=pos+1+j by omega] at this
            simpa [au,Lf.cells] using this
          have hyr : ∀ j,ys[pos+1+j]? = (au η r')[j]? := fun j=>by
            have:=hy (j+1)
            rw [show pos+(j+1)=pos+1+j by omega] at this
            simpa [au,Lf.cells] using this
          simp only [W4,au,Lf.cells,YB,ZC] at hx0 hy0
          cases hd:i.d <;> rw [hd] at h hfit <;> cases s <;> cases s' <;> simp only at h <;> try cases h
          · rename_i k k'
            split at h
            · rename_i hc
              obtain ⟨rfl,hoff⟩:=hc
              simp only [XT] at h
              obtain ⟨e',he,rfl⟩:=h
              have ih:=vK hΘ (d:=d) rfl hn.2 he hxr hyr (w:=w)
              have hfit:P.underlying f.type=some (.int _):=hfit
              have p1:(part f.type xs f.offset).run P w = .ok (.int k' a) w:=by simp [part,mv hfit rfl,hoff,hx0,Result.andThen]
              have p2:(part f.type ys f.offset).run P w = .ok (.int k' b) w:=by simp [part,mv hfit rfl,hoff,hy0,Result.andThen]
              have p3:=run_equalIn_int (P:=P) w d f.type k' _ a b hfit
              simp only [Op.eqFields,hn.1,ne_eq,aeE,We,Sem.run_bind,p1,p2,p3,Result.andThen_ok]
              cases hab:((show Int from a)==(show Int from b))
              · simp [Sem.run_pure]
              · simpa using ih
            · cases h
          · skip
            split at h
            · rename_i hoff
              simp only [XT] at h
              obtain ⟨e',he,rfl⟩:=h
              have ih:=vK hΘ (d:=d) rfl hn.2 he hxr hyr (w:=w)
              have hfit:P.underlying f.type=some .bool:=hfit
              have p1:(part f.type xs f.offset).run P w = .ok (.bool a) w:=by simp [part,mv hfit rfl,hoff,hx0,Result.andThen]
              have p2:(part f.type ys f.offset).run P w = .ok (.bool b) w:=by simp [part,mv hfit rfl,hoff,hy0,Result.andThen]
              have p3:=run_equalIn_bool' (P:=P) w d f.type a b hfit
              simp only [Op.eqFields,hn.1,ne_eq,aeE,We,Sem.run_bind,p1,p2,p3,Result.andThen_ok]
              cases hab:((show Bool from a)==(show Bool from b))
              · simp [Sem.run_pure]
              · simpa using ih
            · cases h
          · skip
            split at h
            · rename_i hoff
              simp only [XT] at h
              obtain ⟨e',he,rfl⟩:=h
              have ih:=vK hΘ (d:=d) rfl hn.2 he hxr hyr (w:=w)
              have hfit:P.underlying f.type=some .string:=hfit
              have p1:(part f.type xs f.offset).run P w = .ok (.string ⟨(show List UInt8 from a).toArray⟩) w:=by simp [part,mv hfit rfl,hoff,hx0,Result.andThen]
              have p2:(part f.type ys f.offset).run P w = .ok (.string ⟨(show List UInt8 from b).toArray⟩) w:=by simp [part,mv hfit rfl,hoff,hy0,Result.andThen]
              have p3:=run_equalIn_string (P:=P) w d f.type ⟨(show List UInt8 from a).toArray⟩ ⟨(show List UInt8 from b).toArray⟩ hfit
              simp only [Op.eqFields,hn.1,ne_eq,aeE,We,Sem.run_bind,p1,p2,p3,Result.andThen_ok]
              have hl:((⟨(show List UInt8 from a).toArray⟩:ByteArray).toList==(⟨(show List UInt8 from b).toArray⟩:ByteArray).toList)=((show List UInt8 from a)==(show List UInt8 from b)):=by
                have e : ∀ (z:List UInt8),(⟨z.toArray⟩:ByteArray).toList=z:=fun z=>by rw [ByteArray.toList_eq]
                rw [e,e]
              rw [hl]
              cases hab:((show List UInt8 from a)==(show List UInt8 from b))
              · simp [Sem.run_pure]
              · simpa using ih
            · cases h
        · cases h
def Pz (Θ:Tb) (Gq:TypeId→Bool) (op:BinOp) (t:TypeId) (a b:List Lf) (k:Out→Option R):Option R:=match Θ t with
  | some ⟨.st fs,_,_,_,_⟩=>bif Gq t then match nU Θ fs a b 0,op with
    | some e, .eql=>k (br (d5 e))
    | some e, .neq=>k (br (d5 (!e)))
    | _,_=>none
    else none
  | _=>none
theorem U1 (hΘ:Θ.ok P) {Gq:TypeId→Bool} (hG : ∀ t,Gq t=true→wt P t) {op:BinOp} {t':TypeId} {a b:List Lf} (ho:o.op = .binOp op t x y t') (h1:ev E x=some (.ag a)) (h2:ev E y=some (.ag b)) (k:Out→Option R) :
    ao ex P o E F n (Pz Θ Gq op t a b k) k:=by
  unfold Pz
  split
  · rename_i fs _ _ _ _ ht
    refine ao.bif fun hg=>?_
    obtain ⟨g1,g2,g3⟩:=hG t hg
    obtain ⟨Fd,hs,hm⟩:=(hΘ t _ ht).2.1
    have hf:P.fieldsOf t=Fd:=by simp [Program.fieldsOf,hs]
    have key : ∀ {e:Bool} {η:Vn} {w:World},nU Θ fs a b 0=some e→(Op.equalIn 10000 t (.agg (au η a).toArray) (.agg (au η b).toArray)).run P w = .ok e w:=by
      intro e η w he
      rw [run_equalIn_struct (P:=P) w 9999 t _ _ (by rw [hf]; exact hs) g2,hf]
      rw [hf] at g3
      exact vK hΘ (η:=η) (d:=9998) hm g3 he (fun j=>by simp) (fun j=>by simp)
    split
    · rename_i e he
      refine ao.of fun _=>(dw.pure fun η ρ hE ev w c hev _=>?_)
      have e1:=aM hE h1
      have e2:=aM hE h2
      subst hev
      simp only [AV.val] at e1 e2
      have hgd:(eqGuard .eql t x y (.agg (au η a).toArray) (.agg (au η b).toArray)).run P w = .ok () w:=run_eqGuard_agg w .eql t x y _ _ g1
      have hb:(binOp .eql t (.agg (au η a).toArray) (.agg (au η b).toArray)).run P w = .ok (.bool e) w:=by
        rw [run_eql_struct,key he]; rfl
      simp only [execOp,ho,e1,e2,Sem.run_bind,hgd,hb,Result.andThen_ok,Sem.run_pure,AV.val,Lf.val]
    · rename_i e he
      refine ao.of fun _=>(dw.pure fun η ρ hE ev w c hev _=>?_)
      have e1:=aM hE h1
      have e2:=aM hE h2
      subst hev
      simp only [AV.val] at e1 e2
      have hgd:(eqGuard .neq t x y (.agg (au η a).toArray) (.agg (au η b).toArray)).run P w = .ok () w:=run_eqGuard_agg w .neq t x y _ _ g1
      have hb:(binOp .neq t (.agg (au η a).toArray) (.agg (au η b).toArray)).run P w = .ok (.bool (!e)) w:=by
        rw [run_neq_struct,key he]; rfl
      simp only [execOp,ho,e1,e2,Sem.run_bind,hgd,hb,Result.andThen_ok,Sem.run_pure,AV.val,Lf.val]
    · exact ao.none
  · exact ao.none
end
end
section
variable [X:XTab] [G:GTab]
section
variable {R:Type} {P:Program} {o:Oper} {E:SE} {F:List AF} {n:Nat} {Θ:Tb} {ex:Option Bool}
def Jf (Θ:Tb) (ex:Option Bool) (t:TypeId) (b off m:Nat) (s:SC) (j:Int) (F:List AF) (k:Out→Option R):Option R:=match Θ t,kN b F with
 | some i,some (_,cs)=>match mI cs off with
  | some (_, .ar m' s' x::_)=>bif Nat.beq m m' && Nat.beq i.sz 1 && !i.d.agg then (if h:s' = s then gchk ex (decide (0≤j∧j<m')) (k (br (.lf (.c s (List.getD (α:=s.den) (yr h x) j.toNat s.dft))))) else none) else none
  | _=>none
 | _,_=>none
theorem uj (m:Nat) (s:SC) (x:List s.den) {j:Nat} (h:j<m):((TC.arr m s).ty.fill x ())[j]? = some (s.val (List.getD (α:=s.den) x j s.dft)):=by
 simp [Ty.fill,h]
theorem TH (hΘ:Θ.ok P) {off:Nat} {s:SC}  (ho:o.op = .load t x) (hx:ev E x=some (.lf (.bq b off m s j))) (k:Out→Option R):ao ex P o E F n (Jf Θ ex t b off m s j F k) k:=by
 unfold Jf
 split
 ·rename_i i ci cs hi hb
  split
  ·rename_i a m' s' xs r hc
   refine ao.bif fun hB=>?_
   simp only [Vf,X8] at hB
   obtain ⟨⟨hm,hsz⟩,hag⟩:=hB
   split
   ·rename_i h
    subst h
    refine ao.gchk fun hj=>ao.of fun hex=>(dw.pure fun η ρ hE=>?_)
    have hj:=Xg (hj hex)
    obtain ⟨h1,h2,_,_⟩:=hΘ t i hi
    obtain ⟨td,ht,hd⟩:=mN h2
    rw [hag] at hd
    obtain ⟨q,hq⟩:=mj (fU hb) η
    obtain ⟨e,hl⟩:=jG hc
    refine Bv q hq ho ht hd (aM hE hx) ?_
    have hlen:=hl η
    rw [e,bc]
    rw [Yf (by omega),show off+j.toNat - (au η a).length=j.toNat by omega]
    simp only [au,Lf.cells]
    rw [Yq (by rw [Ty.fill_length]; show j.toNat<m'; omega)]
    exact uj m' s' xs (by omega)
   ·exact ao.none
  ·exact ao.none
 ·exact ao.none
def C6 (Θ:Tb) (ex:Option Bool) (t:TypeId) (b off m:Nat) (s:SC) (j:Int) (v:AV) (F:List AF) (k:Out→Option R):Option R:=match Θ t,kN b F,v.lvs with
 | some i,some (ci,cs),some ls=>match mI cs off,bW F (.sc s) ls with
  | some (a, .ar m' s' x::r),some (y,_,_,[])=>bif Nat.beq m m' && Nat.beq i.sz 1 then (if h:s' = s then gchk ex (decide (0≤j∧j<m')) (k ⟨.lf (.v undef),[.box ci b (a++(.ar m' s (oY m' s.dft (yr h x) j.toNat y)::r))],[ci]⟩) else none) else none
  | _,_=>none
 | _,_,_=>none
theorem agb (m:Nat) (s:SC) (x:List s.den) (y:s.den) {j:Nat} (h:j<m) :
  ((TC.arr m s).ty.fill x ()).take j++[s.val y]++((TC.arr m s).ty.fill x ()).drop (j+1)=(TC.arr m s).ty.fill (oY m s.dft x j y) ():=by
 apply Zl
 intro q
 have hl:((TC.arr m s).ty.fill x ()).length=m:=Ty.fill_length _ _ _
 have hr:((TC.arr m s).ty.fill (oY m s.dft x j y) ()).length=m:=Ty.fill_length _ _ _
 have htk:(((TC.arr m s).ty.fill x ()).take j).length=j:=by simp; omega
 rcases ahm q j with hq | hq | hq
 ·rw [V8,Yq (by omega),Xc,if_pos hq,uj m s x (by omega),uj m s _ (by omega)]
  congr 2
  simp only [oY,WT,Zc,aa7 (show q<m by omega)]
  simp [show q≠j by omega]
 ·subst hq
  rw [V8,Yf (by omega),htk,ad2,uj m s _ h]
  simp [oY,WT,h]
 ·by_cases hqm:q<m
  ·rw [Yf (by simp; omega),uj m s _ hqm]
   rw [Vs,htk,Vp,Xl,show j+1+(q - (j+1))=q by omega,uj m s x hqm]
   congr 2
   simp only [oY,WT,Zc,aa7 hqm]
   simp [show q≠j by omega]
  ·rw [adx (by simp; omega),adx (by omega)]
theorem PH (hΘ:Θ.ok P) {off:Nat} {s:SC}  {v:AV} (ho:o.op = .store t x y) (hx:ev E x=some (.lf (.bq b off m s j))) (hy:ev E y=some v) (k:Out→Option R):ao ex P o E F n (C6 Θ ex t b off m s j v F k) k:=by
 unfold C6
 split
 ·rename_i i ci cs ls hi hb hls
  split
  ·rename_i a m' s' xs r z _ _ hc hd
   refine ao.bif fun hB=>?_
   simp only [Vf] at hB
   obtain ⟨hm,hsz⟩:=hB
   split
   ·rename_i h
    subst h
    refine ao.gchk fun hj=>ao.of fun hex η ρ hE=>?_
    have hj:=Xg (hj hex)
    obtain ⟨h1,_,_,_⟩:=hΘ t i hi
    rw [Vb hsz] at h1
    obtain ⟨q,hq⟩:=mj (fU hb) η
    obtain ⟨e,hl⟩:=jG hc
    have hlen:=hl η
    have hcell:=MK hd η
    have hfl:((TC.arr m' s').ty.fill xs ()).length=m' := Ty.fill_length _ _ _
    refine (yv (cs' := au η (a++(.ar m' s' (oY m' s'.dft xs j.toNat z)::r))) q hq ho h1 (aM hE hx) (aM hE hy) (v.lvs_cells hls η) (by rw [hcell]; rfl) ?_ ?_ ?_).map (fun _=>⟨η,Vn.agr_refl n η⟩) (fun _=>rfl) (fun _=>rfl)
    ·rw [hcell]; simp [s'.one]
    ·rw [e,bc,hcell]
     refine Wo ?_
     simp only [au,Lf.cells,Vs,hfl,Vp]
     omega
    ·rw [e,bc,bc,hcell]
     simp only [au,Lf.cells,Vp]
     rw [← agb m' s' xs z (by omega)]
     rw [X9,WF (by omega),show off+j.toNat - (au η a).length=j.toNat by omega,X9,show j.toNat - ((TC.arr m' s').ty.fill xs ()).length=0 by omega,ZS,
      Wm,W6,Wq (as:=au η a) (by omega),XI,show off+j.toNat+1 - (au η a).length=j.toNat+1 by omega,W6,
      show j.toNat+1 - ((TC.arr m' s').ty.fill xs ()).length=0 by omega,Yw]
     simp
   ·exact ao.none
  ·exact ao.none
 ·exact ao.none
end
end
end Go.Sm
