/- Laws for the row. No condition. -/
import Derived.Laws.IdiomStrings
import Derived.Test.YtgghcmbaidihjaaGreatDoorRfH
import Derived.Laws.StructEq
namespace Go.Sm
set_option linter.unusedSectionVars false
section
variable [X:XTab] [G:GTab] [Yc:GCx]
section
variable {R:Type} {P:Program} {o:Oper} {E:SE} {F:List AF} {n:Nat} {Θ:Tb} {ex:Option Bool}
def ac2(v:AV)(k:Out->Option R):Option R:=match v with
  |.lf (.bp b off)=>k (bc (.lf (.bp b off)))
  |.lf (.rp h t i u p)=>k (bc (.lf (.rp h t i u p)))
  |.lf (.gp g t i u p)=>k (bc (.lf (.gp g t i u p)))
  |.lf (.fn f)=>k (bc (.lf (.fn f)))
  |.lf (.clo f bs)=>k (bc (.lf (.clo f bs)))
  |.lf (.c .fnc f)=>k (bc (.lf (.c .fnc f)))
  |_=>none
theorem akU{x:Operand}{v:AV}(ho:o.op=.nilCheck x)(hv:ev E x=some v)(k:Out->Option R):aq ex P o E F n (ac2 v k) k:=by
  unfold ac2;split;all_goals first
    |exact aq.none
    | (refine aq.of λ_=>(dc.pure λη ρ hE ev w c he _=>?_)
       have h:=aH hE hv
       subst he
       simp only[AV.val,Lf.val]at h|-
       simp only[execOp,ho,h];rfl)
def MR(E:SE):List Operand->Option (List Nat)
  |[]=>some []
  | x::r=>match ev E x,MR E r with
    |some (.lf (.bp b 0)),some bs=>some (b::bs)
    |_,_=>none
theorem Po{η:Vn}{ρ:cV}(hE:kU η ρ E):∀{xs:List Operand} {bs:List Nat},MR E xs=some bs->xs.map (aJ ρ)=bs.map λb=>Value.pointer (some ⟨η.b b,0,none⟩)
  | [],bs,h=>by
    simp only[MR,no]at h;subst h;rfl
  | x::r,bs,h=>by
    simp only[MR]at h;split at h
    · rename_i b bs' hx hr
      simp only[no]at h
      subst h
      have h1:=aH hE hx
      have h2:=Po hE hr
      simp only[AV.val,Lf.val]at h1
      simp only[aas,h1,h2]
    ·cases h
def Ud(E:SE)(fn:Fn)(first cap:List Operand)(k:Out->Option R):Option R:=match fn,first,cap with
  |.func f,[],[]=>k (bc (.lf (.fn f)))
  | .func f,[],x::xs=>match MR E (x::xs)with
    |some bs=>k (bc (.lf (.clo f bs)))
    |none=>none
  |_,_,_=>none
theorem YH{fn:Fn}{first cap:Array Operand}(ho:o.op=.makeFunc fn first cap)(k:Out->Option R):aq ex P o E F n (Ud E fn first.toList cap.toList k) k:=by
  unfold Ud;split
  · rename_i f h1 h2
    refine aq.of λ_=>(dc.pure λη ρ hE ev w c he _=>?_)
    have e1:first = #[]:=by simpa using h1
    have e2:cap = #[]:=by simpa using h2
    subst he e1 e2
    simp[execOp,ho,Instr.makeFunc,AV.val,Lf.val,Result.andThen]
  · rename_i f x xs h1 h2
    split
    · rename_i bs hv
      refine aq.of λ_=>(dc.pure λη ρ hE ev w c he _=>?_)
      have e1:first = #[]:=by simpa using h1
      have e2:cap=(x::xs).toArray:=by rw[<-h2]
      have h:=Po hE hv
      subst he e1 e2
      have e3:Array.map (aJ ρ) (x::xs).toArray=(bs.map λb=>Value.pointer (some ⟨η.b b,0,none⟩)).toArray:=by rw[List.map_toArray,h]
      have e4:Array.map (aJ ρ) #[] = #[]:=by simp
      have e5:(Array.map (aJ ρ) (x::xs).toArray)=(bs.map λb=>Value.pointer (some ⟨η.b b,0,none⟩)).toArray:=e3
      have e6:(Value.func (.func f) (Array.map (aJ ρ) #[]) (Array.map (aJ ρ) (x::xs).toArray))=(AV.lf (.clo f bs)).val η:=by rw[e4,e5];rfl
      rw[<-e6]
      simp[execOp,ho,Instr.makeFunc,Result.andThen]
    ·exact aq.none
  ·exact aq.none
def G3(g:Nat)(t:TC):List GEnt->Option (List t.den)
  |[]=>none
  |e::r=>bif Nat.beq g e.g then(if h:e.t=t then(bif e.t.ty.pureB then some (Ek h e.xs)else none)else none)else G3 g t r
theorem Fa{g:Nat}{t:TC}:∀{l:List GEnt} {xs:List t.den},G3 g t l=some xs->(⟨g,t,xs⟩:GEnt)∈l/\t.ty.pureB=true
  |[],_,h=>by simp[G3]at h
  | e::r,xs,h=>by
    simp only[G3]at h;cases hb:Nat.beq g e.g
    ·rw[hb]at h;exact⟨Zf _ (Fa h).1,(Fa h).2⟩
    · rw[hb]at h
      simp only[Ze]at h
      split at h
      · rename_i he
        cases hp:e.t.ty.pureB
        ·grind
        rw[hp]at h
        obtain⟨eg,et,exs⟩:=e
        simp only at he hb
        subst he
        simp only[Ze,no]at h
        subst h
        rw[f9 hb]
        exact⟨ZO,hp⟩
      ·cases h
abbrev Rf(g n:Nat):Hd:=⟨some ⟨g,0,none⟩,n,n⟩
theorem Cd{w:World}{S:Nat->Prop}{t:TC}(hp:t.ty.pureB=true):∀xs:List t.den,bX (bD w S t.ty) xs (List.replicate xs.length t.ref0)
  |[]=>trivial
  | x::xs=>by
    rw[aaG,adF];exact⟨bD.pure t.ty x t.ref0 hp,Cd hp xs⟩
theorem YF{g:Nat}{t:TC}{xs:List t.den}(h:G3 g t G.gl=some xs){w:World}{c:aS}{L:List HA}(hH:aj w c (L++eV)):HA.holds w c (.rep t.ty [0,1] xs (Rf g xs.length)):=by
  obtain⟨hm,hp⟩:=Fa h;obtain⟨⟨ty,fz,hb⟩,hc,hn⟩:=hH _ (Z7 _ (ZW _ (ZA.2 ⟨_,hm,rfl⟩)));have hl:(cellsOf t.ty xs (List.replicate xs.length t.ref0)).length=xs.length*t.ty.sz:=cE t.ty (by simp);refine⟨List.replicate xs.length t.ref0,Cd hp xs,rfl,Z0 _,hn,.inr ⟨g,0,_,ty,fz,rfl,?_,hb,?_,?_⟩⟩
  ·grind
  ·grind
  grind
def VT(Θ:Tb)(ex:Option Bool)(t:TypeId)(g:Nat)(i:Int)(k:Out->Option R):Option R:=match Θ t with
  | some ⟨.arr m e,_,_,_,_⟩=>match Θ e with
    |some ie=>bif Nat.beq ie.sz ie.tc.ty.sz then gchk ex (decide (0<=i/\i<m)) (k (bc (.lf (.gp g ie.tc i ie.tc .here))))else none
    |none=>none
  |_=>none
theorem alq{ρ:cV}{L:List HA}{t e:TypeId}{x ix:Operand}{ki:IntKind}{i:Int}{m:Nat}{b o':Nat}{sz by_:Nat}{z:Value}(ho:o.op=.indexAddr t x ix)(ht:P.underlying t=some (.array m e))(hi:TI P e sz by_ z)
    (hx:aJ ρ x=.pointer (some ⟨b,o',none⟩)) (hix:aJ ρ ix=.int ki i) (h0:decide (0<=i/\i<m)=true):aX P ρ o L (.pointer (some ⟨b,o'+i.toNat*sz,none⟩)):=λev w c he hL=>by
  subst he;have htihi:=hi;clear hi;obtain⟨inf,hi,_,hs,_⟩:=htihi.get;have hi0:0<=i/\i<m:=aaq h0;simp[execOp,ho,hx,hix,Instr.indexAt,Instr.sureAddr,asIntOf,run_underlying ht,sizeOf,typeInfo,hi,hs,hi0,eN,Result.andThen]
theorem YN(hΘ:Θ.ok P){t:TypeId}{g:Nat}{ix:Operand}{ki:IntKind}{i:Int}(ho:o.op=.indexAddr t (.global g) ix)(h2:ev E ix=some (fL ki i))(k:Out->Option R) :
    aq ex P o E F n (VT Θ ex t g i k) k:=by
  unfold VT;split
  · rename_i m e _ _ _ _ ht
    split
    · rename_i ie he
      refine aq.bif λhsz=>aq.gchk λhb=>aq.of λhx=>(dc.pure λη ρ hE=>?_)
      have:=alq (o:=o) (ρ:=ρ) (L:=F.map (AF.ha η)) ho (hΘ t _ ht).2.1 (hΘ e ie he).1 (rfl:aJ ρ (.global g)=.pointer (some ⟨g,0,none⟩)) (aH hE h2) (hb hx)
      simp only[AV.val,Lf.val,Pa.off,abj]
      simp_all
    ·exact aq.none
  ·exact aq.none
def KN(Θ:Tb)(ex:Option Bool)(n:Nat)(t:TypeId)(g:Nat)(te:TC)(i:Int)(u:TC)(p:Pa te u)(k:Out->Option R):Option R:=match Θ t,G3 g te G.gl with
  |some inf,some xs=>bif Nat.beq inf.sz u.ty.sz&&Nat.ble u.nh 64&&(inf.d.agg==u.aggT) && !u.isMp then nchk ex p.needs (gbind ex te.dft (ae xs i) λx=>k ⟨pC u (p.get x) n,tB u (p.get x) [0,1] n,[]⟩)else none
  |_,_=>none
theorem aj2{η:Vn}{te:TC}{g:Nat}{xs:List te.den}(hs:G3 g te G.gl=some xs){i:Int}{v:te.den}(hv:ae xs i=some v):El (F.map (AF.ha η)++eV) te.ty [0,1] v (Rf g xs.length) (i.toNat*te.ty.sz):=λw c hH=>
  MQ (L:=.rep te.ty [0,1] xs (Rf g xs.length)::(F.map (AF.ha η)++eV)) 0 rfl rfl hv w c (aj.cons (YF hs hH) hH)
theorem ajA(g n x:Nat):dR (Rf g n) x=⟨g,x,none⟩:=by simp[dR,Rf]
theorem W2(hΘ:Θ.ok P){t:TypeId}{x:Operand}{g:Nat}{te:TC}{i:Int}{u:TC}{p:Pa te u}(ho:o.op=.load t x)(h1:ev E x=some (.lf (.gp g te i u p)))(k:Out->Option R) :
    aq ex P o E F n (KN Θ ex n t g te i u p k) k:=by
  unfold KN;split
  · rename_i inf xs hi hs
    refine aq.bif λhc=>aq.nchk λhf=>aq.gbind λv hv=>aq.ofG λhx η ρ hE=>?_
    simp only[Y5,ajk,abc]at hc
    obtain⟨⟨⟨hsz,hnh⟩,hag⟩,hmp⟩:=hc
    have hsz:=f9 hsz
    have hnh:=Zh hnh
    obtain⟨g1,g2,_,_⟩:=hΘ t inf hi
    obtain⟨td,ht,hd⟩:=l9 g2
    rw[hag]at hd
    have hE':=BH p (aj2 (F:=F) (η:=η) hs (hv hx)) (hf hx)
    have hp:aJ ρ x=.pointer (some (dR (Rf g xs.length) (i.toNat*te.ty.sz+p.off))):=by rw[ajA];exact aH hE h1
    cases u with
    |sc sk=>exact(aX.op (wg hE' ho ht hd hp)).map (λ_=>⟨η,Vn.agr_refl n η⟩) (λ_=>rfl) (λ_=>rfl)
    |ext m=>exact(aX.op (wg hE' ho ht hd hp)).map (λ_=>⟨η,Vn.agr_refl n η⟩) (λ_=>rfl) (λ_=>rfl)
    | slice t' =>
      refine(yV hE' ho ht hd hp).map (λhh=>⟨η.setH n hh,η.setH_agr n hh⟩) (λhh=>?_) λhh=>?_
      ·simp[pC,AV.val,Lf.val,Vn.setH_at]
      ·simp[tB,AF.ha,Vn.setH_at]
    | arr m sk=>
      refine(eK hE' ho ht hd g1 hsz hp).map (λy=>⟨η.set n (cz _ y),Vn.set_agr (by rw[cU];exact hnh)⟩) (λy=>?_) λy=>?_
      ·rfl
      rfl
    | unit=>
      refine(eK hE' ho ht hd g1 hsz hp).map (λy=>⟨η.set n (cz _ y),Vn.set_agr (by rw[cU];exact hnh)⟩) (λy=>?_) λy=>?_
      ·rfl
      rfl
    | st a=>
      refine(eK hE' ho ht hd g1 hsz hp).map (λy=>⟨η.set n (cz a y),Vn.set_agr (by rw[cU];exact hnh)⟩) (λy=>?_) λy=>?_
      ·exact(rb (u:=.st a) rfl (eY.set (l:=cz a y))).symm
      ·exact(qv a _ y n eY.set).symm
    | pair a b=>
      refine(eK hE' ho ht hd g1 hsz hp).map (λy=>⟨η.set n (cz _ y),Vn.set_agr (by rw[cU];exact hnh)⟩) (λy=>?_) λy=>?_
      ·exact(rb (u:=.pair a b) rfl eY.set).symm
      ·exact(qv (.pair a b) _ y n eY.set).symm
    | node=>
      refine(eK hE' ho ht hd g1 hsz hp).map (λy=>⟨η.set n (cz .node y),Vn.set_agr (by rw[cU];exact hnh)⟩) (λy=>?_) λy=>?_
      ·exact(rb (u:=.node) rfl (eY.set (l:=cz .node y))).symm
      ·exact(qv .node _ y n eY.set).symm
    |mp _ _=>cases hmp
  ·exact aq.none
theorem nF:(t:Ty)->t.pureB=true->(x:t.den)->(y y':t.Refs)->t.fill x y=t.fill x y'
  |.one _ _ _,_,_,_,_=>rfl
  |.arr _ _ _ _ _,_,_,_,_=>rfl
  |.unit,_,_,_,_=>rfl
  | .pair a b,h,x,y,y'=>by
    simp only[Ty.pureB,Y5]at h;simp only[Ty.fill];rw[nF a h.1 x.1 y.1 y'.1,nF b h.2 x.2 y.2 y'.2]
  |.slice _,h,_,_,_=>by cases h
  |.node,h,_,_,_=>by cases h
  |.mp _ _,h,_,_,_=>by cases h
theorem AW(t:Ty)(h:t.pureB=true):∀{xs:List t.den} {ys ys':List t.Refs},xs.length=ys.length->xs.length=ys'.length->cellsOf t xs ys=cellsOf t xs ys'
  |[],_,_,_,_=>by simp[cellsOf]
  | x::xs,y::ys,y'::ys',h1,h2=>by
    simp only[cellsOf];rw[nF t h x y y',AW t h (by simpa using h1) (by simpa using h2)]
  |_::_,[],_,h1,_=>by simp at h1
  |_::_,_::_,[],_,h2=>by simp at h2
def Ov(Θ:Tb)(t:TypeId)(g:Nat)(k:Out->Option R):Option R:=match Θ t with
  | some ⟨.arr _ e,sz,_,_,_⟩=>match Θ e with
    | some ie=>match G3 g ie.tc G.gl with
      |some xs=>bif Nat.ble 1 xs.length&&ie.tc.ty.pureB&&Nat.beq sz (xs.length*ie.tc.ty.sz)then k (bc (.lf (.ars ie.tc xs)))else none
      |none=>none
    |none=>none
  |_=>none
theorem WG(hΘ:Θ.ok P){t:TypeId}{g:Nat}(ho:o.op=.load t (.global g))(k:Out->Option R):aq ex P o E F n (Ov Θ t g k) k:=by
  unfold Ov;split
  · rename_i m e sz by_ zl tc ht
    split
    · rename_i ie he
      split
      · rename_i xs hs
        refine aq.bif λhc=>aq.ofG λhx η ρ hE=>?_
        simp only[Y5]at hc
        obtain⟨⟨hm,hp⟩,hsz⟩:=hc
        have hsz:=f9 hsz
        obtain⟨g1,g2,_,_⟩:=hΘ t _ ht
        obtain⟨inf,hi,_,hs',_⟩:=g1.get
        refine(aX.op (v:=(AV.lf (.ars ie.tc xs)).val η) λev w c hev hH=>?_).map (λ_=>⟨η,Vn.agr_refl n η⟩) (λ_=>rfl) (λ_=>rfl)
        subst hev
        obtain⟨ys,hys,hn,_,_,hcs⟩:=YF hs hH
        have hfin:∀{b off:Nat} {arr:Array Value} {ty:TypeId} {fz:Nat×Nat},some (⟨g,0,none⟩:Addr)=some ⟨b,off,none⟩->w.heap[b]?=some (.cells arr ty fz)->(arr.toList.drop off).take (xs.length*ie.tc.ty.sz)=cellsOf ie.tc.ty xs ys ->
            (execOp (aJ ρ) o).run P w=.ok (.value ((AV.lf (.ars ie.tc xs)).val η)) w:=by
          intro b off arr ty fz ha hb hcl;simp only[no,Addr.mk.injEq,alE]at ha;obtain⟨rfl,rfl⟩:=ha;have hlen:(cellsOf ie.tc.ty xs ys).length=inf.size:=by grind
          have hl:=sF (P:=P) (w:=w) (t:=t) g2 rfl hi hb (cs:=cellsOf ie.tc.ty xs ys) (by rw[hs',hsz];exact hcl) hlen;have e1:cellsOf ie.tc.ty xs ys=cellsOf ie.tc.ty xs (List.replicate xs.length ie.tc.ref0):=AW _ hp hys.length (by simp);simp only[execOp,ho,aJ,hl,AV.val,Lf.val,<-e1,Sem.run_bind,Result.andThen_ok,Sem.run_pure]
        rcases hcs with⟨_,h0⟩|⟨b,off,arr,ty,fz,ha,_,hb,_,hcl⟩
        ·simp_all
        grind
      ·exact aq.none
    ·exact aq.none
  ·exact aq.none
theorem xG:(t:TC)->t.ty.pureB=true->t.nh=0
  |.sc _,_=>rfl
  |.arr _ _,_=>rfl
  |.unit,_=>rfl
  | .pair a b,h=>by
    simp only[TC.ty,Ty.pureB,Y5]at h;simp only[TC.nh,xG a h.1,xG b h.2]
  |.slice _,h=>by cases h
  |.st a,h=>xG a h
  |.ext _,_=>rfl
def TC.isSc:TC->Bool
  |.sc _=>true
  |_=>false
def Fm(Θ:Tb)(ex:Option Bool)(t:TypeId)(te:TC)(xs:List te.den)(i:Int)(k:Out->Option R):Option R:=match Θ t with
  | some ⟨.arr m e,_,_,_,_⟩=>match Θ e with
    |some ie=>bif Nat.beq xs.length m&&Nat.beq ie.sz te.ty.sz&&(ie.d.agg==te.aggT)&&te.ty.pureB&&(te.aggT||te.isSc)then gbind ex te.dft (ae xs i) λx=>k (bc (pC te x 0))else none
    |none=>none
  |_=>none
theorem S3(hΘ:Θ.ok P){t:TypeId}{x y:Operand}{ki:IntKind}{i:Int}{te:TC}{xs:List te.den}(ho:o.op=.index t x y)(h1:ev E x=some (.lf (.ars te xs)))(h2:ev E y=some (fL ki i))(k:Out->Option R) :
    aq ex P o E F n (Fm Θ ex t te xs i k) k:=by
  unfold Fm;split
  · rename_i m e _ _ _ _ ht
    split
    · rename_i ie he
      refine aq.bif λhc=>aq.gbind λv hv=>aq.of λhx=>(dc.pure λη ρ hE ev w c hev _=>?_)
      simp only[Y5,ajk]at hc
      obtain⟨⟨⟨⟨hm,hsz⟩,hag⟩,hp⟩,hta⟩:=hc
      obtain rfl:=f9 hm
      have hsz:=f9 hsz
      obtain⟨g1,g2,_,_⟩:=hΘ e ie he
      obtain⟨td,htd,hd⟩:=l9 g2
      rw[hag]at hd
      obtain⟨inf,hi,_,hs',_⟩:=g1.get
      have e1:=aH hE h1
      have e2:=aH hE h2
      subst hev
      obtain⟨h0,hg,hlt⟩:=lZ (hv hx)
      have hcell:=rM te.ty (ys:=List.replicate xs.length te.ref0) (i:=i.toNat) (x:=v) (y:=te.ref0) hg (by grind)
      simp only[AV.val,Lf.val]at e1 e2
      have hi0:0<=i/\i<(xs.length:Int):=⟨h0,by omega⟩
      cases hag2:te.aggT
      · rw[hag2]at hd hta
        cases te with
        | sc s=>
          have hc1:(cellsOf (TC.sc s).ty xs (List.replicate xs.length (TC.sc s).ref0))[i.toNat]?=some (s.val v):=by have:=aae (·[0]?) hcell;simpa[TC.ty,Ty.sz,Ty.fill]using this
          simp[execOp,ho,e1,e2,Instr.index,asIntOf,run_underlying (hΘ t _ ht).2.1,hi0,sizeOf,typeInfo,hi,hs',hsz,part,j9 htd hd,Result.andThen];simp[TC.ty,Ty.sz,pC,AV.val,Lf.val]at hc1|-;simp[hc1]
        |_=>cases hta
      · rw[hag2]at hd
        have hval:(pC te v 0).val η=.agg (te.ty.fill v te.ref0).toArray:=rb hag2 (λj h hj=>by have:=(aaw.1 hj).1;rw[cU,xG te hp]at this;omega)
        rw[hval]
        simp[execOp,ho,e1,e2,Instr.index,asIntOf,run_underlying (hΘ t _ ht).2.1,hi0,sizeOf,typeInfo,hi,hs',hsz,part,xI htd hd,Result.andThen]
        exact hcell
    ·exact aq.none
  ·exact aq.none
def Cn(h:Nat):List AF->Option Bool
  |[]=>none
  |.isn h' b::r=>bif Nat.beq h h' then some b else Cn h r
  |_::r=>Cn h r
theorem iM{h:Nat}:∀{F:List AF} {b:Bool},Cn h F=some b->.isn h b∈F
  |[],_,hh=>by simp[Cn]at hh
  | .isn h' b'::r,b,hh=>by
    simp only[Cn]at hh;cases hb:Nat.beq h h'
    ·rw[hb]at hh;exact Zf _ (iM hh)
    simp_all
  |.ag _::r,_,hh=>Zf _ (iM (F:=r) hh)
  |.rep _ _ _ _::r,_,hh=>Zf _ (iM (F:=r) hh)
  |.own _ _ _ _ _ _::r,_,hh=>Zf _ (iM (F:=r) hh)
  |.box _ _ _::r,_,hh=>Zf _ (iM (F:=r) hh)
  |.prt _ _ _ _ _::r,_,hh=>Zf _ (iM (F:=r) hh)
  |.pbx _ _ _ _ _::r,_,hh=>Zf _ (iM (F:=r) hh)
  |.hol _ _ _ _ _ _ _::r,_,hh=>Zf _ (iM (F:=r) hh)
  |.mp _ _ _ _ _::r,_,hh=>Zf _ (iM (F:=r) hh)
  |.pt _ _ _ _ _ _ _::r,_,hh=>Zf _ (iM (F:=r) hh)
def T8(Θ:Tb)(op:BinOp)(t:TypeId)(l:Lf)(F:List AF)(k:Out->Option R):Option R:=match Θ t,op,l with
  | some ⟨.slice _,_,_,_,_⟩,.eql,.sl h=>match Cn h F with
    |some b=>k (bc (eD b))
    |none=>none
  | some ⟨.slice _,_,_,_,_⟩,.neq,.sl h=>match Cn h F with
    |some b=>k (bc (eD (!b)))
    |none=>none
  |some ⟨.slice _,_,_,_,_⟩,.eql,.nl=>k (bc (eD true))
  |some ⟨.slice _,_,_,_,_⟩,.neq,.nl=>k (bc (eD false))
  |_,_,_=>none
theorem aX.of{ρ:cV}{L:List HA}{v v':Value}(p:Prop)(h:∀w c,aj w c L->p)(hp:p->v=v')(hv:aX P ρ o L v):aX P ρ o L v':=λev w c he hL=>by rw[<-hp (h w c hL)];exact hv ev w c he hL
theorem acd(hΘ:Θ.ok P){op:BinOp}{t t':TypeId}{x y:Operand}{l:Lf}(ho:o.op=.binOp op t x y t')(h1:ev E x=some (.lf l))(h2:ev E y=some (.lf .nl))(k:Out->Option R):aq ex P o E F n (T8 Θ op t l F k) k:=by
  unfold T8;split
  · rename_i ht
    split
    · rename_i b hb
      refine aq.of λ_=>(dc.pure λη ρ hE=>?_)
      exact aX.of _ (λw c hH=>hH _ (ZA.2 ⟨_,iM hb,rfl⟩)) (λhp=>by rw[<-show(η.h _).isNil=b from hp];rfl) (Q4 ho (hΘ t _ ht).2.1 (aH hE h1) (aH hE h2))
    ·exact aq.none
  · rename_i ht
    split
    · rename_i b hb
      refine aq.of λ_=>(dc.pure λη ρ hE=>?_)
      exact aX.of _ (λw c hH=>hH _ (ZA.2 ⟨_,iM hb,rfl⟩)) (λhp=>by rw[<-show(η.h _).isNil=b from hp];rfl) (Om ho (hΘ t _ ht).2.1 (aH hE h1) (aH hE h2))
    ·exact aq.none
  · rename_i ht
    exact aq.of λ_=>(dc.pure λη ρ hE=>Q4 (h:=eJ) ho (hΘ t _ ht).2.1 (aH hE h1) (aH hE h2))
  · rename_i ht
    exact aq.of λ_=>(dc.pure λη ρ hE=>Om (h:=eJ) ho (hΘ t _ ht).2.1 (aH hE h1) (aH hE h2))
  ·exact aq.none
def FW(E:SE)(q:Option Operand)(d:Int):Option Int:=match q with
  |none=>some d
  | some q=>match ev E q with
    |some (.lf (.c (.int _) i))=>some i
    |_=>none
theorem BW{q:Option Operand}{d i:Int}(h:FW E q d=some i){η:Vn}{ρ:cV}(hE:kU η ρ E):(q=none/\i=d)\/∃x kk,q=some x/\aJ ρ x=.int kk i:=by
  unfold FW at h;split at h
  ·grind
  · split at h
    · rename_i x _ kk j hv
      simp only[no]at h
      subst h
      exact .inr ⟨x,kk,rfl,aH hE hv⟩
    ·cases h
theorem Gt{ρ:cV}{w:World}{isS:Bool}{len cap:Nat}{lo hi:Option Operand}{i j:Int}(hlo:(lo=none/\i=0)\/∃x kk,lo=some x/\aJ ρ x=.int kk i)(hhi:(hi=none/\j=len)\/∃x kk,hi=some x/\aJ ρ x=.int kk j)
    (hb:0<=i/\i<=j/\j<=cap):(Instr.sliceBounds isS len cap (lo.map (aJ ρ)) (hi.map (aJ ρ)) none).run P w=.ok (i.toNat,j.toNat,cap) w:=by
  obtain⟨h0,h1,h2⟩:=hb;have b1:∀x kk code,aJ ρ x=.int kk j->(Instr.sliceBound (aJ ρ x) cap code).run P w=.ok j.toNat w:=λx kk code hx=>by rw[hx];exact lW (by omega) h2
  have b2:∀x kk code,aJ ρ x=.int kk i->(Instr.sliceBound (aJ ρ x) j.toNat code).run P w=.ok i.toNat w:=λx kk code hx=>by rw[hx];exact lW h0 (by omega)
  rcases hhi with⟨rfl,rfl⟩|⟨x,kk,rfl,hx⟩<;>rcases hlo with⟨rfl,rfl⟩|⟨y,kk',rfl,hy⟩
  ·rfl
  · have:=b2 y kk' .sliceB hy
    simp only[ZH]at this
    simp[Instr.sliceBounds,this,Result.andThen]
  ·cases isS<;>simp[Instr.sliceBounds,b1 x kk _ hx,Result.andThen]
  ·cases isS<;>simp[Instr.sliceBounds,b1 x kk _ hx,b2 y kk' _ hy,Result.andThen]
def Fg(Θ:Tb)(E:SE)(ex:Option Bool)(t:TypeId)(s:List UInt8)(lo hi:Option Operand)(k:Out->Option R):Option R:=match Θ t,FW E lo 0,FW E hi s.length with
  |some ⟨.str,_,_,_,_⟩,some i,some j=>gchk ex (decide (0<=i/\i<=j/\j<=s.length)) (k (bc (xR ((s.take j.toNat).drop i.toNat))))
  |_,_,_=>none
theorem U7(hΘ:Θ.ok P){t:TypeId}{x:Operand}{s:List UInt8}{lo hi:Option Operand}(ho:o.op=.slice t x lo hi none)(h1:ev E x=some (xR s))(k:Out->Option R):aq ex P o E F n (Fg Θ E ex t s lo hi k) k:=by
  unfold Fg;split
  · rename_i i j ht hbi hbj
    refine aq.gchk λhb=>aq.of λhx=>(dc.pure λη ρ hE ev w c he _=>?_)
    have hb:=aaq (hb hx)
    have hx:=aH hE h1
    subst he
    have hbd:=Gt (P:=P) (w:=w) (isS:=false) (len:=s.length) (cap:=s.length) (BW hbi hE) (BW hbj hE) hb
    have ht':P.underlying t=some .string:=(hΘ t _ ht).2.1
    have hsz:(⟨s.toArray⟩:ByteArray).size=s.length:=by rfl
    have hext:(⟨s.toArray⟩:ByteArray).extract i.toNat j.toNat=⟨((s.take j.toNat).drop i.toNat).toArray⟩:=by apply ByteArray.ext;apply aj9;simp[ByteArray.data_extract,ad0]
    simp only[AV.val,Lf.val]at hx|-
    have h2:(Instr.slice t (.string ⟨s.toArray⟩) (lo.map (aJ ρ)) (hi.map (aJ ρ)) none).run P w=.ok (.string ⟨((s.take j.toNat).drop i.toNat).toArray⟩) w:=by simp[Instr.slice,run_underlying ht',hsz,hbd,hext,Result.andThen]
    simp[execOp,ho,hx,Instr.sliceAt,run_underlying ht',h2,Result.andThen]
  ·exact aq.none
theorem Em:∀(ns:List Int) (a:Array UInt8),ns.foldl (λ(r:ByteArray) n=>r.push (UInt8.ofNat n.toNat)) ⟨a⟩=⟨a++(ns.map λn=>UInt8.ofNat n.toNat).toArray⟩
  |[],a=>by simp
  | n::r,a=>by
    simp only[alQ,aas];rw[show(⟨a⟩:ByteArray).push (UInt8.ofNat n.toNat)=⟨a.push (UInt8.ofNat n.toNat)⟩from rfl,Em r];simp_all
theorem yb:∀{xs:List Int} {ys:List Unit},xs.length=ys.length->cellsOf (TC.sc (.int .u8)).ty xs ys=xs.map (Value.int .u8)
  |[],_,_=>by simp[cellsOf]
  | x::xs,y::ys,h=>by
    have:=yb (xs:=xs) (ys:=ys) (by simpa using h);simp only[cellsOf,aas,this];rfl
  |_::_,[],h=>by simp at h
def Ej(Θ:Tb)(s d:TypeId)(l:Lf)(F:List AF)(k:Out->Option R):Option R:=match Θ s,Θ d with
  | some ⟨.slice e,_,_,_,_⟩,some ⟨.str,_,_,_,_⟩=>match Θ e with
    | some ⟨.int .u8,_,_,_,_⟩=>match gH (.sc (.int .u8)) F l with
      |some q=>k (bc (xR ((show List Int from q.xs).map λn=>UInt8.ofNat n.toNat)))
      |none=>none
    |_=>none
  |_,_=>none
theorem Gm(hΘ:Θ.ok P){s d:TypeId}{x:Operand}{l:Lf}(ho:o.op=.convert s d x)(h1:ev E x=some (.lf l))(k:Out->Option R):aq ex P o E F n (Ej Θ s d l F k) k:=by
  unfold Ej;split
  · rename_i e _ _ _ _ _ _ _ _ hs hd
    split
    · rename_i he
      split
      · rename_i q hq
        refine aq.of λ_=>(dc.pure λη ρ hE ev w c hev hH=>?_)
        have hx:=aH hE h1
        simp only[AV.val]at hx
        rw[(oe hq η).1]at hx
        obtain⟨ys,hys,hn,_,_,hc⟩:=gE hq hH
        subst hev
        have hconv:=run_convert_bytes_string w s d e (l.hd η).a (l.hd η).n (l.hd η).cap (hΘ s _ hs).2.1 (hΘ e _ he).2.1 (hΘ d _ hd).2.1
        have hfin:∀{ns:List Int},(Conv.bytesToString (l.hd η).val).run P w=.ok (.string ⟨(ns.map λn=>UInt8.ofNat n.toNat).toArray⟩) w->ns=q.xs->(execOp (aJ ρ) o).run P w=.ok (.value (.string ⟨((show List Int from q.xs).map λn=>UInt8.ofNat n.toNat).toArray⟩)) w:=by intro ns h e;subst e;simp[execOp,ho,hx,hconv,h,Result.andThen]
        simp only[AV.val,Lf.val]
        rcases hc with⟨_,h0⟩|⟨b,off,arr,ty,fz,ha,_,hb,hfit,hcl⟩
        · have hx0:q.xs=([]:List Int):=abT (by omega)
          refine hfin (ns:=[]) ?_ hx0.symm
          have hn0:(l.hd η).n=0:=by grind
          cases ha:(l.hd η).a with
          | none=>
            simp only[Hd.val,ha,hn0];rfl
          | some a=>
            have hl:(loadCells a 0).run P w=.ok (([]:List Int).map (Value.int .u8)).toArray w:=run_loadCells_list w a [] (λj v h=>by cases h);have:=run_bytesToString (P:=P) w a 0 (l.hd η).cap [] hl;simp only[Hd.val,ha,hn0];rw[this];rfl
        · have hcells:cellsOf (TC.sc (.int .u8)).ty q.xs ys=(show List Int from q.xs).map (Value.int .u8):=yb hys.length
          have hl:(loadCells ⟨b,off,none⟩ q.xs.length).run P w=.ok ((show List Int from q.xs).map (Value.int .u8)).toArray w:=by have:=run_loadCells_list (P:=P) w ⟨b,off,none⟩ ((show List Int from q.xs).map (Value.int .u8)) (λj v hv=>by rw[eN,lj hb];grind);grind
          have:=run_bytesToString (P:=P) w ⟨b,off,none⟩ q.xs.length (l.hd η).cap (show List Int from q.xs) hl
          refine hfin (ns:=q.xs) ?_ rfl
          simp only[Hd.val,ha,hn]
          rw[this,show ByteArray.empty=⟨#[]⟩from rfl,Em]
          simp
      ·exact aq.none
    ·exact aq.none
  ·exact aq.none
theorem OQ{w:World}{c:aS}{w':World}{c':aS}(h:Stp [] w.drew c w' c'):Stp [] w c w' c':=⟨h.size,h.col,h.same,h.two,h.env⟩
theorem Xr{w:World}{S:Nat->Prop}(s:SC):∀l:List s.den,bX (bD w S (TC.sc s).ty) l (List.replicate l.length ())
  |[]=>trivial
  |_::r=>⟨trivial,Xr s r⟩
theorem aeq{ρ:cV}{L:List HA}{s d e:TypeId}{x:Operand}{bs:List UInt8}{N:Nat}(ho:o.op=.convert s d x)(hs:P.underlying s=some .string)(hd:P.underlying d=some (.slice e))(he:P.underlying e=some (.int .u8))
    (hx:aJ ρ x=.string ⟨bs.toArray⟩) (hN:Nat.ble 2 N=true) (hl:decide (bs.length<=maxLen)=true) :
    cJ P ρ o L [] Hd.val (λh=>[.own (TC.sc (.int .u8)).ty (e+1048576) N [] (bs.map λb=>(b.toNat:Int)) h]):=by
  intro a ev w c next Q ha hL hk
  have hlen:bs.length<=maxLen:=aaq hl;have hrun:=run_bytes_of_string (P:=P) w s d e ⟨bs.toArray⟩ hs hd he;have hge:=grownCap_ge w bs.length 0 e;have hle:=grownCap_le_maxLen w bs.length 0 e hlen;have hsz:(ByteArray.mk bs.toArray).size=bs.length:=by rfl
  rw[hsz]at hrun;generalize hcap:grownCap w bs.length 0 e=cap at hrun hge hle;have hrow:bytesRow ⟨bs.toArray⟩ cap=((bs.map λ(b:UInt8)=>Value.int .u8 (b.toNat:Int))++List.replicate (cap-bs.length) (Value.int .u8 0)).toArray:=by simp[bytesRow,hsz]
  have hrsz:(bytesRow ⟨bs.toArray⟩ cap).size=cap:=by grind
  have hex:(execOp ev o).run P w=.ok (.value (.slice (some ⟨w.heap.size,0,none⟩) bs.length cap)) (w.drew.alloc (.cells (bytesRow ⟨bs.toArray⟩ cap) e ((bytesRow ⟨bs.toArray⟩ cap).size,(bytesRow ⟨bs.toArray⟩ cap).size+1))):=by simp[execOp,ho,ha,hx,hrun,Result.andThen]
  rw[hex];have hst:=OQ (ul (w:=w.drew) (c:=c) hN (.cells (bytesRow ⟨bs.toArray⟩ cap) e ((bytesRow ⟨bs.toArray⟩ cap).size,(bytesRow ⟨bs.toArray⟩ cap).size+1)));have hcells:cellsOf (TC.sc (.int .u8)).ty (bs.map λ(b:UInt8)=>(b.toNat:Int)) (List.replicate bs.length ())=bs.map λ(b:UInt8)=>Value.int .u8 (b.toNat:Int):=by rw[yb (by simp),adK];rfl
  refine hk ⟨some ⟨w.heap.size,0,none⟩,bs.length,cap⟩ _ _ hst (aj.cons ⟨List.replicate bs.length (),?_,⟨?_,.inr ⟨w.heap.size,cap,bytesRow ⟨bs.toArray⟩ cap,e,((bytesRow ⟨bs.toArray⟩ cap).size,(bytesRow ⟨bs.toArray⟩ cap).size+1),?_,heap_alloc_new w.drew _,.inr ⟨Nat.le_add_left _ _,Z0 _⟩,?_,hle,?_,?_⟩⟩,λg hg=>?_⟩ (aj.nil _ _))
  · have:=Xr (w:=w.drew.alloc (.cells (bytesRow ⟨bs.toArray⟩ cap) e ((bytesRow ⟨bs.toArray⟩ cap).size,(bytesRow ⟨bs.toArray⟩ cap).size+1))) (S:=λb=>(if b<w.drew.heap.size then c b else N)∈([]:List Nat)) (.int .u8) (bs.map λ(b:UInt8)=>(b.toNat:Int))
    grind
  ·grind
  ·simp
  ·grind
  ·grind
  ·grind
  · simp only[Hd.val,Value.ownBlock,no]at hg
    simp_all
def N4(Θ:Tb)(ex:Option Bool)(n N:Nat)(s d:TypeId)(a:List UInt8)(k:Out->Option R):Option R:=match Θ s,Θ d with
  |some ⟨.str,_,_,_,_⟩,some ⟨.str,_,_,_,_⟩=>k (bc (xR a))
  | some ⟨.str,_,_,_,_⟩,some ⟨.slice e,_,_,_,_⟩=>match Θ e with
    |some ⟨.int .u8,_,_,_,_⟩=>bif Nat.ble 2 N && !(eM (e+1048576))then gchk ex (decide (a.length<=maxLen)) (k ⟨.lf (.sl n),[.own (.sc (.int .u8)) (e+1048576) N [] (a.map λb=>(b.toNat:Int)) n],[]⟩)else none
    |_=>none
  |_,_=>none
theorem Xs(hΘ:Θ.ok P){N:Nat}{s d:TypeId}{x:Operand}{a:List UInt8}(ho:o.op=.convert s d x)(h1:ev E x=some (xR a))(k:Out->Option R):aq ex P o E F n (N4 Θ ex n N s d a k) k:=by
  unfold N4;split
  · rename_i _ _ _ _ _ _ _ _ hs hd
    refine aq.of λhx=>(dc.pure λη ρ hE ev w c he _=>?_)
    have hs':=(hΘ s _ hs).2.1
    have hd':=(hΘ d _ hd).2.1
    have h2:=aH hE h1
    subst he
    simp only[AV.val,Lf.val]at h2|-
    simp[execOp,ho,h2,convert,run_underlying hs',run_underlying hd',Result.andThen]
  · rename_i _ _ _ _ e _ _ _ _ hs hd
    split
    · rename_i he
      refine aq.bif λhN0=>aq.gchk λhl=>aq.of λhx η ρ hE=>?_
      simp only[Y5]at hN0
      obtain⟨hN,htr⟩:=hN0
      have htr:=sp htr
      refine(aeq (o:=o) (ρ:=ρ) ho (hΘ s _ hs).2.1 (hΘ d _ hd).2.1 (hΘ e _ he).2.1 (aH hE h1) hN (hl hx)).map (λhh=>⟨η.setH n hh,η.setH_agr n hh⟩) (λhh=>?_) λhh=>?_
      ·simp[AV.val,Lf.val,Vn.setH_at]
      ·simp[AF.ha,Vn.setH_at,dx htr]
    ·exact aq.none
  ·exact aq.none
def EF(Θ:Tb)(E:SE)(ex:Option Bool)(n:Nat)(t:TypeId)(l:Lf)(hi mx:Operand)(F:List AF)(k:Out->Option R):Option R:=match Θ t,ev E hi,ev E mx with
  | some ⟨.slice e,_,_,_,_⟩,some (.lf (.c (.int _) j)),some (.lf (.c (.int _) m))=>match Θ e with
    | some ie=>match gH ie.tc F l with
      |some s=>bif Nat.beq ie.sz ie.tc.ty.sz then gchk ex (decide (0<=j/\j<=m/\m<=s.xs.length)) (k ⟨.lf (.sl n),[.rep ie.tc s.all (s.xs.take j.toNat) n],[]⟩)else none
      |none=>none
    |none=>none
  |_,_,_=>none
theorem WK{ρ:cV}{L:List HA}{t e:TypeId}{x hi mx:Operand}{kj km:IntKind}{j m:Int}{ty:Ty}{K:List Nat}{xs:List ty.den}{hd:Hd}{sz by_:Nat}{z:Value}(ho:o.op=.slice t x none (some hi) (some mx))(ht:P.underlying t=some (.slice e))(hti:TI P e sz by_ z)
    (hx:aJ ρ x=hd.val) (hj:aJ ρ hi=.int kj j) (hm:aJ ρ mx=.int km m) (hL:∀w c,aj w c L->HA.holds w c (.rep ty K xs hd)) (hb:decide (0<=j/\j<=m/\m<=xs.length)=true) :
    cJ P ρ o L [] (λ_:Unit=>(⟨hd.a,j.toNat,m.toNat⟩:Hd).val) (λ_=>[.rep ty K (xs.take j.toNat) ⟨hd.a,j.toNat,m.toNat⟩]):=xl λev w c hev hF=>by
  obtain⟨b0,b1,b2⟩:=aaq hb;obtain⟨inf,hinf,_,hs',_⟩:=hti.get;obtain⟨ys,hys,hn,hle,hmx,hc⟩:=hL w c hF;refine⟨(),?_,aj.cons ⟨ys.take j.toNat,hys.take _,?_⟩ (aj.nil _ _)⟩
  · subst hev
    have c1:(Instr.sliceBound (aJ ρ mx) hd.cap .slice3Acap).run P w=.ok m.toNat w:=by rw[hm];exact lW (by omega) (by omega)
    have c2:(Instr.sliceBound (aJ ρ hi) m.toNat .slice3B).run P w=.ok j.toNat w:=by rw[hj];exact lW b0 (by omega)
    have c3:(Instr.sliceBounds true hd.n hd.cap none (some (aJ ρ hi)) (some (aJ ρ mx))).run P w=.ok (0,j.toNat,m.toNat) w:=by simp[Instr.sliceBounds,c1,c2,Result.andThen]
    have hid:Option.map (λa:Addr=>a.add 0) hd.a=hd.a:=by
      cases hd.a with
      |none=>rfl
      |some a=>rfl
    have c4:(Instr.slice t hd.val none (some (aJ ρ hi)) (some (aJ ρ mx))).run P w=.ok (⟨hd.a,j.toNat,m.toNat⟩:Hd).val w:=by simp[Instr.slice,run_underlying ht,c3,sizeOf,typeInfo,hinf,hid,Result.andThen]
    simp[execOp,ho,hx,Instr.sliceAt,run_underlying ht,c4,Result.andThen]
  · refine⟨by simp;omega,by simp;omega,by simp;omega,?_⟩
    rcases hc with⟨_,h0⟩|⟨b,off,arr,tt,fz,ha,hS,hbb,hfit,hcl⟩
    ·grind
    · have h4:m.toNat*ty.sz<=hd.cap*ty.sz:=aaR _ (by omega)
      have h2:j.toNat<=xs.length:=by omega
      have h3:j.toNat*ty.sz<=xs.length*ty.sz:=aaR _ h2
      refine .inr ⟨b,off,arr,tt,fz,ha,hS,hbb,?_,?_⟩
      ·grind
      ·rw[iu ty j.toNat hys.length,<-hcl,ail,acs,ab5 h2,ab5 h3]
theorem VM(hΘ:Θ.ok P){t:TypeId}{x hi mx:Operand}{l:Lf}(ho:o.op=.slice t x none (some hi) (some mx))(h1:ev E x=some (.lf l))(k:Out->Option R):aq ex P o E F n (EF Θ E ex n t l hi mx F k) k:=by
  unfold EF;split
  · rename_i e _ _ _ _ kj j km m ht hj hm
    split
    · rename_i ie he
      split
      · rename_i s hs
        refine aq.bif λhsz=>aq.gchk λhb=>aq.of λhx η ρ hE=>?_
        have hx2:=aH hE h1
        simp only[AV.val]at hx2
        rw[(oe hs η).1]at hx2
        refine(WK (j:=j) (m:=m) ho (hΘ t _ ht).2.1 (hΘ e ie he).1 hx2 (aH hE hj) (aH hE hm) (λw c hF=>gE hs hF) (hb hx)).map (λ_=>⟨η.setH n ⟨(l.hd η).a,j.toNat,m.toNat⟩,η.setH_agr n _⟩) (λ_=>?_) λ_=>?_
        ·simp[AV.val,Lf.val,Vn.setH_at]
        ·simp[AF.ha,Vn.setH_at]
      ·exact aq.none
    ·exact aq.none
  ·exact aq.none
theorem cJ.weaken'{P:Program}{ρ:cV}{o:Oper}{L:List HA}{κ:List Nat}{Y Y':Type}{val:Y->Value}{Φ:Y->List HA}{val':Y'->Value}{Φ':Y'->List HA}(h:cJ P ρ o L κ val Φ)(g:Y->Y')
    (hv:∀y,val y=val' (g y)) (hΦ:∀y w c,aj w c (Φ y)->aj w c (Φ' (g y))):cJ P ρ o L κ val' Φ':=by
  intro a ev w c next Q ha hL hk
  refine h a ev w c next Q ha hL λy w' c' hs hF=>?_
  grind
def EG(Θ:Tb)(E:SE)(ex:Option Bool)(n:Nat)(t:TypeId)(l:Lf)(lo hi mx:Operand)(F:List AF)(k:Out->Option R):Option R:=match Θ t,ev E lo,ev E hi,ev E mx with
  | some ⟨.slice e,_,_,_,_⟩,some (.lf (.c (.int _) i)),some (.lf (.c (.int _) j)),some (.lf (.c (.int _) m))=>match Θ e,l with
    | some ie,.sl h=>match fy ie.tc e 0 F (.sl h)with
      |some (_,_,xs)=>bif Nat.beq ie.sz ie.tc.ty.sz&&out n h then gchk ex (decide (0<=i/\i<=j/\j<=m/\m<=xs.length)) (k ⟨.lf (.sl n),[.prt n h ie.sz i j],[]⟩)else none
      |none=>none
    |_,_=>none
  |_,_,_,_=>none
theorem XZ{ρ:cV}{L:List HA}{t e:TypeId}{x lo hi mx:Operand}{ki kj km:IntKind}{i j m:Int}{ty:Ty}{K:List Nat}{xs:List ty.den}{hd:Hd}{sz by_:Nat}{z:Value}(ho:o.op=.slice t x (some lo) (some hi) (some mx))(ht:P.underlying t=some (.slice e))(hti:TI P e sz by_ z)
    (hx:aJ ρ x=hd.val) (hi':aJ ρ lo=.int ki i) (hj:aJ ρ hi=.int kj j) (hm:aJ ρ mx=.int km m) (hL:∀w c,aj w c L->HA.holds w c (.rep ty K xs hd)) (hb:decide (0<=i/\i<=j/\j<=m/\m<=xs.length)=true) :
    cJ P ρ o L [] (λy : { h:Hd//kQ h hd sz i j}=>y.1.val) (λ_=>[]):=xl λev w c hev hF=>by
  obtain⟨b0,b1,b2,b3⟩:=aaq hb;obtain⟨inf,hinf,_,hs',_⟩:=hti.get;obtain⟨ys,hys,hn,hle,hmx,hc⟩:=hL w c hF;subst hev;have c1:(Instr.sliceBound (aJ ρ mx) hd.cap .slice3Acap).run P w=.ok m.toNat w:=by rw[hm];exact lW (by omega) (by omega)
  have c2:(Instr.sliceBound (aJ ρ hi) m.toNat .slice3B).run P w=.ok j.toNat w:=by rw[hj];exact lW (by omega) (by omega)
  have c0:(Instr.sliceBound (aJ ρ lo) j.toNat .slice3C).run P w=.ok i.toNat w:=by rw[hi'];exact lW b0 (by omega)
  have c3:(Instr.sliceBounds true hd.n hd.cap (some (aJ ρ lo)) (some (aJ ρ hi)) (some (aJ ρ mx))).run P w=.ok (i.toNat,j.toNat,m.toNat) w:=by simp[Instr.sliceBounds,c0,c1,c2,Result.andThen]
  refine⟨⟨⟨if m.toNat=i.toNat then hd.a else hd.a.map (·.add (i.toNat*inf.size)),j.toNat-i.toNat,m.toNat-i.toNat⟩,⟨b0,by grind,λhlt=>?_⟩⟩,?_,aj.nil _ _⟩
  · rcases hc with⟨_,h0⟩|⟨b,off,arr,tt,fz,ha,hS,hbb,hfit,hcl⟩
    ·omega
    · refine⟨b,off+i.toNat*inf.size,?_,?_⟩
      · simp only
        rw[if_neg (by omega),ha]
        simp[eN]
      ·simp[dR,ha,hs']
  · have c4:(Instr.slice t hd.val (some (aJ ρ lo)) (some (aJ ρ hi)) (some (aJ ρ mx))).run P w=.ok (⟨if m.toNat=i.toNat then hd.a else hd.a.map (·.add (i.toNat*inf.size)),j.toNat-i.toNat,m.toNat-i.toNat⟩:Hd).val w:=by
      simp[Instr.slice,run_underlying ht,c3,sizeOf,typeInfo,hinf,Result.andThen]
    simp[execOp,ho,hx,Instr.sliceAt,run_underlying ht,c4,Result.andThen]
theorem TM(hΘ:Θ.ok P){t:TypeId}{x lo hi mx:Operand}{l:Lf}(ho:o.op=.slice t x (some lo) (some hi) (some mx))(h1:ev E x=some (.lf l))(k:Out->Option R):aq ex P o E F n (EG Θ E ex n t l lo hi mx F k) k:=by
  unfold EG;split
  · rename_i e _ _ _ _ _ i _ j _ m ht hi' hj hm
    split
    · rename_i ie h he
      split
      · rename_i ci K xs hs
        refine aq.bif λhc=>aq.gchk λhb=>aq.of λhx η ρ hE=>?_
        simp only[Y5]at hc
        have hx2:=aH hE h1
        simp only[AV.val,Lf.val]at hx2
        refine(XZ (o:=o) (ρ:=ρ) (L:=F.map (AF.ha η)) (K:=ci::K) (i:=i) (j:=j) (m:=m) ho (hΘ t _ ht).2.1 (hΘ e ie he).1 hx2 (aH hE hi') (aH hE hj) (aH hE hm) (λw c hF=>Kj (eC hs hF)) (hb hx)).weaken' (λy=>⟨η.setH n y.1,η.setH_agr n y.1⟩) (λy=>?_) λy w c _=>?_
        ·simp[AV.val,Lf.val,Vn.setH_at]
        · refine aj.cons ?_ (aj.nil _ _)
          simp only[AF.ha,Vn.setH_at,HA.holds]
          rw[(η.setH_agr n y.1 h hc.2).1]
          exact y.2
      ·exact aq.none
    ·exact aq.none
  ·exact aq.none
def dJ{α:Type}(m:Nat)(d:α)(xs:List α):List α:=(List.range m).map λq=>xs.getD q d
theorem yS(s:SC):∀{xs:List s.den} {ys:List Unit},xs.length=ys.length->cellsOf (TC.sc s).ty xs ys=xs.map s.val
  |[],_,_=>by simp[cellsOf]
  | x::xs,y::ys,h=>by
    have:=yS s (xs:=xs) (ys:=ys) (by simpa using h);simp only[cellsOf,aas,this];rfl
  |_::_,[],h=>by simp at h
theorem Wt{ρ:cV}{L:List HA}{t e:TypeId}{x:Operand}{lo hi:Option Operand}{i j:Int}{m b off ci:Nat}{s:SC}{xs:List s.den}{by_:Nat}{z:Value}{pre post:List Value}(ho:o.op=.slice t x lo hi none)(ht:P.underlying t=some (.array m e))(hti:TI P e 1 by_ z)
    (hx:aJ ρ x=.pointer (some ⟨b,off,none⟩)) (hlo:(lo=none/\i=0)\/∃x kk,lo=some x/\aJ ρ x=.int kk i) (hhi:(hi=none/\j=m)\/∃x kk,hi=some x/\aJ ρ x=.int kk j)
    (hL:∀w c,aj w c L->HA.holds w c (.box ci b (pre++(TC.arr m s).ty.fill xs ()++post))) (hpre:pre.length=off) (hb:decide (0<=i/\i<=j/\j<=m)=true) (hm:Nat.ble m 16777216=true) :
    cJ P ρ o L [] (λ_:Unit=>(⟨some (if m=i.toNat then⟨b,off,none⟩else⟨b,off+i.toNat,none⟩),j.toNat-i.toNat,m-i.toNat⟩:Hd).val)
      (λ_=>[.rep (TC.sc s).ty [ci] (((dJ m s.dft xs).take j.toNat).drop i.toNat) ⟨some (if m=i.toNat then⟨b,off,none⟩else⟨b,off+i.toNat,none⟩),j.toNat-i.toNat,m-i.toNat⟩,
        .pure (kQ ⟨some (if m=i.toNat then⟨b,off,none⟩else⟨b,off+i.toNat,none⟩),j.toNat-i.toNat,m-i.toNat⟩ ⟨some ⟨b,off,none⟩,0,0⟩ 1 i j)]):=xl λev w c hev hF=>by
  have hb':=aaq hb;obtain⟨b0,b1,b2⟩:=hb';have hm:=Zh hm;obtain⟨inf,hinf,_,hs',_⟩:=hti.get;obtain⟨⟨ty,hbb⟩,hc⟩:=hL w c hF;have hlen:(((dJ m s.dft xs).take j.toNat).drop i.toNat).length=j.toNat-i.toNat:=by simp[dJ];omega
  refine⟨(),?_,aj.cons ⟨List.replicate (j.toNat-i.toNat) (),?_,?_⟩ (aj.cons ⟨b0,by dsimp only;omega,λhlt=>⟨b,off+i.toNat,?_,?_⟩⟩ (aj.nil _ _))⟩
  · subst hev
    have c3:=Gt (P:=P) (w:=w) (isS:=false) (len:=m) (cap:=m) hlo hhi ⟨b0,b1,b2⟩
    have key:(Instr.sliceAt t (.pointer (some ⟨b,off,none⟩)) (lo.map (aJ ρ)) (hi.map (aJ ρ)) none).run P w=.ok (.slice (some (if m=i.toNat then⟨b,off,none⟩else⟨b,off+i.toNat,none⟩)) (j.toNat-i.toNat) (m-i.toNat)) w:=by simp[Instr.sliceAt,Instr.sureAddr,run_underlying ht,c3,sizeOf,typeInfo,hinf,hs',Result.andThen,eN]
    simp only[execOp,ho,hx,Option.map_none,key,Sem.run_bind,Result.andThen_ok,Sem.run_pure]
  · have gen:∀(l:List s.den) (q:Nat),l.length=q->bX (bD w (λb=>c b∈[ci]) (TC.sc s).ty) l (List.replicate q ()):=by
      intro l;induction l with
      |nil=>intro q hq;simp at hq;subst hq;trivial
      | cons a l ih=>
        intro q hq;cases q with
        |zero=>simp at hq
        |succ q=>exact⟨trivial,ih q (by simpa using hq)⟩
    grind
  · refine⟨by rw[hlen],by simp;omega,by simp[maxLen];omega,?_⟩
    by_cases hmi:m=i.toNat
    ·grind
    · refine .inr ⟨b,off+i.toNat,_,ty,_,by simp[hmi],by simp[hc],hbb,?_,?_⟩
      ·simp[Ty.fill,TC.ty,Ty.sz];omega
      · rw[yS s (by grind),hlen]
        have hd:∀u:List Value,(pre++u++post).drop (off+i.toNat)=(u++post).drop i.toNat:=λu=>by rw[aaf,<-adg,List.drop_left' hpre]
        have hu:((TC.arr m s).ty.fill xs ()).length=m:=by simp[TC.ty,Ty.fill]
        simp only[TC.ty,Ty.sz,aep,hd]
        rw[abe,ahB (by simp[hu];omega)]
        simp only[Ty.fill,dJ]
        rw[<-ajI,List.take_drop]
        simp only[amC,ajI,adK]
        rw[show i.toNat+(j.toNat-i.toNat)=j.toNat by omega]
        rfl
  ·rw[if_neg (by omega)]
  ·simp[dR]
def FM(Θ:Tb)(E:SE)(ex:Option Bool)(n:Nat)(t:TypeId)(b off:Nat)(lo hi:Option Operand)(F:List AF)(k:Out->Option R):Option R:=match Θ t,iw b F with
  | some ⟨.arr m e,_,_,_,_⟩,some (ci,cs)=>match j6 cs off with
    | some (_,.ar m' s xs::_)=>match Θ e,FW E lo 0,FW E hi m with
      |some ie,some i,some j=>bif Nat.beq m' m&&Nat.beq ie.sz 1&&Nat.ble m 16777216&&out n b then gchk ex (decide (0<=i/\i<=j/\j<=m)) (k ⟨.lf (.sl n),[.rep (.sc s) [ci] (((dJ m' s.dft xs).take j.toNat).drop i.toNat) n,.pbx n b off i j],[]⟩)else none
      |_,_,_=>none
    |_=>none
  |_,_=>none
theorem RO(hΘ:Θ.ok P){t:TypeId}{x:Operand}{b off:Nat}{lo hi:Option Operand}(ho:o.op=.slice t x lo hi none)(h1:ev E x=some (.lf (.bp b off)))(k:Out->Option R):aq ex P o E F n (FM Θ E ex n t b off lo hi F k) k:=by
  unfold FM;split
  · rename_i m e _ _ _ _ ci cs ht hbx
    split
    · rename_i a m' s xs r hcut
      split
      · rename_i ie i j he hi' hj'
        refine aq.bif λhc=>aq.gchk λhb=>aq.of λhx η ρ hE=>?_
        simp only[Y5]at hc
        obtain⟨⟨⟨hm,hsz⟩,hmx⟩,hbn⟩:=hc
        obtain rfl:=f9 hm
        have hti:=(hΘ e ie he).1
        rw[f9 hsz]at hti
        obtain⟨e2,l2⟩:=g9 hcut
        refine(Wt (ci:=ci) (s:=s) (xs:=xs) (pre:=au η a) (post:=au η r) ho (hΘ t _ ht).2.1 hti (aH hE h1) (BW hi' hE) (BW hj' hE) (λw c hF=>?_) (l2 η) (hb hx) hmx).map (λ_=>⟨η.setH n ⟨some (if m'=i.toNat then⟨η.b b,off,none⟩else⟨η.b b,off+i.toNat,none⟩),j.toNat-i.toNat,m'-i.toNat⟩,η.setH_agr n _⟩) (λ_=>?_) λ_=>?_
        · have:=tR hbx hF
          rw[e2,aY]at this
          simpa[au,Lf.cells]using this
        ·simp[AV.val,Lf.val,Vn.setH_at]
        ·simp[AF.ha,Vn.setH_at,(η.setH_agr n ⟨some (if m'=i.toNat then⟨η.b b,off,none⟩else⟨η.b b,off+i.toNat,none⟩),j.toNat-i.toNat,m'-i.toNat⟩ b hbn).2]
      ·exact aq.none
    ·exact aq.none
  ·exact aq.none
def yM(P:Program)(t:TypeId):Prop:=P.eqGuardType P.depth t=false/\P.stoodInHeld t=false/\(P.fieldsOf t).toList.all (λf=>!(f.name == "_"))=true
def mW(Θ:Tb):List (TypeId×Nat)->List Lf->List Lf->Nat->Option Bool
  |[],[],[],_=>some true
  | (ft,off)::fs,.c s a::r,.c s' b::r',pos=>match Θ ft with
    | some i=>match i.d,s,s',a,b with
      |.int _,.int k,.int k',a,b=>if k'=k/\off=pos then(mW Θ fs r r' (pos+1)).map λe=>(show Int from a)==(show Int from b)&&e else none
      |.bool,.bool,.bool,a,b=>if off=pos then(mW Θ fs r r' (pos+1)).map λe=>(show Bool from a)==(show Bool from b)&&e else none
      |.str,.str,.str,a,b=>if off=pos then(mW Θ fs r r' (pos+1)).map λe=>(show List UInt8 from a)==(show List UInt8 from b)&&e else none
      |_,_,_,_,_=>none
    |none=>none
  |_,_,_,_=>none
theorem xr(hΘ:Θ.ok P){w:World}{η:Vn}{xs ys:Array Value}{d:Nat}:∀{fl:List Field} {fs:List (TypeId×Nat)} {r r':List Lf} {pos:Nat} {e:Bool},fl.map (λf=>(f.type,f.offset))=fs->fl.all (λf=>!(f.name == "_"))=true->mW Θ fs r r' pos=some e ->
    (∀j,xs[pos+j]?=(au η r)[j]?)->(∀j,ys[pos+j]?=(au η r')[j]?)->(Op.eqFields (d+1) xs ys fl).run P w=.ok e w
  | [],_,r,r',pos,e,hm,_,h,_,_=>by
    simp only[ad5]at hm;subst hm;cases r<;>cases r'<;>simp[mW]at h;subst h;rfl
  | f::fl,fs,r,r',pos,e,hm,hn,h,hx,hy=>by
    simp only[aas]at hm;subst hm;simp only[acw,Y5,abc,aej,ne_eq]at hn;cases r with
    |nil=>simp[mW]at h
    | cons l r=>
      cases r' with
      |nil=>cases l<;>simp[mW]at h
      | cons l' r' =>
        cases l<;>cases l'<;>simp only[mW]at h<;>try cases h
        rename_i s a s' b;split at h
        · rename_i i hi
          have hfit:=(hΘ f.type i hi).2.1
          have hx0:=hx 0
          have hy0:=hy 0
          have hxr:∀j,xs[pos+1+j]?=(au η r)[j]?:=λj=>by have:=hx (j+1);rw[show pos+(j+1)=pos+1+j by omega]at this;simpa[au,Lf.cells]using this
          have hyr:∀j,ys[pos+1+j]?=(au η r')[j]?:=λj=>by have:=hy (j+1);rw[show pos+(j+1)=pos+1+j by omega]at this;simpa[au,Lf.cells]using this
          simp only[abj,au,Lf.cells,acI,acM]at hx0 hy0
          cases hd:i.d<;>rw[hd]at h hfit<;>cases s<;>cases s'<;>simp only at h<;>try cases h
          · rename_i k k'
            split at h
            · rename_i hc
              obtain⟨rfl,hoff⟩:=hc
              simp only[aa8]at h
              obtain⟨e',he,rfl⟩:=h
              have ih:=xr hΘ (d:=d) rfl hn.2 he hxr hyr (w:=w)
              have hfit:P.underlying f.type=some (.int _):=hfit
              have p1:(part f.type xs f.offset).run P w=.ok (.int k' a) w:=by simp[part,j9 hfit rfl,hoff,hx0,Result.andThen]
              have p2:(part f.type ys f.offset).run P w=.ok (.int k' b) w:=by simp[part,j9 hfit rfl,hoff,hy0,Result.andThen]
              have p3:=run_equalIn_int (P:=P) w d f.type k' _ a b hfit
              simp only[Op.eqFields,hn.1,ne_eq,akj,aaL,Sem.run_bind,p1,p2,p3,Result.andThen_ok]
              cases hab:((show Int from a)==(show Int from b))
              ·simp_all
              grind
            ·cases h
          · skip
            split at h
            · rename_i hoff
              simp only[aa8]at h
              obtain⟨e',he,rfl⟩:=h
              have ih:=xr hΘ (d:=d) rfl hn.2 he hxr hyr (w:=w)
              have hfit:P.underlying f.type=some .bool:=hfit
              have p1:(part f.type xs f.offset).run P w=.ok (.bool a) w:=by simp[part,j9 hfit rfl,hoff,hx0,Result.andThen]
              have p2:(part f.type ys f.offset).run P w=.ok (.bool b) w:=by simp[part,j9 hfit rfl,hoff,hy0,Result.andThen]
              have p3:=run_equalIn_bool' (P:=P) w d f.type a b hfit
              simp only[Op.eqFields,hn.1,ne_eq,akj,aaL,Sem.run_bind,p1,p2,p3,Result.andThen_ok]
              cases hab:((show Bool from a)==(show Bool from b))
              ·simp_all
              grind
            ·cases h
          · skip
            split at h
            · rename_i hoff
              simp only[aa8]at h
              obtain⟨e',he,rfl⟩:=h
              have ih:=xr hΘ (d:=d) rfl hn.2 he hxr hyr (w:=w)
              have hfit:P.underlying f.type=some .string:=hfit
              have p1:(part f.type xs f.offset).run P w=.ok (.string ⟨(show List UInt8 from a).toArray⟩) w:=by simp[part,j9 hfit rfl,hoff,hx0,Result.andThen]
              have p2:(part f.type ys f.offset).run P w=.ok (.string ⟨(show List UInt8 from b).toArray⟩) w:=by simp[part,j9 hfit rfl,hoff,hy0,Result.andThen]
              have p3:=run_equalIn_string (P:=P) w d f.type ⟨(show List UInt8 from a).toArray⟩ ⟨(show List UInt8 from b).toArray⟩ hfit
              simp only[Op.eqFields,hn.1,ne_eq,akj,aaL,Sem.run_bind,p1,p2,p3,Result.andThen_ok]
              have hl:((⟨(show List UInt8 from a).toArray⟩:ByteArray).toList==(⟨(show List UInt8 from b).toArray⟩:ByteArray).toList)=((show List UInt8 from a)==(show List UInt8 from b)):=by simp_all
              rw[hl]
              cases hab:((show List UInt8 from a)==(show List UInt8 from b))
              ·simp_all
              grind
            ·cases h
        ·cases h
def Tk(Θ:Tb)(Gq:TypeId->Bool)(op:BinOp)(t:TypeId)(a b:List Lf)(k:Out->Option R):Option R:=match Θ t with
  | some ⟨.st fs,_,_,_,_⟩=>bif Gq t then match mW Θ fs a b 0,op with
    |some e,.eql=>k (bc (eD e))
    |some e,.neq=>k (bc (eD (!e)))
    |_,_=>none
    else none
  |_=>none
theorem ac0(hΘ:Θ.ok P){Gq:TypeId->Bool}(hG:∀t,Gq t=true->yM P t){op:BinOp}{t t':TypeId}{x y:Operand}{a b:List Lf}(ho:o.op=.binOp op t x y t')(h1:ev E x=some (.ag a))(h2:ev E y=some (.ag b))(k:Out->Option R) :
    aq ex P o E F n (Tk Θ Gq op t a b k) k:=by
  unfold Tk;split
  · rename_i fs _ _ _ _ ht
    refine aq.bif λhg=>?_
    obtain⟨g1,g2,g3⟩:=hG t hg
    obtain⟨Fd,hs,hm⟩:=(hΘ t _ ht).2.1
    have hf:P.fieldsOf t=Fd:=by simp[Program.fieldsOf,hs]
    have key:∀{e:Bool} {η:Vn} {w:World},mW Θ fs a b 0=some e->(Op.equalIn 10000 t (.agg (au η a).toArray) (.agg (au η b).toArray)).run P w=.ok e w:=by intro e η w he;rw[run_equalIn_struct (P:=P) w 9999 t _ _ (by grind) g2,hf];rw[hf]at g3;exact xr hΘ (η:=η) (d:=9998) hm g3 he (λj=>by simp) (λj=>by simp)
    split
    · rename_i e he
      refine aq.of λ_=>(dc.pure λη ρ hE ev w c hev _=>?_)
      have e1:=aH hE h1
      have e2:=aH hE h2
      subst hev
      simp only[AV.val]at e1 e2
      have hgd:(eqGuard .eql t x y (.agg (au η a).toArray) (.agg (au η b).toArray)).run P w=.ok () w:=run_eqGuard_agg w .eql t x y _ _ g1
      have hb:(binOp .eql t (.agg (au η a).toArray) (.agg (au η b).toArray)).run P w=.ok (.bool e) w:=by rw[run_eql_struct,key he];rfl
      simp only[execOp,ho,e1,e2,Sem.run_bind,hgd,hb,Result.andThen_ok,Sem.run_pure,AV.val,Lf.val]
    · rename_i e he
      refine aq.of λ_=>(dc.pure λη ρ hE ev w c hev _=>?_)
      have e1:=aH hE h1
      have e2:=aH hE h2
      subst hev
      simp only[AV.val]at e1 e2
      have hgd:(eqGuard .neq t x y (.agg (au η a).toArray) (.agg (au η b).toArray)).run P w=.ok () w:=run_eqGuard_agg w .neq t x y _ _ g1
      have hb:(binOp .neq t (.agg (au η a).toArray) (.agg (au η b).toArray)).run P w=.ok (.bool (!e)) w:=by rw[run_neq_struct,key he];rfl
      simp only[execOp,ho,e1,e2,Sem.run_bind,hgd,hb,Result.andThen_ok,Sem.run_pure,AV.val,Lf.val]
    ·exact aq.none
  ·exact aq.none
end
end
section
variable [X:XTab] [G:GTab] [Yc:GCx]
section
variable {R:Type} {P:Program} {o:Oper} {E:SE} {F:List AF} {n:Nat} {Θ:Tb} {ex:Option Bool}
def NO(Θ:Tb)(ex:Option Bool)(t:TypeId)(b off m:Nat)(s:SC)(j:Int)(F:List AF)(k:Out->Option R):Option R:=match Θ t,iw b F with
 |some i,some (_,cs)=>match j6 cs off with
  |some (_,.ar m' s' x::_)=>bif Nat.beq m m'&&Nat.beq i.sz 1 && !i.d.agg then(if h:s'=s then gchk ex (decide (0<=j/\j<m')) (k (bc (.lf (.c s (List.getD (α:=s.den) (uA h x) j.toNat s.dft)))))else none)else none
  |_=>none
 |_,_=>none
theorem uR(m:Nat)(s:SC)(x:List s.den){j:Nat}(h:j<m):((TC.arr m s).ty.fill x ())[j]?=some (s.val (List.getD (α:=s.den) x j s.dft)):=by simp[Ty.fill,h]
theorem XF(hΘ:Θ.ok P){t:TypeId}{x:Operand}{b off m:Nat}{s:SC}{j:Int}(ho:o.op=.load t x)(hx:ev E x=some (.lf (.bq b off m s j)))(k:Out->Option R):aq ex P o E F n (NO Θ ex t b off m s j F k) k:=by
 unfold NO;split
 ·rename_i i ci cs hi hb;split
  ·rename_i a m' s' xs r hc;refine aq.bif λhB=>?_
   simp only[Y5,abc]at hB;obtain⟨⟨hm,hsz⟩,hag⟩:=hB;split
   ·rename_i h;subst h;refine aq.gchk λhj=>aq.of λhex=>(dc.pure λη ρ hE=>?_)
    have hj:=aaq (hj hex);obtain⟨h1,h2,_,_⟩:=hΘ t i hi;obtain⟨td,ht,hd⟩:=l9 h2;rw[hag]at hd;obtain⟨q,hq⟩:=lh (d6 hb) η;obtain⟨e,hl⟩:=g9 hc;refine Er q hq ho ht hd (aH hE hx) ?_;have hlen:=hl η;rw[e,aY];rw[abV (by omega),show off+j.toNat-(au η a).length=j.toNat by omega];simp only[au,Lf.cells];rw[adv (by rw[Ty.fill_length];grind)];exact uR m' s' xs (by omega)
   ·exact aq.none
  ·exact aq.none
 ·exact aq.none
def Fo(Θ:Tb)(ex:Option Bool)(t:TypeId)(b off m:Nat)(s:SC)(j:Int)(v:AV)(F:List AF)(k:Out->Option R):Option R:=match Θ t,iw b F,v.lvs with
 |some i,some (ci,cs),some ls=>match j6 cs off,bR F (.sc s) ls with
  |some (a,.ar m' s' x::r),some (y,_,_,[])=>bif Nat.beq m m'&&Nat.beq i.sz 1 then(if h:s'=s then gchk ex (decide (0<=j/\j<m')) (k ⟨.lf (.v undef),[.box ci b (a++(.ar m' s (cu m' s.dft (uA h x) j.toNat y)::r))],[ci]⟩)else none)else none
  |_,_=>none
 |_,_,_=>none
theorem am7(m:Nat)(s:SC)(x:List s.den)(y:s.den){j:Nat}(h:j<m) :
  ((TC.arr m s).ty.fill x ()).take j++[s.val y]++((TC.arr m s).ty.fill x ()).drop (j+1)=(TC.arr m s).ty.fill (cu m s.dft x j y) ():=by
 apply ace;intro q;have hl:((TC.arr m s).ty.fill x ()).length=m:=Ty.fill_length _ _ _;have hr:((TC.arr m s).ty.fill (cu m s.dft x j y) ()).length=m:=Ty.fill_length _ _ _;have htk:(((TC.arr m s).ty.fill x ()).take j).length=j:=by simp;omega
 rcases Nat.lt_trichotomy q j with hq|hq|hq
 ·rw[aaf,adv (by omega),aht,if_pos hq,uR m s x (by omega),uR m s _ (by omega)];congr 2;simp only[cu,aav,aeJ,ae9 (show q<m by omega)];grind
 ·subst hq;rw[aaf,abV (by omega),htk,aj8,uR m s _ h];simp[cu,aav,h]
 ·by_cases hqm:q<m
  ·rw[abV (by simp;omega),uR m s _ hqm];rw[ZD,htk,aal,aci,show j+1+(q-(j+1))=q by omega,uR m s x hqm];congr 2;simp only[cu,aav,aeJ,ae9 hqm];grind
  grind
theorem Tc(hΘ:Θ.ok P){t:TypeId}{x y:Operand}{b off m:Nat}{s:SC}{j:Int}{v:AV}(ho:o.op=.store t x y)(hx:ev E x=some (.lf (.bq b off m s j)))(hy:ev E y=some v)(k:Out->Option R):aq ex P o E F n (Fo Θ ex t b off m s j v F k) k:=by
 unfold Fo;split
 ·rename_i i ci cs ls hi hb hls;split
  ·rename_i a m' s' xs r z _ _ hc hd;refine aq.bif λhB=>?_
   simp only[Y5]at hB;obtain⟨hm,hsz⟩:=hB;split
   ·rename_i h;subst h;refine aq.gchk λhj=>aq.of λhex η ρ hE=>?_
    have hj:=aaq (hj hex);obtain⟨h1,_,_,_⟩:=hΘ t i hi;rw[f9 hsz]at h1;obtain⟨q,hq⟩:=lh (d6 hb) η;obtain⟨e,hl⟩:=g9 hc;have hlen:=hl η;have hcell:=QT hd η;have hfl:((TC.arr m' s').ty.fill xs ()).length=m':=Ty.fill_length _ _ _;refine(zh (cs':=au η (a++(.ar m' s' (cu m' s'.dft xs j.toNat z)::r))) q hq ho h1 (aH hE hx) (aH hE hy) (v.lvs_cells hls η) (by simp_all) ?_ ?_ ?_).map (λ_=>⟨η,Vn.agr_refl n η⟩) (λ_=>rfl) (λ_=>rfl)
    ·grind
    ·rw[e,aY,hcell];refine aah ?_;simp only[au,Lf.cells,ZD,hfl,aal];omega
    ·rw[e,aY,aY,hcell];simp only[au,Lf.cells,aal];rw[<-am7 m' s' xs z (by omega)];rw[acE,aaU (by omega),show off+j.toNat-(au η a).length=j.toNat by omega,acE,show j.toNat-((TC.arr m' s').ty.fill xs ()).length=0 by omega,adX,
      Z2,abe,aa6 (as:=au η a) (by omega),abx,show off+j.toNat+1-(au η a).length=j.toNat+1 by omega,abe,
      show j.toNat+1-((TC.arr m' s').ty.fill xs ()).length=0 by omega,adq]
     simp
   ·exact aq.none
  ·exact aq.none
 ·exact aq.none
end
end
end Go.Sm
