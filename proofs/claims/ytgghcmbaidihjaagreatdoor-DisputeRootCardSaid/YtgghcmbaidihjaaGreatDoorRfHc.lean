/- Laws for the row. No condition. -/
import Derived.Laws.IdiomStrings
import Derived.Test.YtgghcmbaidihjaaGreatDoorRfH
import Derived.Laws.StructEq
namespace Go.Sm
set_option linter.unusedSectionVars false
variable {x y mx:Operand} {t e s d:TypeId} {i j:Int} {g b m by_ off sz:Nat} {ki:IntKind} {z:Value} {lo hi:Option Operand} {w:World}
section
variable [X:XTab] [G:GTab] [Yc:GCx]
section
variable {R:Type} {P:Program} {o:Oper} {E:SE} {F:List AF} {n:Nat} {Θ:Tb} {ex:Option Bool}
def akx(v:AV)(k:Out->Option R):Option R:=match v with
  |.lf (.bp b off)=>k (be (.lf (.bp b off)))
  |.lf (.rp h t i u p)=>k (be (.lf (.rp h t i u p)))
  |.lf (.gp g t i u p)=>k (be (.lf (.gp g t i u p)))
  |.lf (.fn f)=>k (be (.lf (.fn f)))
  |.lf (.clo f bs)=>k (be (.lf (.clo f bs)))
  |.lf (.c .fnc f)=>k (be (.lf (.c .fnc f)))
  |_=>none
theorem asJ{v:AV}(l:o.op=.nilCheck x)(p:ev E x=some v)(k:Out->Option R):aq ex P o E F n (akx v k) k:=by
  unfold akx;split;all_goals first
    |exact aq.none
    | (refine aq.of λ_=>(dl.pure λq ρ a ev w c f _=>?_)
       have h:=aK a p
       subst f
       simp only[AV.val,Lf.val]at h|-
       simp only[execOp,l,h];rfl)
def Qz(E:SE):List Operand->Option (List Nat)
  |[]=>some []
  | x::r=>match ev E x,Qz E r with
    |some (.lf (.bp b 0)),some bs=>some (b::bs)
    |_,_=>none
theorem VZ{f:Vn}{ρ:dm}(c:mH f ρ E):∀{xs:List Operand} {bs:List Nat},Qz E xs=some bs->xs.map (aL ρ)=bs.map λb=>Value.pointer (some ⟨f.b b,0,none⟩)
  | [],bs,h=>by
    simp only[Qz,no]at h;subst h;rfl
  | x::r,bs,h=>by
    simp only[Qz]at h;split at h
    · rename_i b k q p
      simp only[no]at h
      subst h
      have a:=aK c q
      have l:=VZ c p
      simp only[AV.val,Lf.val]at a
      simp only[aev,a,l]
    ·cases h
def Xn(E:SE)(fn:Fn)(first cap:List Operand)(k:Out->Option R):Option R:=match fn,first,cap with
  |.func f,[],[]=>k (be (.lf (.fn f)))
  | .func f,[],x::xs=>match Qz E (x::xs)with
    |some bs=>k (be (.lf (.clo f bs)))
    |none=>none
  |_,_,_=>none
theorem ah2{fn:Fn}{first cap:Array Operand}(A:o.op=.makeFunc fn first cap)(k:Out->Option R):aq ex P o E F n (Xn E fn first.toList cap.toList k) k:=by
  unfold Xn;split
  · rename_i f q r
    refine aq.of λ_=>(dl.pure λa ρ v ev w c u _=>?_)
    have l:first = #[]:=by simpa using q
    have p:cap = #[]:=by simpa using r
    subst u l p
    simp[execOp,A,Instr.makeFunc,AV.val,Lf.val,Result.andThen]
  · rename_i f x xs q r
    split
    · rename_i bs I
      refine aq.of λ_=>(dl.pure λa ρ v ev w c u _=>?_)
      have l:first = #[]:=by simpa using q
      have p:cap=(x::xs).toArray:=by rw[<-r]
      have h:=VZ v I
      subst u l p
      have B:Array.map (aL ρ) (x::xs).toArray=(bs.map λb=>Value.pointer (some ⟨a.b b,0,none⟩)).toArray:=by rw[List.map_toArray,h]
      have C:Array.map (aL ρ) #[] = #[]:=by simp
      have D:(Array.map (aL ρ) (x::xs).toArray)=(bs.map λb=>Value.pointer (some ⟨a.b b,0,none⟩)).toArray:=B
      have H:(Value.func (.func f) (Array.map (aL ρ) #[]) (Array.map (aL ρ) (x::xs).toArray))=(AV.lf (.clo f bs)).val a:=by rw[C,D];rfl
      rw[<-H]
      simp[execOp,A,Instr.makeFunc,Result.andThen]
    ·exact aq.none
  ·exact aq.none
def JJ(g:Nat)(t:TC):List GEnt->Option (List t.den)
  |[]=>none
  |e::r=>bif Nat.beq g e.g then(if h:e.t=t then(bif e.t.ty.pureB then some (FM h e.xs)else none)else none)else JJ g t r
theorem H5{g:Nat}{t:TC}:∀{l:List GEnt} {xs:List t.den},JJ g t l=some xs->(⟨g,t,xs⟩:GEnt)∈l/\t.ty.pureB=true
  |[],_,h=>by simp[JJ]at h
  | e::r,xs,h=>by
    simp only[JJ]at h;cases a:Nat.beq g e.g
    ·rw[a]at h;exact⟨abJ _ (H5 h).1,(H5 h).2⟩
    · rw[a]at h
      simp only[abv]at h
      split at h
      · rename_i c
        cases f:e.t.ty.pureB
        ·grind
        rw[f]at h
        obtain⟨p,q,k⟩:=e
        simp only at c a
        subst c
        simp only[abv,no]at h
        subst h
        rw[f9 a]
        exact⟨adT,f⟩
      ·cases h
abbrev UV(g n:Nat):Hd:=⟨some ⟨g,0,none⟩,n,n⟩
theorem D9{w:World}{S:Nat->Prop}{t:TC}(a:t.ty.pureB=true):∀xs:List t.den,cf (bH w S t.ty) xs (List.replicate xs.length t.ref0)
  |[]=>trivial
  | x::xs=>by
    rw[aeH,ag5];exact⟨bH.pure t.ty x t.ref0 a,D9 a xs⟩
theorem ab0{t:TC}{xs:List t.den}(h:JJ g t G.gl=some xs){c:aS}{L:List HA}(f:ao w c (L++fH)):HA.holds w c (.rep t.ty [0,1] xs (UV g xs.length)):=by
  obtain⟨l,q⟩:=H5 h;obtain⟨⟨ty,a,k⟩,r,p⟩:=f _ (adF _ (ad2 _ (acG.2 ⟨_,l,rfl⟩)));have hl:(cellsOf t.ty xs (List.replicate xs.length t.ref0)).length=xs.length*t.ty.sz:=cO t.ty (by simp);refine⟨List.replicate xs.length t.ref0,D9 q xs,rfl,ad3 _,p,.inr ⟨g,0,_,ty,a,rfl,?_,k,?_,?_⟩⟩
  ·grind
  ·grind
  grind
def abn(Θ:Tb)(ex:Option Bool)(t:TypeId)(g:Nat)(i:Int)(k:Out->Option R):Option R:=match Θ t with
  | some ⟨.arr m e,_,_,_,_⟩=>match Θ e with
    |some a=>bif Nat.beq a.sz a.tc.ty.sz then gchk ex (decide (0<=i/\i<m)) (k (be (.lf (.gp g a.tc i a.tc .here))))else none
    |none=>none
  |_=>none
theorem aqI{ρ:dm}{L:List HA}{k:Operand}{l:Nat}(r:o.op=.indexAddr t x k)(u:P.underlying t=some (.array m e))(hi:TI P e sz by_ z)
    (v:aL ρ x=.pointer (some ⟨b,l,none⟩)) (h:aL ρ k=.int ki i) (p:decide (0<=i/\i<m)=true):aZ P ρ o L (.pointer (some ⟨b,l+i.toNat*sz,none⟩)):=λev w c q B=>by
  subst q;have a:=hi;clear hi;obtain⟨A,hi,_,hs,_⟩:=a.get;have f:0<=i/\i<m:=aex p;simp[execOp,r,v,h,Instr.indexAt,Instr.sureAddr,asIntOf,run_underlying u,sizeOf,typeInfo,hi,hs,f,eT,Result.andThen]
theorem akP(a:Θ.ok P){c:Operand}(q:o.op=.indexAddr t (.global g) c)(f:ev E c=some (fP ki i))(k:Out->Option R) :
    aq ex P o E F n (abn Θ ex t g i k) k:=by
  unfold abn;split
  · rename_i m e _ _ _ _ u
    split
    · rename_i A p
      refine aq.bif λr=>aq.gchk λl=>aq.of λv=>(dl.pure λB ρ h=>?_)
      have:=aqI (o:=o) (ρ:=ρ) (L:=F.map (AF.ha B)) q (a t _ u).2.1 (a e A p).1 (rfl:aL ρ (.global g)=.pointer (some ⟨g,0,none⟩)) (aK h f) (l v)
      simp only[AV.val,Lf.val,Pa.off,afu]
      simp_all
    ·exact aq.none
  ·exact aq.none
def NJ(Θ:Tb)(ex:Option Bool)(n:Nat)(t:TypeId)(g:Nat)(te:TC)(i:Int)(u:TC)(p:Pa te u)(k:Out->Option R):Option R:=match Θ t,JJ g te G.gl with
  |some a,some xs=>bif Nat.beq a.sz u.ty.sz&&Nat.ble u.nh 64&&(a.d.agg==u.aggT) && !u.isMp then nchk ex p.needs (gbind ex te.dft (ae xs i) λx=>k ⟨rr u (p.get x) n,vR u (p.get x) [0,1] n,[]⟩)else none
  |_,_=>none
theorem aqN{η:Vn}{te:TC}{xs:List te.den}(hs:JJ g te G.gl=some xs){v:te.den}(f:ae xs i=some v):El (F.map (AF.ha η)++fH) te.ty [0,1] v (UV g xs.length) (i.toNat*te.ty.sz):=λw c a=>
  Qw (L:=.rep te.ty [0,1] xs (UV g xs.length)::(F.map (AF.ha η)++fH)) 0 rfl rfl f w c (ao.cons (ab0 hs a) a)
theorem arv(g n x:Nat):di (UV g n) x=⟨g,x,none⟩:=by simp[di,UV]
theorem acq(I:Θ.ok P){te:TC}{u:TC}{p:Pa te u}(q:o.op=.load t x)(N:ev E x=some (.lf (.gp g te i u p)))(k:Out->Option R) :
    aq ex P o E F n (NJ Θ ex n t g te i u p k) k:=by
  unfold NJ;split
  · rename_i J xs hi hs
    refine aq.bif λK=>aq.nchk λhf=>aq.gbind λv Q=>aq.ofG λL η ρ O=>?_
    simp only[abF,aix,afm]at K
    obtain⟨⟨⟨h,f⟩,D⟩,H⟩:=K
    have h:=f9 h
    have f:=abM f
    obtain⟨B,M,_,_⟩:=I t J hi
    obtain⟨U,A,hd⟩:=nq M
    rw[D]at hd
    have c:=DE p (aqN (F:=F) (η:=η) hs (Q L)) (hf L)
    have r:aL ρ x=.pointer (some (di (UV g xs.length) (i.toNat*te.ty.sz+p.off))):=by rw[arv];exact aK O N
    cases u with
    |sc S=>exact(aZ.op (xQ c q A hd r)).map (λ_=>⟨η,Vn.agr_refl n η⟩) (λ_=>rfl) (λ_=>rfl)
    |ext m=>exact(aZ.op (xQ c q A hd r)).map (λ_=>⟨η,Vn.agr_refl n η⟩) (λ_=>rfl) (λ_=>rfl)
    | slice T =>
      refine(Bl c q A hd r).map (λC=>⟨η.setH n C,η.setH_agr n C⟩) (λC=>?_) λC=>?_
      ·simp[rr,AV.val,Lf.val,Vn.setH_at]
      ·simp[vR,AF.ha,Vn.setH_at]
    | arr m S=>
      refine(fe c q A hd B h r).map (λy=>⟨η.set n (cF _ y),Vn.set_agr (by rw[dh];exact f)⟩) (λy=>?_) λy=>?_
      ·rfl
      rfl
    | unit=>
      refine(fe c q A hd B h r).map (λy=>⟨η.set n (cF _ y),Vn.set_agr (by rw[dh];exact f)⟩) (λy=>?_) λy=>?_
      ·rfl
      rfl
    | st a=>
      refine(fe c q A hd B h r).map (λy=>⟨η.set n (cF a y),Vn.set_agr (by rw[dh];exact f)⟩) (λy=>?_) λy=>?_
      ·exact(ud (u:=.st a) rfl (fK.set (l:=cF a y))).symm
      ·exact(sP a _ y n fK.set).symm
    | pair a b=>
      refine(fe c q A hd B h r).map (λy=>⟨η.set n (cF _ y),Vn.set_agr (by rw[dh];exact f)⟩) (λy=>?_) λy=>?_
      ·exact(ud (u:=.pair a b) rfl fK.set).symm
      ·exact(sP (.pair a b) _ y n fK.set).symm
    | node=>
      refine(fe c q A hd B h r).map (λy=>⟨η.set n (cF .node y),Vn.set_agr (by rw[dh];exact f)⟩) (λy=>?_) λy=>?_
      ·exact(ud (u:=.node) rfl (fK.set (l:=cF .node y))).symm
      ·exact(sP .node _ y n fK.set).symm
    |mp _ _=>cases H
  ·exact aq.none
theorem pq:(t:Ty)->t.pureB=true->(x:t.den)->(y c:t.Refs)->t.fill x y=t.fill x c
  |.one _ _ _,_,_,_,_=>rfl
  |.arr _ _ _ _ _,_,_,_,_=>rfl
  |.unit,_,_,_,_=>rfl
  | .pair a b,h,x,y,c=>by
    simp only[Ty.pureB,abF]at h;simp only[Ty.fill];rw[pq a h.1 x.1 y.1 c.1,pq b h.2 x.2 y.2 c.2]
  |.slice _,h,_,_,_=>by cases h
  |.node,h,_,_,_=>by cases h
  |.mp _ _,h,_,_,_=>by cases h
theorem Ce(t:Ty)(h:t.pureB=true):∀{xs:List t.den} {ys a:List t.Refs},xs.length=ys.length->xs.length=a.length->cellsOf t xs ys=cellsOf t xs a
  |[],_,_,_,_=>by simp[cellsOf]
  | x::xs,y::ys,k::a,c,f=>by
    simp only[cellsOf];rw[pq t h x y k,Ce t h (by simpa using c) (by simpa using f)]
  |_::_,[],_,c,_=>by simp at c
  |_::_,_::_,[],_,f=>by simp at f
def NI(Θ:Tb)(t:TypeId)(g:Nat)(k:Out->Option R):Option R:=match Θ t with
  | some ⟨.arr _ e,sz,_,_,_⟩=>match Θ e with
    | some a=>match JJ g a.tc G.gl with
      |some xs=>bif Nat.ble 1 xs.length&&a.tc.ty.pureB&&Nat.beq sz (xs.length*a.tc.ty.sz)then k (be (.lf (.ars a.tc xs)))else none
      |none=>none
    |none=>none
  |_=>none
theorem ab5(C:Θ.ok P)(O:o.op=.load t (.global g))(k:Out->Option R):aq ex P o E F n (NI Θ t g k) k:=by
  unfold NI;split
  · rename_i m e sz by_ zl tc S
    split
    · rename_i a V
      split
      · rename_i xs hs
        refine aq.bif λI=>aq.ofG λZ p ρ U=>?_
        simp only[abF]at I
        obtain⟨⟨W,Q⟩,f⟩:=I
        have f:=f9 f
        obtain⟨L,M,_,_⟩:=C t _ S
        obtain⟨D,hi,_,A,_⟩:=L.get
        refine(aZ.op (v:=(AV.lf (.ars a.tc xs)).val p) λev w c u N=>?_).map (λ_=>⟨p,Vn.agr_refl n p⟩) (λ_=>rfl) (λ_=>rfl)
        subst u
        obtain⟨ys,B,Y,_,_,r⟩:=ab0 hs N
        have J:∀{b off:Nat} {arr:Array Value} {ty:TypeId} {q:Nat×Nat},some (⟨g,0,none⟩:Addr)=some ⟨b,off,none⟩->w.heap[b]?=some (.cells arr ty q)->(arr.toList.drop off).take (xs.length*a.tc.ty.sz)=cellsOf a.tc.ty xs ys ->
            (execOp (aL ρ) o).run P w=.ok (.value ((AV.lf (.ars a.tc xs)).val p)) w:=by
          intro b off arr ty q ha H h;simp only[no,Addr.mk.injEq,aqi]at ha;obtain⟨rfl,rfl⟩:=ha;have l:(cellsOf a.tc.ty xs ys).length=D.size:=by grind
          have hl:=uQ (P:=P) (w:=w) (t:=t) M rfl hi H (cs:=cellsOf a.tc.ty xs ys) (by rw[A,f];exact h) l;have K:cellsOf a.tc.ty xs ys=cellsOf a.tc.ty xs (List.replicate xs.length a.tc.ref0):=Ce _ Q B.length (by simp);simp only[execOp,O,aL,hl,AV.val,Lf.val,<-K,Sem.run_bind,Result.andThen_ok,Sem.run_pure]
        rcases r with⟨_,T⟩|⟨b,off,arr,ty,q,ha,_,H,_,h⟩
        ·simp_all
        grind
      ·exact aq.none
    ·exact aq.none
  ·exact aq.none
theorem zu:(t:TC)->t.ty.pureB=true->t.nh=0
  |.sc _,_=>rfl
  |.arr _ _,_=>rfl
  |.unit,_=>rfl
  | .pair a b,h=>by
    simp only[TC.ty,Ty.pureB,abF]at h;simp only[TC.nh,zu a h.1,zu b h.2]
  |.slice _,h=>by cases h
  |.st a,h=>zu a h
  |.ext _,_=>rfl
def TC.isSc:TC->Bool
  |.sc _=>true
  |_=>false
def Ic(Θ:Tb)(ex:Option Bool)(t:TypeId)(te:TC)(xs:List te.den)(i:Int)(k:Out->Option R):Option R:=match Θ t with
  | some ⟨.arr m e,_,_,_,_⟩=>match Θ e with
    |some a=>bif Nat.beq xs.length m&&Nat.beq a.sz te.ty.sz&&(a.d.agg==te.aggT)&&te.ty.pureB&&(te.aggT||te.isSc)then gbind ex te.dft (ae xs i) λx=>k (be (rr te x 0))else none
    |none=>none
  |_=>none
theorem ZV(p:Θ.ok P){te:TC}{xs:List te.den}(M:o.op=.index t x y)(T:ev E x=some (.lf (.ars te xs)))(U:ev E y=some (fP ki i))(k:Out->Option R) :
    aq ex P o E F n (Ic Θ ex t te xs i k) k:=by
  unfold Ic;split
  · rename_i m e _ _ _ _ N
    split
    · rename_i ie V
      refine aq.bif λL=>aq.gbind λv hv=>aq.of λhx=>(dl.pure λη ρ K ev w c J _=>?_)
      simp only[abF,aix]at L
      obtain⟨⟨⟨⟨hm,l⟩,I⟩,hp⟩,A⟩:=L
      obtain rfl:=f9 hm
      have l:=f9 l
      obtain⟨O,Q,_,_⟩:=p e ie V
      obtain⟨td,B,hd⟩:=nq Q
      rw[I]at hd
      obtain⟨inf,hi,_,u,_⟩:=O.get
      have D:=aK K T
      have H:=aK K U
      subst J
      obtain⟨S,W,Z⟩:=kK (hv hx)
      have f:=qD te.ty (ys:=List.replicate xs.length te.ref0) (i:=i.toNat) (x:=v) (y:=te.ref0) W (by grind)
      simp only[AV.val,Lf.val]at D H
      have r:0<=i/\i<(xs.length:Int):=⟨S,by omega⟩
      cases a:te.aggT
      · rw[a]at hd A
        cases te with
        | sc s=>
          have q:(cellsOf (TC.sc s).ty xs (List.replicate xs.length (TC.sc s).ref0))[i.toNat]?=some (s.val v):=by have:=aei (·[0]?) f;simpa[TC.ty,Ty.sz,Ty.fill]using this
          simp[execOp,M,D,H,Instr.index,asIntOf,run_underlying (p t _ N).2.1,r,sizeOf,typeInfo,hi,u,l,part,l7 B hd,Result.andThen];simp[TC.ty,Ty.sz,rr,AV.val,Lf.val]at q|-;simp[q]
        |_=>cases A
      · rw[a]at hd
        have C:(rr te v 0).val η=.agg (te.ty.fill v te.ref0).toArray:=ud a (λj h Y=>by have:=(aeI.1 Y).1;rw[dh,zu te hp]at this;omega)
        rw[C]
        simp[execOp,M,D,H,Instr.index,asIntOf,run_underlying (p t _ N).2.1,r,sizeOf,typeInfo,hi,u,l,part,AX B hd,Result.andThen]
        exact f
    ·exact aq.none
  ·exact aq.none
def EE(h:Nat):List AF->Option Bool
  |[]=>none
  |.isn h' b::r=>bif Nat.beq h h' then some b else EE h r
  |_::r=>EE h r
theorem jN{h:Nat}:∀{F:List AF} {b:Bool},EE h F=some b->.isn h b∈F
  |[],_,a=>by simp[EE]at a
  | .isn h' f::r,b,a=>by
    simp only[EE]at a;cases c:Nat.beq h h'
    ·rw[c]at a;exact abJ _ (jN a)
    simp_all
  |.ag _::r,_,a=>abJ _ (jN (F:=r) a)
  |.rep _ _ _ _::r,_,a=>abJ _ (jN (F:=r) a)
  |.own _ _ _ _ _ _::r,_,a=>abJ _ (jN (F:=r) a)
  |.box _ _ _::r,_,a=>abJ _ (jN (F:=r) a)
  |.prt _ _ _ _ _::r,_,a=>abJ _ (jN (F:=r) a)
  |.pbx _ _ _ _ _::r,_,a=>abJ _ (jN (F:=r) a)
  |.hol _ _ _ _ _ _ _::r,_,a=>abJ _ (jN (F:=r) a)
  |.mp _ _ _ _ _::r,_,a=>abJ _ (jN (F:=r) a)
  |.pt _ _ _ _ _ _ _::r,_,a=>abJ _ (jN (F:=r) a)
def Wv(Θ:Tb)(op:BinOp)(t:TypeId)(l:Lf)(F:List AF)(k:Out->Option R):Option R:=match Θ t,op,l with
  | some ⟨.slice _,_,_,_,_⟩,.eql,.sl h=>match EE h F with
    |some b=>k (be (eS b))
    |none=>none
  | some ⟨.slice _,_,_,_,_⟩,.neq,.sl h=>match EE h F with
    |some b=>k (be (eS (!b)))
    |none=>none
  |some ⟨.slice _,_,_,_,_⟩,.eql,.nl=>k (be (eS true))
  |some ⟨.slice _,_,_,_,_⟩,.neq,.nl=>k (be (eS false))
  |_,_,_=>none
theorem aZ.of{ρ:dm}{L:List HA}{v f:Value}(p:Prop)(h:∀w c,ao w c L->p)(l:p->v=f)(q:aZ P ρ o L v):aZ P ρ o L f:=λev w c k a=>by rw[<-l (h w c a)];exact q ev w c k a
theorem akl(f:Θ.ok P){op:BinOp}{D:TypeId}{l:Lf}(v:o.op=.binOp op t x y D)(r:ev E x=some (.lf l))(u:ev E y=some (.lf .nl))(k:Out->Option R):aq ex P o E F n (Wv Θ op t l F k) k:=by
  unfold Wv;split
  · rename_i p
    split
    · rename_i b B
      refine aq.of λ_=>(dl.pure λq ρ a=>?_)
      exact aZ.of _ (λw c A=>A _ (acG.2 ⟨_,jN B,rfl⟩)) (λC=>by rw[<-show(q.h _).isNil=b from C];rfl) (T7 v (f t _ p).2.1 (aK a r) (aK a u))
    ·exact aq.none
  · rename_i p
    split
    · rename_i b B
      refine aq.of λ_=>(dl.pure λq ρ a=>?_)
      exact aZ.of _ (λw c A=>A _ (acG.2 ⟨_,jN B,rfl⟩)) (λC=>by rw[<-show(q.h _).isNil=b from C];rfl) (Sh v (f t _ p).2.1 (aK a r) (aK a u))
    ·exact aq.none
  · rename_i p
    exact aq.of λ_=>(dl.pure λq ρ a=>T7 (h:=eu) v (f t _ p).2.1 (aK a r) (aK a u))
  · rename_i p
    exact aq.of λ_=>(dl.pure λq ρ a=>Sh (h:=eu) v (f t _ p).2.1 (aK a r) (aK a u))
  ·exact aq.none
def Im(E:SE)(q:Option Operand)(d:Int):Option Int:=match q with
  |none=>some d
  | some q=>match ev E q with
    |some (.lf (.c (.int _) i))=>some i
    |_=>none
theorem D4{q:Option Operand}{d:Int}(h:Im E q d=some i){k:Vn}{ρ:dm}(c:mH k ρ E):(q=none/\i=d)\/∃x a,q=some x/\aL ρ x=.int a i:=by
  unfold Im at h;split at h
  ·grind
  · split at h
    · rename_i x _ a j f
      simp only[no]at h
      subst h
      exact .inr ⟨x,a,rfl,aK c f⟩
    ·cases h
theorem BY{ρ:dm}{isS:Bool}{len cap:Nat}(k:(lo=none/\i=0)\/∃x a,lo=some x/\aL ρ x=.int a i)(h:(hi=none/\j=len)\/∃x a,hi=some x/\aL ρ x=.int a j)
    (v:0<=i/\i<=j/\j<=cap):(Instr.sliceBounds isS len cap (lo.map (aL ρ)) (hi.map (aL ρ)) none).run P w=.ok (i.toNat,j.toNat,cap) w:=by
  obtain⟨r,A,u⟩:=v;have l:∀x a code,aL ρ x=.int a j->(Instr.sliceBound (aL ρ x) cap code).run P w=.ok j.toNat w:=λx a code c=>by rw[c];exact nQ (by omega) u
  have p:∀x a code,aL ρ x=.int a i->(Instr.sliceBound (aL ρ x) j.toNat code).run P w=.ok i.toNat w:=λx a code c=>by rw[c];exact nQ r (by omega)
  rcases h with⟨rfl,rfl⟩|⟨x,a,rfl,c⟩<;>rcases k with⟨rfl,rfl⟩|⟨y,f,rfl,q⟩
  ·rfl
  · have:=p y f .sliceB q
    simp only[ac6]at this
    simp[Instr.sliceBounds,this,Result.andThen]
  ·cases isS<;>simp[Instr.sliceBounds,l x a _ c,Result.andThen]
  ·cases isS<;>simp[Instr.sliceBounds,l x a _ c,p y f _ q,Result.andThen]
def G8(Θ:Tb)(E:SE)(ex:Option Bool)(t:TypeId)(s:List UInt8)(lo hi:Option Operand)(k:Out->Option R):Option R:=match Θ t,Im E lo 0,Im E hi s.length with
  |some ⟨.str,_,_,_,_⟩,some i,some j=>gchk ex (decide (0<=i/\i<=j/\j<=s.length)) (k (be (zV ((s.take j.toNat).drop i.toNat))))
  |_,_,_=>none
theorem YQ(A:Θ.ok P){s:List UInt8}(H:o.op=.slice t x lo hi none)(B:ev E x=some (zV s))(k:Out->Option R):aq ex P o E F n (G8 Θ E ex t s lo hi k) k:=by
  unfold G8;split
  · rename_i i j I r u
    refine aq.gchk λp=>aq.of λh=>(dl.pure λJ ρ l ev w c D _=>?_)
    have p:=aex (p h)
    have h:=aK l B
    subst D
    have q:=BY (P:=P) (w:=w) (isS:=false) (len:=s.length) (cap:=s.length) (D4 r l) (D4 u l) p
    have f:P.underlying t=some .string:=(A t _ I).2.1
    have v:(⟨s.toArray⟩:ByteArray).size=s.length:=by rfl
    have a:(⟨s.toArray⟩:ByteArray).extract i.toNat j.toNat=⟨((s.take j.toNat).drop i.toNat).toArray⟩:=by apply ByteArray.ext;apply akd;simp[ByteArray.data_extract,agI]
    simp only[AV.val,Lf.val]at h|-
    have C:(Instr.slice t (.string ⟨s.toArray⟩) (lo.map (aL ρ)) (hi.map (aL ρ)) none).run P w=.ok (.string ⟨((s.take j.toNat).drop i.toNat).toArray⟩) w:=by simp[Instr.slice,run_underlying f,v,q,a,Result.andThen]
    simp[execOp,H,h,Instr.sliceAt,run_underlying f,C,Result.andThen]
  ·exact aq.none
theorem GN:∀(c:List Int) (a:Array UInt8),c.foldl (λ(r:ByteArray) n=>r.push (UInt8.ofNat n.toNat)) ⟨a⟩=⟨a++(c.map λn=>UInt8.ofNat n.toNat).toArray⟩
  |[],a=>by simp
  | n::r,a=>by
    simp only[aqF,aev];rw[show(⟨a⟩:ByteArray).push (UInt8.ofNat n.toNat)=⟨a.push (UInt8.ofNat n.toNat)⟩from rfl,GN r];simp_all
theorem Ae:∀{xs:List Int} {ys:List Unit},xs.length=ys.length->cellsOf (TC.sc (.int .u8)).ty xs ys=xs.map (Value.int .u8)
  |[],_,_=>by simp[cellsOf]
  | x::xs,y::ys,h=>by
    have:=Ae (xs:=xs) (ys:=ys) (by simpa using h);simp only[cellsOf,aev,this];rfl
  |_::_,[],h=>by simp at h
def GQ(Θ:Tb)(s d:TypeId)(l:Lf)(F:List AF)(k:Out->Option R):Option R:=match Θ s,Θ d with
  | some ⟨.slice e,_,_,_,_⟩,some ⟨.str,_,_,_,_⟩=>match Θ e with
    | some ⟨.int .u8,_,_,_,_⟩=>match iB (.sc (.int .u8)) F l with
      |some q=>k (be (zV ((show List Int from q.xs).map λn=>UInt8.ofNat n.toNat)))
      |none=>none
    |_=>none
  |_,_=>none
theorem Jv(u:Θ.ok P){l:Lf}(U:o.op=.convert s d x)(K:ev E x=some (.lf l))(k:Out->Option R):aq ex P o E F n (GQ Θ s d l F k) k:=by
  unfold GQ;split
  · rename_i e _ _ _ _ _ _ _ _ hs hd
    split
    · rename_i S
      split
      · rename_i q hq
        refine aq.of λ_=>(dl.pure λf ρ L ev w c C M=>?_)
        have D:=aK L K
        simp only[AV.val]at D
        rw[(qh hq f).1]at D
        obtain⟨ys,I,T,_,_,O⟩:=iq hq M
        subst C
        have r:=run_convert_bytes_string w s d e (l.hd f).a (l.hd f).n (l.hd f).cap (u s _ hs).2.1 (u e _ S).2.1 (u d _ hd).2.1
        have p:∀{ns:List Int},(Conv.bytesToString (l.hd f).val).run P w=.ok (.string ⟨(ns.map λn=>UInt8.ofNat n.toNat).toArray⟩) w->ns=q.xs->(execOp (aL ρ) o).run P w=.ok (.value (.string ⟨((show List Int from q.xs).map λn=>UInt8.ofNat n.toNat).toArray⟩)) w:=by intro ns h e;subst e;simp[execOp,U,D,r,h,Result.andThen]
        simp only[AV.val,Lf.val]
        rcases O with⟨_,W⟩|⟨b,off,arr,ty,V,ha,_,N,J,Q⟩
        · have H:q.xs=([]:List Int):=afG (by omega)
          refine p (ns:=[]) ?_ H.symm
          have A:(l.hd f).n=0:=by grind
          cases ha:(l.hd f).a with
          | none=>
            simp only[Hd.val,ha,A];rfl
          | some a=>
            have hl:(loadCells a 0).run P w=.ok (([]:List Int).map (Value.int .u8)).toArray w:=run_loadCells_list w a [] (λj v h=>by cases h);have:=run_bytesToString (P:=P) w a 0 (l.hd f).cap [] hl;simp only[Hd.val,ha,A];rw[this];rfl
        · have B:cellsOf (TC.sc (.int .u8)).ty q.xs ys=(show List Int from q.xs).map (Value.int .u8):=Ae I.length
          have hl:(loadCells ⟨b,off,none⟩ q.xs.length).run P w=.ok ((show List Int from q.xs).map (Value.int .u8)).toArray w:=by have:=run_loadCells_list (P:=P) w ⟨b,off,none⟩ ((show List Int from q.xs).map (Value.int .u8)) (λj v Y=>by rw[eT,mT N];grind);grind
          have:=run_bytesToString (P:=P) w ⟨b,off,none⟩ q.xs.length (l.hd f).cap (show List Int from q.xs) hl
          refine p (ns:=q.xs) ?_ rfl
          simp only[Hd.val,ha,T]
          rw[this,show ByteArray.empty=⟨#[]⟩from rfl,GN]
          simp
      ·exact aq.none
    ·exact aq.none
  ·exact aq.none
theorem Tv{c:aS}{w':World}{c':aS}(h:Stp [] w.drew c w' c'):Stp [] w c w' c':=⟨h.size,h.col,h.same,h.two,h.env⟩
theorem acO{w:World}{S:Nat->Prop}(s:SC):∀l:List s.den,cf (bH w S (TC.sc s).ty) l (List.replicate l.length ())
  |[]=>trivial
  |_::r=>⟨trivial,acO s r⟩
theorem agj{ρ:dm}{L:List HA}{bs:List UInt8}{N:Nat}(K:o.op=.convert s d x)(hs:P.underlying s=some .string)(hd:P.underlying d=some (.slice e))(H:P.underlying e=some (.int .u8))
    (M:aL ρ x=.string ⟨bs.toArray⟩) (D:Nat.ble 2 N=true) (hl:decide (bs.length<=maxLen)=true) :
    cN P ρ o L [] Hd.val (λh=>[.own (TC.sc (.int .u8)).ty (e+1048576) N [] (bs.map λb=>(b.toNat:Int)) h]):=by
  intro a ev w c next Q ha O J
  have l:bs.length<=maxLen:=aex hl;have f:=run_bytes_of_string (P:=P) w s d e ⟨bs.toArray⟩ hs hd H;have u:=grownCap_ge w bs.length 0 e;have k:=grownCap_le_maxLen w bs.length 0 e l;have p:(ByteArray.mk bs.toArray).size=bs.length:=by rfl
  rw[p]at f;generalize A:grownCap w bs.length 0 e=cap at f u k;have B:bytesRow ⟨bs.toArray⟩ cap=((bs.map λ(b:UInt8)=>Value.int .u8 (b.toNat:Int))++List.replicate (cap-bs.length) (Value.int .u8 0)).toArray:=by simp[bytesRow,p]
  have C:(bytesRow ⟨bs.toArray⟩ cap).size=cap:=by grind
  have r:(execOp ev o).run P w=.ok (.value (.slice (some ⟨w.heap.size,0,none⟩) bs.length cap)) (w.drew.alloc (.cells (bytesRow ⟨bs.toArray⟩ cap) e ((bytesRow ⟨bs.toArray⟩ cap).size,(bytesRow ⟨bs.toArray⟩ cap).size+1))):=by simp[execOp,K,ha,M,f,Result.andThen]
  rw[r];have v:=Tv (tR (w:=w.drew) (c:=c) D (.cells (bytesRow ⟨bs.toArray⟩ cap) e ((bytesRow ⟨bs.toArray⟩ cap).size,(bytesRow ⟨bs.toArray⟩ cap).size+1)));have q:cellsOf (TC.sc (.int .u8)).ty (bs.map λ(b:UInt8)=>(b.toNat:Int)) (List.replicate bs.length ())=bs.map λ(b:UInt8)=>Value.int .u8 (b.toNat:Int):=by rw[Ae (by simp),ag1];rfl
  refine J ⟨some ⟨w.heap.size,0,none⟩,bs.length,cap⟩ _ _ v (ao.cons ⟨List.replicate bs.length (),?_,⟨?_,.inr ⟨w.heap.size,cap,bytesRow ⟨bs.toArray⟩ cap,e,((bytesRow ⟨bs.toArray⟩ cap).size,(bytesRow ⟨bs.toArray⟩ cap).size+1),?_,heap_alloc_new w.drew _,.inr ⟨Nat.le_add_left _ _,ad3 _⟩,?_,k,?_,?_⟩⟩,λg I=>?_⟩ (ao.nil _ _))
  · have:=acO (w:=w.drew.alloc (.cells (bytesRow ⟨bs.toArray⟩ cap) e ((bytesRow ⟨bs.toArray⟩ cap).size,(bytesRow ⟨bs.toArray⟩ cap).size+1))) (S:=λb=>(if b<w.drew.heap.size then c b else N)∈([]:List Nat)) (.int .u8) (bs.map λ(b:UInt8)=>(b.toNat:Int))
    grind
  ·grind
  ·simp
  ·grind
  ·grind
  ·grind
  · simp only[Hd.val,Value.ownBlock,no]at I
    simp_all
def Pd(Θ:Tb)(ex:Option Bool)(n N:Nat)(s d:TypeId)(a:List UInt8)(k:Out->Option R):Option R:=match Θ s,Θ d with
  |some ⟨.str,_,_,_,_⟩,some ⟨.str,_,_,_,_⟩=>k (be (zV a))
  | some ⟨.str,_,_,_,_⟩,some ⟨.slice e,_,_,_,_⟩=>match Θ e with
    |some ⟨.int .u8,_,_,_,_⟩=>bif Nat.ble 2 N && !(fk (e+1048576))then gchk ex (decide (a.length<=maxLen)) (k ⟨.lf (.sl n),[.own (.sc (.int .u8)) (e+1048576) N [] (a.map λb=>(b.toNat:Int)) n],[]⟩)else none
    |_=>none
  |_,_=>none
theorem ac4(f:Θ.ok P){N:Nat}{a:List UInt8}(D:o.op=.convert s d x)(B:ev E x=some (zV a))(k:Out->Option R):aq ex P o E F n (Pd Θ ex n N s d a k) k:=by
  unfold Pd;split
  · rename_i _ _ _ _ _ _ _ _ hs hd
    refine aq.of λH=>(dl.pure λA ρ q ev w c u _=>?_)
    have v:=(f s _ hs).2.1
    have r:=(f d _ hd).2.1
    have C:=aK q B
    subst u
    simp only[AV.val,Lf.val]at C|-
    simp[execOp,D,C,convert,run_underlying v,run_underlying r,Result.andThen]
  · rename_i _ _ _ _ e _ _ _ _ hs hd
    split
    · rename_i u
      refine aq.bif λl=>aq.gchk λhl=>aq.of λH A ρ q=>?_
      simp only[abF]at l
      obtain⟨I,h⟩:=l
      have h:=u0 h
      refine(agj (o:=o) (ρ:=ρ) D (f s _ hs).2.1 (f d _ hd).2.1 (f e _ u).2.1 (aK q B) I (hl H)).map (λp=>⟨A.setH n p,A.setH_agr n p⟩) (λp=>?_) λp=>?_
      ·simp[AV.val,Lf.val,Vn.setH_at]
      ·simp[AF.ha,Vn.setH_at,dK h]
    ·exact aq.none
  ·exact aq.none
def HT(Θ:Tb)(E:SE)(ex:Option Bool)(n:Nat)(t:TypeId)(l:Lf)(hi mx:Operand)(F:List AF)(k:Out->Option R):Option R:=match Θ t,ev E hi,ev E mx with
  | some ⟨.slice e,_,_,_,_⟩,some (.lf (.c (.int _) j)),some (.lf (.c (.int _) m))=>match Θ e with
    | some a=>match iB a.tc F l with
      |some s=>bif Nat.beq a.sz a.tc.ty.sz then gchk ex (decide (0<=j/\j<=m/\m<=s.xs.length)) (k ⟨.lf (.sl n),[.rep a.tc s.all (s.xs.take j.toNat) n],[]⟩)else none
      |none=>none
    |none=>none
  |_,_,_=>none
theorem adc{ρ:dm}{L:List HA}{hi:Operand}{Z km:IntKind}{m:Int}{ty:Ty}{K:List Nat}{xs:List ty.den}{hd:Hd}(U:o.op=.slice t x none (some hi) (some mx))(A:P.underlying t=some (.slice e))(r:TI P e sz by_ z)
    (W:aL ρ x=hd.val) (O:aL ρ hi=.int Z j) (S:aL ρ mx=.int km m) (I:∀w c,ao w c L->HA.holds w c (.rep ty K xs hd)) (M:decide (0<=j/\j<=m/\m<=xs.length)=true) :
    cN P ρ o L [] (λ_:Unit=>(⟨hd.a,j.toNat,m.toNat⟩:Hd).val) (λ_=>[.rep ty K (xs.take j.toNat) ⟨hd.a,j.toNat,m.toNat⟩]):=xz λev w c p H=>by
  obtain⟨b0,b1,b2⟩:=aex M;obtain⟨Y,f,_,V,_⟩:=r.get;obtain⟨ys,h,hn,Q,T,N⟩:=I w c H;refine⟨(),?_,ao.cons ⟨ys.take j.toNat,h.take _,?_⟩ (ao.nil _ _)⟩
  · subst p
    have B:(Instr.sliceBound (aL ρ mx) hd.cap .slice3Acap).run P w=.ok m.toNat w:=by rw[S];exact nQ (by omega) (by omega)
    have c2:(Instr.sliceBound (aL ρ hi) m.toNat .slice3B).run P w=.ok j.toNat w:=by rw[O];exact nQ b0 (by omega)
    have c3:(Instr.sliceBounds true hd.n hd.cap none (some (aL ρ hi)) (some (aL ρ mx))).run P w=.ok (0,j.toNat,m.toNat) w:=by simp[Instr.sliceBounds,B,c2,Result.andThen]
    have q:Option.map (λa:Addr=>a.add 0) hd.a=hd.a:=by
      cases hd.a with
      |none=>rfl
      |some a=>rfl
    have c4:(Instr.slice t hd.val none (some (aL ρ hi)) (some (aL ρ mx))).run P w=.ok (⟨hd.a,j.toNat,m.toNat⟩:Hd).val w:=by simp[Instr.slice,run_underlying A,c3,sizeOf,typeInfo,f,q,Result.andThen]
    simp[execOp,U,W,Instr.sliceAt,run_underlying A,c4,Result.andThen]
  · refine⟨by simp;omega,by simp;omega,by simp;omega,?_⟩
    rcases N with⟨_,h0⟩|⟨b,off,arr,tt,C,ha,J,k,v,l⟩
    ·grind
    · have h4:m.toNat*ty.sz<=hd.cap*ty.sz:=aeL _ (by omega)
      have u:j.toNat<=xs.length:=by omega
      have D:j.toNat*ty.sz<=xs.length*ty.sz:=aeL _ u
      refine .inr ⟨b,off,arr,tt,C,ha,J,k,?_,?_⟩
      ·grind
      ·rw[jl ty j.toNat h.length,<-l,ahK,afi,afn u,afn D]
theorem aa9(f:Θ.ok P){hi:Operand}{l:Lf}(C:o.op=.slice t x none (some hi) (some mx))(q:ev E x=some (.lf l))(k:Out->Option R):aq ex P o E F n (HT Θ E ex n t l hi mx F k) k:=by
  unfold HT;split
  · rename_i e _ _ _ _ K j L m H A B
    split
    · rename_i J v
      split
      · rename_i s hs
        refine aq.bif λD=>aq.gchk λu=>aq.of λI h ρ p=>?_
        have a:=aK p q
        simp only[AV.val]at a
        rw[(qh hs h).1]at a
        refine(adc (j:=j) (m:=m) C (f t _ H).2.1 (f e J v).1 a (aK p A) (aK p B) (λw c r=>iq hs r) (u I)).map (λ_=>⟨h.setH n ⟨(l.hd h).a,j.toNat,m.toNat⟩,h.setH_agr n _⟩) (λ_=>?_) λ_=>?_
        ·simp[AV.val,Lf.val,Vn.setH_at]
        ·simp[AF.ha,Vn.setH_at]
      ·exact aq.none
    ·exact aq.none
  ·exact aq.none
theorem cN.weaken'{P:Program}{ρ:dm}{o:Oper}{L:List HA}{κ:List Nat}{Y Y':Type}{val:Y->Value}{Φ:Y->List HA}{val':Y'->Value}{Φ':Y'->List HA}(h:cN P ρ o L κ val Φ)(g:Y->Y')
    (q:∀y,val y=val' (g y)) (k:∀y w c,ao w c (Φ y)->ao w c (Φ' (g y))):cN P ρ o L κ val' Φ':=by
  intro a ev w c next Q ha f p
  refine h a ev w c next Q ha f λy w' c' hs l=>?_
  grind
def Hx(Θ:Tb)(E:SE)(ex:Option Bool)(n:Nat)(t:TypeId)(l:Lf)(lo hi mx:Operand)(F:List AF)(k:Out->Option R):Option R:=match Θ t,ev E lo,ev E hi,ev E mx with
  | some ⟨.slice e,_,_,_,_⟩,some (.lf (.c (.int _) i)),some (.lf (.c (.int _) j)),some (.lf (.c (.int _) m))=>match Θ e,l with
    | some a,.sl h=>match fY a.tc e 0 F (.sl h)with
      |some (_,_,xs)=>bif Nat.beq a.sz a.tc.ty.sz&&out n h then gchk ex (decide (0<=i/\i<=j/\j<=m/\m<=xs.length)) (k ⟨.lf (.sl n),[.prt n h a.sz i j],[]⟩)else none
      |none=>none
    |_,_=>none
  |_,_,_,_=>none
theorem acy{ρ:dm}{L:List HA}{lo hi:Operand}{V W:IntKind}{m:Int}{ty:Ty}{K:List Nat}{xs:List ty.den}{hd:Hd}(S:o.op=.slice t x (some lo) (some hi) (some mx))(u:P.underlying t=some (.slice e))(q:TI P e sz by_ z)
    (T:aL ρ x=hd.val) (l:aL ρ lo=.int ki i) (J:aL ρ hi=.int V j) (O:aL ρ mx=.int W m) (B:∀w c,ao w c L->HA.holds w c (.rep ty K xs hd)) (C:decide (0<=i/\i<=j/\j<=m/\m<=xs.length)=true) :
    cN P ρ o L [] (λy : { h:Hd//lm h hd sz i j}=>y.1.val) (λ_=>[]):=xz λev w c k A=>by
  obtain⟨b0,Y,Z,b3⟩:=aex C;obtain⟨a,f,_,p,_⟩:=q.get;obtain⟨ys,U,hn,M,Q,H⟩:=B w c A;subst k;have v:(Instr.sliceBound (aL ρ mx) hd.cap .slice3Acap).run P w=.ok m.toNat w:=by rw[O];exact nQ (by omega) (by omega)
  have c2:(Instr.sliceBound (aL ρ hi) m.toNat .slice3B).run P w=.ok j.toNat w:=by rw[J];exact nQ (by omega) (by omega)
  have c0:(Instr.sliceBound (aL ρ lo) j.toNat .slice3C).run P w=.ok i.toNat w:=by rw[l];exact nQ b0 (by omega)
  have c3:(Instr.sliceBounds true hd.n hd.cap (some (aL ρ lo)) (some (aL ρ hi)) (some (aL ρ mx))).run P w=.ok (i.toNat,j.toNat,m.toNat) w:=by simp[Instr.sliceBounds,c0,v,c2,Result.andThen]
  refine⟨⟨⟨if m.toNat=i.toNat then hd.a else hd.a.map (·.add (i.toNat*a.size)),j.toNat-i.toNat,m.toNat-i.toNat⟩,⟨b0,by grind,λN=>?_⟩⟩,?_,ao.nil _ _⟩
  · rcases H with⟨_,h0⟩|⟨b,off,arr,tt,fz,ha,hS,D,r,I⟩
    ·omega
    · refine⟨b,off+i.toNat*a.size,?_,?_⟩
      · simp only
        rw[if_neg (by omega),ha]
        simp[eT]
      ·simp[di,ha,p]
  · have c4:(Instr.slice t hd.val (some (aL ρ lo)) (some (aL ρ hi)) (some (aL ρ mx))).run P w=.ok (⟨if m.toNat=i.toNat then hd.a else hd.a.map (·.add (i.toNat*a.size)),j.toNat-i.toNat,m.toNat-i.toNat⟩:Hd).val w:=by
      simp[Instr.slice,run_underlying u,c3,sizeOf,typeInfo,f,Result.andThen]
    simp[execOp,S,T,Instr.sliceAt,run_underlying u,c4,Result.andThen]
theorem Wu(f:Θ.ok P){lo hi:Operand}{l:Lf}(I:o.op=.slice t x (some lo) (some hi) (some mx))(v:ev E x=some (.lf l))(k:Out->Option R):aq ex P o E F n (Hx Θ E ex n t l lo hi mx F k) k:=by
  unfold Hx;split
  · rename_i e _ _ _ _ _ i _ j _ m J r D H
    split
    · rename_i N h C
      split
      · rename_i ci K xs hs
        refine aq.bif λu=>aq.gchk λB=>aq.of λM q ρ p=>?_
        simp only[abF]at u
        have a:=aK p v
        simp only[AV.val,Lf.val]at a
        refine(acy (o:=o) (ρ:=ρ) (L:=F.map (AF.ha q)) (K:=ci::K) (i:=i) (j:=j) (m:=m) I (f t _ J).2.1 (f e N C).1 a (aK p r) (aK p D) (aK p H) (λw c A=>PW (eO hs A)) (B M)).weaken' (λy=>⟨q.setH n y.1,q.setH_agr n y.1⟩) (λy=>?_) λy w c _=>?_
        ·simp[AV.val,Lf.val,Vn.setH_at]
        · refine ao.cons ?_ (ao.nil _ _)
          simp only[AF.ha,Vn.setH_at,HA.holds]
          rw[(q.setH_agr n y.1 h u.2).1]
          exact y.2
      ·exact aq.none
    ·exact aq.none
  ·exact aq.none
def cT{α:Type}(m:Nat)(d:α)(xs:List α):List α:=(List.range m).map λq=>xs.getD q d
theorem vX(s:SC):∀{xs:List s.den} {ys:List Unit},xs.length=ys.length->cellsOf (TC.sc s).ty xs ys=xs.map s.val
  |[],_,_=>by simp[cellsOf]
  | x::xs,y::ys,h=>by
    have:=vX s (xs:=xs) (ys:=ys) (by simpa using h);simp only[cellsOf,aev,this];rfl
  |_::_,[],h=>by simp at h
theorem abS{ρ:dm}{L:List HA}{ci:Nat}{s:SC}{xs:List s.den}{pre post:List Value}(U:o.op=.slice t x lo hi none)(V:P.underlying t=some (.array m e))(H:TI P e 1 by_ z)
    (Y:aL ρ x=.pointer (some ⟨b,off,none⟩)) (B:(lo=none/\i=0)\/∃x I,lo=some x/\aL ρ x=.int I i) (A:(hi=none/\j=m)\/∃x I,hi=some x/\aL ρ x=.int I j)
    (O:∀w c,ao w c L->HA.holds w c (.box ci b (pre++(TC.arr m s).ty.fill xs ()++post))) (k:pre.length=off) (Q:decide (0<=i/\i<=j/\j<=m)=true) (J:Nat.ble m 16777216=true) :
    cN P ρ o L [] (λ_:Unit=>(⟨some (if m=i.toNat then⟨b,off,none⟩else⟨b,off+i.toNat,none⟩),j.toNat-i.toNat,m-i.toNat⟩:Hd).val)
      (λ_=>[.rep (TC.sc s).ty [ci] (((cT m s.dft xs).take j.toNat).drop i.toNat) ⟨some (if m=i.toNat then⟨b,off,none⟩else⟨b,off+i.toNat,none⟩),j.toNat-i.toNat,m-i.toNat⟩,
        .pure (lm ⟨some (if m=i.toNat then⟨b,off,none⟩else⟨b,off+i.toNat,none⟩),j.toNat-i.toNat,m-i.toNat⟩ ⟨some ⟨b,off,none⟩,0,0⟩ 1 i j)]):=xz λev w c v N=>by
  have p:=aex Q;obtain⟨b0,K,M⟩:=p;have J:=abM J;obtain⟨inf,h,_,D,_⟩:=H.get;obtain⟨⟨ty,r⟩,S⟩:=O w c N;have f:(((cT m s.dft xs).take j.toNat).drop i.toNat).length=j.toNat-i.toNat:=by simp[cT];omega
  refine⟨(),?_,ao.cons ⟨List.replicate (j.toNat-i.toNat) (),?_,?_⟩ (ao.cons ⟨b0,by dsimp only;omega,λT=>⟨b,off+i.toNat,?_,?_⟩⟩ (ao.nil _ _))⟩
  · subst v
    have c3:=BY (P:=P) (w:=w) (isS:=false) (len:=m) (cap:=m) B A ⟨b0,K,M⟩
    have key:(Instr.sliceAt t (.pointer (some ⟨b,off,none⟩)) (lo.map (aL ρ)) (hi.map (aL ρ)) none).run P w=.ok (.slice (some (if m=i.toNat then⟨b,off,none⟩else⟨b,off+i.toNat,none⟩)) (j.toNat-i.toNat) (m-i.toNat)) w:=by simp[Instr.sliceAt,Instr.sureAddr,run_underlying V,c3,sizeOf,typeInfo,h,D,Result.andThen,eT]
    simp only[execOp,U,Y,aqL,key,Sem.run_bind,Result.andThen_ok,Sem.run_pure]
  · have gen:∀(l:List s.den) (q:Nat),l.length=q->cf (bH w (λb=>c b∈[ci]) (TC.sc s).ty) l (List.replicate q ()):=by
      intro l;induction l with
      |nil=>intro q hq;simp at hq;subst hq;trivial
      | cons a l Z=>
        intro q hq;cases q with
        |zero=>simp at hq
        |succ q=>exact⟨trivial,Z q (by simpa using hq)⟩
    grind
  · refine⟨by rw[f],by simp;omega,by simp[maxLen];omega,?_⟩
    by_cases C:m=i.toNat
    ·grind
    · refine .inr ⟨b,off+i.toNat,_,ty,_,by simp[C],by simp[S],r,?_,?_⟩
      ·simp[Ty.fill,TC.ty,Ty.sz];omega
      · rw[vX s (by grind),f]
        have hd:∀u:List Value,(pre++u++post).drop (off+i.toNat)=(u++post).drop i.toNat:=λu=>by rw[aeh,<-agG,List.drop_left' k]
        have W:((TC.arr m s).ty.fill xs ()).length=m:=by simp[TC.ty,Ty.fill]
        simp only[TC.ty,Ty.sz,ahv,hd]
        rw[afr,ajy (by simp[W];omega)]
        simp only[Ty.fill,cT]
        rw[<-ajZ,List.take_drop]
        simp only[aq2,ajZ,ag1]
        rw[show i.toNat+(j.toNat-i.toNat)=j.toNat by omega]
        rfl
  ·rw[if_neg (by omega)]
  ·simp[di]
def HZ(Θ:Tb)(E:SE)(ex:Option Bool)(n:Nat)(t:TypeId)(b off:Nat)(lo hi:Option Operand)(F:List AF)(k:Out->Option R):Option R:=match Θ t,i6 b F with
  | some ⟨.arr m e,_,_,_,_⟩,some (ci,cs)=>match lj cs off with
    | some (_,.ar a s xs::_)=>match Θ e,Im E lo 0,Im E hi m with
      |some c,some i,some j=>bif Nat.beq a m&&Nat.beq c.sz 1&&Nat.ble m 16777216&&out n b then gchk ex (decide (0<=i/\i<=j/\j<=m)) (k ⟨.lf (.sl n),[.rep (.sc s) [ci] (((cT a s.dft xs).take j.toNat).drop i.toNat) n,.pbx n b off i j],[]⟩)else none
      |_,_,_=>none
    |_=>none
  |_,_=>none
theorem Xc(p:Θ.ok P)(Q:o.op=.slice t x lo hi none)(K:ev E x=some (.lf (.bp b off)))(k:Out->Option R):aq ex P o E F n (HZ Θ E ex n t b off lo hi F k) k:=by
  unfold HZ;split
  · rename_i m e _ _ _ _ ci cs S A
    split
    · rename_i a q s xs r h
      split
      · rename_i U i j N B C
        refine aq.bif λI=>aq.gchk λM=>aq.of λT f ρ u=>?_
        simp only[abF]at I
        obtain⟨⟨⟨O,H⟩,D⟩,v⟩:=I
        obtain rfl:=f9 O
        have l:=(p e U N).1
        rw[f9 H]at l
        obtain⟨J,V⟩:=hU h
        refine(abS (ci:=ci) (s:=s) (xs:=xs) (pre:=aw f a) (post:=aw f r) Q (p t _ S).2.1 l (aK u K) (D4 B u) (D4 C u) (λw c L=>?_) (V f) (M T) D).map (λ_=>⟨f.setH n ⟨some (if q=i.toNat then⟨f.b b,off,none⟩else⟨f.b b,off+i.toNat,none⟩),j.toNat-i.toNat,q-i.toNat⟩,f.setH_agr n _⟩) (λ_=>?_) λ_=>?_
        · have:=sn A L
          rw[J,ba]at this
          simpa[aw,Lf.cells]using this
        ·simp[AV.val,Lf.val,Vn.setH_at]
        ·simp[AF.ha,Vn.setH_at,(f.setH_agr n ⟨some (if q=i.toNat then⟨f.b b,off,none⟩else⟨f.b b,off+i.toNat,none⟩),j.toNat-i.toNat,q-i.toNat⟩ b v).2]
      ·exact aq.none
    ·exact aq.none
  ·exact aq.none
def AU(P:Program)(t:TypeId):Prop:=P.eqGuardType P.depth t=false/\P.stoodInHeld t=false/\(P.fieldsOf t).toList.all (λf=>!(f.name == "_"))=true
def pA(Θ:Tb):List (TypeId×Nat)->List Lf->List Lf->Nat->Option Bool
  |[],[],[],_=>some true
  | (c,off)::fs,.c s a::r,.c h b::r',pos=>match Θ c with
    | some i=>match i.d,s,h,a,b with
      |.int _,.int k,.int f,a,b=>if f=k/\off=pos then(pA Θ fs r r' (pos+1)).map λe=>(show Int from a)==(show Int from b)&&e else none
      |.bool,.bool,.bool,a,b=>if off=pos then(pA Θ fs r r' (pos+1)).map λe=>(show Bool from a)==(show Bool from b)&&e else none
      |.str,.str,.str,a,b=>if off=pos then(pA Θ fs r r' (pos+1)).map λe=>(show List UInt8 from a)==(show List UInt8 from b)&&e else none
      |_,_,_,_,_=>none
    |none=>none
  |_,_,_,_=>none
theorem zw(v:Θ.ok P){w:World}{η:Vn}{xs ys:Array Value}{d:Nat}:∀{fl:List Field} {fs:List (TypeId×Nat)} {r r':List Lf} {pos:Nat} {e:Bool},fl.map (λf=>(f.type,f.offset))=fs->fl.all (λf=>!(f.name == "_"))=true->pA Θ fs r r' pos=some e ->
    (∀j,xs[pos+j]?=(aw η r)[j]?)->(∀j,ys[pos+j]?=(aw η r')[j]?)->(Op.eqFields (d+1) xs ys fl).run P w=.ok e w
  | [],_,r,r',pos,e,I,_,h,_,_=>by
    simp only[ahd]at I;subst I;cases r<;>cases r'<;>simp[pA]at h;subst h;rfl
  | f::fl,fs,r,r',pos,e,I,A,h,O,Q=>by
    simp only[aev]at I;subst I;simp only[afR,abF,afm,ag6,ne_eq]at A;cases r with
    |nil=>simp[pA]at h
    | cons l r=>
      cases r' with
      |nil=>cases l<;>simp[pA]at h
      | cons U  r' =>
        cases l<;>cases U<;>simp only[pA]at h<;>try cases h
        rename_i s a V b;split at h
        · rename_i i hi
          have c:=(v f.type i hi).2.1
          have q:=O 0
          have u:=Q 0
          have B:∀j,xs[pos+1+j]?=(aw η r)[j]?:=λj=>by have:=O (j+1);rw[show pos+(j+1)=pos+1+j by omega]at this;simpa[aw,Lf.cells]using this
          have C:∀j,ys[pos+1+j]?=(aw η r')[j]?:=λj=>by have:=Q (j+1);rw[show pos+(j+1)=pos+1+j by omega]at this;simpa[aw,Lf.cells]using this
          simp only[afu,aw,Lf.cells,afO,agE]at q u
          cases hd:i.d<;>rw[hd]at h c<;>cases s<;>cases V<;>simp only at h<;>try cases h
          · rename_i k M
            split at h
            · rename_i T
              obtain⟨rfl,p⟩:=T
              simp only[afe]at h
              obtain⟨N,H,rfl⟩:=h
              have S:=zw v (d:=d) rfl A.2 H B C (w:=w)
              have c:P.underlying f.type=some (.int _):=c
              have J:(part f.type xs f.offset).run P w=.ok (.int M a) w:=by simp[part,l7 c rfl,p,q,Result.andThen]
              have K:(part f.type ys f.offset).run P w=.ok (.int M b) w:=by simp[part,l7 c rfl,p,u,Result.andThen]
              have L:=run_equalIn_int (P:=P) w d f.type M _ a b c
              simp only[Op.eqFields,A.1,ne_eq,aku,aeP,Sem.run_bind,J,K,L,Result.andThen_ok]
              cases D:((show Int from a)==(show Int from b))
              ·simp_all
              grind
            ·cases h
          · skip
            split at h
            · rename_i p
              simp only[afe]at h
              obtain⟨N,H,rfl⟩:=h
              have S:=zw v (d:=d) rfl A.2 H B C (w:=w)
              have c:P.underlying f.type=some .bool:=c
              have J:(part f.type xs f.offset).run P w=.ok (.bool a) w:=by simp[part,l7 c rfl,p,q,Result.andThen]
              have K:(part f.type ys f.offset).run P w=.ok (.bool b) w:=by simp[part,l7 c rfl,p,u,Result.andThen]
              have L:=run_equalIn_bool' (P:=P) w d f.type a b c
              simp only[Op.eqFields,A.1,ne_eq,aku,aeP,Sem.run_bind,J,K,L,Result.andThen_ok]
              cases D:((show Bool from a)==(show Bool from b))
              ·simp_all
              grind
            ·cases h
          · skip
            split at h
            · rename_i p
              simp only[afe]at h
              obtain⟨N,H,rfl⟩:=h
              have S:=zw v (d:=d) rfl A.2 H B C (w:=w)
              have c:P.underlying f.type=some .string:=c
              have J:(part f.type xs f.offset).run P w=.ok (.string ⟨(show List UInt8 from a).toArray⟩) w:=by simp[part,l7 c rfl,p,q,Result.andThen]
              have K:(part f.type ys f.offset).run P w=.ok (.string ⟨(show List UInt8 from b).toArray⟩) w:=by simp[part,l7 c rfl,p,u,Result.andThen]
              have L:=run_equalIn_string (P:=P) w d f.type ⟨(show List UInt8 from a).toArray⟩ ⟨(show List UInt8 from b).toArray⟩ c
              simp only[Op.eqFields,A.1,ne_eq,aku,aeP,Sem.run_bind,J,K,L,Result.andThen_ok]
              have hl:((⟨(show List UInt8 from a).toArray⟩:ByteArray).toList==(⟨(show List UInt8 from b).toArray⟩:ByteArray).toList)=((show List UInt8 from a)==(show List UInt8 from b)):=by simp_all
              rw[hl]
              cases D:((show List UInt8 from a)==(show List UInt8 from b))
              ·simp_all
              grind
            ·cases h
        ·cases h
def Xe(Θ:Tb)(c:TypeId->Bool)(op:BinOp)(t:TypeId)(a b:List Lf)(k:Out->Option R):Option R:=match Θ t with
  | some ⟨.st fs,_,_,_,_⟩=>bif c t then match pA Θ fs a b 0,op with
    |some e,.eql=>k (be (eS e))
    |some e,.neq=>k (be (eS (!e)))
    |_,_=>none
    else none
  |_=>none
theorem ahc(u:Θ.ok P){A:TypeId->Bool}(L:∀t,A t=true->AU P t){op:BinOp}{Q:TypeId}{a b:List Lf}(I:o.op=.binOp op t x y Q)(D:ev E x=some (.ag a))(H:ev E y=some (.ag b))(k:Out->Option R) :
    aq ex P o E F n (Xe Θ A op t a b k) k:=by
  unfold Xe;split
  · rename_i fs _ _ _ _ O
    refine aq.bif λM=>?_
    obtain⟨B,K,C⟩:=L t M
    obtain⟨J,hs,N⟩:=(u t _ O).2.1
    have hf:P.fieldsOf t=J:=by simp[Program.fieldsOf,hs]
    have key:∀{e:Bool} {η:Vn} {w:World},pA Θ fs a b 0=some e->(Op.equalIn 10000 t (.agg (aw η a).toArray) (.agg (aw η b).toArray)).run P w=.ok e w:=by intro e η w r;rw[run_equalIn_struct (P:=P) w 9999 t _ _ (by grind) K,hf];rw[hf]at C;exact zw u (η:=η) (d:=9998) N C r (λj=>by simp) (λj=>by simp)
    split
    · rename_i e r
      refine aq.of λ_=>(dl.pure λη ρ q ev w c f _=>?_)
      have l:=aK q D
      have p:=aK q H
      subst f
      simp only[AV.val]at l p
      have h:(eqGuard .eql t x y (.agg (aw η a).toArray) (.agg (aw η b).toArray)).run P w=.ok () w:=run_eqGuard_agg w .eql t x y _ _ B
      have v:(binOp .eql t (.agg (aw η a).toArray) (.agg (aw η b).toArray)).run P w=.ok (.bool e) w:=by rw[run_eql_struct,key r];rfl
      simp only[execOp,I,l,p,Sem.run_bind,h,v,Result.andThen_ok,Sem.run_pure,AV.val,Lf.val]
    · rename_i e r
      refine aq.of λ_=>(dl.pure λη ρ q ev w c f _=>?_)
      have l:=aK q D
      have p:=aK q H
      subst f
      simp only[AV.val]at l p
      have h:(eqGuard .neq t x y (.agg (aw η a).toArray) (.agg (aw η b).toArray)).run P w=.ok () w:=run_eqGuard_agg w .neq t x y _ _ B
      have v:(binOp .neq t (.agg (aw η a).toArray) (.agg (aw η b).toArray)).run P w=.ok (.bool (!e)) w:=by rw[run_neq_struct,key r];rfl
      simp only[execOp,I,l,p,Sem.run_bind,h,v,Result.andThen_ok,Sem.run_pure,AV.val,Lf.val]
    ·exact aq.none
  ·exact aq.none
end
end
section
variable [X:XTab] [G:GTab] [Yc:GCx]
section
variable {R:Type} {P:Program} {o:Oper} {E:SE} {F:List AF} {n:Nat} {Θ:Tb} {ex:Option Bool}
def Pt(Θ:Tb)(ex:Option Bool)(t:TypeId)(b off m:Nat)(s:SC)(j:Int)(F:List AF)(k:Out->Option R):Option R:=match Θ t,i6 b F with
 |some i,some (_,cs)=>match lj cs off with
  |some (_,.ar a c x::_)=>bif Nat.beq m a&&Nat.beq i.sz 1 && !i.d.agg then(if h:c=s then gchk ex (decide (0<=j/\j<a)) (k (be (.lf (.c s (List.getD (α:=s.den) (wR h x) j.toNat s.dft)))))else none)else none
  |_=>none
 |_,_=>none
theorem xb(m:Nat)(s:SC)(x:List s.den){j:Nat}(h:j<m):((TC.arr m s).ty.fill x ())[j]?=some (s.val (List.getD (α:=s.den) x j s.dft)):=by simp[Ty.fill,h]
theorem acj(l:Θ.ok P){s:SC}(I:o.op=.load t x)(L:ev E x=some (.lf (.bq b off m s j)))(k:Out->Option R):aq ex P o E F n (Pt Θ ex t b off m s j F k) k:=by
 unfold Pt;split
 ·rename_i i ci cs hi D;split
  ·rename_i a M N xs r H;refine aq.bif λu=>?_
   simp only[abF,afm]at u;obtain⟨⟨Q,J⟩,c⟩:=u;split
   ·rename_i h;subst h;refine aq.gchk λv=>aq.of λf=>(dl.pure λp ρ C=>?_)
    have v:=aex (v f);obtain⟨O,B,_,_⟩:=l t i hi;obtain⟨S,K,hd⟩:=nq B;rw[c]at hd;obtain⟨q,hq⟩:=mN (fw D) p;obtain⟨e,hl⟩:=hU H;refine Gw q hq I K hd (aK C L) ?_;have A:=hl p;rw[e,ba];rw[afT (by omega),show off+j.toNat-(aw p a).length=j.toNat by omega];simp only[aw,Lf.cells];rw[aho (by rw[Ty.fill_length];grind)];exact xb M N xs (by omega)
   ·exact aq.none
  ·exact aq.none
 ·exact aq.none
def HX(Θ:Tb)(ex:Option Bool)(t:TypeId)(b off m:Nat)(s:SC)(j:Int)(v:AV)(F:List AF)(k:Out->Option R):Option R:=match Θ t,i6 b F,v.lvs with
 |some i,some (ci,cs),some ls=>match lj cs off,bV F (.sc s) ls with
  |some (a,.ar c f x::r),some (y,_,_,[])=>bif Nat.beq m c&&Nat.beq i.sz 1 then(if h:f=s then gchk ex (decide (0<=j/\j<c)) (k ⟨.lf (.v undef),[.box ci b (a++(.ar c s (bR c s.dft (wR h x) j.toNat y)::r))],[ci]⟩)else none)else none
  |_,_=>none
 |_,_,_=>none
theorem awK(m:Nat)(s:SC)(x:List s.den)(y:s.den){j:Nat}(h:j<m) :
  ((TC.arr m s).ty.fill x ()).take j++[s.val y]++((TC.arr m s).ty.fill x ()).drop (j+1)=(TC.arr m s).ty.fill (bR m s.dft x j y) ():=by
 apply afQ;intro q;have hl:((TC.arr m s).ty.fill x ()).length=m:=Ty.fill_length _ _ _;have f:((TC.arr m s).ty.fill (bR m s.dft x j y) ()).length=m:=Ty.fill_length _ _ _;have c:(((TC.arr m s).ty.fill x ()).take j).length=j:=by simp;omega
 rcases Nat.lt_trichotomy q j with hq|hq|hq
 ·rw[aeh,aho (by omega),ajr,if_pos hq,xb m s x (by omega),xb m s _ (by omega)];congr 2;simp only[bR,aee,afX,ahF (show q<m by omega)];grind
 ·subst hq;rw[aeh,afT (by omega),c,ak8,xb m s _ h];simp[bR,aee,h]
 ·by_cases a:q<m
  ·rw[afT (by simp;omega),xb m s _ a];rw[acA,c,adC,afS,show j+1+(q-(j+1))=q by omega,xb m s x a];congr 2;simp only[bR,aee,afX,ahF a];grind
  grind
theorem YK(D:Θ.ok P){s:SC}{v:AV}(O:o.op=.store t x y)(Q:ev E x=some (.lf (.bq b off m s j)))(S:ev E y=some v)(k:Out->Option R):aq ex P o E F n (HX Θ ex t b off m s j v F k) k:=by
 unfold HX;split
 ·rename_i i ci cs ls hi M B;split
  ·rename_i a l p xs r z _ _ N hd;refine aq.bif λI=>?_
   simp only[abF]at I;obtain⟨T,C⟩:=I;split
   ·rename_i h;subst h;refine aq.gchk λK=>aq.of λu f ρ J=>?_
    have K:=aex (K u);obtain⟨H,_,_,_⟩:=D t i hi;rw[f9 C]at H;obtain⟨q,hq⟩:=mN (fw M) f;obtain⟨e,hl⟩:=hU N;have L:=hl f;have c:=V3 hd f;have A:((TC.arr l p).ty.fill xs ()).length=l:=Ty.fill_length _ _ _;refine(Dd (cs':=aw f (a++(.ar l p (bR l p.dft xs j.toNat z)::r))) q hq O H (aK J Q) (aK J S) (v.lvs_cells B f) (by simp_all) ?_ ?_ ?_).map (λ_=>⟨f,Vn.agr_refl n f⟩) (λ_=>rfl) (λ_=>rfl)
    ·grind
    ·rw[e,ba,c];refine aeo ?_;simp only[aw,Lf.cells,acA,A,adC];omega
    ·rw[e,ba,ba,c];simp only[aw,Lf.cells,adC];rw[<-awK l p xs z (by omega)];rw[af4,aeQ (by omega),show off+j.toNat-(aw f a).length=j.toNat by omega,af4,show j.toNat-((TC.arr l p).ty.fill xs ()).length=0 by omega,ahj,
      ad0,afr,afc (as:=aw f a) (by omega),ae4,show off+j.toNat+1-(aw f a).length=j.toNat+1 by omega,afr,
      show j.toNat+1-((TC.arr l p).ty.fill xs ()).length=0 by omega,agY]
     simp
   ·exact aq.none
  ·exact aq.none
 ·exact aq.none
end
end
end Go.Sm
