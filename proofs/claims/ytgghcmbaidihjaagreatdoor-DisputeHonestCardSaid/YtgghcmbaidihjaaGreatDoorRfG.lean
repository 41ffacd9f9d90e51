/- Laws for the row. No condition. -/
import Derived.Test.YtgghcmbaidihjaaGreatDoorRfD
namespace Go.Sm
set_option linter.unusedSectionVars false
section
variable [X:XTab] [G:GTab] [Yc:GCx]
theorem cJ.from{P:Program}{ρ:cV}{o:Oper}{L L':List HA}{κ:List Nat}{Y:Type}{val:Y->Value}{Φ:Y->List HA}(h:cJ P ρ o L' κ val Φ)(hL:∀w c,aj w c L->aj w c L'):cJ P ρ o L κ val Φ:=
 λa ev w c next Q ha hH hk=>h a ev w c next Q ha (hL w c hH) hk
theorem aX.from{P:Program}{ρ:cV}{o:Oper}{L L':List HA}{v:Value}(h:aX P ρ o L' v)(hL:∀w c,aj w c L->aj w c L'):aX P ρ o L v:=
 λev w c he hH=>h ev w c he (hL w c hH)
def Pa.comp : {t u v:TC}->Pa t u->Pa u v->Pa t v
 |_,_,_,.here,q=>q
 |_,_,_,.fst p,q=>.fst (p.comp q)
 |_,_,_,.snd p,q=>.snd (p.comp q)
 |_,_,_,.inn p,q=>.inn (p.comp q)
 |_,_,_,.nd p,q=>.nd (p.comp q)
 |_,_,_,.el j,.here=>.el j
theorem Pa.comp_off : {t u v:TC}->(p:Pa t u)->(q:Pa u v)->(p.comp q).off=p.off+q.off
 |_,_,_,.here,q=>by simp[Pa.comp,Pa.off]
 |_,_,_,.fst p,q=>by simp[Pa.comp,Pa.off,p.comp_off q]
 |_,_,_,.snd p,q=>by simp[Pa.comp,Pa.off,p.comp_off q];omega
 |_,_,_,.inn p,q=>by simp[Pa.comp,Pa.off,p.comp_off q]
 |_,_,_,.nd p,q=>by simp[Pa.comp,Pa.off,p.comp_off q]
 |_,_,_,.el j,.here=>by rfl
def Pa.get : {t u:TC}->Pa t u->t.den->u.den
 |_,_,.here,x=>x
 |_,_,.fst p,x=>p.get x.1
 |_,_,.snd p,x=>p.get x.2
 |_,_,.inn p,x=>p.get x
 |_,_,.nd p,x=>p.get (Nd.tup x)
 |_,_,@Pa.el _ s j,x=>List.getD (α:=s.den) x j.toNat s.dft
def Pa.put : {t u:TC}->Pa t u->t.den->u.den->t.den
 |_,_,.here,_,y=>y
 |_,_,.fst p,x,y=>(p.put x.1 y,x.2)
 |_,_,.snd p,x,y=>(x.1,p.put x.2 y)
 |_,_,.inn p,x,y=>p.put x y
 |_,_,.nd p,x,y=>Nd.of (p.put (Nd.tup x) y)
 |_,_,@Pa.el n s j,x,y=>cu (α:=s.den) n s.dft x j.toNat y
def Pa.needs : {t u:TC}->Pa t u->Option Bool
 |_,_,.here=>none
 |_,_,.fst p=>p.needs
 |_,_,.snd p=>p.needs
 |_,_,.inn p=>p.needs
 |_,_,.nd p=>p.needs
 |_,_,@Pa.el n _ j=>some (decide (0<=j/\j<n))
def Pa.fine{t u:TC}(p:Pa t u):Prop:=∀b,p.needs=some b->b=true
def nchk{R:Type}(ex:Option Bool)(b:Option Bool)(m:Option R):Option R:=match b with
 |none=>m
 |some b=>gchk ex b m
theorem aq.nchk{R:Type}{P:Program}{o:Oper}{E:SE}{F:List AF}{n:Nat}{k:Out->Option R}{ex:Option Bool}{b:Option Bool}{m:Option R}(h:(fH ex->∀c,b=some c->c=true)->aq ex P o E F n m k):aq ex P o E F n (nchk ex b m) k:=by
 cases b with
 |none=>exact h λ_ _ h=>by cases h
 |some c=>exact aq.gchk λhc=>h λhx d hd=>by grind
theorem BH{L:List HA}{K:List Nat}{h:Hd} : {t u:TC}->(p:Pa t u)->{v:t.den}->{x:Nat}->El L t.ty K v h x->p.fine->El L u.ty K (p.get v) h (x+p.off)
 |_,_,.here,v,x,hE,_=>by simpa[Pa.off,Pa.get]using hE
 |_,_,.fst (a:=a) (b:=b) p,v,x,hE,hf=>by have h1:=On (t:=.pair a.ty b.ty) (.fst .here) hE rfl rfl;exact BH p h1 hf
 |_,_,.snd (a:=a) (b:=b) p,v,x,hE,hf=>by have h1:=On (t:=.pair a.ty b.ty) (.snd .here) hE rfl rfl;have:=BH p h1 hf;simp only[Pth.off,abj,Pa.off]at this|-;rw[<-ajp];exact this
 |_,_,.inn p,v,x,hE,hf=>BH p hE hf
 |_,_,.nd p,v,x,hE,hf=>by have h1:=On (t:=.node) (.nd .here) hE rfl rfl;exact BH p h1 hf
 |_,_,.el j,v,x,hE,hf=>aoL hE (hf _ rfl)
theorem QK(h:Hd)(x:Nat):∃b o,dR h x=⟨b,o,none⟩:=by unfold dR;split<;>exact⟨_,_,rfl⟩
def TC.fld:(u:TC)->(m n:Nat)->Option ((v:TC)×Pa u v)
 |.st a,0,1=>some ⟨a,.inn .here⟩
 |.node,0,4=>some ⟨.sc (.int .i64),.nd (.fst .here)⟩
 |.node,1,4=>some ⟨.sc .str,.nd (.snd (.fst .here))⟩
 |.node,2,4=>some ⟨.sc (.int .i64),.nd (.snd (.snd (.fst .here)))⟩
 |.node,3,4=>some ⟨.slice .node,.nd (.snd (.snd (.snd .here)))⟩
 |.pair a _,0,_+2=>some ⟨a,.fst .here⟩
 |.pair _ b,1,2=>some ⟨b,.snd .here⟩
 |.pair _ b,m+1,n+3=>match b.fld m (n+2)with
  |some ⟨v,p⟩=>some ⟨v,.snd p⟩
  |none=>none
 |_,_,_=>none
def TC.aggT:TC->Bool
 |.arr _ _=>true
 |.unit=>true
 |.pair _ _=>true
 |.st _=>true
 |.node=>true
 |_=>false
def pC(u:TC)(x:u.den)(n:Nat):AV:=match u,x with
 |.sc s,x=>.lf (.c s x)
 |.arr m s,x=>.lf (.ar m s x)
 |.unit,_=>.ag []
 |.pair a b,x=>.ag (iG (.pair a b) x n)
 |.st a,x=>.ag (iG a x n)
 |.slice _,_=>.lf (.sl n)
 |.ext k,x=>.lf (.xt k x)
 |.node,x=>.ag (iG .node x n)
 |.mp _ _,_=>.lf (.mp n)
def TC.isMp:TC->Bool
 |.mp _ _=>true
 |_=>false
theorem rb{u:TC}(hu:u.aggT=true){x:u.den}{y:u.ty.Refs}{n:Nat}{η:Vn}(h:eY η n (cz u y)):(pC u x n).val η=.agg (u.ty.fill x y).toArray:=by
 cases u with
 |arr m s=>rfl
 |unit=>rfl
 |pair a b=>simp only[pC,AV.val];rw[na _ x y n h]
 |st a=>simp only[pC,AV.val];rw[na a x y n h]
 |node=>simp only[pC,AV.val];rw[na .node x y n h]
 |_=>cases hu
theorem eY.set{η:Vn}{n:Nat}{l:List Hd}:eY (η.set n l) n l:=λ_ _ hj=>Vn.set_at hj
section
variable {R:Type} {P:Program} {o:Oper} {E:SE} {F:List AF} {n:Nat} {Θ:Tb} {ex:Option Bool}
def RI(Θ:Tb)(ex:Option Bool)(t:TypeId)(l:Lf)(i:Int)(F:List AF)(k:Out->Option R):Option R:=match Θ t with
 | some ⟨.slice e,_,_,_,_⟩=>match Θ e with
  | some ie=>match l with
   | .sl h=>match jQ ie.tc h F with
    |some s=>bif Nat.beq ie.sz ie.tc.ty.sz then gbind ex ie.tc.dft (ae s.xs i) λ_=>k (bc (.lf (.rp h ie.tc i ie.tc .here)))else none
    |none=>match ld h F with
     |some (h0,sz,lo,hi)=>bif Nat.beq ie.sz ie.tc.ty.sz&&Nat.beq sz ie.sz then gchk ex (decide (0<=i/\i<hi-lo)) (k (bc (.lf (.rp h0 ie.tc (lo+i) ie.tc .here))))else none
     |none=>none
   |_=>none
  |none=>none
 |_=>none
theorem P9(hΘ:Θ.ok P){t:TypeId}{x ix:Operand}{l:Lf}{ki:IntKind}{i:Int}(ho:o.op=.indexAddr t x ix)(h1:ev E x=some (.lf l))(h2:ev E ix=some (fL ki i))(k:Out->Option R) :
  aq ex P o E F n (RI Θ ex t l i F k) k:=by
 unfold RI;split
 ·rename_i e _ _ _ _ ht;split
  ·rename_i ie he;split
   ·rename_i h;split
    ·rename_i s hs;refine aq.bif λhsz=>aq.gbind λv hv=>aq.of λhx=>(dc.pure λη ρ hE=>?_)
     have hl:gH ie.tc F (.sl h)=some s:=hs;refine aX.from (L':=.rep ie.tc.ty s.all s.xs (η.h h)::F.map (AF.ha η)) ?_ (λw c hH=>aj.cons (gE hl hH) hH);have:=apP (o:=o) (ρ:=ρ) (L:=.rep ie.tc.ty s.all s.xs (η.h h)::F.map (AF.ha η)) 0 rfl ho (hΘ t _ ht).2.1 (hΘ e ie he).1 (aH hE h1) (aH hE h2) (hv hx);simp only[AV.val,Lf.val,Pa.off,abj];simp_all
    ·split
     ·rename_i h0 sz lo hi hp;refine aq.bif λhsz=>aq.gchk λhb=>aq.of λhx=>(dc.pure λη ρ hE=>?_)
      simp only[Y5]at hsz;have:=G5 (o:=o) (ρ:=ρ) (L:=F.map (AF.ha η)) (v:=η.h h) (u:=η.h h0) (lo:=lo) (hi:=hi) (λw c hH=>by rw[<-f9 hsz.2];exact hH _ (ZA.2 ⟨_,f5 hp,rfl⟩)) ho (hΘ t _ ht).2.1 (hΘ e ie he).1 (aH hE h1) (aH hE h2) (hb hx);simp only[AV.val,Lf.val,Pa.off,abj];simp_all
     ·exact aq.none
   ·exact aq.none
  ·exact aq.none
 ·exact aq.none
def L3(Θ:Tb)(t:TypeId)(f:Nat)(l:Lf)(k:Out->Option R):Option R:=match Θ t with
 | some ⟨.st fs,_,_,_,_⟩=>match fs[f]? with
  | some (ft,off)=>match Θ ft with
   | some i=>bif Nat.beq i.sz 0 then none else match l with
    |.bp b o=>k (bc (.lf (.bp b (o+off))))
    |.rp h te ix u p=>match u.fld f fs.length with
     |some ⟨v,q⟩=>bif Nat.beq q.off off then k (bc (.lf (.rp h te ix v (p.comp q))))else none
     |none=>none
    |.gp g te ix u p=>match u.fld f fs.length with
     |some ⟨v,q⟩=>bif Nat.beq q.off off then k (bc (.lf (.gp g te ix v (p.comp q))))else none
     |none=>none
    |_=>none
   |none=>none
  |none=>none
 |_=>none
theorem GD{Fd:Array Field}{fs:List (TypeId×Nat)}(hm:Fd.toList.map (λf=>(f.type,f.offset))=fs){f:Nat}{ft:TypeId}{off:Nat}(h:fs[f]?=some (ft,off)):∃fd,Fd[f]?=some fd/\fd.type=ft/\fd.offset=off:=by grind
theorem Xi(hΘ:Θ.ok P){t:TypeId}{x:Operand}{f:Nat}{l:Lf}(ho:o.op=.fieldAddr t x f)(h1:ev E x=some (.lf l))(k:Out->Option R):aq ex P o E F n (L3 Θ t f l k) k:=by
 unfold L3;split
 ·rename_i fs _ _ _ _ ht;split
  ·rename_i ft off hf;split
   ·rename_i i hi;obtain⟨Fd,hs,hm⟩:=(hΘ t _ ht).2.1;obtain⟨fd,hfd,hft,hoff⟩:=GD hm hf;have hti:=(hΘ ft i hi).1;rw[<-hft]at hti;cases hz:Nat.beq i.sz 0
    ·simp only[Zr];split
     ·rename_i b o';refine aq.of λhx=>(dc.pure λη ρ hE=>?_)
      exact wE ho hs hfd hti hz hoff (aH hE h1)
     ·rename_i h te ix u p;split
      ·rename_i v q hq;refine aq.bif λhqo=>aq.of λhx=>(dc.pure λη ρ hE=>?_)
       have he:=aH hE h1;simp only[AV.val,Lf.val]at he|-;obtain⟨b,o',hp⟩:=QK (η.h h) (ix.toNat*te.ty.sz+p.off);rw[hp]at he;rw[Pa.comp_off,f9 hqo,<-ajp,xA _ _ off b o' hp];exact wE ho hs hfd hti hz hoff he
      ·exact aq.none
     ·rename_i g te ix u p;split
      ·rename_i v q hq;refine aq.bif λhqo=>aq.of λhx=>(dc.pure λη ρ hE=>?_)
       have he:=aH hE h1;simp only[AV.val,Lf.val]at he|-;rw[Pa.comp_off,f9 hqo,<-ajp];exact wE ho hs hfd hti hz hoff he
      ·exact aq.none
     ·exact aq.none
    ·exact aq.none
   ·exact aq.none
  ·exact aq.none
 ·exact aq.none
def R9(Θ:Tb)(ex:Option Bool)(t:TypeId)(l:Lf)(i:Int)(k:Out->Option R):Option R:=match Θ t with
 | some ⟨.arr m e,_,_,_,_⟩=>match Θ e with
  | some ie=>bif Nat.beq ie.sz 1 then match l with
   |.rp h te ix (.arr m' s) p=>bif Nat.beq m m' then gchk ex (decide (0<=i/\i<m')) (k (bc (.lf (.rp h te ix (.sc s) (p.comp (.el i))))))else none
   |.bp b o=>match ie.tc with
    |.sc s=>gchk ex (decide (0<=i/\i<m)) (k (bc (.lf (.bq b o m s i))))
    |_=>none
   |_=>none
   else none
  |none=>none
 |_=>none
theorem YD{ρ:cV}{L:List HA}{t e:TypeId}{x ix:Operand}{ki:IntKind}{i:Int}{m:Nat}{b o':Nat}{by_:Nat}{z:Value}(ho:o.op=.indexAddr t x ix)(ht:P.underlying t=some (.array m e))(hi:TI P e 1 by_ z)
  (hx:aJ ρ x=.pointer (some ⟨b,o',none⟩)) (hix:aJ ρ ix=.int ki i) (h0:decide (0<=i/\i<m)=true):aX P ρ o L (.pointer (some ⟨b,o'+i.toNat,none⟩)):=λev w c he hL=>by
 subst he;have htihi:=hi;clear hi;obtain⟨inf,hi,_,hs,_⟩:=htihi.get;have hi0:0<=i/\i<m:=aaq h0;simp[execOp,ho,hx,hix,Instr.indexAt,Instr.sureAddr,asIntOf,run_underlying ht,sizeOf,typeInfo,hi,hs,hi0,eN,Result.andThen]
theorem aar(hΘ:Θ.ok P){t:TypeId}{x ix:Operand}{l:Lf}{ki:IntKind}{i:Int}(ho:o.op=.indexAddr t x ix)(h1:ev E x=some (.lf l))(h2:ev E ix=some (fL ki i))(k:Out->Option R) :
  aq ex P o E F n (R9 Θ ex t l i k) k:=by
 unfold R9;split
 ·rename_i m e _ _ _ _ ht;split
  ·rename_i ie he;refine aq.bif λhsz=>?_
   have hti:=(hΘ e ie he).1;rw[f9 hsz]at hti;split
   ·rename_i h te ixx m' s p;refine aq.bif λhm=>aq.gchk λhb=>aq.of λhx=>(dc.pure λη ρ hE=>?_)
    obtain rfl:=f9 hm;have h3:=aH hE h1;simp only[AV.val,Lf.val]at h3|-;obtain⟨b,o',hp⟩:=QK (η.h h) (ixx.toNat*te.ty.sz+p.off);rw[hp]at h3;rw[Pa.comp_off,<-ajp,xA _ _ _ b o' hp];exact YD ho (hΘ t _ ht).2.1 hti h3 (aH hE h2) (hb hx)
   ·rename_i b o';split
    ·refine aq.gchk λhb=>aq.of λhx=>(dc.pure λη ρ hE=>?_)
     exact YD ho (hΘ t _ ht).2.1 hti (aH hE h1) (aH hE h2) (hb hx)
    ·exact aq.none
   ·exact aq.none
  ·exact aq.none
 ·exact aq.none
def LG(Θ:Tb)(ex:Option Bool)(n:Nat)(t:TypeId)(h:Nat)(te:TC)(i:Int)(u:TC)(p:Pa te u)(F:List AF)(k:Out->Option R):Option R:=match Θ t,jQ te h F with
 |some inf,some s=>bif Nat.beq inf.sz u.ty.sz&&Nat.ble u.nh 64&&(inf.d.agg==u.aggT) && !u.isMp then nchk ex p.needs (gbind ex te.dft (ae s.xs i) λx=>k ⟨pC u (p.get x) n,tB u (p.get x) s.nk n,[]⟩)else none
 |_,_=>none
theorem amx{η:Vn}{te:TC}{h:Nat}{s:SI te}(hs:jQ te h F=some s){i:Int}{v:te.den}(hv:ae s.xs i=some v):El (F.map (AF.ha η)) te.ty s.nk v (η.h h) (i.toNat*te.ty.sz):=λw c hH=>by
 have hm:=hH _ (ZA.2 ⟨_,fB hs,rfl⟩);obtain⟨own,K,xs⟩:=s;cases own with
 |none=>exact MQ (L:=.rep te.ty K xs (η.h h)::F.map (AF.ha η)) 0 rfl rfl hv w c (aj.cons hm hH)
 |some p=>
  have hm':HA.holds w c (dS te.ty p.1 p.2 K xs (η.h h)):=hm;show amJ w c te.ty (SI.nk ⟨some p,K,xs⟩) v _;cases htr:eM p.1
  ·rw[show SI.nk (t:=te) ⟨some p,K,xs⟩=K by simp[SI.nk,htr]];rw[dx htr]at hm';exact ann (L:=.own te.ty p.1 p.2 K xs (η.h h)::F.map (AF.ha η)) 0 rfl rfl hv w c (aj.cons hm' hH)
  ·rw[show SI.nk (t:=te) ⟨some p,K,xs⟩=p.2::K by simp[SI.nk,htr]];rw[gZ htr]at hm';exact MQ (L:=.rep te.ty (p.2::K) xs (η.h h)::F.map (AF.ha η)) 0 rfl rfl hv w c (aj.cons (KM hm') hH)
theorem Xu(hΘ:Θ.ok P){t:TypeId}{x:Operand}{h:Nat}{te:TC}{i:Int}{u:TC}{p:Pa te u}(ho:o.op=.load t x)(h1:ev E x=some (.lf (.rp h te i u p)))(k:Out->Option R) :
  aq ex P o E F n (LG Θ ex n t h te i u p F k) k:=by
 unfold LG;split
 ·rename_i inf s hi hs;refine aq.bif λhc=>aq.nchk λhf=>aq.gbind λv hv=>aq.of λhx η ρ hE=>?_
  simp only[Y5,ajk,abc]at hc;obtain⟨⟨⟨hsz,hnh⟩,hag⟩,hmp⟩:=hc;have hsz:=f9 hsz;have hnh:=Zh hnh;obtain⟨g1,g2,_,_⟩:=hΘ t inf hi;obtain⟨td,ht,hd⟩:=l9 g2;rw[hag]at hd;have hE':=BH p (amx (η:=η) hs (hv hx)) (hf hx);have hp:aJ ρ x=.pointer (some (dR (η.h h) (i.toNat*te.ty.sz+p.off))):=aH hE h1;cases u with
  |sc sk=>exact(aX.op (wg hE' ho ht hd hp)).map (λ_=>⟨η,Vn.agr_refl n η⟩) (λ_=>rfl) (λ_=>rfl)
  |ext m=>exact(aX.op (wg hE' ho ht hd hp)).map (λ_=>⟨η,Vn.agr_refl n η⟩) (λ_=>rfl) (λ_=>rfl)
  |slice t' =>
   refine(yV hE' ho ht hd hp).map (λhh=>⟨η.setH n hh,η.setH_agr n hh⟩) (λhh=>?_) λhh=>?_
   ·simp[pC,AV.val,Lf.val,Vn.setH_at]
   ·simp[tB,AF.ha,Vn.setH_at]
  |arr m sk=>
   refine(eK hE' ho ht hd g1 hsz hp).map (λy=>⟨η.set n (cz _ y),Vn.set_agr (by rw[cU];exact hnh)⟩) (λy=>?_) λy=>?_
   ·rfl
   rfl
  |unit=>
   refine(eK hE' ho ht hd g1 hsz hp).map (λy=>⟨η.set n (cz _ y),Vn.set_agr (by rw[cU];exact hnh)⟩) (λy=>?_) λy=>?_
   ·rfl
   rfl
  |st a=>
   refine(eK hE' ho ht hd g1 hsz hp).map (λy=>⟨η.set n (cz a y),Vn.set_agr (by rw[cU];exact hnh)⟩) (λy=>?_) λy=>?_
   ·exact(rb (u:=.st a) rfl (eY.set (l:=cz a y))).symm
   ·exact(qv a _ y n eY.set).symm
  |pair a b=>
   refine(eK hE' ho ht hd g1 hsz hp).map (λy=>⟨η.set n (cz _ y),Vn.set_agr (by rw[cU];exact hnh)⟩) (λy=>?_) λy=>?_
   ·exact(rb (u:=.pair a b) rfl eY.set).symm
   ·exact(qv (.pair a b) _ y n eY.set).symm
  |node=>
   refine(eK hE' ho ht hd g1 hsz hp).map (λy=>⟨η.set n (cz .node y),Vn.set_agr (by rw[cU];exact hnh)⟩) (λy=>?_) λy=>?_
   ·exact(rb (u:=.node) rfl (eY.set (l:=cz .node y))).symm
   ·exact(qv .node _ y n eY.set).symm
  |mp _ _=>cases hmp
 ·exact aq.none
theorem akk{η:Vn}{K:List Nat}{u:TC}{ls:List Lf}{y:u.den}{l:List Lf}{Kd:List Nat}(hd:bR F u ls=some (y,l,Kd,[]))(hK:∀k∈Kd,k∈K)(hone:tU ls=true)(v:u.den):nZ (F.map (AF.ha η)) K u.ty v 0 (au η ls) y:=by
 intro w c hH r hr;obtain⟨hc,hrep⟩:=dA (η:=η) u hd;simp only[au,Z2]at hc;have hlen:(au η ls).length=u.ty.sz:=by rw[hc];exact u.ty.fill_length _ _
 refine⟨aM u (aT η l),hrep w c K hH hK,by omega,?_,mB hone⟩;rw[adX,abx,aj7,aa6 (by rw[u.ty.fill_length];omega),Z2,hc]
theorem adS{A:HA}{η:Vn}{K:List Nat}{u:TC}{ls:List Lf}{y:u.den}{l:List Lf}{Kd:List Nat}(hd:bR F u ls=some (y,l,Kd,[]))(hK:∀k∈Kd,k∈K)(hone:tU ls=true)(v:u.den):nZ (A::F.map (AF.ha η)) K u.ty v 0 (au η ls) y:=
 λw c hH r hr=>akk hd hK hone v w c (λB hB=>hH B (Zf _ hB)) r hr
def scV(u:TC)(z:u.den):Value:=match u,z with
 |.sc s,z=>s.val z
 |_,_=>undef
theorem AM{L:List HA}{K:List Nat}{new:List Value} : {t u:TC}->(p:Pa t u)->{v:t.den}->{y:u.den}->nZ L K u.ty (p.get v) 0 new y->p.fine ->
  (∀s,u=.sc s->new=[scV u y])->nZ L K t.ty v p.off new (p.put v y)
 |_,_,.here,v,y,h,_,_=>h
 |_,_,.fst p,v,y,h,hf,hs=>alI (AM p h hf hs)
 |_,_,.snd p,v,y,h,hf,hs=>aj4 (AM p h hf hs) rfl
 |_,_,.inn p,v,y,h,hf,hs=>AM p h hf hs
 |_,_,.nd p,v,y,h,hf,hs=>aoX (AM p h hf hs)
 |_,_,@Pa.el n s j,v,y,h,hf,hs=>by have hn:=hs s rfl;subst hn;exact alG (hf _ rfl)
def rX(K Kd:List Nat):List Nat:=bif Kd.all (λk=>K.any λj=>Nat.beq k j)then K else K++Kd
theorem ajX{K Kd:List Nat}:∀k∈K,k∈rX K Kd:=λk hk=>by unfold rX;grind
theorem akD{K Kd:List Nat}:∀k∈Kd,k∈rX K Kd:=λk hk=>by
 unfold rX;cases h:Kd.all (λk=>K.any λj=>Nat.beq k j)
 ·grind
 simp_all
def E6(Θ:Tb)(ex:Option Bool)(t:TypeId)(h:Nat)(te:TC)(i:Int)(u:TC)(p:Pa te u)(v:AV)(F:List AF)(k:Out->Option R):Option R:=match Θ t,jQ te h F,v.lvs with
 |some inf,some ⟨some (e,ci),K,xs⟩,some ls=>match bR F u ls with
  | some (y,_,Kd,[])=>bif Nat.beq inf.sz u.ty.sz&&(rX K Kd).all (λk=>!(Nat.beq k ci)) && !(eM e)then
    nchk ex p.needs (gbind ex te.dft (ae xs i) λx=>k ⟨.lf (.v undef),[.own te e ci (rX K Kd) (xs.set i.toNat (p.put x y)) h],[ci]⟩)else none
  |_=>none
 |_,_,_=>none
theorem QT{s:SC}{ls:List Lf}{y:s.den}{l:List Lf}{K:List Nat}(h:bR F (.sc s) ls=some (y,l,K,[]))(η:Vn):au η ls=[s.val y]:=by have:=(dA (η:=η) (.sc s) h).1;simpa[au,Ty.fill]using this
theorem Rz(hΘ:Θ.ok P){t:TypeId}{x z:Operand}{h:Nat}{te:TC}{i:Int}{u:TC}{p:Pa te u}{v:AV}(ho:o.op=.store t x z)(h1:ev E x=some (.lf (.rp h te i u p)))(h2:ev E z=some v)(k:Out->Option R) :
  aq ex P o E F n (E6 Θ ex t h te i u p v F k) k:=by
 unfold E6;split
 ·rename_i inf e ci K xs ls hi hs hl;split
  ·rename_i y l Kd hd;refine aq.bif λhc=>aq.nchk λhf=>aq.gbind λd hdv=>aq.of λhx η ρ hE=>?_
   simp only[Y5]at hc;obtain⟨⟨hsz,hK⟩,htr⟩:=hc;have htr:=sp htr;have hsz:=f9 hsz;obtain⟨g1,_⟩:=hΘ t inf hi;have hto:∀w c,aj w c (F.map (AF.ha η))->aj w c (.own te.ty e ci (rX K Kd) xs (η.h h)::F.map (AF.ha η)):=λw c hH=>by have hm':HA.holds w c (dS te.ty e ci K xs (η.h h)):=hH _ (ZA.2 ⟨_,fB hs,rfl⟩);rw[dx htr]at hm';obtain⟨ys,q1,q2,q3⟩:=hm';exact aj.cons ⟨ys,q1.mono (bD.keep (λ_ _ hb=>⟨ajX _ hb,rfl⟩) te.ty),q2,q3⟩ hH
   have hset:nZ (.own te.ty e ci (rX K Kd) xs (η.h h)::F.map (AF.ha η)) (rX K Kd) te.ty d p.off (au η ls) (p.put d y):=by refine AM p (adS hd akD (AV.lvs_one hl) _) (hf hx) ?_;intro s hs';subst hs';exact QT hd η
   have hlen:(au η ls).length=u.ty.sz:=by have:=(dA (η:=η) u hd).1;rw[this];simp[au,u.ty.fill_length]
   refine((Kb (L:=.own te.ty e ci (rX K Kd) xs (η.h h)::F.map (AF.ha η)) 0 rfl ho g1 (aH hE h1) rfl rfl (hdv hx) (aH hE h2) (v.lvs_cells hl η) (by grind) hset hK).from hto).map (λ_=>⟨η,Vn.agr_refl n η⟩) (λ_=>rfl) (λ_=>by simp[AF.ha,dx htr])
  ·exact aq.none
 ·exact aq.none
end
end
section
variable [X:XTab] [G:GTab] [Yc:GCx]
section
variable {R:Type} {P:Program} {o:Oper} {E:SE} {F:List AF} {n:Nat} {Θ:Tb} {ex:Option Bool}
def R1(Θ:Tb)(t:TypeId)(v:AV)(F:List AF)(k:Out->Option R):Option R:=match Θ t with
 | some ⟨.slice e,_,_,_,_⟩=>match Θ e,v with
  | some ie,.lf l=>match gH ie.tc F l with
   |some s=>k (bc (fL .i64 s.xs.length))
   | none=>match l with
    |.sl h=>match ld h F with
     |some (_,_,lo,hi)=>k (bc (fL .i64 (hi-lo)))
     |none=>none
    |_=>none
  |_,_=>none
 |some ⟨.str,_,_,_,_⟩=>match v with
  |.lf (.c .str x)=>k (bc (fL .i64 x.length))
  |_=>none
 |_=>none
theorem Yj{ρ:cV}{L:List HA}{t:TypeId}{x:Operand}{s:List UInt8}(ho:o.op=.call { callee:=.builtin .len,args:=#[x],argTypes:=#[t]})(ht:P.underlying t=some .string)(hx:aJ ρ x=.string ⟨s.toArray⟩) :
  aX P ρ o L (.int .i64 s.length):=λev w c he _=>by
 subst he;have hs:(ByteArray.mk s.toArray).size=s.length:=by rfl
 simp[execOp,ho,hx,resolve,invoke,builtin,Builtin.len_,run_underlying ht,goInt,Result.andThen];grind
theorem Q7(hΘ:Θ.ok P){t:TypeId}{x:Operand}{v:AV}(ho:o.op=.call { callee:=.builtin .len,args:=#[x],argTypes:=#[t]})(h1:ev E x=some v)(k:Out->Option R):aq ex P o E F n (R1 Θ t v F k) k:=by
 unfold R1;split
 ·rename_i e _ _ _ _ ht;split
  ·rename_i ie l he;split
   ·rename_i s hs;refine aq.of λhx=>(dc.pure λη ρ hE=>?_)
    refine aX.from (L':=.rep ie.tc.ty s.all s.xs (l.hd η)::F.map (AF.ha η)) ?_ (λw c hH=>aj.cons (gE hs hH) hH);have h2:=aH hE h1;simp only[AV.val]at h2|-;rw[(oe hs η).1]at h2;exact WN 0 rfl ho (hΘ t _ ht).2.1 h2
   ·split
    ·rename_i h _;split
     ·rename_i h0 sz lo hi hp;refine aq.of λhx=>(dc.pure λη ρ hE ev w c hev hH=>?_)
      have hpt:kQ (η.h h) (η.h h0) sz lo hi:=hH _ (ZA.2 ⟨_,f5 hp,rfl⟩);have h3:=Sg (L:=F.map (AF.ha η)) ho (hΘ t _ ht).2.1 (aH hE h1) ev w c hev hH;rw[h3];simp only[AV.val,Lf.val,hpt.2.1]
     ·exact aq.none
    ·exact aq.none
  ·exact aq.none
 ·rename_i _ _ _ _ ht;split
  ·refine aq.of λhx=>(dc.pure λη ρ hE=>?_)
   exact Yj ho (hΘ t _ ht).2.1 (aH hE h1)
  ·exact aq.none
 ·exact aq.none
def aeA(Θ:Tb)(ex:Option Bool)(n N:Nat)(t:TypeId)(v1 v2:AV)(F:List AF)(k:Out->Option R):Option R:=match Θ t with
 | some ⟨.slice e,_,_,_,_⟩=>match Θ e,v1,v2 with
  |some ie,.lf l1,.lf l2=>match fy ie.tc e N F l1,gH ie.tc F l2 with
   | some (ci,K,xs),some s2=>bif Nat.beq ie.sz ie.tc.ty.sz&&Nat.ble 1 ie.sz&&Nat.beq (zsz ie.zl) ie.sz&&Nat.ble 2 ci&&Nat.blt e 1048576&&(bif ie.tc.ty.pureB then true else(K++s2.all).all (λk=>!(Nat.beq k ci)))then
     gchk ex (aP xs.length s2.xs.length ie.by_) (k ⟨.lf (.sl n),[.own ie.tc e ci (bif ie.tc.ty.pureB then K else K++s2.all) (xs++s2.xs) n],[ci]⟩)else none
   |_,_=>none
  |_,_,_=>none
 |_=>none
theorem ajN(hΘ:Θ.ok P){N:Nat}{t:TypeId}{x y:Operand}{v1 v2:AV}(ho:o.op=.call { callee:=.builtin .append,args:=#[x,y],argTypes:=#[t,t]})(h1:ev E x=some v1)(h2:ev E y=some v2)(k:Out->Option R) :
  aq ex P o E F n (aeA Θ ex n N t v1 v2 F k) k:=by
 unfold aeA;split
 ·rename_i e _ _ _ _ ht;split
  ·rename_i ie l1 l2 he;split
   ·rename_i ci K xs s2 hs1 hs2;refine aq.bif λhc=>aq.gchk λhr=>aq.of λhx η ρ hE=>?_
    simp only[Y5]at hc;obtain⟨⟨⟨⟨⟨hsz,h0⟩,hzs⟩,hci⟩,hel⟩,hK⟩:=hc;rw[<-(hΘ e ie he).zsz]at hzs;have e1:=aH hE h1;have e2:=aH hE h2;simp only[AV.val]at e1 e2;rw[nH hs1 η]at e1;rw[(oe hs2 η).1]at e2;have hH':∀w c,aj w c (F.map (AF.ha η))->aj w c (.own ie.tc.ty e ci K xs (l1.hd η)::.rep ie.tc.ty s2.all s2.xs (l2.hd η)::F.map (AF.ha η)):=λw c hH=>
     aj.cons (by have:=eC hs1 hH;rwa [dx (eU hel)]at this) (aj.cons (gE hs2 hH) hH)
    cases hp:ie.tc.ty.pureB
    ·rw[hp,Zr]at hK;have:=(Xa (o:=o) (ρ:=ρ) (L:=.own ie.tc.ty e ci K xs (l1.hd η)::.rep ie.tc.ty s2.all s2.xs (l2.hd η)::F.map (AF.ha η)) 0 1 rfl _ rfl wi ho (hΘ t _ ht).2.1 (hΘ e ie he).1 (f9 hsz) hzs h0 e1 e2 (hr hx) hci hK rfl hel).from hH';refine this.map (λhh=>⟨η.setH n hh,η.setH_agr n hh⟩) (λhh=>?_) λhh=>?_
     ·simp[AV.val,Lf.val,Vn.setH_at]
     ·simp[AF.ha,Vn.setH_at,dx (eU hel)]
    ·have:=(B2 (o:=o) (ρ:=ρ) (L:=.own ie.tc.ty e ci K xs (l1.hd η)::.rep ie.tc.ty s2.all s2.xs (l2.hd η)::F.map (AF.ha η)) hp 0 1 rfl _ rfl wi ho (hΘ t _ ht).2.1 (hΘ e ie he).1 (f9 hsz) hzs h0 e1 e2 (hr hx) hci hel).from hH';refine this.map (λhh=>⟨η.setH n hh,η.setH_agr n hh⟩) (λhh=>?_) λhh=>?_
     ·simp[AV.val,Lf.val,Vn.setH_at]
     ·simp[AF.ha,Vn.setH_at,dx (eU hel)]
   ·exact aq.none
  ·exact aq.none
 ·exact aq.none
theorem nR.append{L:List HA}:∀{l l':List HA},nR L l->nR L l'->nR L (l++l')
 |[],_,_,h=>h
 |_::_,_,⟨h1,h2⟩,h=>⟨h1,h2.append h⟩
theorem yF{L:List HA}{η:Vn}{K':List Nat}:∀(t:TC) {ls:List Lf} {z:t.den} {l:List Lf} {K:List Nat} {r:List Lf},bR [] t ls=some (z,l,K,r)->nR L (facts t.ty K' z (aM t (aT η l)))
 |.sc _,_,_,_,_,_,_=>trivial
 |.arr _ _,_,_,_,_,_,_=>trivial
 |.unit,_,_,_,_,_,_=>trivial
 |.ext _,_,_,_,_,_,_=>trivial
 |.st t,_,_,_,_,_,h=>yF (η:=η) t h
 |.slice t,[],_,_,_,_,h=>by simp[bR]at h
 | .slice t,a::ls,z,l,K,r,h=>by
  simp only[bR]at h;split at h
  ·rename_i s hs;simp only[no,ZC]at h;obtain⟨rfl,rfl,rfl,rfl⟩:=h;cases a with
   |sl m=>simp[gH,jQ]at hs
   |nl=>
    simp only[gH,no]at hs;subst hs;exact⟨.inr ra,trivial⟩
   |_=>simp[gH]at hs
  ·cases h
 | .pair a b,ls,z,l,K,r,h=>by
  simp only[bR]at h;split at h
  ·rename_i x1 l1 K1 r1 h1;split at h
   ·rename_i x2 l2 K2 r2 h2;simp only[no,ZC]at h;obtain⟨rfl,rfl,rfl,rfl⟩:=h;have hn:(aT η l1).length=a.nh:=by simp[aT,ee a h1]
    have e1:aM a (aT η (l1++l2))=aM a (aT η l1):=by grind[aT,dL]
    have e2:aM b ((aT η (l1++l2)).drop a.nh)=aM b (aT η l2):=by grind[aT]
    simp only[facts,aM];rw[e1,e2];exact(yF a h1).append (yF b h2)
   ·cases h
  ·cases h
 | .node,ls,z,l,K,r,h=>by
  obtain⟨k,tx,m,a,s,rfl,hs,rfl,rfl,rfl⟩:=zo (show Fc [] ls=_ from h);cases a with
  |sl m=>simp[gH,jQ]at hs
  |nl=>
   simp only[gH,no]at hs;subst hs;exact⟨.inr ra,trivial⟩
  |_=>simp[gH]at hs
 | .mp k v,ls,z,l,K,r,h=>by
  cases ls with
  |nil=>simp[bR]at h
  | cons a ls=>
   cases a with
   |mp hh=>
    simp only[bR,no,ZC]at h;obtain⟨rfl,rfl,rfl,rfl⟩:=h;exact trivial
   |_=>simp[bR]at h
def DB:Operand->Operand->Bool
 |.tmp a,.tmp b=>Nat.beq a b
 |.const (.int _ a),.const (.int _ b)=>a==b
 |_,_=>false
def Rt(Θ:Tb)(ex:Option Bool)(n N:Nat)(t:TypeId)(x y:Operand)(v1 v2:AV)(k:Out->Option R):Option R:=match Θ t,v1,v2 with
 | some ⟨.slice e,_,_,_,_⟩,.lf (.c (.int _) a),.lf (.c (.int _) _)=>match Θ e with
  |some ie=>match bR [] ie.tc ie.zl with
   |some (z,_,_,[])=>bif Nat.beq ie.sz ie.tc.ty.sz&&Nat.ble 2 N&&DB x y&&Nat.blt e 1048576 then
      gchk ex (decide (0<=a/\a*ie.by_<=281474976710656/\a<=maxLen)) (k ⟨.lf (.sl n),[.own ie.tc e N [] (List.replicate a.toNat z) n],[]⟩)else none
   |_=>none
  |none=>none
 |_,_,_=>none
theorem acO(hΘ:Θ.ok P){N:Nat}{t:TypeId}{x y:Operand}{v1 v2:AV}(ho:o.op=.makeSlice t x y)(h1:ev E x=some v1)(h2:ev E y=some v2)(k:Out->Option R):aq ex P o E F n (Rt Θ ex n N t x y v1 v2 k) k:=by
 unfold Rt;split
 ·rename_i e _ _ _ _ k1 a k2 b ht;split
  ·rename_i ie he;split
   ·rename_i z l Kz hz;refine aq.bif λhc=>aq.gchk λhb=>aq.of λhx η ρ hE=>?_
    simp only[Y5]at hc;obtain⟨⟨⟨hsz,hN⟩,hso⟩,hel⟩:=hc;have e1:=aH hE h1;have e2:=aH hE h2;simp only[AV.val,Lf.val]at e1 e2;have hab:b=a:=by
     unfold DB at hso;split at hso
     ·simp_all
     ·simp only[aJ,Value.int.injEq]at e1 e2;grind
     ·cases hso
    subst hab;obtain⟨g1,_,g3,g4⟩:=hΘ e ie he;have hcell:=(dA (η:=η) ie.tc hz).1;simp only[au,Z2]at hcell;refine(AD (K:=[]) ho (hΘ t _ ht).2.1 g1 (f9 hsz) (v:=z) (r:=aM ie.tc (aT η l)) ?_ (yF ie.tc hz) e1 e2 (hb hx) hN).map (λhh=>⟨η.setH n hh,η.setH_agr n hh⟩) (λhh=>?_) λhh=>?_
    ·grind
    ·simp[AV.val,Lf.val,Vn.setH_at]
    ·simp[AF.ha,Vn.setH_at,dx (eU hel)]
   ·exact aq.none
  ·exact aq.none
 ·exact aq.none
def xO(place:Nat->Option (Nat×Nat))(ls:List Lf):List (Nat×List Lf)->Option (List Lf)
 |[]=>some ls
 | (i,new)::rest=>match place i with
  |none=>none
  |some (off,size)=>match cut off size ls,j6 new size with
   |some (a,_,r),some (_,[])=>xO place (a++new++r) rest
   |_,_=>none
theorem xQ{place:Nat->Option (Nat×Nat)}{η:Vn}:∀{vals:List (Nat×List Lf)} {ls ls':List Lf},xO place ls vals=some ls'->oP place (au η ls) (vals.map λp=>(p.1,au η p.2))=some (au η ls')
 |[],ls,ls',h=>by simp only[xO,no]at h;subst h;rfl
 | (i,new)::rest,ls,ls',h=>by
  simp only[xO]at h;cases hp:place i with
  |none=>grind
  | some os=>
   obtain⟨off,size⟩:=os;rw[hp]at h;simp only at h;split at h
   ·rename_i a m r q hc hs;obtain⟨e,hl⟩:=xj hc;obtain⟨l1,l2⟩:=hl η;obtain⟨e2,l3⟩:=g9 hs;rw[Z2]at e2;subst e2;have l3:=l3 η;have ih:=xQ (η:=η) h;simp only[aas,oP,hp];have hb:(Nat.beq (au η new).length size&&Nat.ble (off+(au η new).length) (au η ls).length)=true:=by
     rw[Y5];refine⟨by simp[l3],aah ?_⟩;rw[e,aY,aY];grind
    rw[hb,Ze];rw[aY,aY]at ih;rw[<-ih];congr 2
    ·grind[au,aY,List.append_assoc,List.take_append,List.take_of_length_le]
    grind[au,aY,List.append_assoc,List.drop_append,List.drop_eq_nil_of_le]
   ·cases h
def uE(E:SE):List (Nat×Operand)->Option (List (Nat×List Lf))
 |[]=>some []
 | (i,x)::r=>match ev E x with
  |some v=>match v.lvs,uE E r with
   |some ls,some l=>some ((i,ls)::l)
   |_,_=>none
  |none=>none
theorem pF{η:Vn}{ρ:cV}(hE:kU η ρ E):∀{ps:List (Nat×Operand)} {l:List (Nat×List Lf)},uE E ps=some l->ps.map (λp=>(p.1,(aJ ρ p.2).cells.toList))=l.map λp=>(p.1,au η p.2)
 |[],l,h=>by simp only[uE,no]at h;subst h;rfl
 | (i,x)::r,l,h=>by
  simp only[uE]at h;split at h
  ·rename_i v hv;split at h
   ·rename_i ls l' hl hr;simp only[no]at h;subst h;simp only[aas,pF hE hr,aH hE hv,v.lvs_cells hl η]
   ·cases h
  ·cases h
def Ya(Θ:Tb):List (TypeId×Nat)->Option (List (Nat×Nat))
 |[]=>some []
 |(t,off)::r=>match Θ t,Ya Θ r with
  |some i,some l=>some ((off,i.sz)::l)
  |_,_=>none
theorem XC(hΘ:Θ.ok P):∀{Fd:List Field} {l:List (Nat×Nat)},Ya Θ (Fd.map λf=>(f.type,f.offset))=some l->Uo P Fd l
 |[],l,h=>by simp only[ad5,Ya,no]at h;subst h;trivial
 |f::r,l,h=>by
  simp only[aas,Ya]at h;split at h
  ·rename_i i l' hi hr;simp only[no]at h;subst h;exact⟨rfl,⟨_,_,(hΘ _ _ hi).1⟩,XC hΘ hr⟩
  ·cases h
def uu{s:SC}(m:Nat):List s.den->List (Nat×List Lf)->Option (List s.den)
 |xs,[]=>some xs
 |xs,(i,[.c s' v])::r=>if h:s'=s then bif Nat.blt i m then uu m (xs.set i (DO h v)) r else none else none
 |_,_=>none
theorem GJ{s:SC}{m:Nat}{η:Vn}:∀{vals:List (Nat×List Lf)} {xs ys:List s.den},uu m xs vals=some ys->xs.length=m->oP (λj=>some (j*1,1)) ((TC.arr m s).ty.fill xs ()) (vals.map λp=>(p.1,au η p.2))=some ((TC.arr m s).ty.fill ys ())
 |[],xs,ys,h,_=>by simp only[uu,no]at h;subst h;rfl
 | (i,ls)::r,xs,ys,h,hl=>by
  cases ls with
  |nil=>simp[uu]at h
  | cons a ls=>
   cases ls with
   |cons _ _=>cases a<;>simp[uu]at h
   | nil=>
    cases a<;>simp only[uu]at h<;>try cases h
    split at h
    ·rename_i he;subst he;rename_i sc v;cases hb:Nat.blt i m
     ·grind
     ·rw[hb]at h;simp only[Ze]at h;have hi:i<m:=Zh hb;have ih:=GJ (η:=η) h (by simpa using hl);simp only[aas,oP,au,Lf.cells,Z2,aal];have hb2:(Nat.beq 1 1&&Nat.ble (i*1+1) ((TC.arr m sc).ty.fill xs ()).length)=true:=by
       rw[Y5];refine⟨rfl,aah ?_⟩;rw[Ty.fill_length];grind
      rw[hb2,Ze,<-ih];congr 1;apply ace;intro j;simp only[Ty.fill,DO,akR,ZD,acs,aes,alo,aal];rw[aep,ab5 (show i<=m by omega)];by_cases c1:j<i
      ·grind
      ·by_cases c2:j=i
       ·grind
       ·simp only[c1,show¬j<i+1 by omega,aaS,aci,show i+1+(j-(i+1))=j by omega];by_cases c3:j<m
        ·grind
        ·simp[c3]
    ·cases h
def OF(Θ:Tb)(E:SE)(t:TypeId)(ps:Array (Nat×Operand))(k:Out->Option R):Option R:=match Θ t,uE E ps.toList with
 | some ⟨.st fs,_,_,zl,_⟩,some vals=>match Ya Θ fs with
  |some pl=>match xO (λj=>pl[j]?) zl vals with
   |some ls=>k (bc (.ag ls))
   |none=>none
  |none=>none
 | some ⟨.arr m e,_,_,[.ar m' s z],_⟩,some vals=>match Θ e with
  |some ie=>match uu m (List.replicate m s.dft) vals with
   |some ys=>bif Nat.beq m m'&&z.isEmpty&&Nat.beq ie.sz 1 then k (bc (.lf (.ar m s ys)))else none
   |none=>none
  |none=>none
 |_,_=>none
theorem WJ(hΘ:Θ.ok P){t:TypeId}{ps:Array (Nat×Operand)}(ho:o.op=.build t ps)(k:Out->Option R):aq ex P o E F n (OF Θ E t ps k) k:=by
 unfold OF;split
 ·rename_i fs _ _ zl _ vals ht hp;split
  ·rename_i pl hpl;split
   ·rename_i ls hls;refine aq.of λhx=>(dc.pure λη ρ hE=>?_)
    obtain⟨g1,⟨Fd,g2,g5⟩,g3,g4⟩:=hΘ t _ ht;subst g5;refine FX ho g2 g1 (XC hΘ hpl) (pF hE hp) ?_;have:=xQ (η:=η) hls;grind
   ·exact aq.none
  ·exact aq.none
 ·rename_i m e _ _ m' s z _ vals ht hp;split
  ·rename_i ie he;split
   ·rename_i ys hys;refine aq.bif λhc=>aq.of λhx=>(dc.pure λη ρ hE=>?_)
    simp only[Y5]at hc;obtain⟨⟨hm,hz⟩,hs1⟩:=hc;obtain rfl:=f9 hm;obtain⟨g1,g2,g3,g4⟩:=hΘ t _ ht;have hti:=(hΘ e ie he).1;rw[f9 hs1]at hti;refine Hg ho g2 g1 hti (pF hE hp) ?_;have:=GJ (η:=η) hys (by simp);rw[g3,<-g4 η];have hz':z=[]:=List.isEmpty_iff.1 hz;subst hz';have e0:au η [Lf.ar m s []]=(TC.arr m s).ty.fill (List.replicate m s.dft) ():=by simp only[au,Lf.cells,Z2,Ty.fill];simp_all
    grind
   ·exact aq.none
  ·exact aq.none
 ·exact aq.none
end
end
section
variable [X:XTab] [G:GTab] [Yc:GCx]
section
variable {R:Type} {P:Program} {o:Oper} {E:SE} {F:List AF} {n:Nat} {Θ:Tb} {ex:Option Bool}
def E9(Θ:Tb)(t:TypeId)(f:Nat)(v:AV)(k:Out->Option R):Option R:=match Θ t,v with
 | some ⟨.st fs,_,_,_,_⟩,.ag ls=>match fs[f]? with
  | some (ft,off)=>match Θ ft with
   | some i=>match cut off i.sz ls with
    |some (_,m,_)=>match Gx i.d.agg m with
     |some u=>k (bc u)
     |none=>none
    |none=>none
   |none=>none
  |none=>none
 |_,_=>none
theorem WL{off sz:Nat}{cs a m r:List Lf}(h:cut off sz cs=some (a,m,r))(η:Vn):((au η cs).drop off).take sz=au η m/\(au η m).length=sz:=by
 obtain⟨e,hl⟩:=xj h;obtain⟨l1,l2⟩:=hl η;refine⟨?_,l2⟩;rw[e,aY,aY,aaf,abe,aa6 (by omega),show off-(au η a).length=0 by omega,adq,abx,acE,aaU (by omega),
  show sz-(au η m).length=0 by omega,adX,Z2]
theorem R3(hΘ:Θ.ok P){t:TypeId}{x:Operand}{f:Nat}{v:AV}(ho:o.op=.field t x f)(h1:ev E x=some v)(k:Out->Option R):aq ex P o E F n (E9 Θ t f v k) k:=by
 unfold E9;split
 ·rename_i fs _ _ _ _ ls ht;split
  ·rename_i ft off hf;split
   ·rename_i i hi;split
    ·rename_i a m r hc;split
     ·rename_i u hu;refine aq.of λhx=>(dc.pure λη ρ hE=>?_)
      obtain⟨Fd,hs,hm⟩:=(hΘ t _ ht).2.1;obtain⟨fd,hfd,hft,hoff⟩:=GD hm hf;obtain⟨g1,g2,_,_⟩:=hΘ ft i hi;obtain⟨td,hut,hd⟩:=l9 g2;rw[<-hft]at g1 hut;obtain⟨hcell,l2⟩:=WL hc η;have he:=aH hE h1;simp only[AV.val]at he;cases hag:i.d.agg
      ·rw[hag]at hu hd;obtain⟨l,rfl,rfl,hl1⟩:=BP hu η;refine ad8 ho hs hfd hut hd he ?_;have h5:au η [l]=[(AV.lf l).val η]:=by simp[au,hl1]
       rw[h5]at hcell l2;have:=aae (·[0]?) hcell;grind
      grind[Bo,ab0]
     ·exact aq.none
    ·exact aq.none
   ·exact aq.none
  ·exact aq.none
 ·exact aq.none
def EE(Θ:Tb)(ex:Option Bool)(t:TypeId)(v:AV)(i:Int)(k:Out->Option R):Option R:=match Θ t,v with
 |some ⟨.str,_,_,_,_⟩,.lf (.c .str s)=>gbind ex 0 (ae s i) λb=>k (bc (fL .u8 (b.toNat:Int)))
 |some ⟨.arr m e,_,_,_,_⟩,.lf (.ar m' s x)=>match Θ e with
  |some ie=>bif Nat.beq ie.sz 1&&Nat.beq m m' && !ie.d.agg then gchk ex (decide (0<=i/\i<m')) (k (bc (.lf (.c s (List.getD (α:=s.den) x i.toNat s.dft)))))else none
  |none=>none
 |_,_=>none
theorem RT(hΘ:Θ.ok P){t:TypeId}{x y:Operand}{ki:IntKind}{i:Int}{v:AV}(ho:o.op=.index t x y)(h1:ev E x=some v)(h2:ev E y=some (fL ki i))(k:Out->Option R):aq ex P o E F n (EE Θ ex t v i k) k:=by
 unfold EE;split
 ·rename_i _ _ _ _ s ht;exact aq.gbind λb hb=>aq.of λhx=>(dc.pure λη ρ hE=>Pf ho (hΘ t _ ht).2.1 (aH hE h1) (aH hE h2) (hb hx))
 ·rename_i m e _ _ _ _ m' s xs ht;split
  ·rename_i ie he;refine aq.bif λhc=>aq.gchk λhb=>aq.of λhx=>(dc.pure λη ρ hE=>?_)
   simp only[Y5,abc]at hc;obtain⟨⟨hs1,hm⟩,hag⟩:=hc;obtain rfl:=f9 hm;obtain⟨g1,g2,_,_⟩:=hΘ e ie he;obtain⟨td,hut,hd⟩:=l9 g2;rw[hag]at hd;rw[f9 hs1]at g1;exact Pd ho (hΘ t _ ht).2.1 hut hd g1 (aH hE h1) (aH hE h2) (hb hx)
  ·exact aq.none
 ·exact aq.none
def CQ(v:AV)(i:Nat)(k:Out->Option R):Option R:=match v with
 |.tu vs=>match vs[i]? with
  |some u=>k (bc u)
  |none=>none
 |_=>none
theorem Km{η:Vn}:∀{vs:List AV} {i:Nat} {u:AV},vs[i]?=some u->(AV.vals η vs)[i]?=some (u.val η)
 |[],_,_,h=>by simp at h
 |v::r,0,u,h=>by simp at h;subst h;simp[AV.vals]
 |v::r,i+1,u,h=>by simp at h;simp[AV.vals,Km h]
theorem OM{x:Operand}{i:Nat}{v:AV}(ho:o.op=.extract x i)(h1:ev E x=some v)(k:Out->Option R):aq ex P o E F n (CQ v i k) k:=by
 unfold CQ;split
 ·rename_i vs;split
  ·rename_i u hu;refine aq.of λhx=>(dc.pure λη ρ hE=>?_)
   have he:=aH hE h1;grind[AV.val,X7,Km]
  ·exact aq.none
 ·exact aq.none
def T7(Θ:Tb)(s d:TypeId)(v:AV)(k:Out->Option R):Option R:=match Θ s,Θ d,v with
 |some ⟨.int _,_,_,_,_⟩,some ⟨.int kd,_,_,_,_⟩,.lf (.c (.int _) a)=>k (bc (fL kd (w_ kd a)))
 |some ⟨.str,_,_,_,_⟩,some ⟨.str,_,_,_,_⟩,.lf (.c .str a)=>k (bc (xR a))
 |_,_,_=>none
theorem ae8(hΘ:Θ.ok P){s d:TypeId}{x:Operand}{v:AV}(ho:o.op=.convert s d x)(h1:ev E x=some v)(k:Out->Option R):aq ex P o E F n (T7 Θ s d v k) k:=by
 unfold T7;split
 ·rename_i ks _ _ _ _ kd _ _ _ _ kk a hs hd;refine aq.of λhx=>(dc.pure λη ρ hE=>?_)
  simp only[AV.val,Lf.val,RF];exact apt ho (hΘ s _ hs).2.1 (hΘ d _ hd).2.1 (aH hE h1)
 ·rename_i _ _ _ _ _ _ _ _ a hs hd;refine aq.of λhx=>(dc.pure λη ρ hE ev w c he _=>?_)
  have hs':=(hΘ s _ hs).2.1;have hd':=(hΘ d _ hd).2.1;have h2:=aH hE h1;subst he;simp only[AV.val,Lf.val]at h2|-;simp[execOp,ho,h2,convert,run_underlying hs',run_underlying hd',Result.andThen]
 ·exact aq.none
def sUn(op:UnOp)(v:AV)(k:Out->Option R):Option R:=match op,v with
 |.not,.lf (.c .bool b)=>k (bc (eD (!b)))
 |.neg,.lf (.c (.int kk) a)=>k (bc (fL kk (w_ kk (0-a))))
 |.xor,.lf (.c (.int kk) a)=>k (bc (fL kk (bJ .xor kk (if kk.signed then -1 else kk.max) a)))
 |_,_=>none
theorem aoB{op:UnOp}{t:TypeId}{x:Operand}{v:AV}(ho:o.op=.unOp op t x)(h1:ev E x=some v)(k:Out->Option R):aq ex P o E F n (sUn op v k) k:=by
 unfold sUn;split
 ·exact aq.of λhx=>(dc.pure λη ρ hE=>apM ho (aH hE h1))
 ·refine aq.of λhx=>(dc.pure λη ρ hE=>?_)
  simp only[AV.val,Lf.val,RF];exact apQ ho (aH hE h1)
 ·refine aq.of λhx=>(dc.pure λη ρ hE ev w c he _=>?_)
  have h:=aH hE h1;simp only[AV.val,Lf.val]at h|-;subst he;simp[execOp,ho,h,Op.unary,Op.intBits,bJ,Result.andThen]
 ·exact aq.none
def La(Θ:Tb)(E:SE)(ex:Option Bool)(n:Nat)(t:TypeId)(l:Lf)(lo hi:Option Operand)(F:List AF)(k:Out->Option R):Option R:=match Θ t with
 | some ⟨.slice e,_,_,_,_⟩=>match Θ e with
  | some ie=>bif Nat.beq ie.sz ie.tc.ty.sz then match lo,hi with
   | none,some h=>match fy ie.tc e 0 F l,ev E h with
    |some (ci,K,xs),some (.lf (.c (.int _) j))=>bif Nat.ble 2 ci&&Nat.blt e 1048576 then gchk ex (decide (0<=j/\j<=xs.length)) (k ⟨.lf (.sl n),[.own ie.tc e ci K (xs.take j.toNat) n],[]⟩)else none
    |none,some (.lf (.c (.int _) j))=>match gH ie.tc F l with
     |some s=>gchk ex (decide (0<=(0:Int)/\0<=j/\j<=s.xs.length)) (k ⟨.lf (.sl n),[.rep ie.tc s.all ((s.xs.take j.toNat).drop (0:Int).toNat) n],[]⟩)
     |none=>none
    |_,_=>none
   |some h0,none=>match gH ie.tc F l,ev E h0 with
    |some s,some (.lf (.c (.int _) i))=>gchk ex (decide (0<=i/\i<=(s.xs.length:Int)/\(s.xs.length:Int)<=s.xs.length)) (k ⟨.lf (.sl n),[.rep ie.tc s.all ((s.xs.take (s.xs.length:Int).toNat).drop i.toNat) n],[]⟩)
    |_,_=>none
   |some h0,some h=>match gH ie.tc F l,ev E h0,ev E h with
    |some s,some (.lf (.c (.int _) i)),some (.lf (.c (.int _) j))=>gchk ex (decide (0<=i/\i<=j/\j<=s.xs.length)) (k ⟨.lf (.sl n),[.rep ie.tc s.all ((s.xs.take j.toNat).drop i.toNat) n],[]⟩)
    |_,_,_=>none
   |none,none=>none
   else none
  |none=>none
 |_=>none
theorem WX(hΘ:Θ.ok P){t:TypeId}{x:Operand}{l:Lf}{lo hi:Option Operand}(ho:o.op=.slice t x lo hi none)(h1:ev E x=some (.lf l))(k:Out->Option R):aq ex P o E F n (La Θ E ex n t l lo hi F k) k:=by
 have key:∀{e:TypeId} {ie:TInf} {s:SI ie.tc} {i j:Int} {klo khi:IntKind},P.underlying t=some (.slice e)->Θ e=some ie->Nat.beq ie.sz ie.tc.ty.sz=true->gH ie.tc F l=some s ->
   (∀η ρ,kU η ρ E->lo.elim (i=0) (λq=>aJ ρ q=.int klo i))->(∀η ρ,kU η ρ E->hi.elim (j=s.xs.length) (λq=>aJ ρ q=.int khi j))->decide (0<=i/\i<=j/\j<=s.xs.length)=true ->
   Od P o E F n ⟨.lf (.sl n),[.rep ie.tc s.all ((s.xs.take j.toNat).drop i.toNat) n],[]⟩:=by
  intro e ie s i j klo khi ht he hsz hs hlo hhi hb η ρ hE;have h2:=aH hE h1;simp only[AV.val]at h2;rw[(oe hs η).1]at h2;have:=(yK (o:=o) (ρ:=ρ) (L:=.rep ie.tc.ty s.all s.xs (l.hd η)::F.map (AF.ha η)) (klo:=klo) (khi:=khi) 0 rfl ho ht (hΘ e ie he).1 (f9 hsz) h2 (hlo η ρ hE) (hhi η ρ hE) hb).from (λw c hH=>aj.cons (gE hs hH) hH);refine this.map (λ_=>⟨η.setH n ((l.hd η).cut i.toNat j.toNat ie.sz),η.setH_agr n _⟩) (λ_=>?_) λ_=>?_
  ·simp[AV.val,Lf.val,Vn.setH_at]
  ·simp[AF.ha,Vn.setH_at]
 unfold La;split
 ·rename_i e _ _ _ _ ht;have ht':P.underlying t=some (.slice e):=(hΘ t _ ht).2.1;split
  ·rename_i ie he;refine aq.bif λhsz=>?_
   split
   ·rename_i hlo h;split
    ·rename_i ci K xs kk j hs hj;refine aq.bif λhce=>aq.gchk λhb=>aq.of λhx η ρ hE=>?_
     have hel:Nat.blt e 1048576=true:=by grind
     have h2:=aH hE h1;simp only[AV.val]at h2;rw[nH hs η]at h2;have:=(Ky (o:=o) (ρ:=ρ) (L:=.own ie.tc.ty e ci K xs (l.hd η)::F.map (AF.ha η)) 0 rfl ho ht' (hΘ e ie he).1 (f9 hsz) h2 (aH hE hj) (hb hx)).from (λw c hH=>aj.cons (by have:=eC hs hH;rwa [dx (eU hel)]at this) hH);refine this.map (λ_=>⟨η.setH n ((l.hd η).cut 0 j.toNat ie.sz),η.setH_agr n _⟩) (λ_=>?_) λ_=>?_
     ·simp[AV.val,Lf.val,Vn.setH_at]
     ·simp[AF.ha,Vn.setH_at,dx (eU hel)]
    ·rename_i kk j _ hj;split
     ·rename_i s hs;exact aq.gchk λhb=>aq.of λhx=>key (klo:=.i64) ht' he hsz hs (λ_ _ _=>rfl) (λη ρ hE=>aH hE hj) (hb hx)
     ·exact aq.none
    ·exact aq.none
   ·rename_i h0;split
    ·rename_i s kk i hs hi0;exact aq.gchk λhb=>aq.of λhx=>key (khi:=.i64) ht' he hsz hs (λη ρ hE=>aH hE hi0) (λ_ _ _=>rfl) (hb hx)
    ·exact aq.none
   ·rename_i h0 h;split
    ·rename_i s k1 i k2 j hs hi0 hj;exact aq.gchk λhb=>aq.of λhx=>key ht' he hsz hs (λη ρ hE=>aH hE hi0) (λη ρ hE=>aH hE hj) (hb hx)
    ·exact aq.none
   ·exact aq.none
  ·exact aq.none
 ·exact aq.none
def EN(F:List AF)(t:TC):Nat->List Lf->Option (List t.den×List (List Lf)×List Nat)
 |0,[]=>some ([],[],[])
 |0,_::_=>none
 | m+1,ls=>match bR F t ls with
  |some (x,l,K,r)=>match EN F t m r with
   |some (xs,ll,K2)=>some (x::xs,l::ll,K++K2)
   |none=>none
  |none=>none
theorem P7{t:TC}{η:Vn}:∀{m:Nat} {ls:List Lf} {xs:List t.den} {ll:List (List Lf)} {K:List Nat},EN F t m ls=some (xs,ll,K) ->
  xs.length=m/\ll.length=m/\au η ls=cellsOf t.ty xs (ll.map λl=>aM t (aT η l)) /\
  ∀(w:World) (c:aS) (K':List Nat),aj w c (F.map (AF.ha η))->(∀k∈K,k∈K')->bX (bD w (λb=>c b∈K') t.ty) xs (ll.map λl=>aM t (aT η l))
 |0,[],xs,ll,K,h=>by simp only[EN,no,ZC]at h;obtain⟨rfl,rfl,rfl⟩:=h;exact⟨rfl,rfl,rfl,λ_ _ _ _ _=>trivial⟩
 |0,_::_,xs,ll,K,h=>by simp[EN]at h
 | m+1,ls,xs,ll,K,h=>by
  simp only[EN]at h;split at h
  ·rename_i x l K1 r h1;split at h
   ·rename_i xs' ll' K2 h2;simp only[no,ZC]at h;obtain⟨rfl,rfl,rfl⟩:=h;obtain⟨c1,f1⟩:=dA (η:=η) t h1;obtain⟨e1,e2,c2,f2⟩:=P7 (η:=η) h2;refine⟨by simp[e1],by simp[e2],?_,λw c K' hF hK=>⟨?_,?_⟩⟩
    ·simp only[aas,cellsOf];rw[c1,c2]
    ·simp_all
    simp_all
   ·cases h
  ·cases h
def ER(ls:List Lf):Nat->List Lf
 |0=>[]
 |m+1=>ls++ER ls m
def EW(Θ:Tb)(E:SE)(n N:Nat)(t:TypeId)(m:Nat)(ps:Array (Nat×Operand))(F:List AF)(k:Out->Option R):Option R:=match Θ t with
 | some ⟨.slice e,_,_,_,_⟩=>match Θ e,uE E ps.toList with
  | some ie,some vals=>match m with
   |0=>bif vals.isEmpty&&Nat.ble 2 N&&Nat.blt e 1048576 then k ⟨.lf (.sl n),[.own ie.tc e N [] [] n],[]⟩else none
   | m+1=>match xO (λi=>some (i*ie.sz,ie.sz)) (ER ie.zl (m+1)) vals with
    |some ls=>match EN F ie.tc (m+1) ls,j6 ie.zl ie.sz with
     |some (xs,_,K),some (_,[])=>bif Nat.beq ie.sz ie.tc.ty.sz&&Nat.ble 2 N&&Nat.ble ((m+1)*ie.sz) 16777216&&Nat.ble 1 ie.sz&&Nat.blt e 1048576 then k ⟨.lf (.sl n),[.own ie.tc e N K xs n],[]⟩else none
     |_,_=>none
    |none=>none
  |_,_=>none
 |_=>none
theorem xP{η:Vn}{ls:List Lf}:∀m:Nat,au η (ER ls m)=(List.range (m*(au η ls).length)).map (λj=>(au η ls).getD (j%(au η ls).length) default)
 |0=>by simp[ER,au]
 | m+1=>by
  have ih:=xP (η:=η) (ls:=ls) m;simp only[ER,aY,ih];rw[show(m+1)*(au η ls).length=(au η ls).length+m*(au η ls).length by grind,List.range_add,abz];congr 1
  ·apply ace;intro j;by_cases hj:j<(au η ls).length
   ·simp[hj,Nat.mod_eq_of_lt hj]
   ·simp[hj]
  simp_all
theorem V3(hΘ:Θ.ok P){N:Nat}{t:TypeId}{m:Nat}{ps:Array (Nat×Operand)}(ho:o.op=.buildSlice t m ps)(k:Out->Option R):aq ex P o E F n (EW Θ E n N t m ps F k) k:=by
 unfold EW;split
 ·rename_i e _ _ _ _ ht;have ht':P.underlying t=some (.slice e):=(hΘ t _ ht).2.1;split
  ·rename_i ie vals he hp;split
   ·refine aq.bif λhc=>aq.of λhx η ρ hE=>?_;simp only[Y5]at hc;have hv:vals=[]:=List.isEmpty_iff.1 hc.1.1;have hps:ps = #[]:=by
     have:=pF (η:=η) hE hp;simp_all
    refine(FT (K:=[]) (ty:=ie.tc.ty) ho ht' (hΘ e ie he).1 hps hc.1.2).map (λhh=>⟨η.setH n hh,η.setH_agr n hh⟩) (λhh=>?_) λhh=>?_
    ·simp[AV.val,Lf.val,Vn.setH_at]
    ·simp[AF.ha,Vn.setH_at,dx (eU hc.2)]
   ·rename_i m;split
    ·rename_i ls hls;split
     ·rename_i xs ll K q hd hcut;refine aq.bif λhc=>aq.of λhx η ρ hE=>?_
      simp only[Y5]at hc;obtain⟨⟨⟨⟨hsz,hN⟩,hsm⟩,h1⟩,hel⟩:=hc;obtain⟨g1,_,g3,g4⟩:=hΘ e ie he;obtain⟨e2,l3⟩:=g9 hcut;rw[Z2]at e2;subst e2;have l3:=l3 η;obtain⟨d1,d2,d3,d4⟩:=P7 (η:=η) hd;have hpos:=Zh h1;have hH':∀w c,aj w c (F.map (AF.ha η))->aj w c (uQ ie.tc.ty K xs (ll.map λl=>aM ie.tc (aT η l))++F.map (AF.ha η)):=by
       intro w c hH;refine aj.append ?_ hH;have hr:=d4 w c K hH (λ_ hk=>hk);clear d1 d2 d3 d4 hd hls;revert hr;generalize(ll.map λl=>aM ie.tc (aT η l))=ys;intro hr;induction xs generalizing ys with
       |nil=>cases ys<;>exact aj.nil _ _
       |cons x xs ih=>
        cases ys with
        |nil=>exact aj.nil _ _
        |cons y ys=>exact(pd ie.tc.ty x y hr.1).append (ih ys hr.2)
      have hpaid:nR (uQ ie.tc.ty K xs (ll.map λl=>aM ie.tc (aT η l))++F.map (AF.ha η)) (uQ ie.tc.ty K xs (ll.map λl=>aM ie.tc (aT η l))):=by
       have gen:∀(A B:List HA),(∀a∈A,a∈B)->nR B A:=by
        intro A B;induction A with
        |nil=>intro _;trivial
        |cons a A ih=>
         intro h;obtain⟨j,hj⟩:=akF.1 (h a ZO);exact⟨.inl ⟨j,a,hj,wi⟩,ih λb hb=>h b (Zf _ hb)⟩
       grind
      have hfill:=xQ (η:=η) hls;rw[xP,l3]at hfill;have hzc:ie.zv.cells.toList=au η ie.zl:=by grind
      refine((y7 (cells:=au η ls) (ty:=ie.tc.ty) (K:=K) (xs:=xs) (ys:=ll.map λl=>aM ie.tc (aT η l)) ho ht' g1 (f9 hsz) hsm ?_ (pF hE hp) ?_ (by simp[d1]) (by simp[d2]) d3.symm hpaid hN).from hH').map (λhh=>⟨η.setH n hh,η.setH_agr n hh⟩) (λhh=>?_) λhh=>?_
      ·refine aah ?_;grind
      ·grind
      ·simp[AV.val,Lf.val,Vn.setH_at]
      ·simp[AF.ha,Vn.setH_at,dx (eU hel)]
     ·exact aq.none
    ·exact aq.none
  ·exact aq.none
 ·exact aq.none
end
end
end Go.Sm
