/- Laws for the row. No condition. -/
import Derived.Test.YtfhhiajfciblbaaGreatDoorRfD
namespace Go.Sm
set_option linter.unusedSectionVars false
variable {t:TypeId} {x ix y:Operand} {i:Int} {K Kd:List Nat} {ki:IntKind} {P:Program} {o:Oper} {n h N:Nat}
section
variable [X:XTab] [G:GTab]
theorem di.from{ρ:dr}{L L':List HA}{κ:List Nat}{Y:Type}{val:Y->Value}{Φ:Y->List HA}(h:di P ρ o L' κ val Φ)(hL:∀w c,aq w c L->aq w c L'):di P ρ o L κ val Φ:=
 λa ev w c next Q ha hH hk=>h a ev w c next Q ha (hL w c hH) hk
theorem bh.from{ρ:dr}{L L':List HA}{v:Value}(h:bh P ρ o L' v)(hL:∀w c,aq w c L->aq w c L'):bh P ρ o L v:=
 λev w c he hH=>h ev w c he (hL w c hH)
def Pa.comp : {t u v:TC}->Pa t u->Pa u v->Pa t v
 |_,_,_,.here,q=>q
 |_,_,_,.fst p,q=>.fst (p.comp q)
 |_,_,_,.snd p,q=>.snd (p.comp q)
 |_,_,_,.inn p,q=>.inn (p.comp q)
 |_,_,_,.nd p,q=>.nd (p.comp q)
 |_,_,_,.el j,.here=>.el j
theorem Pa.comp_off : {t u v:TC}->(p:Pa t u)->(q:Pa u v)->(p.comp q).off=p.off+q.off
 |_,_,_,.here,q=>by simp[Pa.comp,Pa.off]
 |_,_,_,.fst p,q=>by simp[Pa.comp,Pa.off,p.comp_off q]
 |_,_,_,.snd p,q=>by simp[Pa.comp,Pa.off,p.comp_off q];omega
 |_,_,_,.inn p,q=>by simp[Pa.comp,Pa.off,p.comp_off q]
 |_,_,_,.nd p,q=>by simp[Pa.comp,Pa.off,p.comp_off q]
 |_,_,_,.el j,.here=>by rfl
def Pa.get : {t u:TC}->Pa t u->t.den->u.den
 |_,_,.here,x=>x
 |_,_,.fst p,x=>p.get x.1
 |_,_,.snd p,x=>p.get x.2
 |_,_,.inn p,x=>p.get x
 |_,_,.nd p,x=>p.get (Nd.tup x)
 |_,_,@Pa.el _ s j,x=>List.getD (α:=s.den) x j.toNat s.dft
def Pa.put : {t u:TC}->Pa t u->t.den->u.den->t.den
 |_,_,.here,_,y=>y
 |_,_,.fst p,x,y=>(p.put x.1 y,x.2)
 |_,_,.snd p,x,y=>(x.1,p.put x.2 y)
 |_,_,.inn p,x,y=>p.put x y
 |_,_,.nd p,x,y=>Nd.of (p.put (Nd.tup x) y)
 |_,_,@Pa.el n s j,x,y=>cz (α:=s.den) n s.dft x j.toNat y
def Pa.needs : {t u:TC}->Pa t u->Option Bool
 |_,_,.here=>none
 |_,_,.fst p=>p.needs
 |_,_,.snd p=>p.needs
 |_,_,.inn p=>p.needs
 |_,_,.nd p=>p.needs
 |_,_,@Pa.el n _ j=>some (decide (0<=j/\j<n))
def Pa.fine{t u:TC}(p:Pa t u):Prop:=∀b,p.needs=some b->b=true
def nchk{R:Type}(ex:Option Bool)(b:Option Bool)(m:Option R):Option R:=match b with
 |none=>m
 |some b=>gchk ex b m
theorem au.nchk{R:Type}{E:SE}{F:List AF}{k:Out->Option R}{ex:Option Bool}{b:Option Bool}{m:Option R}(h:(ge ex->∀c,b=some c->c=true)->au ex P o E F n m k):au ex P o E F n (nchk ex b m) k:=by
 cases b with
 |none=>exact h λ_ _ h=>by cases h
 |some c=>exact au.gchk λhc=>h λhx d hd=>by grind
theorem BX{L:List HA}{K:List Nat}{h:Hd} : {t u:TC}->(p:Pa t u)->{v:t.den}->{x:Nat}->El L t.ty K v h x->p.fine->El L u.ty K (p.get v) h (x+p.off)
 |_,_,.here,v,x,hE,_=>by simpa[Pa.off,Pa.get]using hE
 |_,_,.fst (a:=a) (b:=b) p,v,x,hE,hf=>by have h1:=Na (t:=.pair a.ty b.ty) (.fst .here) hE rfl rfl;exact BX p h1 hf
 |_,_,.snd (a:=a) (b:=b) p,v,x,hE,hf=>by have h1:=Na (t:=.pair a.ty b.ty) (.snd .here) hE rfl rfl;have:=BX p h1 hf;simp only[Pth.off,acU,Pa.off]at this|-;rw[<-agO];exact this
 |_,_,.inn p,v,x,hE,hf=>BX p hE hf
 |_,_,.nd p,v,x,hE,hf=>by have h1:=Na (t:=.node) (.nd .here) hE rfl rfl;exact BX p h1 hf
 |_,_,.el j,v,x,hE,hf=>apt hE (hf _ rfl)
theorem QO(h:Hd)(x:Nat):∃b o,ep h x=⟨b,o,none⟩:=by unfold ep;split<;>exact⟨_,_,rfl⟩
def TC.fld:(u:TC)->(m n:Nat)->Option ((v:TC)×Pa u v)
 |.st a,0,1=>some ⟨a,.inn .here⟩
 |.node,0,4=>some ⟨.sc (.int .i64),.nd (.fst .here)⟩
 |.node,1,4=>some ⟨.sc .str,.nd (.snd (.fst .here))⟩
 |.node,2,4=>some ⟨.sc (.int .i64),.nd (.snd (.snd (.fst .here)))⟩
 |.node,3,4=>some ⟨.slice .node,.nd (.snd (.snd (.snd .here)))⟩
 |.pair a _,0,_+2=>some ⟨a,.fst .here⟩
 |.pair _ b,1,2=>some ⟨b,.snd .here⟩
 |.pair _ b,m+1,n+3=>match b.fld m (n+2)with
  |some ⟨v,p⟩=>some ⟨v,.snd p⟩
  |none=>none
 |_,_,_=>none
def TC.aggT:TC->Bool
 |.arr _ _=>true
 |.unit=>true
 |.pair _ _=>true
 |.st _=>true
 |.node=>true
 |_=>false
def rc(u:TC)(x:u.den)(n:Nat):AV:=match u,x with
 |.sc s,x=>.lf (.c s x)
 |.arr m s,x=>.lf (.ar m s x)
 |.unit,_=>.ag []
 |.pair a b,x=>.ag (jT (.pair a b) x n)
 |.st a,x=>.ag (jT a x n)
 |.slice _,_=>.lf (.sl n)
 |.ext k,x=>.lf (.xt k x)
 |.node,x=>.ag (jT .node x n)
 |.mp _ _,_=>.lf (.mp n)
def TC.isMp:TC->Bool
 |.mp _ _=>true
 |_=>false
theorem sY{u:TC}(hu:u.aggT=true){x:u.den}{y:u.ty.Refs}{η:Vn}(h:fy η n (cP u y)):(rc u x n).val η=.agg (u.ty.fill x y).toArray:=by
 cases u with
 |arr m s=>rfl
 |unit=>rfl
 |pair a b=>simp only[rc,AV.val];rw[pB _ x y n h]
 |st a=>simp only[rc,AV.val];rw[pB a x y n h]
 |node=>simp only[rc,AV.val];rw[pB .node x y n h]
 |_=>cases hu
theorem fy.set{η:Vn}{l:List Hd}:fy (η.set n l) n l:=λ_ _ hj=>Vn.set_at hj
section
variable {R:Type} {P:Program} {o:Oper} {E:SE} {F:List AF} {n:Nat} {Θ:Tb} {ex:Option Bool}
def Tx(Θ:Tb)(ex:Option Bool)(t:TypeId)(l:Lf)(i:Int)(F:List AF)(k:Out->Option R):Option R:=match Θ t with
 | some ⟨.slice e,_,_,_,_⟩=>match Θ e with
  | some ie=>match l with
   | .sl h=>match mG ie.tc h F with
    |some s=>bif Nat.beq ie.sz ie.tc.ty.sz then gbind ex ie.tc.dft (ac s.xs i) λ_=>k (bk (.lf (.rp h ie.tc i ie.tc .here)))else none
    |none=>match nU h F with
     |some (h0,sz,lo,hi)=>bif Nat.beq ie.sz ie.tc.ty.sz&&Nat.beq sz ie.sz then gchk ex (decide (0<=i/\i<hi-lo)) (k (bk (.lf (.rp h0 ie.tc (lo+i) ie.tc .here))))else none
     |none=>none
   |_=>none
  |none=>none
 |_=>none
theorem Rn(hΘ:Θ.ok P){l:Lf}(ho:o.op=.indexAddr t x ix)(h1:ev E x=some (.lf l))(h2:ev E ix=some (f8 ki i))(k:Out->Option R) :
  au ex P o E F n (Tx Θ ex t l i F k) k:=by
 unfold Tx;split
 ·rename_i e _ _ _ _ ht;split
  ·rename_i ie he;split
   ·rename_i h;split
    ·rename_i s hs;refine au.bif λhsz=>au.gbind λv hv=>au.of λhx=>(dB.pure λη ρ hE=>?_)
     have hl:iI ie.tc F (.sl h)=some s:=hs;refine bh.from (L':=.rep ie.tc.ty s.all s.xs (η.h h)::F.map (AF.ha η)) ?_ (λw c hH=>aq.cons (jk hl hH) hH);have:=arE (o:=o) (ρ:=ρ) (L:=.rep ie.tc.ty s.all s.xs (η.h h)::F.map (AF.ha η)) 0 rfl ho (hΘ t _ ht).2.1 (hΘ e ie he).1 (aN hE h1) (aN hE h2) (hv hx);simp only[AV.val,Lf.val,Pa.off,acU];simp_all
    ·split
     ·rename_i h0 sz lo hi hp;refine au.bif λhsz=>au.gchk λhb=>au.of λhx=>(dB.pure λη ρ hE=>?_)
      simp only[aas]at hsz;have:=Hm (o:=o) (ρ:=ρ) (L:=F.map (AF.ha η)) (v:=η.h h) (u:=η.h h0) (lo:=lo) (hi:=hi) (λw c hH=>by rw[<-amb hsz.2];exact hH _ (aaG.2 ⟨_,iw hp,rfl⟩)) ho (hΘ t _ ht).2.1 (hΘ e ie he).1 (aN hE h1) (aN hE h2) (hb hx);simp only[AV.val,Lf.val,Pa.off,acU];simp_all
     ·exact au.none
   ·exact au.none
  ·exact au.none
 ·exact au.none
def Mf(Θ:Tb)(t:TypeId)(f:Nat)(l:Lf)(k:Out->Option R):Option R:=match Θ t with
 | some ⟨.st fs,_,_,_,_⟩=>match fs[f]? with
  | some (ft,off)=>match Θ ft with
   | some i=>bif Nat.beq i.sz 0 then none else match l with
    |.bp b o=>k (bk (.lf (.bp b (o+off))))
    |.rp h te ix u p=>match u.fld f fs.length with
     |some ⟨v,q⟩=>bif Nat.beq q.off off then k (bk (.lf (.rp h te ix v (p.comp q))))else none
     |none=>none
    |.gp g te ix u p=>match u.fld f fs.length with
     |some ⟨v,q⟩=>bif Nat.beq q.off off then k (bk (.lf (.gp g te ix v (p.comp q))))else none
     |none=>none
    |_=>none
   |none=>none
  |none=>none
 |_=>none
theorem HR{Fd:Array Field}{fs:List (TypeId×Nat)}(hm:Fd.toList.map (λf=>(f.type,f.offset))=fs){f:Nat}{ft:TypeId}{off:Nat}(h:fs[f]?=some (ft,off)):∃fd,Fd[f]?=some fd/\fd.type=ft/\fd.offset=off:=by grind
theorem Yb(hΘ:Θ.ok P){f:Nat}{l:Lf}(ho:o.op=.fieldAddr t x f)(h1:ev E x=some (.lf l))(k:Out->Option R):au ex P o E F n (Mf Θ t f l k) k:=by
 unfold Mf;split
 ·rename_i fs _ _ _ _ ht;split
  ·rename_i ft off hf;split
   ·rename_i i hi;obtain⟨Fd,hs,hm⟩:=(hΘ t _ ht).2.1;obtain⟨fd,hfd,hft,hoff⟩:=HR hm hf;have hti:=(hΘ ft i hi).1;rw[<-hft]at hti;cases hz:Nat.beq i.sz 0
    ·simp only[aax];split
     ·rename_i b o';refine au.of λhx=>(dB.pure λη ρ hE=>?_)
      exact xe ho hs hfd hti hz hoff (aN hE h1)
     ·rename_i h te ix u p;split
      ·rename_i v q hq;refine au.bif λhqo=>au.of λhx=>(dB.pure λη ρ hE=>?_)
       have he:=aN hE h1;simp only[AV.val,Lf.val]at he|-;obtain⟨b,o',hp⟩:=QO (η.h h) (ix.toNat*te.ty.sz+p.off);rw[hp]at he;rw[Pa.comp_off,amb hqo,<-agO,xT _ _ off b o' hp];exact xe ho hs hfd hti hz hoff he
      ·exact au.none
     ·rename_i g te ix u p;split
      ·rename_i v q hq;refine au.bif λhqo=>au.of λhx=>(dB.pure λη ρ hE=>?_)
       have he:=aN hE h1;simp only[AV.val,Lf.val]at he|-;rw[Pa.comp_off,amb hqo,<-agO];exact xe ho hs hfd hti hz hoff he
      ·exact au.none
     ·exact au.none
    ·exact au.none
   ·exact au.none
  ·exact au.none
 ·exact au.none
def Vg(Θ:Tb)(ex:Option Bool)(t:TypeId)(l:Lf)(i:Int)(k:Out->Option R):Option R:=match Θ t with
 | some ⟨.arr m e,_,_,_,_⟩=>match Θ e with
  | some ie=>bif Nat.beq ie.sz 1 then match l with
   |.rp h te ix (.arr m' s) p=>bif Nat.beq m m' then gchk ex (decide (0<=i/\i<m')) (k (bk (.lf (.rp h te ix (.sc s) (p.comp (.el i))))))else none
   |.bp b o=>match ie.tc with
    |.sc s=>gchk ex (decide (0<=i/\i<m)) (k (bk (.lf (.bq b o m s i))))
    |_=>none
   |_=>none
   else none
  |none=>none
 |_=>none
theorem Zs{ρ:dr}{L:List HA}{e:TypeId}{m:Nat}{b o':Nat}{by_:Nat}{z:Value}(ho:o.op=.indexAddr t x ix)(ht:P.underlying t=some (.array m e))(hi:TI P e 1 by_ z)
  (hx:aS ρ x=.pointer (some ⟨b,o',none⟩)) (hix:aS ρ ix=.int ki i) (h0:decide (0<=i/\i<m)=true):bh P ρ o L (.pointer (some ⟨b,o'+i.toNat,none⟩)):=λev w c he hL=>by
 subst he;have htihi:=hi;clear hi;obtain⟨inf,hi,_,hs,_⟩:=htihi.get;have hi0:0<=i/\i<m:=abh h0;simp[execOp,ho,hx,hix,Instr.indexAt,Instr.sureAddr,asIntOf,run_underlying ht,sizeOf,typeInfo,hi,hs,hi0,fg,Result.andThen]
theorem acz(hΘ:Θ.ok P){l:Lf}(ho:o.op=.indexAddr t x ix)(h1:ev E x=some (.lf l))(h2:ev E ix=some (f8 ki i))(k:Out->Option R) :
  au ex P o E F n (Vg Θ ex t l i k) k:=by
 unfold Vg;split
 ·rename_i m e _ _ _ _ ht;split
  ·rename_i ie he;refine au.bif λhsz=>?_
   have hti:=(hΘ e ie he).1;rw[amb hsz]at hti;split
   ·rename_i h te ixx m' s p;refine au.bif λhm=>au.gchk λhb=>au.of λhx=>(dB.pure λη ρ hE=>?_)
    obtain rfl:=amb hm;have h3:=aN hE h1;simp only[AV.val,Lf.val]at h3|-;obtain⟨b,o',hp⟩:=QO (η.h h) (ixx.toNat*te.ty.sz+p.off);rw[hp]at h3;rw[Pa.comp_off,<-agO,xT _ _ _ b o' hp];exact Zs ho (hΘ t _ ht).2.1 hti h3 (aN hE h2) (hb hx)
   ·rename_i b o';split
    ·refine au.gchk λhb=>au.of λhx=>(dB.pure λη ρ hE=>?_)
     exact Zs ho (hΘ t _ ht).2.1 hti (aN hE h1) (aN hE h2) (hb hx)
    ·exact au.none
   ·exact au.none
  ·exact au.none
 ·exact au.none
def O9(Θ:Tb)(ex:Option Bool)(n:Nat)(t:TypeId)(h:Nat)(te:TC)(i:Int)(u:TC)(p:Pa te u)(F:List AF)(k:Out->Option R):Option R:=match Θ t,mG te h F with
 |some inf,some s=>bif Nat.beq inf.sz u.ty.sz&&Nat.ble u.nh 64&&(inf.d.agg==u.aggT) && !u.isMp then nchk ex p.needs (gbind ex te.dft (ac s.xs i) λx=>k ⟨rc u (p.get x) n,uA u (p.get x) s.nk n,[]⟩)else none
 |_,_=>none
theorem anT{η:Vn}{te:TC}{s:SI te}(hs:mG te h F=some s){v:te.den}(hv:ac s.xs i=some v):El (F.map (AF.ha η)) te.ty s.nk v (η.h h) (i.toNat*te.ty.sz):=λw c hH=>by
 have hm:=hH _ (aaG.2 ⟨_,gj hs,rfl⟩);obtain⟨own,K,xs⟩:=s;cases own with
 |none=>exact Mu (L:=.rep te.ty K xs (η.h h)::F.map (AF.ha η)) 0 rfl rfl hv w c (aq.cons hm hH)
 |some p=>
  have hm':HA.holds w c (ee te.ty p.1 p.2 K xs (η.h h)):=hm;show aqE w c te.ty (SI.nk ⟨some p,K,xs⟩) v _;cases htr:fQ p.1
  ·rw[show SI.nk (t:=te) ⟨some p,K,xs⟩=K by simp[SI.nk,htr]];rw[eH htr]at hm';exact ank (L:=.own te.ty p.1 p.2 K xs (η.h h)::F.map (AF.ha η)) 0 rfl rfl hv w c (aq.cons hm' hH)
  ·rw[show SI.nk (t:=te) ⟨some p,K,xs⟩=p.2::K by simp[SI.nk,htr]];rw[jB htr]at hm';exact Mu (L:=.rep te.ty (p.2::K) xs (η.h h)::F.map (AF.ha η)) 0 rfl rfl hv w c (aq.cons (Pr hm') hH)
theorem YY(hΘ:Θ.ok P){te:TC}{u:TC}{p:Pa te u}(ho:o.op=.load t x)(h1:ev E x=some (.lf (.rp h te i u p)))(k:Out->Option R) :
  au ex P o E F n (O9 Θ ex n t h te i u p F k) k:=by
 unfold O9;split
 ·rename_i inf s hi hs;refine au.bif λhc=>au.nchk λhf=>au.gbind λv hv=>au.of λhx η ρ hE=>?_
  simp only[aas,air,acA]at hc;obtain⟨⟨⟨hsz,hnh⟩,hag⟩,hmp⟩:=hc;have hsz:=amb hsz;have hnh:=aaA hnh;obtain⟨g1,g2,_,_⟩:=hΘ t inf hi;obtain⟨td,ht,hd⟩:=nR g2;rw[hag]at hd;have hE':=BX p (anT (η:=η) hs (hv hx)) (hf hx);have hp:aS ρ x=.pointer (some (ep (η.h h) (i.toNat*te.ty.sz+p.off))):=aN hE h1;cases u with
  |sc sk=>exact(bh.op (wu hE' ho ht hd hp)).map (λ_=>⟨η,Vn.agr_refl n η⟩) (λ_=>rfl) (λ_=>rfl)
  |ext m=>exact(bh.op (wu hE' ho ht hd hp)).map (λ_=>⟨η,Vn.agr_refl n η⟩) (λ_=>rfl) (λ_=>rfl)
  |slice t' =>
   refine(zQ hE' ho ht hd hp).map (λhh=>⟨η.setH n hh,η.setH_agr n hh⟩) (λhh=>?_) λhh=>?_
   ·simp[rc,AV.val,Lf.val,Vn.setH_at]
   ·simp[uA,AF.ha,Vn.setH_at]
  |arr m sk=>
   refine(eX hE' ho ht hd g1 hsz hp).map (λy=>⟨η.set n (cP _ y),Vn.set_agr (by rw[dp];exact hnh)⟩) (λy=>?_) λy=>?_
   ·rfl
   rfl
  |unit=>
   refine(eX hE' ho ht hd g1 hsz hp).map (λy=>⟨η.set n (cP _ y),Vn.set_agr (by rw[dp];exact hnh)⟩) (λy=>?_) λy=>?_
   ·rfl
   rfl
  |st a=>
   refine(eX hE' ho ht hd g1 hsz hp).map (λy=>⟨η.set n (cP a y),Vn.set_agr (by rw[dp];exact hnh)⟩) (λy=>?_) λy=>?_
   ·exact(sY (u:=.st a) rfl (fy.set (l:=cP a y))).symm
   ·exact(sa a _ y n fy.set).symm
  |pair a b=>
   refine(eX hE' ho ht hd g1 hsz hp).map (λy=>⟨η.set n (cP _ y),Vn.set_agr (by rw[dp];exact hnh)⟩) (λy=>?_) λy=>?_
   ·exact(sY (u:=.pair a b) rfl fy.set).symm
   ·exact(sa (.pair a b) _ y n fy.set).symm
  |node=>
   refine(eX hE' ho ht hd g1 hsz hp).map (λy=>⟨η.set n (cP .node y),Vn.set_agr (by rw[dp];exact hnh)⟩) (λy=>?_) λy=>?_
   ·exact(sY (u:=.node) rfl (fy.set (l:=cP .node y))).symm
   ·exact(sa .node _ y n fy.set).symm
  |mp _ _=>cases hmp
 ·exact au.none
theorem ak6{η:Vn}{u:TC}{ls:List Lf}{y:u.den}{l:List Lf}(hd:co F u ls=some (y,l,Kd,[]))(hK:∀k∈Kd,k∈K)(hone:uR ls=true)(v:u.den):pJ (F.map (AF.ha η)) K u.ty v 0 (ay η ls) y:=by
 intro w c hH r hr;obtain⟨hc,hrep⟩:=dX (η:=η) u hd;simp only[ay,abd]at hc;have hlen:(ay η ls).length=u.ty.sz:=by rw[hc];exact u.ty.fill_length _ _
 refine⟨aP u (aZ η l),hrep w c K hH hK,by omega,?_,ou hone⟩;rw[aek,acG,alG,acj (by rw[u.ty.fill_length];omega),abd,hc]
theorem acZ{A:HA}{η:Vn}{u:TC}{ls:List Lf}{y:u.den}{l:List Lf}(hd:co F u ls=some (y,l,Kd,[]))(hK:∀k∈Kd,k∈K)(hone:uR ls=true)(v:u.den):pJ (A::F.map (AF.ha η)) K u.ty v 0 (ay η ls) y:=
 λw c hH r hr=>ak6 hd hK hone v w c (λB hB=>hH B (aaw _ hB)) r hr
def scV(u:TC)(z:u.den):Value:=match u,z with
 |.sc s,z=>s.val z
 |_,_=>undef
theorem As{L:List HA}{K:List Nat}{new:List Value} : {t u:TC}->(p:Pa t u)->{v:t.den}->{y:u.den}->pJ L K u.ty (p.get v) 0 new y->p.fine ->
  (∀s,u=.sc s->new=[scV u y])->pJ L K t.ty v p.off new (p.put v y)
 |_,_,.here,v,y,h,_,_=>h
 |_,_,.fst p,v,y,h,hf,hs=>alH (As p h hf hs)
 |_,_,.snd p,v,y,h,hf,hs=>alA (As p h hf hs) rfl
 |_,_,.inn p,v,y,h,hf,hs=>As p h hf hs
 |_,_,.nd p,v,y,h,hf,hs=>aqG (As p h hf hs)
 |_,_,@Pa.el n s j,v,y,h,hf,hs=>by have hn:=hs s rfl;subst hn;exact akM (hf _ rfl)
def tk(K Kd:List Nat):List Nat:=bif Kd.all (λk=>K.any λj=>Nat.beq k j)then K else K++Kd
theorem akx:∀k∈K,k∈tk K Kd:=λk hk=>by unfold tk;grind
theorem amV:∀k∈Kd,k∈tk K Kd:=λk hk=>by
 unfold tk;cases h:Kd.all (λk=>K.any λj=>Nat.beq k j)
 ·grind
 simp_all
def FT(Θ:Tb)(ex:Option Bool)(t:TypeId)(h:Nat)(te:TC)(i:Int)(u:TC)(p:Pa te u)(v:AV)(F:List AF)(k:Out->Option R):Option R:=match Θ t,mG te h F,v.lvs with
 |some inf,some ⟨some (e,ci),K,xs⟩,some ls=>match co F u ls with
  | some (y,_,Kd,[])=>bif Nat.beq inf.sz u.ty.sz&&(tk K Kd).all (λk=>!(Nat.beq k ci)) && !(fQ e)then
    nchk ex p.needs (gbind ex te.dft (ac xs i) λx=>k ⟨.lf (.v undef),[.own te e ci (tk K Kd) (xs.set i.toNat (p.put x y)) h],[ci]⟩)else none
  |_=>none
 |_,_,_=>none
theorem Qs{s:SC}{ls:List Lf}{y:s.den}{l:List Lf}(h:co F (.sc s) ls=some (y,l,K,[]))(η:Vn):ay η ls=[s.val y]:=by have:=(dX (η:=η) (.sc s) h).1;simpa[ay,Ty.fill]using this
theorem US(hΘ:Θ.ok P){z:Operand}{te:TC}{u:TC}{p:Pa te u}{v:AV}(ho:o.op=.store t x z)(h1:ev E x=some (.lf (.rp h te i u p)))(h2:ev E z=some v)(k:Out->Option R) :
  au ex P o E F n (FT Θ ex t h te i u p v F k) k:=by
 unfold FT;split
 ·rename_i inf e ci K xs ls hi hs hl;split
  ·rename_i y l Kd hd;refine au.bif λhc=>au.nchk λhf=>au.gbind λd hdv=>au.of λhx η ρ hE=>?_
   simp only[aas]at hc;obtain⟨⟨hsz,hK⟩,htr⟩:=hc;have htr:=tU htr;have hsz:=amb hsz;obtain⟨g1,_⟩:=hΘ t inf hi;have hto:∀w c,aq w c (F.map (AF.ha η))->aq w c (.own te.ty e ci (tk K Kd) xs (η.h h)::F.map (AF.ha η)):=λw c hH=>by have hm':HA.holds w c (ee te.ty e ci K xs (η.h h)):=hH _ (aaG.2 ⟨_,gj hs,rfl⟩);rw[eH htr]at hm';obtain⟨ys,q1,q2,q3⟩:=hm';exact aq.cons ⟨ys,q1.mono (bU.keep (λ_ _ hb=>⟨akx _ hb,rfl⟩) te.ty),q2,q3⟩ hH
   have hset:pJ (.own te.ty e ci (tk K Kd) xs (η.h h)::F.map (AF.ha η)) (tk K Kd) te.ty d p.off (ay η ls) (p.put d y):=by refine As p (acZ hd amV (AV.lvs_one hl) _) (hf hx) ?_;intro s hs';subst hs';exact Qs hd η
   have hlen:(ay η ls).length=u.ty.sz:=by have:=(dX (η:=η) u hd).1;rw[this];simp[ay,u.ty.fill_length]
   refine((Lh (L:=.own te.ty e ci (tk K Kd) xs (η.h h)::F.map (AF.ha η)) 0 rfl ho g1 (aN hE h1) rfl rfl (hdv hx) (aN hE h2) (v.lvs_cells hl η) (by grind) hset hK).from hto).map (λ_=>⟨η,Vn.agr_refl n η⟩) (λ_=>rfl) (λ_=>by simp[AF.ha,eH htr])
  ·exact au.none
 ·exact au.none
end
end
section
variable [X:XTab] [G:GTab]
section
variable {R:Type} {P:Program} {o:Oper} {E:SE} {F:List AF} {n:Nat} {Θ:Tb} {ex:Option Bool}
def VC(Θ:Tb)(t:TypeId)(v:AV)(F:List AF)(k:Out->Option R):Option R:=match Θ t with
 | some ⟨.slice e,_,_,_,_⟩=>match Θ e,v with
  | some ie,.lf l=>match iI ie.tc F l with
   |some s=>k (bk (f8 .i64 s.xs.length))
   | none=>match l with
    |.sl h=>match nU h F with
     |some (_,_,lo,hi)=>k (bk (f8 .i64 (hi-lo)))
     |none=>none
    |_=>none
  |_,_=>none
 |some ⟨.str,_,_,_,_⟩=>match v with
  |.lf (.c .str x)=>k (bk (f8 .i64 x.length))
  |_=>none
 |_=>none
theorem Yg{ρ:dr}{L:List HA}{s:List UInt8}(ho:o.op=.call { callee:=.builtin .len,args:=#[x],argTypes:=#[t]})(ht:P.underlying t=some .string)(hx:aS ρ x=.string ⟨s.toArray⟩) :
  bh P ρ o L (.int .i64 s.length):=λev w c he _=>by
 subst he;have hs:(ByteArray.mk s.toArray).size=s.length:=by rfl
 simp[execOp,ho,hx,resolve,invoke,builtin,Builtin.len_,run_underlying ht,goInt,Result.andThen];grind
theorem QI(hΘ:Θ.ok P){v:AV}(ho:o.op=.call { callee:=.builtin .len,args:=#[x],argTypes:=#[t]})(h1:ev E x=some v)(k:Out->Option R):au ex P o E F n (VC Θ t v F k) k:=by
 unfold VC;split
 ·rename_i e _ _ _ _ ht;split
  ·rename_i ie l he;split
   ·rename_i s hs;refine au.of λhx=>(dB.pure λη ρ hE=>?_)
    refine bh.from (L':=.rep ie.tc.ty s.all s.xs (l.hd η)::F.map (AF.ha η)) ?_ (λw c hH=>aq.cons (jk hs hH) hH);have h2:=aN hE h1;simp only[AV.val]at h2|-;rw[(pH hs η).1]at h2;exact Zp 0 rfl ho (hΘ t _ ht).2.1 h2
   ·split
    ·rename_i h _;split
     ·rename_i h0 sz lo hi hp;refine au.of λhx=>(dB.pure λη ρ hE ev w c hev hH=>?_)
      have hpt:nM (η.h h) (η.h h0) sz lo hi:=hH _ (aaG.2 ⟨_,iw hp,rfl⟩);have h3:=TN (L:=F.map (AF.ha η)) ho (hΘ t _ ht).2.1 (aN hE h1) ev w c hev hH;rw[h3];simp only[AV.val,Lf.val,hpt.2.1]
     ·exact au.none
    ·exact au.none
  ·exact au.none
 ·rename_i _ _ _ _ ht;split
  ·refine au.of λhx=>(dB.pure λη ρ hE=>?_)
   exact Yg ho (hΘ t _ ht).2.1 (aN hE h1)
  ·exact au.none
 ·exact au.none
def ae7(Θ:Tb)(ex:Option Bool)(n N:Nat)(t:TypeId)(v1 v2:AV)(F:List AF)(k:Out->Option R):Option R:=match Θ t with
 | some ⟨.slice e,_,_,_,_⟩=>match Θ e,v1,v2 with
  |some ie,.lf l1,.lf l2=>match gv ie.tc e N F l1,iI ie.tc F l2 with
   | some (ci,K,xs),some s2=>bif Nat.beq ie.sz ie.tc.ty.sz&&Nat.ble 1 ie.sz&&Nat.beq ie.zv.cells.size ie.sz&&Nat.ble 2 ci&&Nat.blt e 1048576&&(bif ie.tc.ty.pureB then true else(K++s2.all).all (λk=>!(Nat.beq k ci)))then
     gchk ex (aH xs.length s2.xs.length ie.by_) (k ⟨.lf (.sl n),[.own ie.tc e ci (bif ie.tc.ty.pureB then K else K++s2.all) (xs++s2.xs) n],[ci]⟩)else none
   |_,_=>none
  |_,_,_=>none
 |_=>none
theorem akZ(hΘ:Θ.ok P){v1 v2:AV}(ho:o.op=.call { callee:=.builtin .append,args:=#[x,y],argTypes:=#[t,t]})(h1:ev E x=some v1)(h2:ev E y=some v2)(k:Out->Option R) :
  au ex P o E F n (ae7 Θ ex n N t v1 v2 F k) k:=by
 unfold ae7;split
 ·rename_i e _ _ _ _ ht;split
  ·rename_i ie l1 l2 he;split
   ·rename_i ci K xs s2 hs1 hs2;refine au.bif λhc=>au.gchk λhr=>au.of λhx η ρ hE=>?_
    simp only[aas]at hc;obtain⟨⟨⟨⟨⟨hsz,h0⟩,hzs⟩,hci⟩,hel⟩,hK⟩:=hc;have e1:=aN hE h1;have e2:=aN hE h2;simp only[AV.val]at e1 e2;rw[qO hs1 η]at e1;rw[(pH hs2 η).1]at e2;have hH':∀w c,aq w c (F.map (AF.ha η))->aq w c (.own ie.tc.ty e ci K xs (l1.hd η)::.rep ie.tc.ty s2.all s2.xs (l2.hd η)::F.map (AF.ha η)):=λw c hH=>
     aq.cons (by have:=gb hs1 hH;rwa [eH (gn hel)]at this) (aq.cons (jk hs2 hH) hH)
    cases hp:ie.tc.ty.pureB
    ·rw[hp,aax]at hK;have:=(ZB (o:=o) (ρ:=ρ) (L:=.own ie.tc.ty e ci K xs (l1.hd η)::.rep ie.tc.ty s2.all s2.xs (l2.hd η)::F.map (AF.ha η)) 0 1 rfl _ rfl wI ho (hΘ t _ ht).2.1 (hΘ e ie he).1 (amb hsz) hzs h0 e1 e2 (hr hx) hci hK rfl hel).from hH';refine this.map (λhh=>⟨η.setH n hh,η.setH_agr n hh⟩) (λhh=>?_) λhh=>?_
     ·simp[AV.val,Lf.val,Vn.setH_at]
     ·simp[AF.ha,Vn.setH_at,eH (gn hel)]
    ·have:=(CE (o:=o) (ρ:=ρ) (L:=.own ie.tc.ty e ci K xs (l1.hd η)::.rep ie.tc.ty s2.all s2.xs (l2.hd η)::F.map (AF.ha η)) hp 0 1 rfl _ rfl wI ho (hΘ t _ ht).2.1 (hΘ e ie he).1 (amb hsz) hzs h0 e1 e2 (hr hx) hci hel).from hH';refine this.map (λhh=>⟨η.setH n hh,η.setH_agr n hh⟩) (λhh=>?_) λhh=>?_
     ·simp[AV.val,Lf.val,Vn.setH_at]
     ·simp[AF.ha,Vn.setH_at,eH (gn hel)]
   ·exact au.none
  ·exact au.none
 ·exact au.none
theorem pI.append{L:List HA}:∀{l l':List HA},pI L l->pI L l'->pI L (l++l')
 |[],_,_,h=>h
 |_::_,_,⟨h1,h2⟩,h=>⟨h1,h2.append h⟩
theorem zj{L:List HA}{η:Vn}{K':List Nat}:∀(t:TC) {ls:List Lf} {z:t.den} {l:List Lf} {K:List Nat} {r:List Lf},co [] t ls=some (z,l,K,r)->pI L (facts t.ty K' z (aP t (aZ η l)))
 |.sc _,_,_,_,_,_,_=>trivial
 |.arr _ _,_,_,_,_,_,_=>trivial
 |.unit,_,_,_,_,_,_=>trivial
 |.ext _,_,_,_,_,_,_=>trivial
 |.st t,_,_,_,_,_,h=>zj (η:=η) t h
 |.slice t,[],_,_,_,_,h=>by simp[co]at h
 | .slice t,a::ls,z,l,K,r,h=>by
  simp only[co]at h;split at h
  ·rename_i s hs;simp only[no,aaE]at h;obtain⟨rfl,rfl,rfl,rfl⟩:=h;cases a with
   |sl m=>simp[iI,mG]at hs
   |nl=>
    simp only[iI,no]at hs;subst hs;exact⟨.inr sO,trivial⟩
   |_=>simp[iI]at hs
  ·cases h
 | .pair a b,ls,z,l,K,r,h=>by
  simp only[co]at h;split at h
  ·rename_i x1 l1 K1 r1 h1;split at h
   ·rename_i x2 l2 K2 r2 h2;simp only[no,aaE]at h;obtain⟨rfl,rfl,rfl,rfl⟩:=h;have hn:(aZ η l1).length=a.nh:=by simp[aZ,eJ a h1]
    have e1:aP a (aZ η (l1++l2))=aP a (aZ η l1):=by grind[aZ,dU]
    have e2:aP b ((aZ η (l1++l2)).drop a.nh)=aP b (aZ η l2):=by grind[aZ]
    simp only[facts,aP];rw[e1,e2];exact(zj a h1).append (zj b h2)
   ·cases h
  ·cases h
 | .node,ls,z,l,K,r,h=>by
  obtain⟨k,tx,m,a,s,rfl,hs,rfl,rfl,rfl⟩:=AE (show Ft [] ls=_ from h);cases a with
  |sl m=>simp[iI,mG]at hs
  |nl=>
   simp only[iI,no]at hs;subst hs;exact⟨.inr sO,trivial⟩
  |_=>simp[iI]at hs
 | .mp k v,ls,z,l,K,r,h=>by
  cases ls with
  |nil=>simp[co]at h
  | cons a ls=>
   cases a with
   |mp hh=>
    simp only[co,no,aaE]at h;obtain⟨rfl,rfl,rfl,rfl⟩:=h;exact trivial
   |_=>simp[co]at h
def EC:Operand->Operand->Bool
 |.tmp a,.tmp b=>Nat.beq a b
 |.const (.int _ a),.const (.int _ b)=>a==b
 |_,_=>false
def VN(Θ:Tb)(ex:Option Bool)(n N:Nat)(t:TypeId)(x y:Operand)(v1 v2:AV)(k:Out->Option R):Option R:=match Θ t,v1,v2 with
 | some ⟨.slice e,_,_,_,_⟩,.lf (.c (.int _) a),.lf (.c (.int _) _)=>match Θ e with
  |some ie=>match co [] ie.tc ie.zl with
   |some (z,_,_,[])=>bif Nat.beq ie.sz ie.tc.ty.sz&&Nat.ble 2 N&&EC x y&&Nat.blt e 1048576 then
      gchk ex (decide (0<=a/\a*ie.by_<=281474976710656/\a<=maxLen)) (k ⟨.lf (.sl n),[.own ie.tc e N [] (List.replicate a.toNat z) n],[]⟩)else none
   |_=>none
  |none=>none
 |_,_,_=>none
theorem ab5(hΘ:Θ.ok P){v1 v2:AV}(ho:o.op=.makeSlice t x y)(h1:ev E x=some v1)(h2:ev E y=some v2)(k:Out->Option R):au ex P o E F n (VN Θ ex n N t x y v1 v2 k) k:=by
 unfold VN;split
 ·rename_i e _ _ _ _ k1 a k2 b ht;split
  ·rename_i ie he;split
   ·rename_i z l Kz hz;refine au.bif λhc=>au.gchk λhb=>au.of λhx η ρ hE=>?_
    simp only[aas]at hc;obtain⟨⟨⟨hsz,hN⟩,hso⟩,hel⟩:=hc;have e1:=aN hE h1;have e2:=aN hE h2;simp only[AV.val,Lf.val]at e1 e2;have hab:b=a:=by
     unfold EC at hso;split at hso
     ·simp_all
     ·simp only[aS,Value.int.injEq]at e1 e2;grind
     ·cases hso
    subst hab;obtain⟨g1,_,g3,g4⟩:=hΘ e ie he;have hcell:=(dX (η:=η) ie.tc hz).1;simp only[ay,abd]at hcell;refine(Ax (K:=[]) ho (hΘ t _ ht).2.1 g1 (amb hsz) (v:=z) (r:=aP ie.tc (aZ η l)) ?_ (zj ie.tc hz) e1 e2 (hb hx) hN).map (λhh=>⟨η.setH n hh,η.setH_agr n hh⟩) (λhh=>?_) λhh=>?_
    ·grind
    ·simp[AV.val,Lf.val,Vn.setH_at]
    ·simp[AF.ha,Vn.setH_at,eH (gn hel)]
   ·exact au.none
  ·exact au.none
 ·exact au.none
def yJ(place:Nat->Option (Nat×Nat))(ls:List Lf):List (Nat×List Lf)->Option (List Lf)
 |[]=>some ls
 | (i,new)::rest=>match place i with
  |none=>none
  |some (off,size)=>match cut off size ls,ml new size with
   |some (a,_,r),some (_,[])=>yJ place (a++new++r) rest
   |_,_=>none
theorem zm{place:Nat->Option (Nat×Nat)}{η:Vn}:∀{vals:List (Nat×List Lf)} {ls ls':List Lf},yJ place ls vals=some ls'->qz place (ay η ls) (vals.map λp=>(p.1,ay η p.2))=some (ay η ls')
 |[],ls,ls',h=>by simp only[yJ,no]at h;subst h;rfl
 | (i,new)::rest,ls,ls',h=>by
  simp only[yJ]at h;cases hp:place i with
  |none=>grind
  | some os=>
   obtain⟨off,size⟩:=os;rw[hp]at h;simp only at h;split at h
   ·rename_i a m r q hc hs;obtain⟨e,hl⟩:=xO hc;obtain⟨l1,l2⟩:=hl η;obtain⟨e2,l3⟩:=jf hs;rw[abd]at e2;subst e2;have l3:=l3 η;have ih:=zm (η:=η) h;simp only[aa4,qz,hp];have hb:(Nat.beq (ay η new).length size&&Nat.ble (off+(ay η new).length) (ay η ls).length)=true:=by
     rw[aas];refine⟨by simp[l3],abu ?_⟩;rw[e,bd,bd];grind
    rw[hb,f9];rw[bd,bd]at ih;rw[<-ih];congr 2
    ·grind[ay,bd,List.append_assoc,List.take_append,List.take_of_length_le]
    grind[ay,bd,List.append_assoc,List.drop_append,List.drop_eq_nil_of_le]
   ·cases h
def vy(E:SE):List (Nat×Operand)->Option (List (Nat×List Lf))
 |[]=>some []
 | (i,x)::r=>match ev E x with
  |some v=>match v.lvs,vy E r with
   |some ls,some l=>some ((i,ls)::l)
   |_,_=>none
  |none=>none
theorem rm{η:Vn}{ρ:dr}(hE:nQ η ρ E):∀{ps:List (Nat×Operand)} {l:List (Nat×List Lf)},vy E ps=some l->ps.map (λp=>(p.1,(aS ρ p.2).cells.toList))=l.map λp=>(p.1,ay η p.2)
 |[],l,h=>by simp only[vy,no]at h;subst h;rfl
 | (i,x)::r,l,h=>by
  simp only[vy]at h;split at h
  ·rename_i v hv;split at h
   ·rename_i ls l' hl hr;simp only[no]at h;subst h;simp only[aa4,rm hE hr,aN hE hv,v.lvs_cells hl η]
   ·cases h
  ·cases h
def YH(Θ:Tb):List (TypeId×Nat)->Option (List (Nat×Nat))
 |[]=>some []
 |(t,off)::r=>match Θ t,YH Θ r with
  |some i,some l=>some ((off,i.sz)::l)
  |_,_=>none
theorem X7(hΘ:Θ.ok P):∀{Fd:List Field} {l:List (Nat×Nat)},YH Θ (Fd.map λf=>(f.type,f.offset))=some l->Uy P Fd l
 |[],l,h=>by simp only[adU,YH,no]at h;subst h;trivial
 |f::r,l,h=>by
  simp only[aa4,YH]at h;split at h
  ·rename_i i l' hi hr;simp only[no]at h;subst h;exact⟨rfl,⟨_,_,(hΘ _ _ hi).1⟩,X7 hΘ hr⟩
  ·cases h
def vg{s:SC}(m:Nat):List s.den->List (Nat×List Lf)->Option (List s.den)
 |xs,[]=>some xs
 |xs,(i,[.c s' v])::r=>if h:s'=s then bif Nat.blt i m then vg m (xs.set i (E4 h v)) r else none else none
 |_,_=>none
theorem HC{s:SC}{m:Nat}{η:Vn}:∀{vals:List (Nat×List Lf)} {xs ys:List s.den},vg m xs vals=some ys->xs.length=m->qz (λj=>some (j*1,1)) ((TC.arr m s).ty.fill xs ()) (vals.map λp=>(p.1,ay η p.2))=some ((TC.arr m s).ty.fill ys ())
 |[],xs,ys,h,_=>by simp only[vg,no]at h;subst h;rfl
 | (i,ls)::r,xs,ys,h,hl=>by
  cases ls with
  |nil=>simp[vg]at h
  | cons a ls=>
   cases ls with
   |cons _ _=>cases a<;>simp[vg]at h
   | nil=>
    cases a<;>simp only[vg]at h<;>try cases h
    split at h
    ·rename_i he;subst he;rename_i sc v;cases hb:Nat.blt i m
     ·grind
     ·rw[hb]at h;simp only[f9]at h;have hi:i<m:=aaA hb;have ih:=HC (η:=η) h (by simpa using hl);simp only[aa4,qz,ay,Lf.cells,abd,acg];have hb2:(Nat.beq 1 1&&Nat.ble (i*1+1) ((TC.arr m sc).ty.fill xs ()).length)=true:=by
       rw[aas];refine⟨rfl,abu ?_⟩;rw[Ty.fill_length];grind
      rw[hb2,f9,<-ih];congr 1;apply ac7;intro j;simp only[Ty.fill,E4,akD,aaL,adx,aee,ajF,acg];rw[afD,ac4 (show i<=m by omega)];by_cases c1:j<i
      ·grind
      ·by_cases c2:j=i
       ·grind
       ·simp only[c1,show¬j<i+1 by omega,aca,acP,show i+1+(j-(i+1))=j by omega];by_cases c3:j<m
        ·grind
        ·simp[c3]
    ·cases h
def Mg(Θ:Tb)(E:SE)(t:TypeId)(ps:Array (Nat×Operand))(k:Out->Option R):Option R:=match Θ t,vy E ps.toList with
 | some ⟨.st fs,_,_,zl,_⟩,some vals=>match YH Θ fs with
  |some pl=>match yJ (λj=>pl[j]?) zl vals with
   |some ls=>k (bk (.ag ls))
   |none=>none
  |none=>none
 | some ⟨.arr m e,_,_,[.ar m' s z],_⟩,some vals=>match Θ e with
  |some ie=>match vg m (List.replicate m s.dft) vals with
   |some ys=>bif Nat.beq m m'&&z.isEmpty&&Nat.beq ie.sz 1 then k (bk (.lf (.ar m s ys)))else none
   |none=>none
  |none=>none
 |_,_=>none
theorem Yv(hΘ:Θ.ok P){ps:Array (Nat×Operand)}(ho:o.op=.build t ps)(k:Out->Option R):au ex P o E F n (Mg Θ E t ps k) k:=by
 unfold Mg;split
 ·rename_i fs _ _ zl _ vals ht hp;split
  ·rename_i pl hpl;split
   ·rename_i ls hls;refine au.of λhx=>(dB.pure λη ρ hE=>?_)
    obtain⟨g1,⟨Fd,g2,g5⟩,g3,g4⟩:=hΘ t _ ht;subst g5;refine GE ho g2 g1 (X7 hΘ hpl) (rm hE hp) ?_;have:=zm (η:=η) hls;grind
   ·exact au.none
  ·exact au.none
 ·rename_i m e _ _ m' s z _ vals ht hp;split
  ·rename_i ie he;split
   ·rename_i ys hys;refine au.bif λhc=>au.of λhx=>(dB.pure λη ρ hE=>?_)
    simp only[aas]at hc;obtain⟨⟨hm,hz⟩,hs1⟩:=hc;obtain rfl:=amb hm;obtain⟨g1,g2,g3,g4⟩:=hΘ t _ ht;have hti:=(hΘ e ie he).1;rw[amb hs1]at hti;refine H0 ho g2 g1 hti (rm hE hp) ?_;have:=HC (η:=η) hys (by simp);rw[g3,<-g4 η];have hz':z=[]:=List.isEmpty_iff.1 hz;subst hz';have e0:ay η [Lf.ar m s []]=(TC.arr m s).ty.fill (List.replicate m s.dft) ():=by simp only[ay,Lf.cells,abd,Ty.fill];simp_all
    grind
   ·exact au.none
  ·exact au.none
 ·exact au.none
end
end
section
variable [X:XTab] [G:GTab]
section
variable {R:Type} {P:Program} {o:Oper} {E:SE} {F:List AF} {n:Nat} {Θ:Tb} {ex:Option Bool}
def aab(Θ:Tb)(t:TypeId)(f:Nat)(v:AV)(k:Out->Option R):Option R:=match Θ t,v with
 | some ⟨.st fs,_,_,_,_⟩,.ag ls=>match fs[f]? with
  | some (ft,off)=>match Θ ft with
   | some i=>match cut off i.sz ls with
    |some (_,m,_)=>match HB i.d.agg m with
     |some u=>k (bk u)
     |none=>none
    |none=>none
   |none=>none
  |none=>none
 |_,_=>none
theorem YL{off sz:Nat}{cs a m r:List Lf}(h:cut off sz cs=some (a,m,r))(η:Vn):((ay η cs).drop off).take sz=ay η m/\(ay η m).length=sz:=by
 obtain⟨e,hl⟩:=xO h;obtain⟨l1,l2⟩:=hl η;refine⟨?_,l2⟩;rw[e,bd,bd,aaW,acB,acj (by omega),show off-(ay η a).length=0 by omega,adi,acG,ads,ab4 (by omega),
  show sz-(ay η m).length=0 by omega,aek,abd]
theorem Wx(hΘ:Θ.ok P){f:Nat}{v:AV}(ho:o.op=.field t x f)(h1:ev E x=some v)(k:Out->Option R):au ex P o E F n (aab Θ t f v k) k:=by
 unfold aab;split
 ·rename_i fs _ _ _ _ ls ht;split
  ·rename_i ft off hf;split
   ·rename_i i hi;split
    ·rename_i a m r hc;split
     ·rename_i u hu;refine au.of λhx=>(dB.pure λη ρ hE=>?_)
      obtain⟨Fd,hs,hm⟩:=(hΘ t _ ht).2.1;obtain⟨fd,hfd,hft,hoff⟩:=HR hm hf;obtain⟨g1,g2,_,_⟩:=hΘ ft i hi;obtain⟨td,hut,hd⟩:=nR g2;rw[<-hft]at g1 hut;obtain⟨hcell,l2⟩:=YL hc η;have he:=aN hE h1;simp only[AV.val]at he;cases hag:i.d.agg
      ·rw[hag]at hu hd;obtain⟨l,rfl,rfl,hl1⟩:=Bx hu η;refine aeE ho hs hfd hut hd he ?_;have h5:ay η [l]=[(AV.lf l).val η]:=by simp[ay,hl1]
       rw[h5]at hcell l2;have:=aba (·[0]?) hcell;grind
      grind[B1,aeb]
     ·exact au.none
    ·exact au.none
   ·exact au.none
  ·exact au.none
 ·exact au.none
def F4(Θ:Tb)(ex:Option Bool)(t:TypeId)(v:AV)(i:Int)(k:Out->Option R):Option R:=match Θ t,v with
 |some ⟨.str,_,_,_,_⟩,.lf (.c .str s)=>gbind ex 0 (ac s i) λb=>k (bk (f8 .u8 (b.toNat:Int)))
 |some ⟨.arr m e,_,_,_,_⟩,.lf (.ar m' s x)=>match Θ e with
  |some ie=>bif Nat.beq ie.sz 1&&Nat.beq m m' && !ie.d.agg then gchk ex (decide (0<=i/\i<m')) (k (bk (.lf (.c s (List.getD (α:=s.den) x i.toNat s.dft)))))else none
  |none=>none
 |_,_=>none
theorem Tt(hΘ:Θ.ok P){v:AV}(ho:o.op=.index t x y)(h1:ev E x=some v)(h2:ev E y=some (f8 ki i))(k:Out->Option R):au ex P o E F n (F4 Θ ex t v i k) k:=by
 unfold F4;split
 ·rename_i _ _ _ _ s ht;exact au.gbind λb hb=>au.of λhx=>(dB.pure λη ρ hE=>Pz ho (hΘ t _ ht).2.1 (aN hE h1) (aN hE h2) (hb hx))
 ·rename_i m e _ _ _ _ m' s xs ht;split
  ·rename_i ie he;refine au.bif λhc=>au.gchk λhb=>au.of λhx=>(dB.pure λη ρ hE=>?_)
   simp only[aas,acA]at hc;obtain⟨⟨hs1,hm⟩,hag⟩:=hc;obtain rfl:=amb hm;obtain⟨g1,g2,_,_⟩:=hΘ e ie he;obtain⟨td,hut,hd⟩:=nR g2;rw[hag]at hd;rw[amb hs1]at g1;exact PP ho (hΘ t _ ht).2.1 hut hd g1 (aN hE h1) (aN hE h2) (hb hx)
  ·exact au.none
 ·exact au.none
def Dp(v:AV)(i:Nat)(k:Out->Option R):Option R:=match v with
 |.tu vs=>match vs[i]? with
  |some u=>k (bk u)
  |none=>none
 |_=>none
theorem NS{η:Vn}:∀{vs:List AV} {i:Nat} {u:AV},vs[i]?=some u->(AV.vals η vs)[i]?=some (u.val η)
 |[],_,_,h=>by simp at h
 |v::r,0,u,h=>by simp at h;subst h;simp[AV.vals]
 |v::r,i+1,u,h=>by simp at h;simp[AV.vals,NS h]
theorem PV{i:Nat}{v:AV}(ho:o.op=.extract x i)(h1:ev E x=some v)(k:Out->Option R):au ex P o E F n (Dp v i k) k:=by
 unfold Dp;split
 ·rename_i vs;split
  ·rename_i u hu;refine au.of λhx=>(dB.pure λη ρ hE=>?_)
   have he:=aN hE h1;grind[AV.val,Zh,NS]
  ·exact au.none
 ·exact au.none
def SR(Θ:Tb)(s d:TypeId)(v:AV)(k:Out->Option R):Option R:=match Θ s,Θ d,v with
 |some ⟨.int _,_,_,_,_⟩,some ⟨.int kd,_,_,_,_⟩,.lf (.c (.int _) a)=>k (bk (f8 kd (w_ kd a)))
 |some ⟨.str,_,_,_,_⟩,some ⟨.str,_,_,_,_⟩,.lf (.c .str a)=>k (bk (zh a))
 |_,_,_=>none
theorem acW(hΘ:Θ.ok P){s d:TypeId}{v:AV}(ho:o.op=.convert s d x)(h1:ev E x=some v)(k:Out->Option R):au ex P o E F n (SR Θ s d v k) k:=by
 unfold SR;split
 ·rename_i ks _ _ _ _ kd _ _ _ _ kk a hs hd;refine au.of λhx=>(dB.pure λη ρ hE=>?_)
  simp only[AV.val,Lf.val,Vs];exact anU ho (hΘ s _ hs).2.1 (hΘ d _ hd).2.1 (aN hE h1)
 ·rename_i _ _ _ _ _ _ _ _ a hs hd;refine au.of λhx=>(dB.pure λη ρ hE ev w c he _=>?_)
  have hs':=(hΘ s _ hs).2.1;have hd':=(hΘ d _ hd).2.1;have h2:=aN hE h1;subst he;simp only[AV.val,Lf.val]at h2|-;simp[execOp,ho,h2,convert,run_underlying hs',run_underlying hd',Result.andThen]
 ·exact au.none
def sUn(op:UnOp)(v:AV)(k:Out->Option R):Option R:=match op,v with
 |.not,.lf (.c .bool b)=>k (bk (eK (!b)))
 |.neg,.lf (.c (.int kk) a)=>k (bk (f8 kk (w_ kk (0-a))))
 |.xor,.lf (.c (.int kk) a)=>k (bk (f8 kk (bj .xor kk (if kk.signed then -1 else kk.max) a)))
 |_,_=>none
theorem anJ{op:UnOp}{v:AV}(ho:o.op=.unOp op t x)(h1:ev E x=some v)(k:Out->Option R):au ex P o E F n (sUn op v k) k:=by
 unfold sUn;split
 ·exact au.of λhx=>(dB.pure λη ρ hE=>aq4 ho (aN hE h1))
 ·refine au.of λhx=>(dB.pure λη ρ hE=>?_)
  simp only[AV.val,Lf.val,Vs];exact arh ho (aN hE h1)
 ·refine au.of λhx=>(dB.pure λη ρ hE ev w c he _=>?_)
  have h:=aN hE h1;simp only[AV.val,Lf.val]at h|-;subst he;simp[execOp,ho,h,Op.unary,Op.intBits,bj,Result.andThen]
 ·exact au.none
def KP(Θ:Tb)(E:SE)(ex:Option Bool)(n:Nat)(t:TypeId)(l:Lf)(lo hi:Option Operand)(F:List AF)(k:Out->Option R):Option R:=match Θ t with
 | some ⟨.slice e,_,_,_,_⟩=>match Θ e with
  | some ie=>bif Nat.beq ie.sz ie.tc.ty.sz then match lo,hi with
   | none,some h=>match gv ie.tc e 0 F l,ev E h with
    |some (ci,K,xs),some (.lf (.c (.int _) j))=>bif Nat.ble 2 ci&&Nat.blt e 1048576 then gchk ex (decide (0<=j/\j<=xs.length)) (k ⟨.lf (.sl n),[.own ie.tc e ci K (xs.take j.toNat) n],[]⟩)else none
    |none,some (.lf (.c (.int _) j))=>match iI ie.tc F l with
     |some s=>gchk ex (decide (0<=(0:Int)/\0<=j/\j<=s.xs.length)) (k ⟨.lf (.sl n),[.rep ie.tc s.all ((s.xs.take j.toNat).drop (0:Int).toNat) n],[]⟩)
     |none=>none
    |_,_=>none
   |some h0,none=>match iI ie.tc F l,ev E h0 with
    |some s,some (.lf (.c (.int _) i))=>gchk ex (decide (0<=i/\i<=(s.xs.length:Int)/\(s.xs.length:Int)<=s.xs.length)) (k ⟨.lf (.sl n),[.rep ie.tc s.all ((s.xs.take (s.xs.length:Int).toNat).drop i.toNat) n],[]⟩)
    |_,_=>none
   |some h0,some h=>match iI ie.tc F l,ev E h0,ev E h with
    |some s,some (.lf (.c (.int _) i)),some (.lf (.c (.int _) j))=>gchk ex (decide (0<=i/\i<=j/\j<=s.xs.length)) (k ⟨.lf (.sl n),[.rep ie.tc s.all ((s.xs.take j.toNat).drop i.toNat) n],[]⟩)
    |_,_,_=>none
   |none,none=>none
   else none
  |none=>none
 |_=>none
theorem Y3(hΘ:Θ.ok P){l:Lf}{lo hi:Option Operand}(ho:o.op=.slice t x lo hi none)(h1:ev E x=some (.lf l))(k:Out->Option R):au ex P o E F n (KP Θ E ex n t l lo hi F k) k:=by
 have key:∀{e:TypeId} {ie:TInf} {s:SI ie.tc} {i j:Int} {klo khi:IntKind},P.underlying t=some (.slice e)->Θ e=some ie->Nat.beq ie.sz ie.tc.ty.sz=true->iI ie.tc F l=some s ->
   (∀η ρ,nQ η ρ E->lo.elim (i=0) (λq=>aS ρ q=.int klo i))->(∀η ρ,nQ η ρ E->hi.elim (j=s.xs.length) (λq=>aS ρ q=.int khi j))->decide (0<=i/\i<=j/\j<=s.xs.length)=true ->
   Pc P o E F n ⟨.lf (.sl n),[.rep ie.tc s.all ((s.xs.take j.toNat).drop i.toNat) n],[]⟩:=by
  intro e ie s i j klo khi ht he hsz hs hlo hhi hb η ρ hE;have h2:=aN hE h1;simp only[AV.val]at h2;rw[(pH hs η).1]at h2;have:=(zg (o:=o) (ρ:=ρ) (L:=.rep ie.tc.ty s.all s.xs (l.hd η)::F.map (AF.ha η)) (klo:=klo) (khi:=khi) 0 rfl ho ht (hΘ e ie he).1 (amb hsz) h2 (hlo η ρ hE) (hhi η ρ hE) hb).from (λw c hH=>aq.cons (jk hs hH) hH);refine this.map (λ_=>⟨η.setH n ((l.hd η).cut i.toNat j.toNat ie.sz),η.setH_agr n _⟩) (λ_=>?_) λ_=>?_
  ·simp[AV.val,Lf.val,Vn.setH_at]
  ·simp[AF.ha,Vn.setH_at]
 unfold KP;split
 ·rename_i e _ _ _ _ ht;have ht':P.underlying t=some (.slice e):=(hΘ t _ ht).2.1;split
  ·rename_i ie he;refine au.bif λhsz=>?_
   split
   ·rename_i hlo h;split
    ·rename_i ci K xs kk j hs hj;refine au.bif λhce=>au.gchk λhb=>au.of λhx η ρ hE=>?_
     have hel:Nat.blt e 1048576=true:=by grind
     have h2:=aN hE h1;simp only[AV.val]at h2;rw[qO hs η]at h2;have:=(Ph (o:=o) (ρ:=ρ) (L:=.own ie.tc.ty e ci K xs (l.hd η)::F.map (AF.ha η)) 0 rfl ho ht' (hΘ e ie he).1 (amb hsz) h2 (aN hE hj) (hb hx)).from (λw c hH=>aq.cons (by have:=gb hs hH;rwa [eH (gn hel)]at this) hH);refine this.map (λ_=>⟨η.setH n ((l.hd η).cut 0 j.toNat ie.sz),η.setH_agr n _⟩) (λ_=>?_) λ_=>?_
     ·simp[AV.val,Lf.val,Vn.setH_at]
     ·simp[AF.ha,Vn.setH_at,eH (gn hel)]
    ·rename_i kk j _ hj;split
     ·rename_i s hs;exact au.gchk λhb=>au.of λhx=>key (klo:=.i64) ht' he hsz hs (λ_ _ _=>rfl) (λη ρ hE=>aN hE hj) (hb hx)
     ·exact au.none
    ·exact au.none
   ·rename_i h0;split
    ·rename_i s kk i hs hi0;exact au.gchk λhb=>au.of λhx=>key (khi:=.i64) ht' he hsz hs (λη ρ hE=>aN hE hi0) (λ_ _ _=>rfl) (hb hx)
    ·exact au.none
   ·rename_i h0 h;split
    ·rename_i s k1 i k2 j hs hi0 hj;exact au.gchk λhb=>au.of λhx=>key ht' he hsz hs (λη ρ hE=>aN hE hi0) (λη ρ hE=>aN hE hj) (hb hx)
    ·exact au.none
   ·exact au.none
  ·exact au.none
 ·exact au.none
def FV(F:List AF)(t:TC):Nat->List Lf->Option (List t.den×List (List Lf)×List Nat)
 |0,[]=>some ([],[],[])
 |0,_::_=>none
 | m+1,ls=>match co F t ls with
  |some (x,l,K,r)=>match FV F t m r with
   |some (xs,ll,K2)=>some (x::xs,l::ll,K++K2)
   |none=>none
  |none=>none
theorem QY{t:TC}{η:Vn}:∀{m:Nat} {ls:List Lf} {xs:List t.den} {ll:List (List Lf)} {K:List Nat},FV F t m ls=some (xs,ll,K) ->
  xs.length=m/\ll.length=m/\ay η ls=cellsOf t.ty xs (ll.map λl=>aP t (aZ η l)) /\
  ∀(w:World) (c:bu) (K':List Nat),aq w c (F.map (AF.ha η))->(∀k∈K,k∈K')->cy (bU w (λb=>c b∈K') t.ty) xs (ll.map λl=>aP t (aZ η l))
 |0,[],xs,ll,K,h=>by simp only[FV,no,aaE]at h;obtain⟨rfl,rfl,rfl⟩:=h;exact⟨rfl,rfl,rfl,λ_ _ _ _ _=>trivial⟩
 |0,_::_,xs,ll,K,h=>by simp[FV]at h
 | m+1,ls,xs,ll,K,h=>by
  simp only[FV]at h;split at h
  ·rename_i x l K1 r h1;split at h
   ·rename_i xs' ll' K2 h2;simp only[no,aaE]at h;obtain⟨rfl,rfl,rfl⟩:=h;obtain⟨c1,f1⟩:=dX (η:=η) t h1;obtain⟨e1,e2,c2,f2⟩:=QY (η:=η) h2;refine⟨by simp[e1],by simp[e2],?_,λw c K' hF hK=>⟨?_,?_⟩⟩
    ·simp only[aa4,cellsOf];rw[c1,c2]
    ·simp_all
    simp_all
   ·cases h
  ·cases h
def Gg(ls:List Lf):Nat->List Lf
 |0=>[]
 |m+1=>ls++Gg ls m
def FN(Θ:Tb)(E:SE)(n N:Nat)(t:TypeId)(m:Nat)(ps:Array (Nat×Operand))(F:List AF)(k:Out->Option R):Option R:=match Θ t with
 | some ⟨.slice e,_,_,_,_⟩=>match Θ e,vy E ps.toList with
  | some ie,some vals=>match m with
   |0=>bif vals.isEmpty&&Nat.ble 2 N&&Nat.blt e 1048576 then k ⟨.lf (.sl n),[.own ie.tc e N [] [] n],[]⟩else none
   | m+1=>match yJ (λi=>some (i*ie.sz,ie.sz)) (Gg ie.zl (m+1)) vals with
    |some ls=>match FV F ie.tc (m+1) ls,ml ie.zl ie.sz with
     |some (xs,_,K),some (_,[])=>bif Nat.beq ie.sz ie.tc.ty.sz&&Nat.ble 2 N&&Nat.ble ((m+1)*ie.sz) 16777216&&Nat.ble 1 ie.sz&&Nat.blt e 1048576 then k ⟨.lf (.sl n),[.own ie.tc e N K xs n],[]⟩else none
     |_,_=>none
    |none=>none
  |_,_=>none
 |_=>none
theorem ze{η:Vn}{ls:List Lf}:∀m:Nat,ay η (Gg ls m)=(List.range (m*(ay η ls).length)).map (λj=>(ay η ls).getD (j%(ay η ls).length) default)
 |0=>by simp[Gg,ay]
 | m+1=>by
  have ih:=ze (η:=η) (ls:=ls) m;simp only[Gg,bd,ih];rw[show(m+1)*(ay η ls).length=(ay η ls).length+m*(ay η ls).length by grind,List.range_add,acw];congr 1
  ·apply ac7;intro j;by_cases hj:j<(ay η ls).length
   ·simp[hj,Nat.mod_eq_of_lt hj]
   ·simp[hj]
  simp_all
theorem Wy(hΘ:Θ.ok P){m:Nat}{ps:Array (Nat×Operand)}(ho:o.op=.buildSlice t m ps)(k:Out->Option R):au ex P o E F n (FN Θ E n N t m ps F k) k:=by
 unfold FN;split
 ·rename_i e _ _ _ _ ht;have ht':P.underlying t=some (.slice e):=(hΘ t _ ht).2.1;split
  ·rename_i ie vals he hp;split
   ·refine au.bif λhc=>au.of λhx η ρ hE=>?_;simp only[aas]at hc;have hv:vals=[]:=List.isEmpty_iff.1 hc.1.1;have hps:ps = #[]:=by
     have:=rm (η:=η) hE hp;simp_all
    refine(Gy (K:=[]) (ty:=ie.tc.ty) ho ht' (hΘ e ie he).1 hps hc.1.2).map (λhh=>⟨η.setH n hh,η.setH_agr n hh⟩) (λhh=>?_) λhh=>?_
    ·simp[AV.val,Lf.val,Vn.setH_at]
    ·simp[AF.ha,Vn.setH_at,eH (gn hc.2)]
   ·rename_i m;split
    ·rename_i ls hls;split
     ·rename_i xs ll K q hd hcut;refine au.bif λhc=>au.of λhx η ρ hE=>?_
      simp only[aas]at hc;obtain⟨⟨⟨⟨hsz,hN⟩,hsm⟩,h1⟩,hel⟩:=hc;obtain⟨g1,_,g3,g4⟩:=hΘ e ie he;obtain⟨e2,l3⟩:=jf hcut;rw[abd]at e2;subst e2;have l3:=l3 η;obtain⟨d1,d2,d3,d4⟩:=QY (η:=η) hd;have hpos:=aaA h1;have hH':∀w c,aq w c (F.map (AF.ha η))->aq w c (vS ie.tc.ty K xs (ll.map λl=>aP ie.tc (aZ η l))++F.map (AF.ha η)):=by
       intro w c hH;refine aq.append ?_ hH;have hr:=d4 w c K hH (λ_ hk=>hk);clear d1 d2 d3 d4 hd hls;revert hr;generalize(ll.map λl=>aP ie.tc (aZ η l))=ys;intro hr;induction xs generalizing ys with
       |nil=>cases ys<;>exact aq.nil _ _
       |cons x xs ih=>
        cases ys with
        |nil=>exact aq.nil _ _
        |cons y ys=>exact(qN ie.tc.ty x y hr.1).append (ih ys hr.2)
      have hpaid:pI (vS ie.tc.ty K xs (ll.map λl=>aP ie.tc (aZ η l))++F.map (AF.ha η)) (vS ie.tc.ty K xs (ll.map λl=>aP ie.tc (aZ η l))):=by
       have gen:∀(A B:List HA),(∀a∈A,a∈B)->pI B A:=by
        intro A B;induction A with
        |nil=>intro _;trivial
        |cons a A ih=>
         intro h;obtain⟨j,hj⟩:=aku.1 (h a aaQ);exact⟨.inl ⟨j,a,hj,wI⟩,ih λb hb=>h b (aaw _ hb)⟩
       grind
      have hfill:=zm (η:=η) hls;rw[ze,l3]at hfill;have hzc:ie.zv.cells.toList=ay η ie.zl:=by grind
      refine((zT (cells:=ay η ls) (ty:=ie.tc.ty) (K:=K) (xs:=xs) (ys:=ll.map λl=>aP ie.tc (aZ η l)) ho ht' g1 (amb hsz) hsm ?_ (rm hE hp) ?_ (by simp[d1]) (by simp[d2]) d3.symm hpaid hN).from hH').map (λhh=>⟨η.setH n hh,η.setH_agr n hh⟩) (λhh=>?_) λhh=>?_
      ·refine abu ?_;grind
      ·grind
      ·simp[AV.val,Lf.val,Vn.setH_at]
      ·simp[AF.ha,Vn.setH_at,eH (gn hel)]
     ·exact au.none
    ·exact au.none
  ·exact au.none
 ·exact au.none
end
end
end Go.Sm
