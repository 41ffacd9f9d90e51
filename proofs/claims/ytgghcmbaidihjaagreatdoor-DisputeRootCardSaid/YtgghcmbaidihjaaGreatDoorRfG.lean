/- Laws for the row. No condition. -/
import Derived.Test.YtgghcmbaidihjaaGreatDoorRfD
namespace Go.Sm
set_option linter.unusedSectionVars false
variable {t:TypeId} {x ix y:Operand} {i:Int} {K Kd:List Nat} {ki:IntKind} {P:Program} {o:Oper} {n h N:Nat}
section
variable [X:XTab] [G:GTab] [Yc:GCx]
theorem cN.from{ρ:dm}{L L':List HA}{κ:List Nat}{Y:Type}{val:Y->Value}{Φ:Y->List HA}(h:cN P ρ o L' κ val Φ)(d:∀w c,ao w c L->ao w c L'):cN P ρ o L κ val Φ:=
 λa ev w c next Q ha b e=>h a ev w c next Q ha (d w c b) e
theorem aZ.from{ρ:dm}{L L':List HA}{v:Value}(h:aZ P ρ o L' v)(b:∀w c,ao w c L->ao w c L'):aZ P ρ o L v:=
 λev w c d a=>h ev w c d (b w c a)
def Pa.comp : {t u v:TC}->Pa t u->Pa u v->Pa t v
 |_,_,_,.here,q=>q
 |_,_,_,.fst p,q=>.fst (p.comp q)
 |_,_,_,.snd p,q=>.snd (p.comp q)
 |_,_,_,.inn p,q=>.inn (p.comp q)
 |_,_,_,.nd p,q=>.nd (p.comp q)
 |_,_,_,.el j,.here=>.el j
theorem Pa.comp_off : {t u v:TC}->(p:Pa t u)->(q:Pa u v)->(p.comp q).off=p.off+q.off
 |_,_,_,.here,q=>by simp[Pa.comp,Pa.off]
 |_,_,_,.fst p,q=>by simp[Pa.comp,Pa.off,p.comp_off q]
 |_,_,_,.snd p,q=>by simp[Pa.comp,Pa.off,p.comp_off q];omega
 |_,_,_,.inn p,q=>by simp[Pa.comp,Pa.off,p.comp_off q]
 |_,_,_,.nd p,q=>by simp[Pa.comp,Pa.off,p.comp_off q]
 |_,_,_,.el j,.here=>by rfl
def Pa.get : {t u:TC}->Pa t u->t.den->u.den
 |_,_,.here,x=>x
 |_,_,.fst p,x=>p.get x.1
 |_,_,.snd p,x=>p.get x.2
 |_,_,.inn p,x=>p.get x
 |_,_,.nd p,x=>p.get (Nd.tup x)
 |_,_,@Pa.el _ s j,x=>List.getD (α:=s.den) x j.toNat s.dft
def Pa.put : {t u:TC}->Pa t u->t.den->u.den->t.den
 |_,_,.here,_,y=>y
 |_,_,.fst p,x,y=>(p.put x.1 y,x.2)
 |_,_,.snd p,x,y=>(x.1,p.put x.2 y)
 |_,_,.inn p,x,y=>p.put x y
 |_,_,.nd p,x,y=>Nd.of (p.put (Nd.tup x) y)
 |_,_,@Pa.el n s j,x,y=>bR (α:=s.den) n s.dft x j.toNat y
def Pa.needs : {t u:TC}->Pa t u->Option Bool
 |_,_,.here=>none
 |_,_,.fst p=>p.needs
 |_,_,.snd p=>p.needs
 |_,_,.inn p=>p.needs
 |_,_,.nd p=>p.needs
 |_,_,@Pa.el n _ j=>some (decide (0<=j/\j<n))
def Pa.fine{t u:TC}(p:Pa t u):Prop:=∀b,p.needs=some b->b=true
def nchk{R:Type}(ex:Option Bool)(b:Option Bool)(m:Option R):Option R:=match b with
 |none=>m
 |some b=>gchk ex b m
theorem aq.nchk{R:Type}{E:SE}{F:List AF}{k:Out->Option R}{ex:Option Bool}{b:Option Bool}{m:Option R}(h:(ga ex->∀c,b=some c->c=true)->aq ex P o E F n m k):aq ex P o E F n (nchk ex b m) k:=by
 cases b with
 |none=>exact h λ_ _ h=>by cases h
 |some c=>exact aq.gchk λa=>h λe d hd=>by grind
theorem DE{L:List HA}{K:List Nat}{h:Hd} : {t u:TC}->(p:Pa t u)->{v:t.den}->{x:Nat}->El L t.ty K v h x->p.fine->El L u.ty K (p.get v) h (x+p.off)
 |_,_,.here,v,x,c,_=>by simpa[Pa.off,Pa.get]using c
 |_,_,.fst (a:=a) (b:=b) p,v,x,c,hf=>by have d:=NP (t:=.pair a.ty b.ty) (.fst .here) c rfl rfl;exact DE p d hf
 |_,_,.snd (a:=a) (b:=b) p,v,x,c,hf=>by have d:=NP (t:=.pair a.ty b.ty) (.snd .here) c rfl rfl;have:=DE p d hf;simp only[Pth.off,afu,Pa.off]at this|-;rw[<-ajn];exact this
 |_,_,.inn p,v,x,c,hf=>DE p c hf
 |_,_,.nd p,v,x,c,hf=>by have d:=NP (t:=.node) (.nd .here) c rfl rfl;exact DE p d hf
 |_,_,.el j,v,x,c,hf=>at6 c (hf _ rfl)
theorem Uo(h:Hd)(x:Nat):∃b o,di h x=⟨b,o,none⟩:=by unfold di;split<;>exact⟨_,_,rfl⟩
def TC.fld:(u:TC)->(m n:Nat)->Option ((v:TC)×Pa u v)
 |.st a,0,1=>some ⟨a,.inn .here⟩
 |.node,0,4=>some ⟨.sc (.int .i64),.nd (.fst .here)⟩
 |.node,1,4=>some ⟨.sc .str,.nd (.snd (.fst .here))⟩
 |.node,2,4=>some ⟨.sc (.int .i64),.nd (.snd (.snd (.fst .here)))⟩
 |.node,3,4=>some ⟨.slice .node,.nd (.snd (.snd (.snd .here)))⟩
 |.pair a _,0,_+2=>some ⟨a,.fst .here⟩
 |.pair _ b,1,2=>some ⟨b,.snd .here⟩
 |.pair _ b,m+1,n+3=>match b.fld m (n+2)with
  |some ⟨v,p⟩=>some ⟨v,.snd p⟩
  |none=>none
 |_,_,_=>none
def TC.aggT:TC->Bool
 |.arr _ _=>true
 |.unit=>true
 |.pair _ _=>true
 |.st _=>true
 |.node=>true
 |_=>false
def rr(u:TC)(x:u.den)(n:Nat):AV:=match u,x with
 |.sc s,x=>.lf (.c s x)
 |.arr m s,x=>.lf (.ar m s x)
 |.unit,_=>.ag []
 |.pair a b,x=>.ag (jK (.pair a b) x n)
 |.st a,x=>.ag (jK a x n)
 |.slice _,_=>.lf (.sl n)
 |.ext k,x=>.lf (.xt k x)
 |.node,x=>.ag (jK .node x n)
 |.mp _ _,_=>.lf (.mp n)
def TC.isMp:TC->Bool
 |.mp _ _=>true
 |_=>false
theorem ud{u:TC}(d:u.aggT=true){x:u.den}{y:u.ty.Refs}{c:Vn}(h:fK c n (cF u y)):(rr u x n).val c=.agg (u.ty.fill x y).toArray:=by
 cases u with
 |arr m s=>rfl
 |unit=>rfl
 |pair a b=>simp only[rr,AV.val];rw[pm _ x y n h]
 |st a=>simp only[rr,AV.val];rw[pm a x y n h]
 |node=>simp only[rr,AV.val];rw[pm .node x y n h]
 |_=>cases d
theorem fK.set{b:Vn}{l:List Hd}:fK (b.set n l) n l:=λ_ _ a=>Vn.set_at a
section
variable {R:Type} {P:Program} {o:Oper} {E:SE} {F:List AF} {n:Nat} {Θ:Tb} {ex:Option Bool}
def aa0(Θ:Tb)(ex:Option Bool)(t:TypeId)(l:Lf)(i:Int)(F:List AF)(k:Out->Option R):Option R:=match Θ t with
 | some ⟨.slice e,_,_,_,_⟩=>match Θ e with
  | some a=>match l with
   | .sl h=>match lu a.tc h F with
    |some s=>bif Nat.beq a.sz a.tc.ty.sz then gbind ex a.tc.dft (ae s.xs i) λ_=>k (be (.lf (.rp h a.tc i a.tc .here)))else none
    |none=>match mY h F with
     |some (b,sz,lo,hi)=>bif Nat.beq a.sz a.tc.ty.sz&&Nat.beq sz a.sz then gchk ex (decide (0<=i/\i<hi-lo)) (k (be (.lf (.rp b a.tc (lo+i) a.tc .here))))else none
     |none=>none
   |_=>none
  |none=>none
 |_=>none
theorem Vx(a:Θ.ok P){l:Lf}(z:o.op=.indexAddr t x ix)(p:ev E x=some (.lf l))(q:ev E ix=some (fP ki i))(k:Out->Option R) :
  aq ex P o E F n (aa0 Θ ex t l i F k) k:=by
 unfold aa0;split
 ·rename_i e _ _ _ _ A;split
  ·rename_i g r;split
   ·rename_i h;split
    ·rename_i s hs;refine aq.bif λd=>aq.gbind λv H=>aq.of λm=>(dl.pure λb ρ f=>?_)
     have hl:iB g.tc F (.sl h)=some s:=hs;refine aZ.from (L':=.rep g.tc.ty s.all s.xs (b.h h)::F.map (AF.ha b)) ?_ (λw c j=>ao.cons (iq hl j) j);have:=axV (o:=o) (ρ:=ρ) (L:=.rep g.tc.ty s.all s.xs (b.h h)::F.map (AF.ha b)) 0 rfl z (a t _ A).2.1 (a e g r).1 (aK f p) (aK f q) (H m);simp only[AV.val,Lf.val,Pa.off,afu];simp_all
    ·split
     ·rename_i B sz lo hi D;refine aq.bif λd=>aq.gchk λC=>aq.of λm=>(dl.pure λb ρ f=>?_)
      simp only[abF]at d;have:=Dl (o:=o) (ρ:=ρ) (L:=F.map (AF.ha b)) (v:=b.h h) (u:=b.h B) (lo:=lo) (hi:=hi) (λw c j=>by rw[<-f9 d.2];exact j _ (acG.2 ⟨_,gD D,rfl⟩)) z (a t _ A).2.1 (a e g r).1 (aK f p) (aK f q) (C m);simp only[AV.val,Lf.val,Pa.off,afu];simp_all
     ·exact aq.none
   ·exact aq.none
  ·exact aq.none
 ·exact aq.none
def N6(Θ:Tb)(t:TypeId)(f:Nat)(l:Lf)(k:Out->Option R):Option R:=match Θ t with
 | some ⟨.st fs,_,_,_,_⟩=>match fs[f]? with
  | some (a,off)=>match Θ a with
   | some i=>bif Nat.beq i.sz 0 then none else match l with
    |.bp b o=>k (be (.lf (.bp b (o+off))))
    |.rp h te ix u p=>match u.fld f fs.length with
     |some ⟨v,q⟩=>bif Nat.beq q.off off then k (be (.lf (.rp h te ix v (p.comp q))))else none
     |none=>none
    |.gp g te ix u p=>match u.fld f fs.length with
     |some ⟨v,q⟩=>bif Nat.beq q.off off then k (be (.lf (.gp g te ix v (p.comp q))))else none
     |none=>none
    |_=>none
   |none=>none
  |none=>none
 |_=>none
theorem JE{b:Array Field}{fs:List (TypeId×Nat)}(d:b.toList.map (λf=>(f.type,f.offset))=fs){f:Nat}{c:TypeId}{off:Nat}(h:fs[f]?=some (c,off)):∃a,b[f]?=some a/\a.type=c/\a.offset=off:=by grind
theorem acb(r:Θ.ok P){f:Nat}{l:Lf}(z:o.op=.fieldAddr t x f)(s:ev E x=some (.lf l))(k:Out->Option R):aq ex P o E F n (N6 Θ t f l k) k:=by
 unfold N6;split
 ·rename_i fs _ _ _ _ L;split
  ·rename_i I off hf;split
   ·rename_i i hi;obtain⟨M,hs,J⟩:=(r t _ L).2.1;obtain⟨O,d,w,a⟩:=JE J hf;have c:=(r I i hi).1;rw[<-w]at c;cases A:Nat.beq i.sz 0
    ·simp only[ab7];split
     ·rename_i b H;refine aq.of λD=>(dl.pure λB ρ m=>?_)
      exact y8 z hs d c A a (aK m s)
     ·rename_i h te ix u p;split
      ·rename_i v q hq;refine aq.bif λe=>aq.of λD=>(dl.pure λB ρ m=>?_)
       have j:=aK m s;simp only[AV.val,Lf.val]at j|-;obtain⟨b,H,C⟩:=Uo (B.h h) (ix.toNat*te.ty.sz+p.off);rw[C]at j;rw[Pa.comp_off,f9 e,<-ajn,zF _ _ off b H C];exact y8 z hs d c A a j
      ·exact aq.none
     ·rename_i g te ix u p;split
      ·rename_i v q hq;refine aq.bif λe=>aq.of λD=>(dl.pure λB ρ m=>?_)
       have j:=aK m s;simp only[AV.val,Lf.val]at j|-;rw[Pa.comp_off,f9 e,<-ajn];exact y8 z hs d c A a j
      ·exact aq.none
     ·exact aq.none
    ·exact aq.none
   ·exact aq.none
  ·exact aq.none
 ·exact aq.none
def Wb(Θ:Tb)(ex:Option Bool)(t:TypeId)(l:Lf)(i:Int)(k:Out->Option R):Option R:=match Θ t with
 | some ⟨.arr m e,_,_,_,_⟩=>match Θ e with
  | some a=>bif Nat.beq a.sz 1 then match l with
   |.rp h te ix (.arr c s) p=>bif Nat.beq m c then gchk ex (decide (0<=i/\i<c)) (k (be (.lf (.rp h te ix (.sc s) (p.comp (.el i))))))else none
   |.bp b o=>match a.tc with
    |.sc s=>gchk ex (decide (0<=i/\i<m)) (k (be (.lf (.bq b o m s i))))
    |_=>none
   |_=>none
   else none
  |none=>none
 |_=>none
theorem abU{ρ:dm}{L:List HA}{e:TypeId}{m:Nat}{b g:Nat}{by_:Nat}{z:Value}(l:o.op=.indexAddr t x ix)(p:P.underlying t=some (.array m e))(hi:TI P e 1 by_ z)
  (q:aL ρ x=.pointer (some ⟨b,g,none⟩)) (f:aL ρ ix=.int ki i) (j:decide (0<=i/\i<m)=true):aZ P ρ o L (.pointer (some ⟨b,g+i.toNat,none⟩)):=λev w c k s=>by
 subst k;have a:=hi;clear hi;obtain⟨r,hi,_,hs,_⟩:=a.get;have d:0<=i/\i<m:=aex j;simp[execOp,l,q,f,Instr.indexAt,Instr.sureAddr,asIntOf,run_underlying p,sizeOf,typeInfo,hi,hs,d,eT,Result.andThen]
theorem ahG(c:Θ.ok P){l:Lf}(w:o.op=.indexAddr t x ix)(u:ev E x=some (.lf l))(v:ev E ix=some (fP ki i))(k:Out->Option R) :
  aq ex P o E F n (Wb Θ ex t l i k) k:=by
 unfold Wb;split
 ·rename_i m e _ _ _ _ A;split
  ·rename_i I D;refine aq.bif λj=>?_
   have a:=(c e I D).1;rw[f9 j]at a;split
   ·rename_i h te r J s p;refine aq.bif λH=>aq.gchk λg=>aq.of λq=>(dl.pure λC ρ d=>?_)
    obtain rfl:=f9 H;have f:=aK d u;simp only[AV.val,Lf.val]at f|-;obtain⟨b,B,z⟩:=Uo (C.h h) (r.toNat*te.ty.sz+p.off);rw[z]at f;rw[Pa.comp_off,<-ajn,zF _ _ _ b B z];exact abU w (c t _ A).2.1 a f (aK d v) (g q)
   ·rename_i b B;split
    ·refine aq.gchk λg=>aq.of λq=>(dl.pure λC ρ d=>?_)
     exact abU w (c t _ A).2.1 a (aK d u) (aK d v) (g q)
    ·exact aq.none
   ·exact aq.none
  ·exact aq.none
 ·exact aq.none
def Nv(Θ:Tb)(ex:Option Bool)(n:Nat)(t:TypeId)(h:Nat)(te:TC)(i:Int)(u:TC)(p:Pa te u)(F:List AF)(k:Out->Option R):Option R:=match Θ t,lu te h F with
 |some a,some s=>bif Nat.beq a.sz u.ty.sz&&Nat.ble u.nh 64&&(a.d.agg==u.aggT) && !u.isMp then nchk ex p.needs (gbind ex te.dft (ae s.xs i) λx=>k ⟨rr u (p.get x) n,vR u (p.get x) s.nk n,[]⟩)else none
 |_,_=>none
theorem atu{η:Vn}{te:TC}{s:SI te}(hs:lu te h F=some s){v:te.den}(e:ae s.xs i=some v):El (F.map (AF.ha η)) te.ty s.nk v (η.h h) (i.toNat*te.ty.sz):=λw c d=>by
 have f:=d _ (acG.2 ⟨_,f5 hs,rfl⟩);obtain⟨own,K,xs⟩:=s;cases own with
 |none=>exact Qw (L:=.rep te.ty K xs (η.h h)::F.map (AF.ha η)) 0 rfl rfl e w c (ao.cons f d)
 |some p=>
  have a:HA.holds w c (ep te.ty p.1 p.2 K xs (η.h h)):=f;show awt w c te.ty (SI.nk ⟨some p,K,xs⟩) v _;cases b:fk p.1
  ·rw[show SI.nk (t:=te) ⟨some p,K,xs⟩=K by simp[SI.nk,b]];rw[dK b]at a;exact avZ (L:=.own te.ty p.1 p.2 K xs (η.h h)::F.map (AF.ha η)) 0 rfl rfl e w c (ao.cons a d)
  ·rw[show SI.nk (t:=te) ⟨some p,K,xs⟩=p.2::K by simp[SI.nk,b]];rw[iT b]at a;exact Qw (L:=.rep te.ty (p.2::K) xs (η.h h)::F.map (AF.ha η)) 0 rfl rfl e w c (ao.cons (M9 a) d)
theorem acY(A:Θ.ok P){te:TC}{u:TC}{p:Pa te u}(f:o.op=.load t x)(I:ev E x=some (.lf (.rp h te i u p)))(k:Out->Option R) :
  aq ex P o E F n (Nv Θ ex n t h te i u p F k) k:=by
 unfold Nv;split
 ·rename_i B s hi hs;refine aq.bif λC=>aq.nchk λhf=>aq.gbind λv L=>aq.of λD η ρ J=>?_
  simp only[abF,aix,afm]at C;obtain⟨⟨⟨e,d⟩,w⟩,z⟩:=C;have e:=f9 e;have d:=abM d;obtain⟨q,H,_,_⟩:=A t B hi;obtain⟨Q,j,hd⟩:=nq H;rw[w]at hd;have c:=DE p (atu (η:=η) hs (L D)) (hf D);have g:aL ρ x=.pointer (some (di (η.h h) (i.toNat*te.ty.sz+p.off))):=aK J I;cases u with
  |sc M=>exact(aZ.op (xQ c f j hd g)).map (λ_=>⟨η,Vn.agr_refl n η⟩) (λ_=>rfl) (λ_=>rfl)
  |ext m=>exact(aZ.op (xQ c f j hd g)).map (λ_=>⟨η,Vn.agr_refl n η⟩) (λ_=>rfl) (λ_=>rfl)
  |slice O =>
   refine(Bl c f j hd g).map (λr=>⟨η.setH n r,η.setH_agr n r⟩) (λr=>?_) λr=>?_
   ·simp[rr,AV.val,Lf.val,Vn.setH_at]
   ·simp[vR,AF.ha,Vn.setH_at]
  |arr m M=>
   refine(fe c f j hd q e g).map (λy=>⟨η.set n (cF _ y),Vn.set_agr (by rw[dh];exact d)⟩) (λy=>?_) λy=>?_
   ·rfl
   rfl
  |unit=>
   refine(fe c f j hd q e g).map (λy=>⟨η.set n (cF _ y),Vn.set_agr (by rw[dh];exact d)⟩) (λy=>?_) λy=>?_
   ·rfl
   rfl
  |st a=>
   refine(fe c f j hd q e g).map (λy=>⟨η.set n (cF a y),Vn.set_agr (by rw[dh];exact d)⟩) (λy=>?_) λy=>?_
   ·exact(ud (u:=.st a) rfl (fK.set (l:=cF a y))).symm
   ·exact(sP a _ y n fK.set).symm
  |pair a b=>
   refine(fe c f j hd q e g).map (λy=>⟨η.set n (cF _ y),Vn.set_agr (by rw[dh];exact d)⟩) (λy=>?_) λy=>?_
   ·exact(ud (u:=.pair a b) rfl fK.set).symm
   ·exact(sP (.pair a b) _ y n fK.set).symm
  |node=>
   refine(fe c f j hd q e g).map (λy=>⟨η.set n (cF .node y),Vn.set_agr (by rw[dh];exact d)⟩) (λy=>?_) λy=>?_
   ·exact(ud (u:=.node) rfl (fK.set (l:=cF .node y))).symm
   ·exact(sP .node _ y n fK.set).symm
  |mp _ _=>cases z
 ·exact aq.none
theorem aqG{η:Vn}{u:TC}{ls:List Lf}{y:u.den}{l:List Lf}(hd:bV F u ls=some (y,l,Kd,[]))(g:∀k∈Kd,k∈K)(a:ww ls=true)(v:u.den):pY (F.map (AF.ha η)) K u.ty v 0 (aw η ls) y:=by
 intro w c f r j;obtain⟨d,b⟩:=dO (η:=η) u hd;simp only[aw,ad0]at d;have e:(aw η ls).length=u.ty.sz:=by rw[d];exact u.ty.fill_length _ _
 refine⟨aO u (aT η l),b w c K f g,by omega,?_,oh a⟩;rw[ahj,ae4,ahw,afc (by rw[u.ty.fill_length];omega),ad0,d]
theorem aiv{A:HA}{b:Vn}{u:TC}{ls:List Lf}{y:u.den}{l:List Lf}(hd:bV F u ls=some (y,l,Kd,[]))(f:∀k∈Kd,k∈K)(a:ww ls=true)(v:u.den):pY (A::F.map (AF.ha b)) K u.ty v 0 (aw b ls) y:=
 λw c e r g=>aqG hd f a v w c (λB d=>e B (abJ _ d)) r g
def scV(u:TC)(z:u.den):Value:=match u,z with
 |.sc s,z=>s.val z
 |_,_=>undef
theorem BW{L:List HA}{K:List Nat}{new:List Value} : {t u:TC}->(p:Pa t u)->{v:t.den}->{y:u.den}->pY L K u.ty (p.get v) 0 new y->p.fine ->
  (∀s,u=.sc s->new=[scV u y])->pY L K t.ty v p.off new (p.put v y)
 |_,_,.here,v,y,h,_,_=>h
 |_,_,.fst p,v,y,h,hf,hs=>aqe (BW p h hf hs)
 |_,_,.snd p,v,y,h,hf,hs=>asC (BW p h hf hs) rfl
 |_,_,.inn p,v,y,h,hf,hs=>BW p h hf hs
 |_,_,.nd p,v,y,h,hf,hs=>auc (BW p h hf hs)
 |_,_,@Pa.el n s j,v,y,h,hf,hs=>by have a:=hs s rfl;subst a;exact aro (hf _ rfl)
def uv(K Kd:List Nat):List Nat:=bif Kd.all (λk=>K.any λj=>Nat.beq k j)then K else K++Kd
theorem art:∀k∈K,k∈uv K Kd:=λk a=>by unfold uv;grind
theorem arV:∀k∈Kd,k∈uv K Kd:=λk a=>by
 unfold uv;cases h:Kd.all (λk=>K.any λj=>Nat.beq k j)
 ·grind
 simp_all
def Hv(Θ:Tb)(ex:Option Bool)(t:TypeId)(h:Nat)(te:TC)(i:Int)(u:TC)(p:Pa te u)(v:AV)(F:List AF)(k:Out->Option R):Option R:=match Θ t,lu te h F,v.lvs with
 |some a,some ⟨some (e,ci),K,xs⟩,some ls=>match bV F u ls with
  | some (y,_,Kd,[])=>bif Nat.beq a.sz u.ty.sz&&(uv K Kd).all (λk=>!(Nat.beq k ci)) && !(fk e)then
    nchk ex p.needs (gbind ex te.dft (ae xs i) λx=>k ⟨.lf (.v undef),[.own te e ci (uv K Kd) (xs.set i.toNat (p.put x y)) h],[ci]⟩)else none
  |_=>none
 |_,_,_=>none
theorem V3{s:SC}{ls:List Lf}{y:s.den}{l:List Lf}(h:bV F (.sc s) ls=some (y,l,K,[]))(η:Vn):aw η ls=[s.val y]:=by have:=(dO (η:=η) (.sc s) h).1;simpa[aw,Ty.fill]using this
theorem Zy(r:Θ.ok P){z:Operand}{te:TC}{u:TC}{p:Pa te u}{v:AV}(T:o.op=.store t x z)(M:ev E x=some (.lf (.rp h te i u p)))(O:ev E z=some v)(k:Out->Option R) :
  aq ex P o E F n (Hv Θ ex t h te i u p v F k) k:=by
 unfold Hv;split
 ·rename_i A e ci K xs ls hi hs hl;split
  ·rename_i y l Kd hd;refine aq.bif λD=>aq.nchk λhf=>aq.gbind λd j=>aq.of λI η ρ B=>?_
   simp only[abF]at D;obtain⟨⟨g,Q⟩,a⟩:=D;have a:=u0 a;have g:=f9 g;obtain⟨J,_⟩:=r t A hi;have q:∀w c,ao w c (F.map (AF.ha η))->ao w c (.own te.ty e ci (uv K Kd) xs (η.h h)::F.map (AF.ha η)):=λw c C=>by have b:HA.holds w c (ep te.ty e ci K xs (η.h h)):=C _ (acG.2 ⟨_,f5 hs,rfl⟩);rw[dK a]at b;obtain⟨ys,U,V,W⟩:=b;exact ao.cons ⟨ys,U.mono (bH.keep (λ_ _ S=>⟨art _ S,rfl⟩) te.ty),V,W⟩ C
   have f:pY (.own te.ty e ci (uv K Kd) xs (η.h h)::F.map (AF.ha η)) (uv K Kd) te.ty d p.off (aw η ls) (p.put d y):=by refine BW p (aiv hd arV (AV.lvs_one hl) _) (hf I) ?_;intro s m;subst m;exact V3 hd η
   have H:(aw η ls).length=u.ty.sz:=by have:=(dO (η:=η) u hd).1;rw[this];simp[aw,u.ty.fill_length]
   refine((Oj (L:=.own te.ty e ci (uv K Kd) xs (η.h h)::F.map (AF.ha η)) 0 rfl T J (aK B M) rfl rfl (j I) (aK B O) (v.lvs_cells hl η) (by grind) f Q).from q).map (λ_=>⟨η,Vn.agr_refl n η⟩) (λ_=>rfl) (λ_=>by simp[AF.ha,dK a])
  ·exact aq.none
 ·exact aq.none
end
end
section
variable [X:XTab] [G:GTab] [Yc:GCx]
section
variable {R:Type} {P:Program} {o:Oper} {E:SE} {F:List AF} {n:Nat} {Θ:Tb} {ex:Option Bool}
def aaj(Θ:Tb)(t:TypeId)(v:AV)(F:List AF)(k:Out->Option R):Option R:=match Θ t with
 | some ⟨.slice e,_,_,_,_⟩=>match Θ e,v with
  | some a,.lf l=>match iB a.tc F l with
   |some s=>k (be (fP .i64 s.xs.length))
   | none=>match l with
    |.sl h=>match mY h F with
     |some (_,_,lo,hi)=>k (be (fP .i64 (hi-lo)))
     |none=>none
    |_=>none
  |_,_=>none
 |some ⟨.str,_,_,_,_⟩=>match v with
  |.lf (.c .str x)=>k (be (fP .i64 x.length))
  |_=>none
 |_=>none
theorem ac5{ρ:dm}{L:List HA}{s:List UInt8}(b:o.op=.call { callee:=.builtin .len,args:=#[x],argTypes:=#[t]})(d:P.underlying t=some .string)(e:aL ρ x=.string ⟨s.toArray⟩) :
  aZ P ρ o L (.int .i64 s.length):=λev w c a _=>by
 subst a;have hs:(ByteArray.mk s.toArray).size=s.length:=by rfl
 simp[execOp,b,e,resolve,invoke,builtin,Builtin.len_,run_underlying d,goInt,Result.andThen];grind
theorem UB(b:Θ.ok P){v:AV}(q:o.op=.call { callee:=.builtin .len,args:=#[x],argTypes:=#[t]})(j:ev E x=some v)(k:Out->Option R):aq ex P o E F n (aaj Θ t v F k) k:=by
 unfold aaj;split
 ·rename_i e _ _ _ _ g;split
  ·rename_i C l D;split
   ·rename_i s hs;refine aq.of λu=>(dl.pure λa ρ d=>?_)
    refine aZ.from (L':=.rep C.tc.ty s.all s.xs (l.hd a)::F.map (AF.ha a)) ?_ (λw c f=>ao.cons (iq hs f) f);have m:=aK d j;simp only[AV.val]at m|-;rw[(qh hs a).1]at m;exact adl 0 rfl q (b t _ g).2.1 m
   ·split
    ·rename_i h _;split
     ·rename_i z sz lo hi B;refine aq.of λu=>(dl.pure λa ρ d ev w c p f=>?_)
      have r:lm (a.h h) (a.h z) sz lo hi:=f _ (acG.2 ⟨_,gD B,rfl⟩);have A:=MX (L:=F.map (AF.ha a)) q (b t _ g).2.1 (aK d j) ev w c p f;rw[A];simp only[AV.val,Lf.val,r.2.1]
     ·exact aq.none
    ·exact aq.none
  ·exact aq.none
 ·rename_i _ _ _ _ g;split
  ·refine aq.of λu=>(dl.pure λa ρ d=>?_)
   exact ac5 q (b t _ g).2.1 (aK d j)
  ·exact aq.none
 ·exact aq.none
def aeD(Θ:Tb)(ex:Option Bool)(n N:Nat)(t:TypeId)(v1 f:AV)(F:List AF)(k:Out->Option R):Option R:=match Θ t with
 | some ⟨.slice e,_,_,_,_⟩=>match Θ e,v1,f with
  |some a,.lf c,.lf d=>match fY a.tc e N F c,iB a.tc F d with
   | some (ci,K,xs),some b=>bif Nat.beq a.sz a.tc.ty.sz&&Nat.ble 1 a.sz&&Nat.beq (zsz a.zl) a.sz&&Nat.ble 2 ci&&Nat.blt e 1048576&&(bif a.tc.ty.pureB then true else(K++b.all).all (λk=>!(Nat.beq k ci)))then
     gchk ex (aN xs.length b.xs.length a.by_) (k ⟨.lf (.sl n),[.own a.tc e ci (bif a.tc.ty.pureB then K else K++b.all) (xs++b.xs) n],[ci]⟩)else none
   |_,_=>none
  |_,_,_=>none
 |_=>none
theorem aqs(d:Θ.ok P){v1 U:AV}(M:o.op=.call { callee:=.builtin .append,args:=#[x,y],argTypes:=#[t,t]})(V:ev E x=some v1)(W:ev E y=some U)(k:Out->Option R) :
  aq ex P o E F n (aeD Θ ex n N t v1 U F k) k:=by
 unfold aeD;split
 ·rename_i e _ _ _ _ S;split
  ·rename_i f B C A;split
   ·rename_i ci K xs l q r;refine aq.bif λJ=>aq.gchk λQ=>aq.of λT a ρ H=>?_
    simp only[abF]at J;obtain⟨⟨⟨⟨⟨s,D⟩,j⟩,p⟩,b⟩,I⟩:=J;rw[<-(d e f A).zsz]at j;have u:=aK H V;have v:=aK H W;simp only[AV.val]at u v;rw[pM q a]at u;rw[(qh r a).1]at v;have m:∀w c,ao w c (F.map (AF.ha a))->ao w c (.own f.tc.ty e ci K xs (B.hd a)::.rep f.tc.ty l.all l.xs (C.hd a)::F.map (AF.ha a)):=λw c z=>
     ao.cons (by have:=eO q z;rwa [dK (fF b)]at this) (ao.cons (iq r z) z)
    cases O:f.tc.ty.pureB
    ·rw[O,ab7]at I;have:=(adp (o:=o) (ρ:=ρ) (L:=.own f.tc.ty e ci K xs (B.hd a)::.rep f.tc.ty l.all l.xs (C.hd a)::F.map (AF.ha a)) 0 1 rfl _ rfl yC M (d t _ S).2.1 (d e f A).1 (f9 s) j D u v (Q T) p I rfl b).from m;refine this.map (λg=>⟨a.setH n g,a.setH_agr n g⟩) (λg=>?_) λg=>?_
     ·simp[AV.val,Lf.val,Vn.setH_at]
     ·simp[AF.ha,Vn.setH_at,dK (fF b)]
    ·have:=(D8 (o:=o) (ρ:=ρ) (L:=.own f.tc.ty e ci K xs (B.hd a)::.rep f.tc.ty l.all l.xs (C.hd a)::F.map (AF.ha a)) O 0 1 rfl _ rfl yC M (d t _ S).2.1 (d e f A).1 (f9 s) j D u v (Q T) p b).from m;refine this.map (λg=>⟨a.setH n g,a.setH_agr n g⟩) (λg=>?_) λg=>?_
     ·simp[AV.val,Lf.val,Vn.setH_at]
     ·simp[AF.ha,Vn.setH_at,dK (fF b)]
   ·exact aq.none
  ·exact aq.none
 ·exact aq.none
theorem pU.append{L:List HA}:∀{l a:List HA},pU L l->pU L a->pU L (l++a)
 |[],_,_,h=>h
 |_::_,_,⟨b,c⟩,h=>⟨b,c.append h⟩
theorem AB{L:List HA}{η:Vn}{f:List Nat}:∀(t:TC) {ls:List Lf} {z:t.den} {l:List Lf} {K:List Nat} {r:List Lf},bV [] t ls=some (z,l,K,r)->pU L (facts t.ty f z (aO t (aT η l)))
 |.sc _,_,_,_,_,_,_=>trivial
 |.arr _ _,_,_,_,_,_,_=>trivial
 |.unit,_,_,_,_,_,_=>trivial
 |.ext _,_,_,_,_,_,_=>trivial
 |.st t,_,_,_,_,_,h=>AB (η:=η) t h
 |.slice t,[],_,_,_,_,h=>by simp[bV]at h
 | .slice t,a::ls,z,l,K,r,h=>by
  simp only[bV]at h;split at h
  ·rename_i s hs;simp only[no,acW]at h;obtain⟨rfl,rfl,rfl,rfl⟩:=h;cases a with
   |sl m=>simp[iB,lu]at hs
   |nl=>
    simp only[iB,no]at hs;subst hs;exact⟨.inr tL,trivial⟩
   |_=>simp[iB]at hs
  ·cases h
 | .pair a b,ls,z,l,K,r,h=>by
  simp only[bV]at h;split at h
  ·rename_i B c q r1 e;split at h
   ·rename_i C d K2 A p;simp only[no,acW]at h;obtain⟨rfl,rfl,rfl,rfl⟩:=h;have w:(aT η c).length=a.nh:=by simp[aT,eL a e]
    have g:aO a (aT η (c++d))=aO a (aT η c):=by grind[aT,dZ]
    have j:aO b ((aT η (c++d)).drop a.nh)=aO b (aT η d):=by grind[aT]
    simp only[facts,aO];rw[g,j];exact(AB a e).append (AB b p)
   ·cases h
  ·cases h
 | .node,ls,z,l,K,r,h=>by
  obtain⟨k,tx,m,a,s,rfl,hs,rfl,rfl,rfl⟩:=CI (show HD [] ls=_ from h);cases a with
  |sl m=>simp[iB,lu]at hs
  |nl=>
   simp only[iB,no]at hs;subst hs;exact⟨.inr tL,trivial⟩
  |_=>simp[iB]at hs
 | .mp k v,ls,z,l,K,r,h=>by
  cases ls with
  |nil=>simp[bV]at h
  | cons a ls=>
   cases a with
   |mp u=>
    simp only[bV,no,acW]at h;obtain⟨rfl,rfl,rfl,rfl⟩:=h;exact trivial
   |_=>simp[bV]at h
def GX:Operand->Operand->Bool
 |.tmp a,.tmp b=>Nat.beq a b
 |.const (.int _ a),.const (.int _ b)=>a==b
 |_,_=>false
def W7(Θ:Tb)(ex:Option Bool)(n N:Nat)(t:TypeId)(x y:Operand)(v1 c:AV)(k:Out->Option R):Option R:=match Θ t,v1,c with
 | some ⟨.slice e,_,_,_,_⟩,.lf (.c (.int _) a),.lf (.c (.int _) _)=>match Θ e with
  |some b=>match bV [] b.tc b.zl with
   |some (z,_,_,[])=>bif Nat.beq b.sz b.tc.ty.sz&&Nat.ble 2 N&&GX x y&&Nat.blt e 1048576 then
      gchk ex (decide (0<=a/\a*b.by_<=281474976710656/\a<=maxLen)) (k ⟨.lf (.sl n),[.own b.tc e N [] (List.replicate a.toNat z) n],[]⟩)else none
   |_=>none
  |none=>none
 |_,_,_=>none
theorem ahM(f:Θ.ok P){v1 C:AV}(O:o.op=.makeSlice t x y)(H:ev E x=some v1)(I:ev E y=some C)(k:Out->Option R):aq ex P o E F n (W7 Θ ex n N t x y v1 C k) k:=by
 unfold W7;split
 ·rename_i e _ _ _ _ W a Y b Q;split
  ·rename_i j M;split
   ·rename_i z l T B;refine aq.bif λA=>aq.gchk λL=>aq.of λS η ρ w=>?_
    simp only[abF]at A;obtain⟨⟨⟨u,J⟩,d⟩,s⟩:=A;have m:=aK w H;have p:=aK w I;simp only[AV.val,Lf.val]at m p;have q:b=a:=by
     unfold GX at d;split at d
     ·simp_all
     ·simp only[aL,Value.int.injEq]at m p;grind
     ·cases d
    subst q;obtain⟨D,_,U,V⟩:=f e j M;have c:=(dO (η:=η) j.tc B).1;simp only[aw,ad0]at c;refine(BD (K:=[]) O (f t _ Q).2.1 D (f9 u) (v:=z) (r:=aO j.tc (aT η l)) ?_ (AB j.tc B) m p (L S) J).map (λg=>⟨η.setH n g,η.setH_agr n g⟩) (λg=>?_) λg=>?_
    ·grind
    ·simp[AV.val,Lf.val,Vn.setH_at]
    ·simp[AF.ha,Vn.setH_at,dK (fF s)]
   ·exact aq.none
  ·exact aq.none
 ·exact aq.none
def yD(place:Nat->Option (Nat×Nat))(ls:List Lf):List (Nat×List Lf)->Option (List Lf)
 |[]=>some ls
 | (i,new)::rest=>match place i with
  |none=>none
  |some (off,size)=>match cut off size ls,lj new size with
   |some (a,_,r),some (_,[])=>yD place (a++new++r) rest
   |_,_=>none
theorem wZ{place:Nat->Option (Nat×Nat)}{η:Vn}:∀{vals:List (Nat×List Lf)} {ls b:List Lf},yD place ls vals=some b->pS place (aw η ls) (vals.map λp=>(p.1,aw η p.2))=some (aw η b)
 |[],ls,b,h=>by simp only[yD,no]at h;subst h;rfl
 | (i,new)::rest,ls,b,h=>by
  simp only[yD]at h;cases f:place i with
  |none=>grind
  | some os=>
   obtain⟨off,size⟩:=os;rw[f]at h;simp only at h;split at h
   ·rename_i a m r q k hs;obtain⟨e,hl⟩:=zS k;obtain⟨l,s⟩:=hl η;obtain⟨d,c⟩:=hU hs;rw[ad0]at d;subst d;have c:=c η;have g:=wZ (η:=η) h;simp only[aev,pS,f];have j:(Nat.beq (aw η new).length size&&Nat.ble (off+(aw η new).length) (aw η ls).length)=true:=by
     rw[abF];refine⟨by simp[c],aeo ?_⟩;rw[e,ba,ba];grind
    rw[j,abv];rw[ba,ba]at g;rw[<-g];congr 2
    ·grind[aw,ba,List.append_assoc,List.take_append,List.take_of_length_le]
    grind[aw,ba,List.append_assoc,List.drop_append,List.drop_eq_nil_of_le]
   ·cases h
def uV(E:SE):List (Nat×Operand)->Option (List (Nat×List Lf))
 |[]=>some []
 | (i,x)::r=>match ev E x with
  |some v=>match v.lvs,uV E r with
   |some ls,some l=>some ((i,ls)::l)
   |_,_=>none
  |none=>none
theorem oS{η:Vn}{ρ:dm}(a:mH η ρ E):∀{ps:List (Nat×Operand)} {l:List (Nat×List Lf)},uV E ps=some l->ps.map (λp=>(p.1,(aL ρ p.2).cells.toList))=l.map λp=>(p.1,aw η p.2)
 |[],l,h=>by simp only[uV,no]at h;subst h;rfl
 | (i,x)::r,l,h=>by
  simp only[uV]at h;split at h
  ·rename_i v c;split at h
   ·rename_i ls d hl b;simp only[no]at h;subst h;simp only[aev,oS a b,aK a c,v.lvs_cells hl η]
   ·cases h
  ·cases h
def plF(Θ:Tb):List (TypeId×Nat)->Option (List (Nat×Nat))
 |[]=>some []
 |(t,off)::r=>match Θ t,plF Θ r with
  |some i,some l=>some ((off,i.sz)::l)
  |_,_=>none
theorem acR(a:Θ.ok P):∀{b:List Field} {l:List (Nat×Nat)},plF Θ (b.map λf=>(f.type,f.offset))=some l->Xb P b l
 |[],l,h=>by simp only[ahd,plF,no]at h;subst h;trivial
 |f::r,l,h=>by
  simp only[aev,plF]at h;split at h
  ·rename_i i d hi c;simp only[no]at h;subst h;exact⟨rfl,⟨_,_,(a _ _ hi).1⟩,acR a c⟩
  ·cases h
def wY{s:SC}(m:Nat):List s.den->List (Nat×List Lf)->Option (List s.den)
 |xs,[]=>some xs
 |xs,(i,[.c a v])::r=>if h:a=s then bif Nat.blt i m then wY m (xs.set i (FP h v)) r else none else none
 |_,_=>none
theorem Jl{s:SC}{m:Nat}{η:Vn}:∀{vals:List (Nat×List Lf)} {xs ys:List s.den},wY m xs vals=some ys->xs.length=m->pS (λj=>some (j*1,1)) ((TC.arr m s).ty.fill xs ()) (vals.map λp=>(p.1,aw η p.2))=some ((TC.arr m s).ty.fill ys ())
 |[],xs,ys,h,_=>by simp only[wY,no]at h;subst h;rfl
 | (i,ls)::r,xs,ys,h,hl=>by
  cases ls with
  |nil=>simp[wY]at h
  | cons a ls=>
   cases ls with
   |cons _ _=>cases a<;>simp[wY]at h
   | nil=>
    cases a<;>simp only[wY]at h<;>try cases h
    split at h
    ·rename_i e;subst e;rename_i sc v;cases c:Nat.blt i m
     ·grind
     ·rw[c]at h;simp only[abv]at h;have hi:i<m:=abM c;have f:=Jl (η:=η) h (by simpa using hl);simp only[aev,pS,aw,Lf.cells,ad0,adC];have b:(Nat.beq 1 1&&Nat.ble (i*1+1) ((TC.arr m sc).ty.fill xs ()).length)=true:=by
       rw[abF];refine⟨rfl,aeo ?_⟩;rw[Ty.fill_length];grind
      rw[b,abv,<-f];congr 1;apply afQ;intro j;simp only[Ty.fill,FP,akU,acA,afi,afN,aks,adC];rw[ahv,afn (show i<=m by omega)];by_cases d:j<i
      ·grind
      ·by_cases c2:j=i
       ·grind
       ·simp only[d,show¬j<i+1 by omega,aeU,afS,show i+1+(j-(i+1))=j by omega];by_cases c3:j<m
        ·grind
        ·simp[c3]
    ·cases h
def RS(Θ:Tb)(E:SE)(t:TypeId)(ps:Array (Nat×Operand))(k:Out->Option R):Option R:=match Θ t,uV E ps.toList with
 | some ⟨.st fs,_,_,zl,_⟩,some vals=>match plF Θ fs with
  |some c=>match yD (λj=>c[j]?) zl vals with
   |some ls=>k (be (.ag ls))
   |none=>none
  |none=>none
 | some ⟨.arr m e,_,_,[.ar b s z],_⟩,some vals=>match Θ e with
  |some a=>match wY m (List.replicate m s.dft) vals with
   |some ys=>bif Nat.beq m b&&z.isEmpty&&Nat.beq a.sz 1 then k (be (.lf (.ar m s ys)))else none
   |none=>none
  |none=>none
 |_,_=>none
theorem acL(a:Θ.ok P){ps:Array (Nat×Operand)}(B:o.op=.build t ps)(k:Out->Option R):aq ex P o E F n (RS Θ E t ps k) k:=by
 unfold RS;split
 ·rename_i fs _ _ zl _ vals q j;split
  ·rename_i S l;split
   ·rename_i ls g;refine aq.of λI=>(dl.pure λη ρ f=>?_)
    obtain⟨c,⟨M,d,C⟩,v,w⟩:=a t _ q;subst C;refine Iy B d c (acR a l) (oS f j) ?_;have:=wZ (η:=η) g;grind
   ·exact aq.none
  ·exact aq.none
 ·rename_i m e _ _ Q s z _ vals q j;split
  ·rename_i L D;split
   ·rename_i ys r;refine aq.bif λA=>aq.of λI=>(dl.pure λη ρ f=>?_)
    simp only[abF]at A;obtain⟨⟨H,J⟩,p⟩:=A;obtain rfl:=f9 H;obtain⟨c,d,v,w⟩:=a t _ q;have b:=(a e L D).1;rw[f9 p]at b;refine JN B d c b (oS f j) ?_;have:=Jl (η:=η) r (by simp);rw[v,<-w η];have u:z=[]:=List.isEmpty_iff.1 J;subst u;have O:aw η [Lf.ar m s []]=(TC.arr m s).ty.fill (List.replicate m s.dft) ():=by simp only[aw,Lf.cells,ad0,Ty.fill];simp_all
    grind
   ·exact aq.none
  ·exact aq.none
 ·exact aq.none
end
end
section
variable [X:XTab] [G:GTab] [Yc:GCx]
section
variable {R:Type} {P:Program} {o:Oper} {E:SE} {F:List AF} {n:Nat} {Θ:Tb} {ex:Option Bool}
def Ie(Θ:Tb)(t:TypeId)(f:Nat)(v:AV)(k:Out->Option R):Option R:=match Θ t,v with
 | some ⟨.st fs,_,_,_,_⟩,.ag ls=>match fs[f]? with
  | some (a,off)=>match Θ a with
   | some i=>match cut off i.sz ls with
    |some (_,m,_)=>match Ja i.d.agg m with
     |some u=>k (be u)
     |none=>none
    |none=>none
   |none=>none
  |none=>none
 |_,_=>none
theorem adn{off sz:Nat}{cs a m r:List Lf}(h:cut off sz cs=some (a,m,r))(b:Vn):((aw b cs).drop off).take sz=aw b m/\(aw b m).length=sz:=by
 obtain⟨e,hl⟩:=zS h;obtain⟨d,c⟩:=hl b;refine⟨?_,c⟩;rw[e,ba,ba,aeh,afr,afc (by omega),show off-(aw b a).length=0 by omega,agY,ae4,af4,aeQ (by omega),
  show sz-(aw b m).length=0 by omega,ahj,ad0]
theorem Xd(d:Θ.ok P){f:Nat}{v:AV}(M:o.op=.field t x f)(D:ev E x=some v)(k:Out->Option R):aq ex P o E F n (Ie Θ t f v k) k:=by
 unfold Ie;split
 ·rename_i fs _ _ _ _ ls O;split
  ·rename_i A off hf;split
   ·rename_i i hi;split
    ·rename_i a m r J;split
     ·rename_i u z;refine aq.of λU=>(dl.pure λe ρ I=>?_)
      obtain⟨S,hs,L⟩:=(d t _ O).2.1;obtain⟨T,j,p,w⟩:=JE L hf;obtain⟨B,C,_,_⟩:=d A i hi;obtain⟨V,c,hd⟩:=nq C;rw[<-p]at B c;obtain⟨b,Q⟩:=adn J e;have s:=aK I D;simp only[AV.val]at s;cases g:i.d.agg
      ·rw[g]at z hd;obtain⟨l,rfl,rfl,q⟩:=Dv z e;refine agt M hs j c hd s ?_;have H:aw e [l]=[(AV.lf l).val e]:=by simp[aw,q]
       rw[H]at b Q;have:=aei (·[0]?) b;grind
      grind[DB,afw]
     ·exact aq.none
    ·exact aq.none
   ·exact aq.none
  ·exact aq.none
 ·exact aq.none
def Hw(Θ:Tb)(ex:Option Bool)(t:TypeId)(v:AV)(i:Int)(k:Out->Option R):Option R:=match Θ t,v with
 |some ⟨.str,_,_,_,_⟩,.lf (.c .str s)=>gbind ex 0 (ae s i) λb=>k (be (fP .u8 (b.toNat:Int)))
 |some ⟨.arr m e,_,_,_,_⟩,.lf (.ar c s x)=>match Θ e with
  |some a=>bif Nat.beq a.sz 1&&Nat.beq m c && !a.d.agg then gchk ex (decide (0<=i/\i<c)) (k (be (.lf (.c s (List.getD (α:=s.den) x i.toNat s.dft)))))else none
  |none=>none
 |_,_=>none
theorem YN(a:Θ.ok P){v:AV}(z:o.op=.index t x y)(r:ev E x=some v)(u:ev E y=some (fP ki i))(k:Out->Option R):aq ex P o E F n (Hw Θ ex t v i k) k:=by
 unfold Hw;split
 ·rename_i _ _ _ _ s j;exact aq.gbind λb f=>aq.of λp=>(dl.pure λH ρ c=>SZ z (a t _ j).2.1 (aK c r) (aK c u) (f p))
 ·rename_i m e _ _ _ _ I s xs j;split
  ·rename_i D B;refine aq.bif λw=>aq.gchk λf=>aq.of λp=>(dl.pure λH ρ c=>?_)
   simp only[abF,afm]at w;obtain⟨⟨g,C⟩,d⟩:=w;obtain rfl:=f9 C;obtain⟨q,A,_,_⟩:=a e D B;obtain⟨J,l,hd⟩:=nq A;rw[d]at hd;rw[f9 g]at q;exact Tc z (a t _ j).2.1 l hd q (aK c r) (aK c u) (f p)
  ·exact aq.none
 ·exact aq.none
def EG(v:AV)(i:Nat)(k:Out->Option R):Option R:=match v with
 |.tu vs=>match vs[i]? with
  |some u=>k (be u)
  |none=>none
 |_=>none
theorem Nq{a:Vn}:∀{vs:List AV} {i:Nat} {u:AV},vs[i]?=some u->(AV.vals a vs)[i]?=some (u.val a)
 |[],_,_,h=>by simp at h
 |v::r,0,u,h=>by simp at h;subst h;simp[AV.vals]
 |v::r,i+1,u,h=>by simp at h;simp[AV.vals,Nq h]
theorem Tr{i:Nat}{v:AV}(d:o.op=.extract x i)(a:ev E x=some v)(k:Out->Option R):aq ex P o E F n (EG v i k) k:=by
 unfold EG;split
 ·rename_i vs;split
  ·rename_i u e;refine aq.of λf=>(dl.pure λg ρ b=>?_)
   have c:=aK b a;grind[AV.val,abY,Nq]
  ·exact aq.none
 ·exact aq.none
def ZR(Θ:Tb)(s d:TypeId)(v:AV)(k:Out->Option R):Option R:=match Θ s,Θ d,v with
 |some ⟨.int _,_,_,_,_⟩,some ⟨.int kd,_,_,_,_⟩,.lf (.c (.int _) a)=>k (be (fP kd (w_ kd a)))
 |some ⟨.str,_,_,_,_⟩,some ⟨.str,_,_,_,_⟩,.lf (.c .str a)=>k (be (zV a))
 |_,_,_=>none
theorem aiT(b:Θ.ok P){s d:TypeId}{v:AV}(m:o.op=.convert s d x)(j:ev E x=some v)(k:Out->Option R):aq ex P o E F n (ZR Θ s d v k) k:=by
 unfold ZR;split
 ·rename_i z _ _ _ _ kd _ _ _ _ u a hs hd;refine aq.of λq=>(dl.pure λr ρ e=>?_)
  simp only[AV.val,Lf.val,Wr];exact avf m (b s _ hs).2.1 (b d _ hd).2.1 (aK e j)
 ·rename_i _ _ _ _ _ _ _ _ a hs hd;refine aq.of λq=>(dl.pure λr ρ e ev w c p _=>?_)
  have g:=(b s _ hs).2.1;have f:=(b d _ hd).2.1;have l:=aK e j;subst p;simp only[AV.val,Lf.val]at l|-;simp[execOp,m,l,convert,run_underlying g,run_underlying f,Result.andThen]
 ·exact aq.none
def sUn(op:UnOp)(v:AV)(k:Out->Option R):Option R:=match op,v with
 |.not,.lf (.c .bool b)=>k (be (eS (!b)))
 |.neg,.lf (.c (.int c) a)=>k (be (fP c (w_ c (0-a))))
 |.xor,.lf (.c (.int c) a)=>k (be (fP c (bc .xor c (if c.signed then -1 else c.max) a)))
 |_,_=>none
theorem auK{op:UnOp}{v:AV}(d:o.op=.unOp op t x)(b:ev E x=some v)(k:Out->Option R):aq ex P o E F n (sUn op v k) k:=by
 unfold sUn;split
 ·exact aq.of λe=>(dl.pure λf ρ a=>axt d (aK a b))
 ·refine aq.of λe=>(dl.pure λf ρ a=>?_)
  simp only[AV.val,Lf.val,Wr];exact axX d (aK a b)
 ·refine aq.of λe=>(dl.pure λf ρ a ev w c g _=>?_)
  have h:=aK a b;simp only[AV.val,Lf.val]at h|-;subst g;simp[execOp,d,h,Op.unary,Op.intBits,bc,Result.andThen]
 ·exact aq.none
def NH(Θ:Tb)(E:SE)(ex:Option Bool)(n:Nat)(t:TypeId)(l:Lf)(lo hi:Option Operand)(F:List AF)(k:Out->Option R):Option R:=match Θ t with
 | some ⟨.slice e,_,_,_,_⟩=>match Θ e with
  | some a=>bif Nat.beq a.sz a.tc.ty.sz then match lo,hi with
   | none,some h=>match fY a.tc e 0 F l,ev E h with
    |some (ci,K,xs),some (.lf (.c (.int _) j))=>bif Nat.ble 2 ci&&Nat.blt e 1048576 then gchk ex (decide (0<=j/\j<=xs.length)) (k ⟨.lf (.sl n),[.own a.tc e ci K (xs.take j.toNat) n],[]⟩)else none
    |none,some (.lf (.c (.int _) j))=>match iB a.tc F l with
     |some s=>gchk ex (decide (0<=(0:Int)/\0<=j/\j<=s.xs.length)) (k ⟨.lf (.sl n),[.rep a.tc s.all ((s.xs.take j.toNat).drop (0:Int).toNat) n],[]⟩)
     |none=>none
    |_,_=>none
   |some b,none=>match iB a.tc F l,ev E b with
    |some s,some (.lf (.c (.int _) i))=>gchk ex (decide (0<=i/\i<=(s.xs.length:Int)/\(s.xs.length:Int)<=s.xs.length)) (k ⟨.lf (.sl n),[.rep a.tc s.all ((s.xs.take (s.xs.length:Int).toNat).drop i.toNat) n],[]⟩)
    |_,_=>none
   |some b,some h=>match iB a.tc F l,ev E b,ev E h with
    |some s,some (.lf (.c (.int _) i)),some (.lf (.c (.int _) j))=>gchk ex (decide (0<=i/\i<=j/\j<=s.xs.length)) (k ⟨.lf (.sl n),[.rep a.tc s.all ((s.xs.take j.toNat).drop i.toNat) n],[]⟩)
    |_,_,_=>none
   |none,none=>none
   else none
  |none=>none
 |_=>none
theorem adw(v:Θ.ok P){l:Lf}{lo hi:Option Operand}(M:o.op=.slice t x lo hi none)(J:ev E x=some (.lf l))(k:Out->Option R):aq ex P o E F n (NH Θ E ex n t l lo hi F k) k:=by
 have key:∀{e:TypeId} {d:TInf} {s:SI d.tc} {i j:Int} {klo khi:IntKind},P.underlying t=some (.slice e)->Θ e=some d->Nat.beq d.sz d.tc.ty.sz=true->iB d.tc F l=some s ->
   (∀a ρ,mH a ρ E->lo.elim (i=0) (λq=>aL ρ q=.int klo i))->(∀a ρ,mH a ρ E->hi.elim (j=s.xs.length) (λq=>aL ρ q=.int khi j))->decide (0<=i/\i<=j/\j<=s.xs.length)=true ->
   Nj P o E F n ⟨.lf (.sl n),[.rep d.tc s.all ((s.xs.take j.toNat).drop i.toNat) n],[]⟩:=by
  intro e d s i j klo khi I z f hs D H g a ρ b;have p:=aK b J;simp only[AV.val]at p;rw[(qh hs a).1]at p;have:=(Ad (o:=o) (ρ:=ρ) (L:=.rep d.tc.ty s.all s.xs (l.hd a)::F.map (AF.ha a)) (klo:=klo) (khi:=khi) 0 rfl M I (v e d z).1 (f9 f) p (D a ρ b) (H a ρ b) g).from (λw c A=>ao.cons (iq hs A) A);refine this.map (λ_=>⟨a.setH n ((l.hd a).cut i.toNat j.toNat d.sz),a.setH_agr n _⟩) (λ_=>?_) λ_=>?_
  ·simp[AV.val,Lf.val,Vn.setH_at]
  ·simp[AF.ha,Vn.setH_at]
 unfold NH;split
 ·rename_i e _ _ _ _ I;have m:P.underlying t=some (.slice e):=(v t _ I).2.1;split
  ·rename_i d z;refine aq.bif λf=>?_
   split
   ·rename_i D h;split
    ·rename_i ci K xs O j hs C;refine aq.bif λS=>aq.gchk λg=>aq.of λu a ρ b=>?_
     have B:Nat.blt e 1048576=true:=by grind
     have p:=aK b J;simp only[AV.val]at p;rw[pM hs a]at p;have:=(RP (o:=o) (ρ:=ρ) (L:=.own d.tc.ty e ci K xs (l.hd a)::F.map (AF.ha a)) 0 rfl M m (v e d z).1 (f9 f) p (aK b C) (g u)).from (λw c A=>ao.cons (by have:=eO hs A;rwa [dK (fF B)]at this) A);refine this.map (λ_=>⟨a.setH n ((l.hd a).cut 0 j.toNat d.sz),a.setH_agr n _⟩) (λ_=>?_) λ_=>?_
     ·simp[AV.val,Lf.val,Vn.setH_at]
     ·simp[AF.ha,Vn.setH_at,dK (fF B)]
    ·rename_i O j _ C;split
     ·rename_i s hs;exact aq.gchk λg=>aq.of λu=>key (klo:=.i64) m z f hs (λ_ _ _=>rfl) (λa ρ b=>aK b C) (g u)
     ·exact aq.none
    ·exact aq.none
   ·rename_i Q;split
    ·rename_i s O i hs r;exact aq.gchk λg=>aq.of λu=>key (khi:=.i64) m z f hs (λa ρ b=>aK b r) (λ_ _ _=>rfl) (g u)
    ·exact aq.none
   ·rename_i Q h;split
    ·rename_i s T i U j hs r C;exact aq.gchk λg=>aq.of λu=>key m z f hs (λa ρ b=>aK b r) (λa ρ b=>aK b C) (g u)
    ·exact aq.none
   ·exact aq.none
  ·exact aq.none
 ·exact aq.none
def Is(F:List AF)(t:TC):Nat->List Lf->Option (List t.den×List (List Lf)×List Nat)
 |0,[]=>some ([],[],[])
 |0,_::_=>none
 | m+1,ls=>match bV F t ls with
  |some (x,l,K,r)=>match Is F t m r with
   |some (xs,a,K2)=>some (x::xs,l::a,K++K2)
   |none=>none
  |none=>none
theorem VP{t:TC}{η:Vn}:∀{m:Nat} {ls:List Lf} {xs:List t.den} {a:List (List Lf)} {K:List Nat},Is F t m ls=some (xs,a,K) ->
  xs.length=m/\a.length=m/\aw η ls=cellsOf t.ty xs (a.map λl=>aO t (aT η l)) /\
  ∀(w:World) (c:aS) (d:List Nat),ao w c (F.map (AF.ha η))->(∀k∈K,k∈d)->cf (bH w (λb=>c b∈d) t.ty) xs (a.map λl=>aO t (aT η l))
 |0,[],xs,a,K,h=>by simp only[Is,no,acW]at h;obtain⟨rfl,rfl,rfl⟩:=h;exact⟨rfl,rfl,rfl,λ_ _ _ _ _=>trivial⟩
 |0,_::_,xs,a,K,h=>by simp[Is]at h
 | m+1,ls,xs,a,K,h=>by
  simp only[Is]at h;split at h
  ·rename_i x l u r j;split at h
   ·rename_i s q K2 p;simp only[no,acW]at h;obtain⟨rfl,rfl,rfl⟩:=h;obtain⟨e,v⟩:=dO (η:=η) t j;obtain⟨f,g,c2,z⟩:=VP (η:=η) p;refine⟨by simp[f],by simp[g],?_,λw c d A B=>⟨?_,?_⟩⟩
    ·simp only[aev,cellsOf];rw[e,c2]
    ·simp_all
    simp_all
   ·cases h
  ·cases h
def Fp(ls:List Lf):Nat->List Lf
 |0=>[]
 |m+1=>ls++Fp ls m
def IA(Θ:Tb)(E:SE)(n N:Nat)(t:TypeId)(m:Nat)(ps:Array (Nat×Operand))(F:List AF)(k:Out->Option R):Option R:=match Θ t with
 | some ⟨.slice e,_,_,_,_⟩=>match Θ e,uV E ps.toList with
  | some a,some vals=>match m with
   |0=>bif vals.isEmpty&&Nat.ble 2 N&&Nat.blt e 1048576 then k ⟨.lf (.sl n),[.own a.tc e N [] [] n],[]⟩else none
   | m+1=>match yD (λi=>some (i*a.sz,a.sz)) (Fp a.zl (m+1)) vals with
    |some ls=>match Is F a.tc (m+1) ls,lj a.zl a.sz with
     |some (xs,_,K),some (_,[])=>bif Nat.beq a.sz a.tc.ty.sz&&Nat.ble 2 N&&Nat.ble ((m+1)*a.sz) 16777216&&Nat.ble 1 a.sz&&Nat.blt e 1048576 then k ⟨.lf (.sl n),[.own a.tc e N K xs n],[]⟩else none
     |_,_=>none
    |none=>none
  |_,_=>none
 |_=>none
theorem wl{η:Vn}{ls:List Lf}:∀m:Nat,aw η (Fp ls m)=(List.range (m*(aw η ls).length)).map (λj=>(aw η ls).getD (j%(aw η ls).length) default)
 |0=>by simp[Fp,aw]
 | m+1=>by
  have b:=wl (η:=η) (ls:=ls) m;simp only[Fp,ba,b];rw[show(m+1)*(aw η ls).length=(aw η ls).length+m*(aw η ls).length by grind,List.range_add,afo];congr 1
  ·apply afQ;intro j;by_cases a:j<(aw η ls).length
   ·simp[a,Nat.mod_eq_of_lt a]
   ·simp[a]
  simp_all
theorem Yz(s:Θ.ok P){m:Nat}{ps:Array (Nat×Operand)}(ho:o.op=.buildSlice t m ps)(k:Out->Option R):aq ex P o E F n (IA Θ E n N t m ps F k) k:=by
 unfold IA;split
 ·rename_i e _ _ _ _ ht;have z:P.underlying t=some (.slice e):=(s t _ ht).2.1;split
  ·rename_i d vals he hp;split
   ·refine aq.bif λg=>aq.of λhx η ρ H=>?_;simp only[abF]at g;have hv:vals=[]:=List.isEmpty_iff.1 g.1.1;have L:ps = #[]:=by
     have:=oS (η:=η) H hp;simp_all
    refine(H2 (K:=[]) (ty:=d.tc.ty) ho z (s e d he).1 L g.1.2).map (λf=>⟨η.setH n f,η.setH_agr n f⟩) (λf=>?_) λf=>?_
    ·simp[AV.val,Lf.val,Vn.setH_at]
    ·simp[AF.ha,Vn.setH_at,dK (fF g.2)]
   ·rename_i m;split
    ·rename_i ls v;split
     ·rename_i xs C K q hd u;refine aq.bif λg=>aq.of λhx η ρ H=>?_
      simp only[abF]at g;obtain⟨⟨⟨⟨O,hN⟩,M⟩,h1⟩,J⟩:=g;obtain⟨g1,_,g3,g4⟩:=s e d he;obtain⟨Y,S⟩:=hU u;rw[ad0]at Y;subst Y;have S:=S η;obtain⟨T,U,V,W⟩:=VP (η:=η) hd;have hpos:=abM h1;have I:∀w c,ao w c (F.map (AF.ha η))->ao w c (xy d.tc.ty K xs (C.map λl=>aO d.tc (aT η l))++F.map (AF.ha η)):=by
       intro w c Z;refine ao.append ?_ Z;have D:=W w c K Z (λ_ hk=>hk);clear T U V W hd v;revert D;generalize(C.map λl=>aO d.tc (aT η l))=ys;intro D;induction xs generalizing ys with
       |nil=>cases ys<;>exact ao.nil _ _
       |cons x xs Q=>
        cases ys with
        |nil=>exact ao.nil _ _
        |cons y ys=>exact(qY d.tc.ty x y D.1).append (Q ys D.2)
      have r:pU (xy d.tc.ty K xs (C.map λl=>aO d.tc (aT η l))++F.map (AF.ha η)) (xy d.tc.ty K xs (C.map λl=>aO d.tc (aT η l))):=by
       have gen:∀(A B:List HA),(∀a∈A,a∈B)->pU B A:=by
        intro A B;induction A with
        |nil=>intro _;trivial
        |cons a A Q=>
         intro h;obtain⟨j,hj⟩:=akJ.1 (h a adT);exact⟨.inl ⟨j,a,hj,yC⟩,Q λb hb=>h b (abJ _ hb)⟩
       grind
      have p:=wZ (η:=η) v;rw[wl,S]at p;have hzc:d.zv.cells.toList=aw η d.zl:=by grind
      refine((Bn (cells:=aw η ls) (ty:=d.tc.ty) (K:=K) (xs:=xs) (ys:=C.map λl=>aO d.tc (aT η l)) ho z g1 (f9 O) M ?_ (oS H hp) ?_ (by simp[T]) (by simp[U]) V.symm r hN).from I).map (λf=>⟨η.setH n f,η.setH_agr n f⟩) (λf=>?_) λf=>?_
      ·refine aeo ?_;grind
      ·grind
      ·simp[AV.val,Lf.val,Vn.setH_at]
      ·simp[AF.ha,Vn.setH_at,dK (fF J)]
     ·exact aq.none
    ·exact aq.none
  ·exact aq.none
 ·exact aq.none
end
end
end Go.Sm
