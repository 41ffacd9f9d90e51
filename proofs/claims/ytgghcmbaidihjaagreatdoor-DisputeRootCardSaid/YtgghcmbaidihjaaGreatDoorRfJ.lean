/- Laws for the row. No condition. -/
import Derived.Test.YtgghcmbaidihjaaGreatDoorRfHg
import Derived.Test.YtgghcmbaidihjaaGreatDoorSimR
import Derived.Laws.Strings
namespace Go.Sm
set_option linter.unusedSectionVars false
variable {x y:Operand} {t':TypeId} {m h n i:Nat} {op:BinOp} {cl:List Nat}
section
variable [X:XTab] [G:GTab] [Yc:GCx]
section
variable {R:Type} {P:Program} {o:Oper} {E:SE} {F:List AF} {n:Nat} {Θ:Tb} {ex:Option Bool}
def Hl(Θ:Tb)(E:SE)(n N:Nat)(t:TypeId)(m:Nat)(ps:Array (Nat×Operand))(k:Out->Option R)(alt:Option R):Option R:=match Θ t,uV E ps.toList with
 | some ⟨.slice e,_,_,_,_⟩,some ((c,[.clo b b0])::vals)=>match Θ e with
  |some a=>match yD (λi=>some (i*a.sz,a.sz)) (Fp a.zl m) ((c,[.clo b b0])::vals),lj a.zl a.sz with
   |some ls,some (_,[])=>bif Nat.ble 2 N&&Nat.ble (m*a.sz) 16777216&&Nat.ble 1 (m*a.sz)&&uo n ls then k ⟨.lf (.sl n),[.box N n ls,.pbx n n 0 0 m],[]⟩else none
   |_,_=>none
  |none=>none
 |_,_=>alt
theorem aaE(g:Θ.ok P){N:Nat}{t:TypeId}{ps:Array (Nat×Operand)}(L:o.op=.buildSlice t m ps)(k:Out->Option R){alt:Option R}(halt:aq ex P o E F n alt k):aq ex P o E F n (Hl Θ E n N t m ps k alt) k:=by
 unfold Hl;split
 ·rename_i e _ _ _ _ Y S b0 vals O M;split
  ·rename_i z J;split
   ·rename_i ls q r f;refine aq.bif λA=>aq.of λW η ρ H=>?_
    simp only[abF]at A;obtain⟨⟨⟨I,u⟩,D⟩,p⟩:=A;obtain⟨C,_,T,U⟩:=g e z J;obtain⟨j,l⟩:=hU f;rw[ad0]at j;subst j;have l:=l η;have d:=wZ (η:=η) r;rw[wl,l]at d;have v:z.zv.cells.toList=aw η z.zl:=by grind
    have s:cN P ρ o (F.map (AF.ha η)) [] (λb:Nat=>(⟨some ⟨b,0,none⟩,m,m⟩:Hd).val) (λb=>[.box N b (aw η ls),.pure (lm ⟨some ⟨b,0,none⟩,m,m⟩ ⟨some ⟨b,0,none⟩,0,0⟩ 1 0 m)]):=by
     intro a ev w c next Q ha V K
     rw[Gf (cells:=aw η ls) L (g t _ O).2.1 C u D (oS H M) (by rw[v,l];exact d) ha];refine K w.heap.size _ _ (tR I _) (ao.cons ⟨⟨e,heap_alloc_new w _⟩,by simp⟩ (ao.cons ⟨af3 _,by simp,λ_=>⟨w.heap.size,0,rfl,by simp[di]⟩⟩ (ao.nil _ _)))
    refine s.map (λb=>⟨(η.setB n b).setH n ⟨some ⟨b,0,none⟩,m,m⟩,λq hq=>⟨((η.setB n b).setH_agr n _ q hq).1.trans (η.setB_agr n b q hq).1,((η.setB n b).setH_agr n _ q hq).2.trans (η.setB_agr n b q hq).2⟩⟩) (λb=>?_) λb=>?_
    ·simp[AV.val,Lf.val,Vn.setH_at]
    ·have B:((η.setB n b).setH n ⟨some ⟨b,0,none⟩,m,m⟩).b n=b:=Vn.setB_at η n b;have j:=qa (n:=n) (η:=η) (η':=(η.setB n b).setH n ⟨some ⟨b,0,none⟩,m,m⟩) (λq hq=>⟨((η.setB n b).setH_agr n _ q hq).1.trans (η.setB_agr n b q hq).1,((η.setB n b).setH_agr n _ q hq).2.trans (η.setB_agr n b q hq).2⟩) ls p;simp only[aev,ahd,AF.ha,B,j,Vn.setH_at]
   ·exact aq.none
  ·exact aq.none
 ·exact halt
def aas(h:Nat)(F:List AF):Option (Nat×Nat×Int×Int):=match Hy h F with
 |some (b,off,lo,hi)=>match i6 b F with
  |some (_,.clo _ _::_)=>some (b,off,lo,hi)
  |_=>none
 |none=>none
theorem Q0{b off:Nat}{lo hi:Int}(a:aas h F=some (b,off,lo,hi)){d:Vn}{w:World}{c:aS}(e:ao w c (F.map (AF.ha d))):lm (d.h h) ⟨some ⟨d.b b,off,none⟩,0,0⟩ 1 lo hi:=by
 unfold aas at a;split at a
 ·rename_i f;split at a
  ·simp only[no,acW]at a;obtain⟨rfl,rfl,rfl,rfl⟩:=a;exact e _ (acG.2 ⟨_,NV f,rfl⟩)
  ·cases a
 ·cases a
def W5(Θ:Tb)(t:TypeId)(h:Nat)(F:List AF)(k:Out->Option R)(alt:Option R):Option R:=match aas h F,Θ t with
 |some (_,_,lo,hi),some ⟨.slice _,_,_,_,_⟩=>k (be (fP .i64 (hi-lo)))
 |_,_=>alt
theorem aec(d:Θ.ok P){t:TypeId}(p:o.op=.call { callee:=.builtin .len,args:=#[x],argTypes:=#[t]})(g:ev E x=some (.lf (.sl h)))(k:Out->Option R){alt:Option R}(halt:aq ex P o E F n alt k):aq ex P o E F n (W5 Θ t h F k alt) k:=by
 unfold W5;split
 ·rename_i b off lo hi e _ _ _ _ l q;refine aq.of λs=>(dl.pure λr ρ j ev w c a f=>?_)
  rw[MX (L:=F.map (AF.ha r)) p (d t _ q).2.1 (aK j g) ev w c a f];simp only[AV.val,Lf.val,(Q0 l f).2.1]
 ·exact halt
def aal(Θ:Tb)(ex:Option Bool)(t:TypeId)(h:Nat)(i:Int)(F:List AF)(k:Out->Option R)(alt:Option R):Option R:=match aas h F,Θ t with
 |some (b,off,lo,hi),some ⟨.slice e,_,_,_,_⟩=>match Θ e with
  |some a=>bif Nat.beq a.sz 1 then gchk ex (decide (0<=i/\i<hi-lo)) (k (be (.lf (.bp b (off+(lo+i).toNat)))))else none
  |none=>none
 |_,_=>alt
theorem ahX(d:Θ.ok P){t:TypeId}{j:Operand}{C:IntKind}{i:Int}(v:o.op=.indexAddr t x j)(l:ev E x=some (.lf (.sl h)))(p:ev E j=some (fP C i))(k:Out->Option R){alt:Option R}(halt:aq ex P o E F n alt k) :
  aq ex P o E F n (aal Θ ex t h i F k alt) k:=by
 unfold aal;split
 ·rename_i b off lo hi e _ _ _ _ s z;split
  ·rename_i B u;refine aq.bif λf=>aq.gchk λr=>aq.of λA=>(dl.pure λD ρ g=>?_)
   have a:=(d e B u).1;rw[f9 f]at a;have:=Dl (o:=o) (ρ:=ρ) (L:=F.map (AF.ha D)) (λw c q=>Q0 s q) v (d t _ z).2.1 a (aK g l) (aK g p) (r A);simpa[di,AV.val,Lf.val]using this
  ·exact aq.none
 ·exact halt
def HG(Θ:Tb)(ex:Option Bool)(n:Nat)(t:TypeId)(l:Lf)(lo hi:Option Operand)(F:List AF)(k:Out->Option R)(alt:Option R):Option R:=match l,lo,hi with
 | .rp h te i _ p,none,none=>match te with
  | .arr m s=>match Θ t,lu (.arr m s) h F with
   |some ⟨.arr b e,_,_,_,_⟩,some q=>match Θ e with
    |some a=>bif Nat.beq m b&&Nat.beq a.sz 1&&Nat.ble 1 m&&Nat.ble m 16777216&&Nat.beq p.off 0 then gbind ex [] (ae q.xs i) λx=>k ⟨.lf (.sl n),[.rep (.sc s) q.all (cT m s.dft x) n],[]⟩else none
    |none=>none
   |_,_=>none
  |_=>none
 |_,_,_=>alt
theorem YM(K:Θ.ok P){t:TypeId}{l:Lf}{lo hi:Option Operand}(ho:o.op=.slice t x lo hi none)(h1:ev E x=some (.lf l))(k:Out->Option R){alt:Option R}(halt:aq ex P o E F n alt k):aq ex P o E F n (HG Θ ex n t l lo hi F k alt) k:=by
 unfold HG;split
 ·rename_i h te i u p;split
  ·rename_i m s p';split
   ·rename_i m' e _ _ _ _ q ht hs;split
    ·rename_i ie he;refine aq.bif λU=>aq.gbind λv hv=>aq.of λhx f ρ hE=>?_
     simp only[abF]at U;obtain⟨⟨⟨⟨hm,T⟩,B⟩,H⟩,I⟩:=U;obtain rfl:=f9 hm;have J:=(K e ie he).1;rw[f9 T]at J;have B:=abM B;have H:=abM H;have hp:aL ρ x=.pointer (some (di (f.h h) (i.toNat*m))):=by have:=aK hE h1;simpa[AV.val,Lf.val,f9 I,TC.ty,Ty.sz]using this
     obtain⟨inf,D,_,_,_⟩:=J.get;refine(xz (Y:=Unit) (val:=λ_=>(⟨some (di (f.h h) (i.toNat*m)),m,m⟩:Hd).val) (Φ:=λ_=>[.rep (TC.sc s).ty q.all (cT m s.dft v) ⟨some (di (f.h h) (i.toNat*m)),m,m⟩]) λev w c N hF=>?_).map (λ_=>⟨f.setH n ⟨some (di (f.h h) (i.toNat*m)),m,m⟩,f.setH_agr n _⟩) (λ_=>?_) λ_=>?_
     ·subst N;obtain⟨ys,hr,hn,O,V,M⟩:=iq (l:=.sl h) hs hF;obtain⟨h0,r,Q⟩:=kK (hv hx);obtain⟨y,hy,_⟩:=hr.get r;rcases M with⟨_,Z⟩|⟨b,off,arr,ty,W,ha,hS,hb,C,g⟩
      ·omega
      have z:di (f.h h) (i.toNat*m)=⟨b,off+i.toNat*m,none⟩:=by simp[di,show(f.h h).a=_ from ha]
      have d:(cT m s.dft v).length=m:=by simp[cT]
      have c3:=BY (P:=P) (ρ:=ρ) (w:=w) (isS:=false) (len:=m) (cap:=m) (lo:=none) (hi:=none) (i:=0) (j:=m) (.inl ⟨rfl,rfl⟩) (.inl ⟨rfl,rfl⟩) (by omega);have key:(Instr.sliceAt t (.pointer (some (di (f.h h) (i.toNat*m)))) none none none).run P w=.ok (.slice (some (di (f.h h) (i.toNat*m))) m m) w:=by
       simp only[aqL]at c3;have S:¬m=0:=by omega
       rw[z];simp[Instr.sliceAt,Instr.sureAddr,run_underlying (K t _ ht).2.1,c3,sizeOf,typeInfo,D,Result.andThen,eT,S]
      refine⟨(),by simp only[execOp,ho,hp,aqL,key,Sem.run_bind,Result.andThen_ok,Sem.run_pure,Hd.val],ao.cons ⟨List.replicate m (),?_,by rw[d],by rw[d];exact ad3 _,by simp[maxLen];omega,.inr ⟨b,off+i.toNat*m,arr,ty,W,aei some z,hS,hb,?_,?_⟩⟩ (ao.nil _ _)⟩
      ·have gen:∀(l:List s.den) (A:Nat),l.length=A->cf (bH w (λb=>c b∈q.all) (TC.sc s).ty) l (List.replicate A ()):=by
        intro l;induction l with
        |nil=>intro A hq;simp at hq;subst hq;trivial
        |cons a l ih=>
         intro A hq;cases A with
         |zero=>simp at hq
         |succ A=>exact⟨trivial,ih A (by simpa using hq)⟩
       exact gen _ _ d
      ·have:(i.toNat+1)*m<=(f.h h).cap*m:=aeL _ (by simp only[Lf.hd]at O;omega);simp only[TC.ty,Ty.sz,Lf.hd]at C|-;grind
      ·rw[vX s (by grind),d];have L:=qD (TC.arr m s).ty r hy;rw[<-g,agI,agG,ahK,afn]at L
       ·simp only[TC.ty,Ty.sz,ahv]at L|-;rw[L];simp only[Ty.fill,cT,ag1];rfl
       ·have:(i.toNat+1)*(TC.arr m s).ty.sz<=q.xs.length*(TC.arr m s).ty.sz:=aeL _ Q;grind
     ·simp[AV.val,Lf.val,Vn.setH_at]
     ·simp[AF.ha,Vn.setH_at]
    ·exact aq.none
   ·exact aq.none
  ·exact aq.none
 ·exact halt
end
end
section
variable [X:XTab] [G:GTab] [Yc:GCx]
def Pa.flat : {t u:TC}->Pa t u->Bool
 |_,_,.here=>true
 |_,_,.fst p=>p.flat
 |_,_,.snd p=>p.flat
 |_,_,.inn p=>p.flat
 |_,_,.nd _=>false
 |_,_,.el _=>false
theorem zj : {t u:TC}->(p:Pa t u)->p.flat=true->u.ty.pureB=true->(x:t.den)->(y:u.den)->(c:t.ty.Refs)->(r:u.ty.Refs) ->
  ∃A M B,t.ty.fill x c=A++M++B/\A.length=p.off/\M.length=u.ty.sz/\t.ty.fill (p.put x y) c=A++u.ty.fill y r++B
 |t,_,.here,_,d,x,y,c,r=>⟨[],t.ty.fill x c,[],by simp,rfl,Ty.fill_length _ _ _,by simp only[Pa.put,ae4,ad0];exact pq t.ty d y c r⟩
 |_,_,@Pa.fst a b u p,hf,d,x,y,c,r=>by
  obtain⟨A,M,B,g,e,f,j⟩:=zj p hf d x.1 y c.1 r;refine⟨A,M,B++b.ty.fill x.2 c.2,?_,e,f,?_⟩
  ·show a.ty.fill x.1 c.1++b.ty.fill x.2 c.2=_;grind
  ·show a.ty.fill (p.put x.1 y) c.1++b.ty.fill x.2 c.2=_;grind
 |_,_,@Pa.snd a b u p,hf,d,x,y,c,r=>by
  obtain⟨A,M,B,g,e,f,j⟩:=zj p hf d x.2 y c.2 r;refine⟨a.ty.fill x.1 c.1++A,M,B,?_,?_,f,?_⟩
  ·show a.ty.fill x.1 c.1++b.ty.fill x.2 c.2=_;grind
  ·rw[acA,Ty.fill_length,e];rfl
  ·show a.ty.fill x.1 c.1++b.ty.fill (p.put x.2 y) c.2=_;grind
 |_,_,.inn p,hf,d,x,y,c,r=>zj p hf d x y c r
theorem DY{w:World}{S:Nat->Prop}{d:Nat->List Nat} : {t u:TC}->(p:Pa t u)->p.flat=true->u.ty.pureB=true->(x:t.den)->(y:u.den)->(b:EI)->(c:List Nat)->(a:t.ty.Refs)->bD w S d t.ty b c x a->bD w S d t.ty b c (p.put x y) a
 |_,_,.here,_,e,_,y,b,c,a,_=>uT _ b c y a e
 |_,_,.fst p,hf,e,x,y,b,c,a,h=>⟨DY p hf e x.1 y _ _ a.1 h.1,h.2⟩
 |_,_,.snd p,hf,e,x,y,b,c,a,h=>⟨h.1,DY p hf e x.2 y _ _ a.2 h.2⟩
 |_,_,.inn p,hf,e,x,y,b,c,a,h=>DY p hf e x y b c a h
section
variable {R:Type} {P:Program} {o:Oper} {E:SE} {F:List AF} {n:Nat} {Θ:Tb} {ex:Option Bool}
def HJ(Θ:Tb)(ex:Option Bool)(t:TypeId)(h:Nat)(te:TC)(i:Int)(u:TC)(p:Pa te u)(v:AV)(F:List AF)(k:Out->Option R)(alt:Option R):Option R:=match Θ t,lu te h F,v.lvs with
 |some a,some ⟨some (e,ci),K,xs⟩,some ls=>match fk e&&p.flat&&u.ty.pureB,bV F u ls with
  |true,some (y,_,_,[])=>bif Nat.beq a.sz u.ty.sz then gbind ex te.dft (ae xs i) λx=>k ⟨.lf (.v undef),[.own te e ci K (xs.set i.toNat (p.put x y)) h],[ci]⟩else none
  |_,_=>alt
 |_,_,_=>alt
theorem aaA(C:Θ.ok P){t:TypeId}{z:Operand}{te:TC}{i:Int}{u:TC}{p:Pa te u}{v:AV}(ho:o.op=.store t x z)(V:ev E x=some (.lf (.rp h te i u p)))(W:ev E z=some v)(k:Out->Option R){alt:Option R}(halt:aq ex P o E F n alt k) :
  aq ex P o E F n (HJ Θ ex t h te i u p v F k alt) k:=by
 unfold HJ;split
 ·rename_i D e ci K xs ls hi hs hl;split
  ·rename_i y l Kd N hd;refine aq.bif λf=>aq.gbind λd q=>aq.of λhx η ρ J=>?_
   simp only[abF]at N;obtain⟨⟨g,b⟩,r⟩:=N;have f:=f9 f;obtain⟨U,_⟩:=C t D hi;obtain⟨i1,i2,i3⟩:=kK (q hx);have Q:(ep te.ty e ci K xs (η.h h))∈F.map (AF.ha η):=acG.2 ⟨_,f5 hs,rfl⟩;rw[iT g]at Q;obtain⟨j,Z⟩:=List.getElem?_of_mem Q;have a:=(dO (η:=η) u hd).1;simp only[aw,ad0]at a;have O:(aw η ls).length=u.ty.sz:=by rw[a];exact Ty.fill_length _ _ _
   have c:p.off+(aw η ls).length<=te.ty.sz:=by obtain⟨A,M,B,H,T,q3,_⟩:=zj p b r d y (aO te []) (aO u []);have:=aei List.length H;rw[Ty.fill_length]at this;grind
   have s:aL ρ x=.pointer (some (di (η.h h) (i.toNat*te.ty.sz+p.off))):=aK J V;refine(Tt (L:=F.map (AF.ha η)) j Z ho U s (aK J W) (v.lvs_cells hl η) (by grind) (acr.2 (oh (AV.lvs_one hl))) c i2 (xn:=p.put d y) (λI=>?_) (λw S dd ε π I Y=>DY p b r d y ε π I Y)).map (λ_=>⟨η,Vn.agr_refl n η⟩) (λ_=>rfl) (λ_=>by simp[AF.ha,iT g]);obtain⟨A,M,B,H,T,q3,q4⟩:=zj p b r d y I (aO u (aT η l));rw[q4,H,a,<-T];grind
  ·exact halt
 ·exact halt
end
end
section
variable [X:XTab] [G:GTab] [Yc:GCx]
section
variable {R:Type} {P:Program} {o:Oper} {E:SE} {F:List AF} {n:Nat} {Θ:Tb} {ex:Option Bool}
def ag7(Θ:Tb)(op:BinOp)(t:TypeId)(a b:Bool)(k:Out->Option R):Option R:=match op,Θ t with
  |.eql,some ⟨.bool,_,_,_,_⟩=>k (be (eS (a==b)))
  |.neq,some ⟨.bool,_,_,_,_⟩=>k (be (eS (a != b)))
  |_,_=>none
theorem arI(d:Θ.ok P){t:TypeId}{a b:Bool}(j:o.op=.binOp op t x y t')(f:ev E x=some (eS a))(g:ev E y=some (eS b))(k:Out->Option R):aq ex P o E F n (ag7 Θ op t a b k) k:=by
  unfold ag7;split
  · rename_i e
    exact aq.of λl=>(dl.pure λp ρ c=>W2 j (d t _ e).2.1 (aK c f) (aK c g))
  · rename_i e
    exact aq.of λl=>(dl.pure λp ρ c=>YX j (d t _ e).2.1 (aK c f) (aK c g))
  ·exact aq.none
def ahm(ex:Option Bool)(op:BinOp)(a b:List UInt8)(k:Out->Option R):Option R:=match op with
  |.add=>gchk ex (decide (a.length+b.length<=9223372036854775807)) (k (be (zV (a++b))))
  |.eql=>k (be (eS (a==b)))
  |.neq=>k (be (eS (!(a==b))))
  |.lss=>k (be (eS (Op.bytesLess a b)))
  |.leq=>k (be (eS (Op.bytesLess a b||a==b)))
  |.gtr=>k (be (eS (!(Op.bytesLess a b||a==b))))
  |.geq=>k (be (eS (!(Op.bytesLess a b))))
  |_=>none
theorem anD{ρ:dm}{L:List HA}{t:TypeId}{a b:List UInt8}{v:Value}(g:o.op=.binOp op t x y t')(k:aL ρ x=.string ⟨a.toArray⟩)(l:aL ρ y=.string ⟨b.toArray⟩)
    (j:∀w,(Op.stringOp op ⟨a.toArray⟩ ⟨b.toArray⟩).run P w=.ok v w):aZ P ρ o L v:=λev w c e _=>by
  subst e;have f:∀w,(eqGuard op t x y (.string ⟨a.toArray⟩) (.string ⟨b.toArray⟩)).run P w=.ok () w:=λw=>by cases op<;>rfl
  have d:binOp op t (.string ⟨a.toArray⟩) (.string ⟨b.toArray⟩)=Op.stringOp op ⟨a.toArray⟩ ⟨b.toArray⟩:=by cases op<;>rfl
  simp[execOp,g,k,l,f,d,j,Result.andThen]
theorem aqV{t:TypeId}{a b:List UInt8}(g:o.op=.binOp op t x y t')(d:ev E x=some (zV a))(f:ev E y=some (zV b))(k:Out->Option R):aq ex P o E F n (ahm ex op a b k) k:=by
  have e:∀l:List UInt8,(⟨l.toArray⟩:ByteArray).toList=l:=λl=>ByteArray.toList_mk l;cases op<;>simp only[ahm]<;>first
    |exact aq.none
    |(refine aq.of λj=>(dl.pure λu ρ c=>anD g (aK c d) (aK c f) λw=>?_);simp[Op.stringOp,AV.val,Lf.val];done)
    | (refine aq.gchk λq=>aq.of λj=>(dl.pure λu ρ c=>anD g (aK c d) (aK c f) λw=>?_)
       have r:=aex (q j)
       have hs:∀l:List UInt8,(⟨l.toArray⟩:ByteArray).size=l.length:=λl=>by rfl
       have s:¬(((⟨a.toArray⟩:ByteArray).size+(⟨b.toArray⟩:ByteArray).size:Nat):Int)>IntKind.i64.max:=by grind[IntKind.max,IntKind.signed,IntKind.bits]
       have p:(⟨a.toArray⟩:ByteArray)++⟨b.toArray⟩=⟨(a++b).toArray⟩:=ByteArray.ext (by simp)
       grind[Op.stringOp,AV.val,Lf.val,Sem.run_pure])
def ak4(Θ:Tb)(op:BinOp)(t:TypeId)(m:Nat)(s:SC)(a b:List s.den)(G:TypeId->Bool)(k:Out->Option R):Option R:=match op,Θ t,s,a,b with
  | .eql,some ⟨.arr f e,_,_,_,_⟩,.int d,a,b=>match Θ e with
    |some ⟨.int c,1,_,_,_⟩=>bif Nat.beq m f&&G t then(if c=d then k (be (eS (dM m a b)))else none)else none
    |_=>none
  | .neq,some ⟨.arr f e,_,_,_,_⟩,.int d,a,b=>match Θ e with
    |some ⟨.int c,1,_,_,_⟩=>bif Nat.beq m f&&G t then(if c=d then k (be (eS (!(dM m a b))))else none)else none
    |_=>none
  |_,_,_,_,_=>none
def sMM(e:Bool)(a b:AV)(k:Out->Option R):Option R:=match a,b with
  |.lf (.c (.int c) x),.lf (.c (.int d) y)=>if c=d then k (be (fP c (bif e then(if y>x then y else x)else(if y<x then y else x))))else none
  |_,_=>none
theorem acI{d:Bool}{ts:Array TypeId}{a b:AV}(g:o.op=.call { callee:=.builtin (bif d then .max else .min),args:=#[x,y],argTypes:=ts})(e:ev E x=some a)(f:ev E y=some b)(k:Out->Option R):aq ex P o E F n (sMM d a b k) k:=by
  unfold sMM;split
  · rename_i p a q b
    split
    · rename_i j
      subst j
      refine aq.of λl=>(dl.pure λr ρ c=>?_)
      cases d
      ·exact axl g (aK c e) (aK c f)
      ·exact awZ g (aK c e) (aK c f)
    ·exact aq.none
  ·exact aq.none
def sM4(a b c d:AV)(k:Out->Option R):Option R:=match a,b,c,d with
  |.lf (.c (.int .i64) x),.lf (.c (.int .i64) y),.lf (.c (.int .i64) z),.lf (.c (.int .i64) u)=>k (be (fP .i64 (Aa x y z u)))
  |_,_,_,_=>none
theorem aum{ts:Array TypeId}{z u:Operand}{a b c d:AV}(p:o.op=.call { callee:=.builtin .min,args:=#[x,y,z,u],argTypes:=ts})(f:ev E x=some a)(g:ev E y=some b)(j:ev E z=some c)(l:ev E u=some d)(k:Out->Option R):aq ex P o E F n (sM4 a b c d k) k:=by
  unfold sM4;split
  ·exact aq.of λq=>(dl.pure λr ρ e=>avg p (aK e f) (aK e g) (aK e j) (aK e l))
  ·exact aq.none
structure Cx where
  Γ:Ct
  Θ:Tb
  G:TypeId->Bool
  D:List DCtr
  W:Bool
  I:It
  B:Nat
  K:Option (List Nat)
  O:List Nat
  Y:Option Inl
  T:FuncId->Option (Inl->Inl)
structure Cx.ok(C:Cx)(P:Program):Prop where
  Γ:C.Γ.ok P
  Θ:C.Θ.ok P
  G:∀t,C.G t=true->AU P t
  D:∀d∈C.D,DCtr.sound P d
  I:C.I.ok P
  Y:∀J,C.Y=some J->J.yields P
  T:∀f T,C.T f=some T->Yc.ex=[]/\∀(Y:GCx) (J:Inl),Inl.yields (Yc:=Y) P J->Inl.sound (Yc:=Y) P f (T J)
def Cx.at(C:Cx)(B:Nat):Cx:={ C with B:=B}
def Cx.dk(C:Cx)(K:Option (List Nat))(O:List Nat):Cx:={ C with K:=K,O:=O}
theorem Cx.dk_ok{C:Cx}{P:Program}(h:C.ok P)(K:Option (List Nat))(O:List Nat):(C.dk K O).ok P:=⟨h.Γ,h.Θ,h.G,h.D,h.I,h.Y,h.T⟩
theorem Cx.at_ok{C:Cx}{P:Program}(h:C.ok P)(B:Nat):(C.at B).ok P:=⟨h.Γ,h.Θ,h.G,h.D,h.I,h.Y,h.T⟩
theorem abL{ρ:dm}{L:List HA}{t e:TypeId}{a b:Operand}{k:IntKind}{by_:Nat}{z:Value}{x y:List Int}(r:o.op=.binOp .neq t a b t')(l:P.underlying t=some (.array m e))(g:P.underlying e=some (.int k))(hi:TI P e 1 by_ z)
    (j:P.eqGuardType P.depth t=false) (s:aL ρ a=.agg ((tA m k).fill x ()).toArray) (u:aL ρ b=.agg ((tA m k).fill y ()).toArray):aZ P ρ o L (.bool (!(dM m x y))):=λev w c f _=>by
  subst f;have d:=hi;clear hi;obtain⟨i,hi,_,hs,_⟩:=d.get;have p:(eqGuard .neq t a b (.agg ((tA m k).fill x ()).toArray) (.agg ((tA m k).fill y ()).toArray)).run P w=.ok () w:=run_eqGuard_agg w .neq t a b _ _ j;have q:(binOp .neq t (.agg ((tA m k).fill x ()).toArray) (.agg ((tA m k).fill y ()).toArray)).run P w=.ok (.bool (!(dM m x y))) w:=by rw[run_neq_struct,Fu 9998 x y l g hi hs];rfl
  grind[execOp,Sem.run_bind,Result.andThen_ok,Sem.run_pure]
theorem asz{C:Cx}(c:C.ok P){t:TypeId}{s:SC}{a b:List s.den}(r:o.op=.binOp op t x y t')(p:ev E x=some (.lf (.ar m s a)))(q:ev E y=some (.lf (.ar m s b)))(k:Out->Option R) :
    aq ex P o E F n (ak4 C.Θ op t m s a b C.G k) k:=by
  unfold ak4;split
  · rename_i z e _ _ _ _ w a b l
    split
    · rename_i v _ _ _ g
      refine aq.bif λd=>?_
      simp only[abF]at d
      obtain rfl:=f9 d.1
      split
      · rename_i j
        subst j
        refine aq.of λu=>(dl.pure λA ρ f=>?_)
        exact abQ r (c.Θ t _ l).2.1 (c.Θ e _ g).2.1 (c.Θ e _ g).1 (c.G t d.2).1 (aK f p) (aK f q)
      ·exact aq.none
    ·exact aq.none
  · rename_i z e _ _ _ _ w a b l
    split
    · rename_i v _ _ _ g
      refine aq.bif λd=>?_
      simp only[abF]at d
      obtain rfl:=f9 d.1
      split
      · rename_i j
        subst j
        refine aq.of λu=>(dl.pure λA ρ f=>?_)
        exact abL r (c.Θ t _ l).2.1 (c.Θ e _ g).2.1 (c.Θ e _ g).1 (c.G t d.2).1 (aK f p) (aK f q)
      ·exact aq.none
    ·exact aq.none
  ·exact aq.none
def G4(C:Cx)(ex:Option Bool)(n N:Nat)(E:SE)(F:List AF)(op:Op)(k:Out->Option R):Option R:=match op with
  | .move x=>match ev E x with
    |some v=>k (be v)
    |none=>none
  | .assign x=>match ev E x with
    |some v=>k (be v)
    |none=>none
  | .binOp b t x y _=>match ev E x,ev E y with
    | some (.lf (.c (.int A) q)),some (.lf (.c (.int I) r))=>match b with
      |.shl=>XP ex .shl A q r k
      |.shr=>XP ex .shr A q r k
      |b=>if I=A then ajY ex b A q r k else none
    |some (.lf (.c .bool q)),some (.lf (.c .bool r))=>ag7 C.Θ b t q r k
    |some (.lf (.c .str q)),some (.lf (.c .str r))=>ahm ex b q r k
    |some (.lf (.ar D H q)),some (.lf (.ar L M r))=>if h:M=H/\L=D then ak4 C.Θ b t D H q (wR h.1 r) C.G k else none
    |some (.ag J),some (.ag K)=>Xe C.Θ C.G b t J K k
    |some (.lf l),some (.lf .nl)=>Wv C.Θ b t l F k
    |_,_=>none
  | .unOp u _ x=>match ev E x with
    |some v=>sUn u v k
    |none=>none
  | .convert s d x=>match ev E x with
    |some (.lf (.sl h))=>GQ C.Θ s d (.sl h) F k
    |some (.lf .nl)=>GQ C.Θ s d .nl F k
    |some (.lf (.c .str a))=>Pd C.Θ ex n N s d a k
    |some v=>ZR C.Θ s d v k
    |none=>none
  | .extract x i=>match ev E x with
    |some v=>EG v i k
    |none=>none
  |.alloc t=>SW C.Θ n N t k
  | .box _ x=>match ev E x with
    |some v=>aep n N v k
    |none=>none
  |.build t ps=>RS C.Θ E t ps k
  |.buildSlice t m ps=>Hl C.Θ E n N t m ps k <| Hn C.Θ E n N t m ps F k (IA C.Θ E n N t m ps F k)
  | .nilCheck x=>match ev E x with
    |some v=>akx v k
    |none=>none
  |.makeFunc fn first cap=>Xn E fn first.toList cap.toList k
  |.load t (.global g)=>NI C.Θ t g k
  | .load t x=>match ev E x with
    |some (.lf (.gp g te i u p))=>NJ C.Θ ex n t g te i u p k
    |some (.lf (.bp b off))=>Or C.Θ t b off F k
    |some (.lf (.bq b off m s j))=>Pt C.Θ ex t b off m s j F k
    | some (.lf (.rp h te i u p))=>match pn te h F with
      |some s=>SV C.Θ ex t te i u p s k
      |none=>Pj C.Θ ex t h te i u p F k (Nv C.Θ ex n t h te i u p F k)
    |_=>none
  | .store t x y=>match ev E x,ev E y with
    |some (.lf (.bp b off)),some v=>HM C.Θ t b off v F k
    |some (.lf (.bq b off m s j)),some v=>HX C.Θ ex t b off m s j v F k
    | some (.lf (.rp h te i u p)),some v=>match pn te h F with
      |some s=>Ix C.Θ ex t h te i u p v s k
      | none=>match Dh te h F with
        |some s=>HU C.Θ ex t h te i u p v s F k
        |none=>HJ C.Θ ex t h te i u p v F k (Hv C.Θ ex t h te i u p v F k)
    |_,_=>none
  | .fieldAddr t x f=>match ev E x with
    |some (.lf l)=>N6 C.Θ t f l k
    |_=>none
  | .field t x f=>match ev E x with
    |some v=>Ie C.Θ t f v k
    |_=>none
  | .indexAddr t (.global g) w=>match ev E w with
    |some (.lf (.c (.int _) i))=>abn C.Θ ex t g i k
    |_=>none
  | .indexAddr t x w=>match C.Θ t,ev E x,ev E w with
    |some ⟨.slice _,_,_,_,_⟩,some (.lf (.sl h)),some (.lf (.c (.int _) i))=>aal C.Θ ex t h i F k (Zb C.Θ ex t h i F k (aa0 C.Θ ex t (.sl h) i F k))
    |some ⟨.slice _,_,_,_,_⟩,some (.lf l),some (.lf (.c (.int _) i))=>aa0 C.Θ ex t l i F k
    |some ⟨.arr _ _,_,_,_,_⟩,some (.lf l),some (.lf (.c (.int _) i))=>Wb C.Θ ex t l i k
    |_,_,_=>none
  | .index t x w=>match ev E x,ev E w with
    |some (.lf (.ars te xs)),some (.lf (.c (.int _) i))=>Ic C.Θ ex t te xs i k
    |some v,some (.lf (.c (.int _) i))=>Hw C.Θ ex t v i k
    |_,_=>none
  | .makeSlice t x y=>match ev E x,ev E y with
    |some v1,some e=>Qu C.Θ ex n N t x y v1 e k (W7 C.Θ ex n N t x y v1 e k)
    |_,_=>none
  | .slice t x lo hi none=>match ev E x with
    |some (.lf (.c .str s))=>G8 C.Θ E ex t s lo hi k
    |some (.lf (.bp b off))=>HZ C.Θ E ex n t b off lo hi F k
    |some (.lf l)=>HG C.Θ ex n t l lo hi F k (Hj C.Θ E ex n t l lo hi F k (Hi C.Θ E ex n t l lo hi F k (NH C.Θ E ex n t l lo hi F k)))
    |_=>none
  | .slice t x none (some hi) (some B)=>match ev E x with
    |some (.lf l)=>HT C.Θ E ex n t l hi B F k
    |_=>none
  | .slice t x (some lo) (some hi) (some B)=>match ev E x with
    |some (.lf l)=>Hx C.Θ E ex n t l lo hi B F k
    |_=>none
  | .sliceToArrayPointer t x=>match ev E x with
    |some (.lf (.sl h))=>ZO C.Θ ex t h F k
    |_=>none
  |.makeMap t none=>agQ C.Θ n N t k
  | .lookup t x y false=>match ev E x,ev E y with
    |some (.lf (.mp h)),some v=>Wd C.Θ C.G ex t h v F k
    |_,_=>none
  | .mapUpdate t x y z=>match ev E x,ev E y,ev E z with
    |some (.lf (.mp h)),some v1,some e=>LP C.Θ C.G t h v1 e F k
    |_,_,_=>none
  | .insert t x y z=>match ev E x,ev E y,ev E z with
    |some (.lf (.mp h)),some v1,some e=>LP C.Θ C.G t h v1 e F k
    |_,_,_=>none
  | .makeInterface t x=>match ev E x with
    |some v=>ahe C.Θ t v k
    |none=>none
  | .typeAssert x _ t true=>match ev E x with
    |some v=>aja C.Θ t v k
    |none=>none
  | .call c=>match c.callee,c.args.toList,c.argTypes.toList with
    | .builtin .len,[x],[t]=>match ev E x with
      |some (.lf (.sl h))=>W5 C.Θ t h F k <| aag C.Θ t h F k (aaj C.Θ t (.lf (.sl h)) F k)
      |some v=>aaj C.Θ t v F k
      |none=>none
    | .builtin .append,[x,y],[t,t']=>match ev E x,ev E y with
      | some v1,some e=>bif Nat.beq t' t then YE C.Θ ex n N t v1 e F k (aeD C.Θ ex n N t v1 e F k)else(match e with
        |.lf (.c (.int .i64) _)=>Yo C.Θ ex n N t t' v1 e F k
        |_=>Yn C.Θ ex n N t t' v1 e F k)
      |_,_=>none
    | .builtin .copy,[x,y],[t,_]=>match ev E x,ev E y with
      |some (.lf (.sl d)),some (.lf (.c .str l))=>Ro C.Θ ex t d l F k
      |some v1,some e=>XO C.Θ ex N t v1 e F k
      |_,_=>none
    | .builtin .max,[x,y],_=>match ev E x,ev E y with
      |some v1,some e=>sMM true v1 e k
      |_,_=>none
    | .builtin .min,[x,y],_=>match ev E x,ev E y with
      |some v1,some e=>sMM false v1 e k
      |_,_=>none
    | .builtin .min,[x,y,z,u],_=>match ev E x,ev E y,ev E z,ev E u with
      |some v1,some e,some O,some v4=>sM4 v1 e O v4 k
      |_,_,_,_=>none
    | .value f,xs,_=>match ev E f with
      |some v=>RN C.Y C.I C.Γ C.D E ex n N v xs F k
      |none=>none
    |_,_,_=>none
  |_=>none
theorem tQ(c:Call){f:Callee}{xs:List Operand}{ts:List TypeId}(a:c.callee=f)(b:c.args.toList=xs)(d:c.argTypes.toList=ts):c = { callee:=f,args:=xs.toArray,argTypes:=ts.toArray}:=by cases c;simp at a b d;subst a b d;simp
theorem Sd{C:Cx}(d:C.ok P){N:Nat}(k:Out->Option R):aq ex P o E F n (G4 C ex n N E F o.op k) k:=by
  unfold G4;split
  · rename_i x a
    split
    ·rename_i v j;exact aq.of λB=>(dl.pure λD ρ s=>awy a (aK s j))
    ·exact aq.none
  · rename_i x a
    split
    ·rename_i v j;exact aq.of λB=>(dl.pure λD ρ s=>akN a (aK s j))
    ·exact aq.none
  · rename_i b t x y t' a
    split
    ·grind[asR,asG,aq.none]
    ·rename_i e g;exact arI d.Θ a e g k
    ·rename_i e g;exact aqV a e g k
    · rename_i e g
      split
      · rename_i w
        obtain⟨rfl,rfl⟩:=w
        exact asz d a e g k
      ·exact aq.none
    ·rename_i e g;exact ahc d.Θ d.G a e g k
    ·rename_i e g;exact akl d.Θ a e g k
    ·exact aq.none
  ·grind[auK,aq.none]
  · rename_i a
    split
    ·rename_i j;exact Jv d.Θ a j k
    ·rename_i j;exact Jv d.Θ a j k
    ·rename_i j;exact ac4 d.Θ a j k
    ·rename_i j;exact aiT d.Θ a j k
    ·exact aq.none
  ·grind[Tr,aq.none]
  ·rename_i a;exact acB d.Θ a k
  ·grind[as2,aq.none]
  ·rename_i a;exact acL d.Θ a k
  ·rename_i a;exact aaE d.Θ a k (X2 d.Θ a k (Yz d.Θ a k))
  ·grind[asJ,aq.none]
  ·rename_i a;exact ah2 a k
  ·rename_i a;exact ab5 d.Θ a k
  · rename_i a
    split
    ·rename_i j;exact acq d.Θ a j k
    ·rename_i j;exact adH d.Θ a j k
    ·rename_i j;exact acj d.Θ a j k
    · rename_i j
      split
      ·rename_i hs;exact abH d.Θ hs a j k
      ·exact adb d.Θ a j k (acY d.Θ a j k)
    ·exact aq.none
  · rename_i a
    split
    ·rename_i e g;exact aan d.Θ a e g k
    ·rename_i e g;exact YK d.Θ a e g k
    · rename_i e g
      split
      ·rename_i hs;exact Wg d.Θ hs a e g k
      · split
        ·rename_i hs;exact aaJ d.Θ hs a e g k
        ·exact aaA d.Θ a e g k (Zy d.Θ a e g k)
    ·exact aq.none
  · rename_i a
    split
    ·rename_i j;exact acb d.Θ a j k
    ·exact aq.none
  · rename_i a
    split
    ·rename_i j;exact Xd d.Θ a j k
    ·exact aq.none
  · rename_i a
    split
    ·rename_i g;exact akP d.Θ a g k
    ·exact aq.none
  · rename_i a
    split
    ·rename_i e g;exact ahX d.Θ a e g k (ajp d.Θ a e g k (Vx d.Θ a e g k))
    ·rename_i e g;exact Vx d.Θ a e g k
    ·rename_i e g;exact ahG d.Θ a e g k
    ·exact aq.none
  · rename_i a
    split
    ·rename_i e g;exact ZV d.Θ a e g k
    ·rename_i e g;exact YN d.Θ a e g k
    ·exact aq.none
  · rename_i a
    split
    ·rename_i e g;exact abP d.Θ a e g k (ahM d.Θ a e g k)
    ·exact aq.none
  · rename_i a
    split
    ·rename_i j;exact YQ d.Θ a j k
    ·rename_i j;exact Xc d.Θ a j k
    ·rename_i j;exact YM d.Θ a j k (aaN d.Θ a j k (Yr d.Θ a j k (adw d.Θ a j k)))
    ·exact aq.none
  · rename_i a
    split
    ·rename_i j;exact aa9 d.Θ a j k
    ·exact aq.none
  · rename_i a
    split
    ·rename_i j;exact Wu d.Θ a j k
    ·exact aq.none
  · rename_i a
    split
    ·rename_i j;exact ajT d.Θ a j k
    ·exact aq.none
  ·rename_i a;exact aqW a k
  · rename_i a
    split
    ·rename_i e g;exact ak0 d.Θ d.G a e g k
    ·exact aq.none
  · rename_i a
    split
    ·rename_i e g r;exact O7 d.Θ d.G (.inl a) e g r k
    ·exact aq.none
  · rename_i a
    split
    ·rename_i e g r;exact O7 d.Θ d.G (.inr a) e g r k
    ·exact aq.none
  · rename_i a
    split
    ·rename_i e;exact arM d.Θ a e k
    ·exact aq.none
  · rename_i a
    split
    ·rename_i e;exact aqq d.Θ a e k
    ·exact aq.none
  · rename_i c a
    split
    · rename_i x t e g r
      have q:=tQ c e g r
      split
      ·rename_i j;exact aec d.Θ (by rw[a,q]) j k (ahC d.Θ (by rw[a,q]) j k (UB d.Θ (by rw[a,q]) j k))
      ·rename_i j;exact UB d.Θ (by rw[a,q]) j k
      ·exact aq.none
    · rename_i x y t t' e g r
      have q:=tQ c e g r
      split
      · rename_i l p
        cases A:Nat.beq t' t
        · rw[ab7]
          split
          ·exact akX d.Θ (by rw[a,q]) l p k
          ·exact ae8 d.Θ (by rw[a,q]) l p k
        · obtain rfl:=f9 A
          exact aeO d.Θ (by rw[a,q]) l p k (aqs d.Θ (by rw[a,q]) l p k)
      ·exact aq.none
    · rename_i x y t t' e g r
      have q:=tQ c e g r
      split
      ·rename_i l p;exact abC d.Θ (by rw[a,q]) l p k
      ·rename_i l p;exact akj d.Θ (by rw[a,q]) l p k
      ·exact aq.none
    · rename_i x y ts e g
      have q:=tQ c e g rfl
      grind[acI,aq.none]
    · rename_i x y ts e g
      have q:=tQ c e g rfl
      grind[acI,aq.none]
    · rename_i x y z u ts e g
      have q:=tQ c e g rfl
      grind[aum,aq.none]
    · rename_i f e
      have q:=tQ c e rfl rfl
      split
      · rename_i j
        exact ada (ts:=c.argTypes) d.Y d.I d.Γ d.D (xs:=c.args) (by grind) j k
      ·exact aq.none
    ·exact aq.none
  ·exact aq.none
end
end
section
variable [X:XTab] [G:GTab] [Yc:GCx]
def uni:List Nat->List Nat->List Nat
  |[],b=>b
  |x::r,b=>bif bU x b then uni r b else x::uni r b
def anx:List Oper->List (List Nat)->List (List Nat)
  |[],acc=>acc
  |o::r,acc=>anx r (acc++[(un o).foldr (λk s=>uni (k::acc.getD k []) s) []])
def iN(a:Bool)(l:List Oper):List (List Nat):=bif a then anx l []else(List.range l.length).map List.range
def eqG:List (Nat×Bool)->List (Nat×Bool)->Bool
  |[],[]=>true
  |(a,x)::r,(b,y)::s=>Nat.beq a b&&(x==y)&&eqG r s
  |_,_=>false
def oy(a:List (Nat×Bool)):List (Nat×Bool)->Bool
  |[]=>eqG a []
  |p::r=>eqG a (p::r)||oy a r
theorem OW:∀{a b:List (Nat×Bool)},eqG a b=true->a=b
  |[],[],_=>rfl
  | (a,x)::r,(b,y)::s,h=>by
    simp only[eqG,abF,aix]at h;rw[f9 h.1.1,h.1.2,OW h.2]
  |[],_::_,h=>by cases h
  |_::_,[],h=>by cases h
structure Ent where
  d:Option Tmp
  g:List (Nat×Bool)
  ex:Option Bool
  u:Out
def Um:Option Bool->Bool
  |none=>true
  |some b=>b
theorem H3{e:Option Bool}:ga e↔Um e=true:=by cases e<;>simp[ga,Um]
def AL(cl:List Nat)(g:List (Nat×Bool)):List Ent->Nat->SE
  |[],_=>[]
  | e::r,j=>match e.d with
    |some d=>bif bU j cl&&oy e.g g then(d,e.u.av)::AL cl g r (j+1)else AL cl g r (j+1)
    |none=>AL cl g r (j+1)
def uf(l:List Oper):List Nat:=l.filterMap λo=>o.dst
def oE(ds:List Nat)(E:SE):SE:=match E with
  |[]=>[]
  |(t,v)::r=>bif bU t ds then oE ds r else(t,v)::oE ds r
def gF(κ:List Nat)(f:AF):Bool:=κ.any λk=>bU k f.uses
def pE(a:List (List Nat))(m i:Nat):Bool:=!(Nat.beq m i) && !(bU i (a.getD m []))
def Ac(a:List (List Nat))(i:Nat):List Oper->Nat->List Nat
  |[],_=>[]
  | o::r,m=>match o.dst with
    |some d=>bif pE a m i then d::Ac a i r (m+1)else Ac a i r (m+1)
    |none=>Ac a i r (m+1)
def sU(b:List (List Nat))(i:Nat)(a:List Nat)(j:Nat)(f:AF):List Ent->Nat->Bool
  |[],_=>false
  |e::r,m=>(!(e.u.κ.isEmpty)&&pE b m i && !(Nat.beq m j) && !(bU m a)&&gF e.u.κ f)||sU b i a j f r (m+1)
def Fc(a:List (List Nat))(i:Nat)(cl:List Nat)(g:List (Nat×Bool))(all:List Ent):List Ent->Nat->List AF
  |[],_=>[]
  |e::r,j=>(bif bU j cl&&oy e.g g then e.u.fs.filter (λf=>!(sU a i (a.getD j []) j f all 0))else [])++Fc a i cl g all r (j+1)
def PC.mut:PC->Bool
  |.own _ _=>true
  |.box m _ _=>m
  |.prt _ _=>true
  |_=>false
def zr(C:Cx)(o:Oper):Bool:=match o.op with
  |.store _ _ _=>true
  |.mapUpdate _ _ _ _=>true
  |.insert _ _ _ _=>true
  | .buildSlice t _ _=>match C.Θ t with
    |some ⟨.slice e,_,_,_,_⟩=>fk (X.tr e)
    |_=>false
  | .call c=>match c.callee with
    |.builtin .append=>true
    |.builtin .copy=>true
    |.value (.func f)=>(match C.I f with|some J=>J.rw_|none=>false)||(C.Γ f).any λc=>c.ps.any PC.mut
    |.value _=>C.W
    |_=>false
  |_=>false
def atF(op:Op):Option Nat:=match op with
  | .call c=>match c.callee,c.args.toList with
    |.builtin .append,.tmp t::_=>some t
    |_,_=>none
  |_=>none
def ano(a:List Oper):Nat->Nat->Bool
  |0,_=>false
  | k+1,t=>a.any λp=>match p.dst,p.op with
    |some d,.buildSlice _ _ _=>Nat.beq t d
    | some d,op=>Nat.beq t d&&match atF op with
      |some t'=>ano a k t'
      |none=>false
    |none,_=>false
def atw(op:Op):Bool:=match op with
  |.buildSlice _ _ _=>true
  |_=>false
def ayq(a:List Oper)(op:Op):Bool:=match op with
  | .store _ (.tmp t) _=>a.any λp=>match p.dst,p.op with
    |some d,.alloc _=>Nat.beq t d
    |_,_=>false
  |_=>false
def wo(a:List Oper)(o:Oper):Bool:=atw o.op||ayq a o.op||match atF o.op with
  |some t=>ano a 3 t
  |none=>false
def xV(C:Cx)(a:List (List Nat))(b:List Oper)(i:Nat):List Oper->Nat->Bool
  |[],_=>false
  |o::r,m=>(Nat.blt i m&&zr C o&&wo b o&&pE a m i)||xV C a b i r (m+1)
def Gs(N:Nat)(f:AF):Bool:=f.uses.all λk=>Nat.blt k N
def ut(C:Cx)(a:List (List Nat))(b:List Oper)(i:Nat):List Oper->Nat->Bool
  |[],_=>false
  |o::r,m=>(Nat.blt i m&&zr C o && !(wo b o)&&pE a m i)||ut C a b i r (m+1)
def aod(f:AF):Bool:=f.uses.all λk=>Nat.ble k 1
def KR(K:Option (List Nat))(N:Nat)(f:AF):Bool:=match K with
  |none=>aod f
  |some kd=>Gs N f && !(gF kd f)
def rL(C:Cx)(N:Nat)(a:List (List Nat))(b:List Oper)(F:List AF)(i:Nat)(g:List (Nat×Bool))(es:List Ent):List AF:=
  let L:=Fc a i (a.getD i []) g es es 0++F.filter (λf=>!(sU a i [] b.length f es 0))
  bif ut C a b i b 0 then L.filter (KR C.K N)else bif xV C a b i b 0 then L.filter (Gs N)else L
def Cc(a:List (List Nat))(b:List Oper)(E:SE)(i:Nat)(g:List (Nat×Bool))(es:List Ent):SE:=AL (a.getD i []) g es 0++oE (Ac a i b 0) E
def Gm(es:List Ent):Option (Nat×Bool)->Option (List (Nat×Bool)×Option Bool)
  |none=>some ([],none)
  | some (j,a)=>match es[j]? with
    | some e=>match e.u.av with
      | .lf (.c .bool b)=>
        let lit:=bif a then b else !b
        some ((j,a)::e.g,some (match e.ex with|none=>lit|some x=>x&&lit))
      |_=>none
    |none=>none
def yj(t:Nat):List Ent->Nat->Option (Nat×Ent)
  |[],_=>none
  | e::r,j=>match e.d with
    |some d=>bif Nat.beq t d then some (j,e)else yj t r (j+1)
    |none=>yj t r (j+1)
def ZE(b:List (Nat×Bool))(e:Nat)(a:Bool)(g:List (Nat×Bool)):Bool:=match b with
  |(d,s)::c=>Nat.beq d e&&(s==a)&&oy c g
  |[]=>false
def La(cl:List Nat)(g:List (Nat×Bool))(es:List Ent)(c:Nat)(a:Bool):Operand->Option Bool
  |.const (.bool b)=>some b
  | .tmp t=>match yj t es 0 with
    | some (j,e)=>bif bU j cl&&(oy e.g g||ZE e.g c a g)then match e.u.av with
        |.lf (.c .bool b)=>some b
        |_=>none
      else none
    |none=>none
  |_=>none
def Lx(cl:List Nat)(g:List (Nat×Bool))(es:List Ent)(c a b:Operand):Option Bool:=match c with
  | .tmp t=>match yj t es 0 with
    | some (d,e)=>bif bU d cl&&oy e.g g then match e.u.av,La cl g es d true a,La cl g es d false b with
        |.lf (.c .bool x),some p,some q=>some (bif x then p else q)
        |_,_,_=>none
      else none
    |none=>none
  |_=>none
def CQ{R:Type}(C:Cx)(n N:Nat)(d:List (List Nat))(e:List Oper)(E:SE)(F:List AF):List Oper->Nat->List Ent->(List Ent->Option R)->Option R
  |[],_,es,k=>k es
  | o::r,i,es,k=>match Gm es o.guard with
    |none=>none
    | some (g,ex)=>match o.op with
      | .pick c a b=>match Lx (d.getD i []) g es c a b with
        |some v=>CQ C n N d e E F r (i+1) (es++[⟨o.dst,g,ex,be (eS v)⟩]) k
        |none=>none
      | op=>match bU i C.O,ex with
        | true,some b=>bif b then G4 C none (n+64*i) (N+512*i) (Cc d e E i [] es) (rL C N d e F i [] es) op (λu=>CQ C n N d e E F r (i+1) (es++[⟨o.dst,[],none,u⟩]) k)
          else CQ C n N d e E F r (i+1) (es++[⟨o.dst,g,ex,be (eS false)⟩]) k
        |_,_=>G4 C ex (n+64*i) (N+512*i) (Cc d e E i g es) (rL C N d e F i g es) op (λu=>CQ C n N d e E F r (i+1) (es++[⟨o.dst,g,ex,u⟩]) k)
def yf(C:Cx)(P:Program)(n N:Nat)(d:List (List Nat))(f:List Oper)(E:SE)(F:List AF)(o:Oper)(i:Nat)(es:List Ent)(e:Ent):Prop:=
  e.d=o.dst/\(Gm es o.guard=some (e.g,e.ex)\/((∃g,Gm es o.guard=some (g,some true))/\e.g=[]/\e.ex=none)) /\
  ((∃c a b v,o.op=.pick c a b/\Lx (d.getD i []) e.g es c a b=some v/\e.u=be (eS v)) \/
   (ga e.ex->dl P o (Cc d f E i e.g es) (rL C N d f F i e.g es) (n+64*i) e.u))
theorem aco{R:Type}{P:Program}{C:Cx}(A:C.ok P){n N:Nat}{f:List (List Nat)}{d:List Oper}{E:SE}{F:List AF}{k:List Ent->Option R}{r:R} :
    ∀{l:List Oper} {i:Nat} {es:List Ent},CQ C n N f d E F l i es k=some r->d.drop i=l->es.length=i->(∀j o e,d[j]?=some o->es[j]?=some e->yf C P n N f d E F o j (es.take j) e) ->
    ∃p,k p=some r/\p.length=i+l.length/\∀j o e,d[j]?=some o->p[j]?=some e->yf C P n N f d E F o j (p.take j) e
  |[],i,es,h,hd,hl,q=>⟨es,h,by simpa using hl,q⟩
  | o::l,i,es,h,hd,hl,q=>by
    simp only[CQ]at h;have L:d[i]?=some o:=by have:=aei (·[0]?) hd;grind
    have B:d.drop (i+1)=l:=by have:=aei (List.drop 1) hd;simpa[agG]using this
    have next:∀{g:List (Nat×Bool)} {ex:Option Bool} {u:Out},(Gm es o.guard=some (g,ex)\/((∃g,Gm es o.guard=some (g,some true))/\g=[]/\ex=none)) ->
        ((∃c a b v,o.op=.pick c a b/\Lx (f.getD i []) g es c a b=some v/\u=be (eS v))\/(ga ex->dl P o (Cc f d E i g es) (rL C N f d F i g es) (n+64*i) u)) ->
        CQ C n N f d E F l (i+1) (es++[⟨o.dst,g,ex,u⟩]) k=some r ->
        ∃p,k p=some r/\p.length=i+(o::l).length/\∀j o e,d[j]?=some o->p[j]?=some e->yf C P n N f d E F o j (p.take j) e:=by
      intro g ex u s z M;obtain⟨p,S,T,U⟩:=aco A M B (by simp[hl]) (λj V e D w=>by
        by_cases J:j<i
        ·grind
        · have H:=(aeI.1 w).1
          simp only[acA,adC]at H
          have t:j=i:=by omega
          subst t
          rw[afT (by omega),show j-es.length=0 by omega]at w
          simp only[agE,no]at w
          subst w
          rw[L]at D
          simp only[no]at D
          subst D
          rw[ajy (by omega),aeQ (by omega)]
          exact⟨rfl,s,z⟩)
      grind
    split at h
    ·cases h
    · rename_i g ex s
      split at h
      · rename_i c a b I
        split at h
        · rename_i v O
          exact next (.inl s) (.inl ⟨c,a,b,v,I,O,rfl⟩) h
        ·cases h
      · have norm:G4 C ex (n+64*i) (N+512*i) (Cc f d E i g es) (rL C N f d F i g es) o.op (λu=>CQ C n N f d E F l (i+1) (es++[⟨o.dst,g,ex,u⟩]) k)=some r ->
            ∃p,k p=some r/\p.length=i+(o::l).length/\∀j o e,d[j]?=some o->p[j]?=some e->yf C P n N f d E F o j (p.take j) e:=λh'=>by
          obtain⟨u,z,hs⟩:=Sd (P:=P) (o:=o) A (ex:=ex) (n:=n+64*i) (N:=N+512*i) (E:=Cc f d E i g es) (F:=rL C N f d F i g es) (λu=>CQ C n N f d E F l (i+1) (es++[⟨o.dst,g,ex,u⟩]) k) r h';grind
        cases K:bU i C.O
        ·grind
        · rw [K]at h
          cases ex with
          |none=>grind
          | some b=>
            simp only at h;cases b with
            | true=>
              simp only[abv]at h;obtain⟨u,z,hs⟩:=Sd (P:=P) (o:=o) A (ex:=none) (n:=n+64*i) (N:=N+512*i) (E:=Cc f d E i [] es) (F:=rL C N f d F i [] es) (λu=>CQ C n N f d E F l (i+1) (es++[⟨o.dst,[],none,u⟩]) k) r (by assumption);exact next (.inr ⟨⟨g,s⟩,rfl,rfl⟩) (.inr hs) z
            | false=>
              simp only[ab7]at h;exact next (.inl s) (.inr λQ=>by cases Q) h
def okN(n:Nat)(cl:List Nat)(m:Nat):Bool:=Nat.blt m n||cl.any λi=>Nat.ble (n+64*i) m&&Nat.blt m (n+64*i+64)
def Lf.okN(n:Nat)(cl:List Nat)(l:Lf):Bool:=match l with
  |.sl h=>Go.Sm.okN n cl h
  |.rp h _ _ _ _=>Go.Sm.okN n cl h
  |.bp b _=>Go.Sm.okN n cl b
  |.bq b _ _ _ _=>Go.Sm.okN n cl b
  |.clo _ bs=>bs.all (Go.Sm.okN n cl)
  |.mp h=>Go.Sm.okN n cl h
  |_=>true
def He(n:Nat)(cl:List Nat):List Lf->Bool
  |[]=>true
  |l::r=>l.okN n cl&&He n cl r
mutual
def AV.okN(n:Nat)(cl:List Nat):AV->Bool
  |.lf l=>l.okN n cl
  |.ag ls=>He n cl ls
  |.tu vs=>AV.okNs n cl vs
def AV.okNs(n:Nat)(cl:List Nat):List AV->Bool
  |[]=>true
  |v::r=>v.okN n cl&&AV.okNs n cl r
end
def AF.okN(n:Nat)(cl:List Nat):AF->Bool
  |.rep _ _ _ h=>Go.Sm.okN n cl h
  |.own _ _ _ _ _ h=>Go.Sm.okN n cl h
  |.box _ b cs=>Go.Sm.okN n cl b&&He n cl cs
  |.isn h _=>Go.Sm.okN n cl h
  |.ag B=>Nat.ble B n
  |.prt h' h _ _ _=>Go.Sm.okN n cl h'&&Go.Sm.okN n cl h
  |.pbx h' h _ _ _=>Go.Sm.okN n cl h'&&Go.Sm.okN n cl h
  |.hol _ _ _ _ h _ cs=>Go.Sm.okN n cl h&&He n cl cs
  |.mp _ _ _ _ h=>Go.Sm.okN n cl h
  |.pt _ _ _ _ _ h _=>Go.Sm.okN n cl h
theorem gL(h:okN n cl m=true)(hi:i∉cl):out (n+64*i) m=true:=by
  simp only[okN,afz]at h;simp only[out,afz];rcases h with h|h
  · left
    have:m+1<=n:=abM h
    exact aeo (by omega)
  · obtain⟨j,c,a⟩:=aiF.1 h
    simp only[abF]at a
    have f:=abM a.1
    have g:m+1<=n+64*j+64:=abM a.2
    have d:i≠j:=λe=>hi (e▸c)
    rcases afB i j with b|b
    ·right;exact aeo (by omega)
    ·left;exact aeo (by omega)
theorem Lf.okN_free(hi:i∉cl):(l:Lf)->l.okN n cl=true->l.free (n+64*i)=true
  |.sl _,h=>gL h hi
  |.rp _ _ _ _ _,h=>gL h hi
  |.bp _ _,h=>gL h hi
  |.bq _ _ _ _ _,h=>gL h hi
  |.clo _ _,h=>acr.2 λb a=>gL (acr.1 h b a) hi
  |.mp _,h=>gL h hi
  |.gp _ _ _ _ _,_=>rfl
  |.ars _ _,_=>rfl
  |.c _ _,_=>rfl
  |.ar _ _ _,_=>rfl
  |.nl,_=>rfl
  |.xt _ _,_=>rfl
  |.fn _,_=>rfl
  |.yl,_=>rfl
  |.v _,_=>rfl
theorem yE{n:Nat}{cl:List Nat}{i:Nat}(hi:i∉cl):∀{ls:List Lf},He n cl ls=true->uo (n+64*i) ls=true
  |[],_=>rfl
  | l::r,h=>by
    simp only[He,abF]at h;simp only[uo,l.okN_free hi h.1,yE hi h.2,ahg]
mutual
theorem AV.okN_free{n:Nat}{cl:List Nat}{i:Nat}(hi:i∉cl):(v:AV)->v.okN n cl=true->v.free (n+64*i)=true
  |.lf l,h=>by simp only[AV.free];exact l.okN_free hi h
  |.ag ls,h=>by simp only[AV.free];exact yE hi h
  |.tu vs,h=>by simp only[AV.free];exact AV.okNs_free hi vs h
theorem AV.okNs_free{n:Nat}{cl:List Nat}{i:Nat}(hi:i∉cl):(vs:List AV)->AV.okNs n cl vs=true->AV.frees (n+64*i) vs=true
  |[],_=>rfl
  | v::r,h=>by
    simp only[AV.okNs,abF]at h;simp only[AV.frees,AV.okN_free hi v h.1,AV.okNs_free hi r h.2,ahg]
end
theorem AF.okN_free(hi:i∉cl):(f:AF)->f.okN n cl=true->f.free (n+64*i)=true
  |.rep _ _ _ _,h=>gL h hi
  |.own _ _ _ _ _ _,h=>gL h hi
  | .box _ b cs,h=>by
    simp only[AF.okN,abF]at h;simp only[AF.free,gL h.1 hi,yE hi h.2,ahg]
  |.isn _ _,h=>gL h hi
  |.ag _,h=>aeo (aqf (abM h) (Nat.le_add_right _ _))
  |.mp _ _ _ _ _,h=>gL h hi
  |.pt _ _ _ _ _ _ _,h=>gL h hi
  | .prt _ _ _ _ _,h=>by
    simp only[AF.okN,abF]at h;simp only[AF.free,gL h.1 hi,gL h.2 hi,ahg]
  | .pbx _ _ _ _ _,h=>by
    simp only[AF.okN,abF]at h;simp only[AF.free,gL h.1 hi,gL h.2 hi,ahg]
  | .hol _ _ _ _ _ _ _,h=>by
    simp only[AF.okN,abF]at h;simp only[AF.free,gL h.1 hi,yE hi h.2,ahg]
def atl(C:Cx)(n N nt:Nat)(a:List (List Nat))(b:List Oper)(es:List Ent)(i:Nat):Bool:=match b[i]?,es[i]? with
  |some o,some e=>e.u.av.okN n (i::a.getD i [])&&e.u.fs.all (AF.okN n (i::a.getD i []))&&(e.u.κ.isEmpty||(zr C o&&e.u.κ.all (λk=>Nat.ble 2 k)&&match e.ex with|none=>true|some _=>false)) &&
      (match e.d with|some d=>Nat.blt d nt|none=>true)&&(match C.K with|none=>true|some kd=>wo b o||e.u.κ.all (λk=>Nat.ble N k||bU k kd)||(List.range i).all (λj=>!(pE a i j)))&&(!(wo b o)||e.u.κ.all (λk=>Nat.ble N k)||(List.range i).all (λj=>!(pE a i j)))&&(match o.guard with|some (j,_)=>bU j (a.getD i [])&&(match es[j]? with|some c=>c.d.isSome|none=>false)|none=>true)
  |_,_=>false
def wQ:List Nat->Bool
  |[]=>true
  |a::r=>!(bU a r)&&wQ r
def lT(n:Nat)(E:SE)(F:List AF):Bool:=E.all (λp=>p.2.okN n [])&&F.all (AF.okN n [])
def wJ(C:Cx)(n N nt:Nat)(d:Bool)(b:List (List Nat))(a:List Oper)(E:SE)(F:List AF)(es:List Ent):Bool:=
  (!d||HN a b)&&b.all (λc=>c.all λj=>Nat.blt j a.length)&&wQ (uf a)&&lT n E F&&(List.range a.length).all (atl C n N nt b a es)
end
end Go.Sm
