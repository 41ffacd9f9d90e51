/- Laws for the row. No condition. -/
import Derived.Test.YtgghcmbaidihjaaGreatDoorRfT
namespace Go.Sm
set_option linter.unusedSectionVars false
section
variable [X:XTab] [G:GTab] [Yc:GCx]
abbrev d8:List TC->Type
 |[]=>Unit
 |[t]=>t.den
 |t::r=>t.den×d8 r
def gK:List TC->Nat
 |[]=>0
 |t::r=>t.nh+gK r
def kS(t:TC)(x:t.den)(y:t.ty.Refs):Value:=match t,x,y with
 |.sc s,x,_=>s.val x
 |.arr n s,x,_=>.agg ((TC.arr n s).ty.fill x ()).toArray
 |.unit,_,_=>.agg #[]
 |.pair a b,x,y=>.agg ((TC.pair a b).ty.fill x y).toArray
 |.st a,x,y=>.agg (a.ty.fill x y).toArray
 |.slice _,_,h=>Hd.val h
 |.ext k,x,_=>X.val k x
 |.node,x,h=>.agg (Ty.node.fill x h).toArray
 |.mp _ _,_,h=>.map (some (Hd.blk h))
def jz:(ts:List TC)->d8 ts->List Hd->List Value
 |[],_,_=>[]
 |[t],x,l=>[kS t x (aM t l)]
 |t::t'::r,x,l=>kS t x.1 (aM t l)::jz (t'::r) x.2 (l.drop t.nh)
structure RM where
 own:Option TypeId
 one:Bool
 new:Bool
def RM.K(m:RM)(c:Nat):List Nat:=(bif m.one then [1]else [])++(bif m.new then [c]else [])
def f0:(t:TC)->t.den->List RM->Nat->List AF
 |.pair a b,x,ms,j=>f0 a x.1 ms j++f0 b x.2 (ms.drop a.nh) (j+a.nh)
 |.slice t,xs,m::_,j=>match m.own with
  |some e=>bif Nat.ble 4194304 e && !(eM e)then []else [.own t e (2+2*j) (m.K 129) xs j]
  |none=>[.rep t (m.K 129) xs j]
 |.st a,x,ms,j=>f0 a x ms j
 |.mp k v,xs,m::_,j=>match m.own with
  |some _=>[.mp k v (2+2*j) xs j]
  |none=>[]
 |_,_,_,_=>[]
def lg:(ts:List TC)->d8 ts->List RM->Nat->List AF
 |[],_,_,_=>[]
 |[t],x,ms,j=>f0 t x ms j
 |t::t'::r,x,ms,j=>f0 t x.1 ms j++lg (t'::r) x.2 (ms.drop t.nh) (j+t.nh)
inductive PC
 |d (t:TC)
 |own (t:TC) (e:TypeId)
 |box (m:Bool) (t:TC) (os:List (Option TypeId))
 |fn (f:FuncId)
 |clo (f:FuncId) (t:TC)
 |prt (t:TC) (e:TypeId)
abbrev PC.den:PC->Type
 |.d t=>t.den
 |.own t _=>List t.den
 |.box _ t _=>t.den
 |.fn _=>Unit
 |.clo _ t=>t.den
 |.prt t _=>List t.den×Int×Int
abbrev ja:List PC->Type
 |[]=>Unit
 |[p]=>p.den
 |p::q::r=>p.den×ja (q::r)
def PC.nh:PC->Nat
 |.d t=>t.nh
 |.own _ _=>1
 |.box _ t _=>1+t.nh
 |.fn _=>0
 |.clo _ t=>1+t.nh
 |.prt _ _=>2
def qE:List PC->Nat
 |[]=>0
 |p::r=>p.nh+qE r
def PC.nc:PC->Nat
 |.own _ _=>1
 |.box _ t _=>1+t.nh
 |.prt _ _=>1
 |_=>0
def PC.val:(p:PC)->p.den->List Hd->Value
 |.d t,x,l=>kS t x (aM t l)
 |.own _ _,_,l=>(l.headD eJ).val
 |.box _ _ _,_,l=>.pointer (some ⟨(l.headD eJ).blk,0,none⟩)
 |.fn f,_,_=>.func (.func f) #[] #[]
 |.clo f _,_,l=>.func (.func f) #[] #[.pointer (some ⟨(l.headD eJ).blk,0,none⟩)]
 |.prt _ _,_,l=>(l.tail.headD eJ).val
def kX:(ps:List PC)->ja ps->List Hd->List Value
 |[],_,_=>[]
 |[p],x,l=>[p.val x l]
 |p::p'::r,x,l=>p.val x.1 l::kX (p'::r) x.2 (l.drop p.nh)
def ir:(t:TC)->t.den->t.ty.Refs->List (Option TypeId)->Nat->List HA
 |.pair a b,x,y,os,q=>ir a x.1 y.1 os q++ir b x.2 y.2 (os.drop a.nh) (q+a.nh)
 |.slice t,xs,h,os,q=>match os with
  |some e::_=>[dS t.ty e q [1] xs h]
  |_=>[.rep t.ty [1] xs h]
 |.st a,x,y,os,q=>ir a x y os q
 |.sc _,_,_,_,_=>[]
 |.arr _ _,_,_,_,_=>[]
 |.unit,_,_,_,_=>[]
 |.ext _,_,_,_,_=>[]
 |.node,x,h,_,_=>[.rep .node [1] x.tup.2.2.2 h]
 |.mp k v,xs,h,os,q=>match os with
  |some _::_=>[.mp q (Hd.blk h) (A4 k v xs)]
  |_=>[]
def PC.facts:(p:PC)->p.den->List Hd->Nat->List HA
 |.d t,x,l,_=>Go.Sm.facts t.ty [1] x (aM t l)
 |.own t e,xs,l,q=>[dS t.ty e q [1] xs (l.headD eJ)]
 |.box m t os,x,l,q=>.box (bif m then q else 1) (l.headD eJ).blk (t.ty.fill x (aM t (l.drop 1)))::ir t x (aM t (l.drop 1)) (bif m then os else []) (q+1)
 |.fn _,_,_,_=>[]
 |.clo _ t,x,l,q=>.box 1 (l.headD eJ).blk (t.ty.fill x (aM t (l.drop 1)))::ir t x (aM t (l.drop 1)) [] (q+1)
 |.prt t e,x,l,q=>[dS t.ty e q [1] x.1 (l.headD eJ),.pure (kQ (l.tail.headD eJ) (l.headD eJ) t.ty.sz x.2.1 x.2.2)]
def nA:(ps:List PC)->ja ps->List Hd->Nat->List HA
 |[],_,_,_=>[]
 |[p],x,l,q=>p.facts x l q
 |p::p'::r,x,l,q=>p.facts x.1 l q++nA (p'::r) x.2 (l.drop p.nh) (q+p.nc)
def wB(nr:Nat)(ts:List TC)(x:d8 ts)(l:List Hd):Value:=match(jz ts x l).take nr with
 |[v]=>v
 |vs=>.tuple vs.toArray
def nx{α:Type}(s:Nat)(a b:α):α:=match s with
 |0=>a
 |_=>b
def xY:(t:TC)->t.den->Hd->TypeId->Nat->List HA
 |.slice t,xs,h,e,c=>bif t.ty.pureB||eM e then [dS t.ty e c [] xs h]else []
 |_,_,_,_,_=>[]
inductive ObH
 |b (n:Nat)
 |r (h:Hd) (e:TypeId)
def ry(t:TC)(x:t.den)(l:List Hd)(s:Nat)(bs:List ObH)(c:Nat):List HA:=match s,bs with
 |0,.b b::_=>[.box c b (t.ty.fill x (aM t l))]
 |0,.r h e::_=>xY t x h e c
 |_,_=>[]
def lJ:(ts:List TC)->d8 ts->List Hd->Nat->List ObH->Nat->List HA
 |[],_,_,_,_,_=>[]
 |[t],x,l,s,bs,c=>ry t x l s bs c
 |t::t'::r,x,l,s,bs,c=>ry t x.1 l s bs c++lJ (t'::r) x.2 (l.drop t.nh) (s-1) (nx s bs.tail bs) (nx s (c+1) c)
structure Sig where
 ps:List PC
 rs:List TC
 nr:Nat
 bl:List Nat
 ms:List RM
def ηL(l:List Hd):Vn:=⟨λm=>l.getD m eJ,λm=>(l.getD m eJ).blk⟩
def tS(w0:World)(c0:aS){Y:Type}(val:Y->Value)(facts:Y->List HA)(e:Ending)(w':World):Prop:=
 ∃y c',e=.returned (val y)/\gv w0 w'/\w0.heap.size<=w'.heap.size/\(∀b,b<w0.heap.size->c0 b<=1->w'.heap[b]?=w0.heap[b]?/\c' b=c0 b) /\
  (∀b,b<w'.heap.size->(b<w0.heap.size->2<=c0 b)->2<=c' b)/\aj w' c' (facts y)
def obH(l:List Hd)(k:Nat):ObH:=bif Nat.blt k 64 then .b (l.getD k eJ).blk else .r (l.getD (k%64) eJ) (k / 64-1)
def wN(l:List Hd)(bl:List Nat):List ObH:=bl.map (obH l)
def Qr(P:Program)(f:FuncId)(C:Sig)(x:ja C.ps)(r:d8 C.rs):Prop:=
 (∃fn cd,P.funcs[f]?=some fn/\fn.body=some cd/\(fn.name == "runtime.NumGoroutine")=false) /\
 ∀ (l:List Hd),l.length=qE C.ps->∀(w:World) (c0:aS),aj w c0 (nA C.ps x l 2++eV) ->
  Calls P f (kX C.ps x l).toArray w (tS w c0 (λy : { y:List Hd//y.length=gK C.rs}=>wB C.nr C.rs r y.1)
   (λy=>(lg C.rs r C.ms 0).map (AF.ha (ηL y.1))++lJ C.rs r y.1 C.nr (wN l C.bl) 130))
structure Ctr extends Sig where
 fn:ja ps->Option (d8 rs)
structure DCtr extends Sig where
 fn:Nat->ja ps->Option (d8 rs)
def Ctr.sound(P:Program)(f:FuncId)(C:Ctr):Prop:=∀x r,C.fn x=some r->Qr P f C.toSig x r
def DCtr.sound(P:Program)(C:DCtr):Prop:=∀f x r,C.fn f x=some r->Qr P f C.toSig x r
abbrev Ct:=FuncId->List Ctr
def Ct.ok(Γ:Ct)(P:Program):Prop:=∀f,∀C∈Γ f,C.sound P f
def mu(μ:List (Nat×Nat))(Ka:List Nat)(k:Nat):Nat:=match μ with
 |[]=>bif Nat.ble 1 k&&bQ k Ka then 1 else 0
 |(i,q)::r=>bif Nat.beq k i then q else mu r Ka k
theorem xD{Ka:List Nat}{k:Nat}:∀{μ:List (Nat×Nat)},k∉μ.map (·.1)->mu μ Ka k<=1/\(mu μ Ka k=1->k∈Ka)
 |[],_=>by grind[mu,bQ,mem_iff]
 | (i,q)::r,h=>by
  simp only[aas,aaa,not_or]at h;have:Nat.beq k i=false:=by
   cases hb:Nat.beq k i
   ·rfl
   simp_all
  simp only[mu,this,Zr];exact xD h.2
theorem Qt{Ka:List Nat}:∀{μ:List (Nat×Nat)},μ.all (λp=>Nat.ble 2 p.1)=true->mu μ Ka 0=0
 |[],_=>rfl
 | (i,q)::r,h=>by
  simp only[acw,Y5]at h;have h1:=Zh h.1;have:Nat.beq 0 i=false:=by
   cases hb:Nat.beq 0 i
   ·rfl
   ·have:=f9 hb;omega
  simp only[mu,this,Zr];exact Qt h.2
theorem Ua{Ka:List Nat}{k:Nat}:∀{μ:List (Nat×Nat)},μ.all (λp=>Nat.ble 2 p.2)=true->k∈μ.map (·.1)->2<=mu μ Ka k
 |[],_,h=>by simp at h
 | (i,q)::r,hq,h=>by
  simp only[acw,Y5]at hq;simp only[mu];cases hb:Nat.beq k i
  ·simp only[aas,aaa]at h;rcases h with h|h
   ·simp_all
   ·exact Ua hq.2 h
  simp_all
def tg(w:World)(c:aS)(κ:List Nat)(N:Nat)(c':aS):aS:=open Classical inλb=>if b<w.heap.size/\c b∉κ then c b else N+(c' b-2)
theorem instC_holds{N:Nat}{w w':World}{c c':aS}{Ka κ:List Nat}(hold:∀b,b<w.heap.size->c b∉κ->c' b<=1/\(c' b=1->c b∈Ka))(hnew:∀b,b<w'.heap.size->(b<w.heap.size->c b∈κ)->2<=c' b) :
  (A:HA)->A.leaves=true->A.holds w' c'->(A.inst N Ka).holds w' (tg w c κ N c'):=by
 have hK:∀K:List Nat,K.all (λk=>Nat.ble 1 k)=true->ij w' w' (λb=>c' b∈K) (λb=>tg w c κ N c' b∈instK N Ka K):=by
  intro K hK b hb hc;refine⟨?_,rfl⟩;show tg w c κ N c' b∈_;unfold tg;split
  ·rename_i hlt;have h1:1<=c' b:=Zh (Zy.1 hK _ hc);grind[instK_one]
  grind[instK_mem]
 have hi:∀i b,2<=i->c' b=i->tg w c κ N c' b=N+(i-2):=by intro i b h2 hc;unfold tg;grind
 intro A hl hA;cases A with
 |tr t e i K xs v=>
  simp only[HA.leaves,Y5]at hl;exact cC.keep (λb hb hc=>⟨hi i b (Zh hl.1) hc,rfl⟩) hA
 |hol t e i xs v k cs=>exact jf.keep (λb hb hc=>⟨hi i b (Zh hl) hc,rfl⟩) hA
 |rep t K xs v=>exact bD.keep (hK K hl) (.slice t) xs v hA
 |own t e i K xs v=>
  simp only[HA.leaves,Y5]at hl;obtain⟨ys,h1,h2,h3⟩:=hA;exact⟨ys,h1.mono (bD.keep (hK K hl.2) t),h2,λg hg=>hi i g (Zh hl.1) (h3 g hg)⟩
 |box i b cs=>
  obtain⟨⟨ty,hb⟩,hc⟩:=hA;exact⟨⟨ty,hb⟩,hi i b (Zh hl) hc⟩
 |elem t K x p=>
  obtain⟨y,b,off,arr,ty,fz,hp,hc,hb,h1,h2,h3⟩:=hA;exact⟨y,b,off,arr,ty,fz,hp,(hK K hl b (aaA.1 hb).1 hc).1,hb,h1,h2,bD.keep (hK K hl) t x y h3⟩
 |old w0 S=>simp[HA.leaves]at hl
 |pure p=>exact hA
 |gl g n cs=>simp[HA.leaves]at hl
 |lp b o=>simp[HA.leaves]at hl
 |pt t e i K xs v m=>
  simp only[HA.leaves,Y5]at hl;exact xb.keep (λb _ hc=>⟨hi i b (Zh hl.1) hc,rfl⟩) (hK K hl.2) hA
 |mp i b es=>
  exact sZ.keep (S:=λb=>c' b=i) (λb _ hc=>⟨hi i b (Zh hl) hc,rfl⟩) hA
theorem abu{P:Program}{ρ:cV}{L:List HA}{o:Oper}{x:Operand}{xs:Array Operand}{ts:Array TypeId}{f:FuncId}{fn:Func}{args cap:List Value}{Y:Type}{val:Y->Value}{fcts:Y->List HA}{pre:List HA}{cd:Code}
  (hc:∀w c0,aj w c0 pre->Calls P f args.toArray w (tS w c0 val fcts))
  (ho:o.op=.call { callee:=.value x,args:=xs,argTypes:=ts}) (hx:aJ ρ x=.func (.func f) #[] cap.toArray) (hargs:xs.toList.map (aJ ρ)++cap=args)
  (hf:P.funcs[f]?=some fn) (hb:fn.body=some cd) (hname:(fn.name == "runtime.NumGoroutine")=false) (Ka:List Nat) (μ:List (Nat×Nat)) (hq:μ.all (λp=>Nat.ble 2 p.2)=true)
  (hpre:∀w c,aj w c L->aj w (λb=>mu μ Ka (c b)) pre)
  (hl:∀y,(fcts y).all HA.leaves=true) {N:Nat} {Φ:Y->List HA} (hΦ:∀y,(fcts y).map (HA.inst N Ka)=Φ y) (hN:Nat.ble 2 N=true) :
  cJ P ρ o L (μ.map (·.1)) val Φ:=by
 intro a ev w c next Q ha hL hk
 have h2:2<=N:=Zh hN;have hn':¬fn.name = "runtime.NumGoroutine" := by grind
 have hargs':xs.map (aJ ρ)++cap.toArray=args.toArray:=by grind
 have hrun:(execOp ev o).run P w=.ok (.enter f args.toArray) w:=by simp[execOp,ho,resolve,ha,hx,Deferred.ofValue,invoke,callFunc,hf,hb,hn',hargs',Result.andThen]
 rw[hrun,Oper.uponIn_enter];refine⟨λh=>(by cases h),callsIn_wide.2 ?_⟩;refine(hc w (λb=>mu μ Ka (c b)) (hpre w c hL)).mono ?_;rintro e w' ⟨y,c',rfl,henv,h1,hold,hnew,hF⟩;refine hk y w' (tg w c (μ.map (·.1)) N c') ⟨h1,λb hb hn=>by simp only[tg];grind,λb hb hn=>(hold b hb (xD hn).1).1,λb hb hb' => ?_,henv⟩ ?_
 ·simp only[tg];grind
 ·rw[<-hΦ y];intro A hA;obtain⟨B,hB,rfl⟩:=ZA.1 hA;refine instC_holds (λb hb hn=>?_) (λb hb hn=>hnew b hb λhlt=>Ua hq (hn hlt)) B (Zy.1 (hl y) B hB) (hF B hB);grind[xD]
def AF.inst(n N:Nat)(Ka:List Nat):AF->AF
 |.rep t K xs h=>.rep t (instK N Ka K) xs (n+h)
 |.own t e i K xs h=>.own t e (N+(i-2)) (instK N Ka K) xs (n+h)
 |.box i b cs=>.box i b cs
 |.isn h b=>.isn h b
 |.ag B=>.ag B
 |.prt a b s l h=>.prt a b s l h
 |.pbx a b s l h=>.pbx a b s l h
 |.hol t e i xs h k cs=>.hol t e i xs h k cs
 |.mp k v i xs h=>.mp k v (N+(i-2)) xs (n+h)
 |.pt t e i K xs h m=>.pt t e (N+(i-2)) (instK N Ka K) xs (n+h) m
def AF.isBox:AF->Bool
 |.box _ _ _=>true
 |.isn _ _=>true
 |.ag _=>true
 |.prt _ _ _ _ _=>true
 |.pbx _ _ _ _ _=>true
 |.hol _ _ _ _ _ _ _=>true
 |_=>false
theorem oz{η:Vn}:∀(t:TC) (x:t.den) (ms:List RM) (j:Nat),∀f∈f0 t x ms j,(f.ha η).leaves=true/\f.isBox=false
 |.pair a b,x,ms,j,f,h=>by
  simp only[f0,aad]at h;rcases h with h|h
  ·exact oz a _ _ _ f h
  ·exact oz b _ _ _ f h
 |.slice t,xs,[],j,f,h=>by simp[f0]at h
 | .slice t,xs,m::r,j,f,h=>by
  have hK:∀c,1<=c->(m.K c).all (λk=>Nat.ble 1 k)=true:=by grind[RM.K,List.all_eq_true,Nat.ble_eq_true_of_le]
  simp only[f0]at h;split at h
  ·rename_i e _;cases he:(Nat.ble 4194304 e && !(eM e))
   ·rw[he]at h;simp only[Zr,ZK]at h;subst h;refine⟨?_,rfl⟩;grind[AF.ha,wR,Nat.ble_eq_true_of_le]
   grind
  ·simp only[ZK]at h;subst h;exact⟨hK _ (by omega),rfl⟩
 |.st a,x,ms,j,f,h=>oz a x ms j f h
 |.sc _,_,_,_,_,h=>by simp[f0]at h
 |.arr _ _,_,_,_,_,h=>by simp[f0]at h
 |.unit,_,_,_,_,h=>by simp[f0]at h
 |.ext _,_,_,_,_,h=>by simp[f0]at h
 |.node,_,_,_,_,h=>by simp[f0]at h
 |.mp _ _,_,[],_,_,h=>by simp[f0]at h
 |.mp _ _,_,m::_,_,_,h=>by
  simp only[f0]at h;split at h
  ·simp only[ZK]at h;subst h;exact⟨aah (by omega),rfl⟩
  ·cases h
theorem wU{η:Vn}:∀(ts:List TC) (x:d8 ts) (ms:List RM) (j:Nat),∀f∈lg ts x ms j,(f.ha η).leaves=true/\f.isBox=false
 |[],_,_,_,_,h=>by simp[lg]at h
 |[t],x,ms,j,f,h=>oz t x ms j f h
 |t::t'::r,x,ms,j,f,h=>by
  simp only[lg,aad]at h;rcases h with h|h
  ·exact oz t _ _ _ f h
  ·exact wU (t'::r) _ _ _ f h
def AF.hdN:AF->Nat
 |.rep _ _ _ h=>h
 |.own _ _ _ _ _ h=>h
 |.box _ _ _=>0
 |.isn _ _=>0
 |.ag _=>0
 |.prt _ _ _ _ _=>0
 |.pbx _ _ _ _ _=>0
 |.hol _ _ _ _ _ _ _=>0
 |.mp _ _ _ _ h=>h
 |.pt _ _ _ _ _ h _=>h
theorem inst_ha{n N:Nat}{Ka:List Nat}{l:List Hd}{η:Vn}:(f:AF)->η.h (n+f.hdN)=(ηL l).h f.hdN->f.isBox=false->HA.inst N Ka (f.ha (ηL l))=(f.inst n N Ka).ha η
 |.rep t K xs h,hη,_=>by grind[AF.hdN,AF.ha,HA.inst,AF.inst]
 |.own t e i K xs h,hη,_=>by grind[AF.hdN,AF.ha,AF.inst,zZ]
 |.box _ _ _,_,h=>by cases h
 |.isn _ _,_,h=>by cases h
 |.ag _,_,h=>by cases h
 |.prt _ _ _ _ _,_,h=>by cases h
 |.pbx _ _ _ _ _,_,h=>by cases h
 |.hol _ _ _ _ _ _ _,_,h=>by cases h
 |.mp k v i xs h,hη,_=>by grind[AF.hdN,AF.ha,HA.inst,AF.inst]
 |.pt t e i K xs h m,hη,_=>by grind[AF.hdN,AF.ha,HA.inst,AF.inst]
theorem xd:∀(t:TC) (x:t.den) (ms:List RM) (j:Nat),∀f∈f0 t x ms j,f.hdN<j+t.nh
 |.pair a b,x,ms,j,f,h=>by
  simp only[f0,aad]at h;simp only[TC.nh];rcases h with h|h
  ·have:=xd a _ _ _ f h;omega
  ·have:=xd b _ _ _ f h;omega
 |.slice t,xs,[],j,f,h=>by simp[f0]at h
 |.slice t,xs,m::r,j,f,h=>by grind[f0,Nat.ble,eM,AF.hdN,TC.nh]
 |.st a,x,ms,j,f,h=>xd a x ms j f h
 |.sc _,_,_,_,_,h=>by simp[f0]at h
 |.arr _ _,_,_,_,_,h=>by simp[f0]at h
 |.unit,_,_,_,_,h=>by simp[f0]at h
 |.ext _,_,_,_,_,h=>by simp[f0]at h
 |.node,_,_,_,_,h=>by simp[f0]at h
 |.mp _ _,_,[],_,_,h=>by simp[f0]at h
 |.mp _ _,_,m::_,_,_,h=>by grind[f0,AF.hdN,TC.nh]
theorem Py:∀(ts:List TC) (x:d8 ts) (ms:List RM) (j:Nat),∀f∈lg ts x ms j,f.hdN<j+gK ts
 |[],_,_,_,_,h=>by simp[lg]at h
 |[t],x,ms,j,f,h=>by have:=xd t x ms j f h;simp only[gK];omega
 |t::t'::r,x,ms,j,f,h=>by
  simp only[lg,aad]at h;have e:gK (t::t'::r)=t.nh+gK (t'::r):=rfl;rcases h with h|h
  ·have:=xd t _ _ _ f h;omega
  ·have:=Py (t'::r) _ _ _ f h;omega
def C0:(ts:List TC)->d8 ts->Nat->List AV
 |[],_,_=>[]
 |[t],x,n=>[pC t x n]
 |t::t'::r,x,n=>pC t x.1 n::C0 (t'::r) x.2 (n+t.nh)
def ye(nr:Nat)(ts:List TC)(x:d8 ts)(n:Nat):AV:=match(C0 ts x n).take nr with
 |[v]=>v
 |vs=>.tu vs
def aem:(t:TC)->t.den->Nat->TypeId->Nat->List AF
 |.slice t,xs,h,e,c=>bif t.ty.pureB||eM e then [.own t e c [] xs h]else []
 |_,_,_,_,_=>[]
inductive ObA
 |b (n:Nat)
 |r (h:Nat) (e:TypeId)
def ObA.v(η:Vn):ObA->ObH
 |.b n=>.b (η.b n)
 |.r h e=>.r (η.h h) e
def ObA.free(n:Nat):ObA->Bool
 |.b _=>true
 |.r h _=>out n h
def Ee(t:TC)(x:t.den)(n:Nat)(s:Nat)(bs:List ObA)(c:Nat):List AF:=match s,bs with
 |0,.b b::_=>[.box c b (iG t x n)]
 |0,.r h e::_=>aem t x h e c
 |_,_=>[]
theorem ajy{η:Vn}:∀(t:TC) (x:t.den) (h:Nat) (e:TypeId) (c:Nat),(aem t x h e c).map (AF.ha η)=xY t x (η.h h) e c
 |.slice t,xs,h,e,c=>by simp only[aem,xY];cases (t.ty.pureB||eM e)<;>rfl
 |.sc _,_,_,_,_=>rfl
 |.arr _ _,_,_,_,_=>rfl
 |.unit,_,_,_,_=>rfl
 |.pair _ _,_,_,_,_=>rfl
 |.st _,_,_,_,_=>rfl
 |.ext _,_,_,_,_=>rfl
 |.node,_,_,_,_=>rfl
 |.mp _ _,_,_,_,_=>rfl
theorem OR:∀(t:TC) (x:t.den) (h:Hd) (e:TypeId) (c:Nat),2<=c->(xY t x h e c).all HA.leaves=true
 |.slice t,xs,h,e,c,hc=>by simp only[xY];cases (t.ty.pureB||eM e)<;>simp[wR,hc]
 |.sc _,_,_,_,_,_=>rfl
 |.arr _ _,_,_,_,_,_=>rfl
 |.unit,_,_,_,_,_=>rfl
 |.pair _ _,_,_,_,_,_=>rfl
 |.st _,_,_,_,_,_=>rfl
 |.ext _,_,_,_,_,_=>rfl
 |.node,_,_,_,_,_=>rfl
 |.mp _ _,_,_,_,_,_=>rfl
theorem X2{N:Nat}{Ka:List Nat}:∀(t:TC) (x:t.den) (h:Hd) (e:TypeId) (c:Nat),(xY t x h e (c+2)).map (HA.inst N Ka)=xY t x h e (N+c)
 |.slice t,xs,h,e,c=>by grind[xY,eM,instK,zZ]
 |.sc _,_,_,_,_=>rfl
 |.arr _ _,_,_,_,_=>rfl
 |.unit,_,_,_,_=>rfl
 |.pair _ _,_,_,_,_=>rfl
 |.st _,_,_,_,_=>rfl
 |.ext _,_,_,_,_=>rfl
 |.node,_,_,_,_=>rfl
 |.mp _ _,_,_,_,_=>rfl
def KI:(ts:List TC)->d8 ts->Nat->Nat->List ObA->Nat->List AF
 |[],_,_,_,_,_=>[]
 |[t],x,n,s,bs,c=>Ee t x n s bs c
 |t::t'::r,x,n,s,bs,c=>Ee t x.1 n s bs c++KI (t'::r) x.2 (n+t.nh) (s-1) (nx s bs.tail bs) (nx s (c+1) c)
def gU(η:Vn)(n:Nat)(l:List Hd):Prop:=∀j h,l[j]?=some h->η.h (n+j)=h
theorem im{η:Vn}:(t:TC)->(x:t.den)->(l:List Hd)->(n:Nat)->gU η n l->t.nh<=l.length->au η (iG t x n)=t.ty.fill x (aM t l)
 |.sc _,_,_,_,_,_=>rfl
 |.arr _ _,_,_,_,_,_=>by simp[iG,au,Lf.cells,Ty.fill]
 |.unit,_,_,_,_,_=>rfl
 |.pair a b,x,l,n,h,hl=>by simp only[TC.nh]at hl;simp only[iG,aY,Ty.fill,aM];rw[im a x.1 l n h (by omega),im b x.2 (l.drop a.nh) (n+a.nh) (λj hh hj=>by rw[aci]at hj;have:=h _ hh hj;grind) (by simp;omega)]
 | .slice _,x,l,n,h,hl=>by
  simp only[TC.nh]at hl;cases l with
  |nil=>simp at hl
  |cons hd r=>
   have:=h 0 hd rfl;grind[iG,au,Lf.cells,Ty.fill,aM]
 |.st a,x,l,n,h,hl=>im a x l n h hl
 |.ext _,_,_,_,_,_=>rfl
 | .node,x,l,n,h,hl=>by
  simp only[TC.nh]at hl;cases l with
  |nil=>simp at hl
  |cons hd r=>
   have:=h 0 hd rfl;simp only[abj]at this;simp[iG,au,Lf.cells,Ty.fill,Nd.fill,aM,this]
 | .mp _ _,x,l,n,h,hl=>by
  simp only[TC.nh]at hl;cases l with
  |nil=>simp at hl
  |cons hd r=>
   have:=h 0 hd rfl;grind[iG,au,Lf.cells,Ty.fill,aM]
theorem zi{η:Vn}(t:TC)(x:t.den)(l:List Hd)(n:Nat)(h:gU η n l)(hl:t.nh<=l.length):(pC t x n).val η=kS t x (aM t l):=by
 cases t with
 |sc s=>rfl
 |arr m s=>rfl
 |unit=>rfl
 |pair a b=>grind[pC,AV.val,kS,im]
 |st a=>simp only[pC,AV.val,kS,aM];rw[im a x l n h hl]
 | slice t=>
  simp only[TC.nh]at hl;cases l with
  |nil=>simp at hl
  |cons hd r=>
   have:=h 0 hd rfl;grind[pC,AV.val,Lf.val,kS,aM]
 |ext k=>rfl
 |node=>grind[pC,AV.val,kS,im]
 | mp k v=>
  simp only[TC.nh]at hl;cases l with
  |nil=>simp at hl
  |cons hd r=>
   have:=h 0 hd rfl;grind[pC,AV.val,Lf.val,kS,aM]
theorem GN{η:Vn}:∀(ts:List TC) (x:d8 ts) (l:List Hd) (n:Nat),gU η n l->gK ts<=l.length->AV.vals η (C0 ts x n)=jz ts x l
 |[],_,_,_,_,_=>rfl
 |[t],x,l,n,h,hl=>by grind[gK,C0,AV.vals,jz,zi]
 |t::t'::r,x,l,n,h,hl=>by simp only[gK]at hl;simp only[C0,AV.vals,jz];rw[zi t x.1 l n h (by omega),GN (t'::r) x.2 (l.drop t.nh) (n+t.nh) (λj hh hj=>by rw[aci]at hj;have:=h _ hh hj;grind) (by simp only[gK,adT];omega)]
theorem Ge{η:Vn}:∀(vs:List AV) (k:Nat),AV.vals η (vs.take k)=(AV.vals η vs).take k
 |[],k=>by cases k<;>rfl
 |v::r,0=>rfl
 |v::r,k+1=>by simp only[ae5,AV.vals,Ge r k]
theorem Gu{η:Vn}{nr:Nat}(ts:List TC)(x:d8 ts)(l:List Hd)(n:Nat)(h:gU η n l)(hl:gK ts<=l.length):(ye nr ts x n).val η=wB nr ts x l:=by
 have e:=GN ts x l n h hl;have e2:=Ge (η:=η) (C0 ts x n) nr;rw[e]at e2;unfold ye wB;rw[<-e2];generalize(C0 ts x n).take nr=vs;cases vs with
 |nil=>rfl
 |cons v r=>cases r<;>rfl
theorem ajf{η:Vn}:∀(ts:List TC) (x:d8 ts) (l:List Hd) (n s:Nat) (bs:List ObA) (c:Nat),gU η n l->gK ts<=l.length->(KI ts x n s bs c).map (AF.ha η)=lJ ts x l s (bs.map (ObA.v η)) c:=by
 have one:∀(t:TC) (x:t.den) (l:List Hd) (n s:Nat) (bs:List ObA) (c:Nat),gU η n l->t.nh<=l.length->(Ee t x n s bs c).map (AF.ha η)=ry t x l s (bs.map (ObA.v η)) c:=by
  intro t x l n s bs c h hl;cases s with
  |succ s=>rfl
  | zero=>
   cases bs with
   |nil=>rfl
   |cons b bs=>
    cases b with
    |b b=>grind[Ee,ry,AF.ha,ObA.v,im]
    |r hh e=>simp only[Ee,ry,aas,ObA.v,ajy]
 intro ts;induction ts with
 |nil=>intros;rfl
 | cons t ts ih=>
  intro x l n s bs c h hl;cases ts with
  |nil=>exact one t x l n s bs c h (by simp only[gK]at hl;omega)
  |cons t' ts=>
   have e:gK (t::t'::ts)=t.nh+gK (t'::ts):=rfl;simp only[KI,lJ,abz];rw[one t x.1 l n s bs c h (by omega),ih x.2 (l.drop t.nh) (n+t.nh) (s-1) (nx s bs.tail bs) (nx s (c+1) c) (λj hh hj=>by rw[aci]at hj;have:=h _ hh hj;grind) (by grind)];congr 2;cases s<;>simp[nx]
theorem O7:∀(ts:List TC) (x:d8 ts) (l:List Hd) (s:Nat) (bs:List ObH) (c:Nat),2<=c->(lJ ts x l s bs c).all HA.leaves=true:=by
 have one:∀(t:TC) (x:t.den) (l:List Hd) (s:Nat) (bs:List ObH) (c:Nat),2<=c->(ry t x l s bs c).all HA.leaves=true:=by
  intro t x l s bs c hc;cases s with
  |succ s=>rfl
  | zero=>
   cases bs with
   |nil=>rfl
   |cons b bs=>
    cases b with
    |b b=>simp[ry,HA.leaves,hc]
    |r hh e=>exact OR t x hh e c hc
 intro ts;induction ts with
 |nil=>intros;rfl
 | cons t ts ih=>
  intro x l s bs c hc;cases ts with
  |nil=>exact one t x l s bs c hc
  |cons t' ts=>
   simp only[lJ,List.all_append,Y5];exact⟨one t x.1 l s bs c hc,ih x.2 _ _ _ _ (by cases s<;>simp[nx]<;>omega)⟩
theorem Xn{N:Nat}{Ka:List Nat}:∀(ts:List TC) (x:d8 ts) (l:List Hd) (s:Nat) (bs:List ObH) (c:Nat),(lJ ts x l s bs (c+2)).map (HA.inst N Ka)=lJ ts x l s bs (N+c):=by
 have one:∀(t:TC) (x:t.den) (l:List Hd) (s:Nat) (bs:List ObH) (c:Nat),(ry t x l s bs (c+2)).map (HA.inst N Ka)=ry t x l s bs (N+c):=by
  intro t x l s bs c;cases s with
  |succ s=>rfl
  | zero=>
   cases bs with
   |nil=>rfl
   |cons b bs=>
    cases b with
    |b b=>rfl
    |r hh e=>exact X2 t x hh e c
 intro ts;induction ts with
 |nil=>intros;rfl
 | cons t ts ih=>
  intro x l s bs c;cases ts with
  |nil=>exact one t x l s bs c
  |cons t' ts=>
   simp only[lJ,abz,one];congr 1;cases s with
   |zero=>simp only[nx];grind
   |succ s=>simp only[nx];grind
def Lf.isAr:Lf->Bool
 |.ar _ _ _=>true
 |.ars _ _=>true
 |_=>false
def oX(F:List AF)(t:TC)(v:AV):Option (t.den×List Lf×List Nat):=match v with
 |.ag ls=>bif t.aggT then match bR F t ls with|some (x,l,K,[])=>some (x,l,K)|_=>none else none
 |.lf l=>bif t.aggT==l.isAr then match bR F t [l]with|some (x,l,K,[])=>some (x,l,K)|_=>none else none
 |.tu _=>none
theorem ue{F:List AF}{η:Vn}{t:TC}{v:AV}{x:t.den}{l:List Lf}{K:List Nat}(h:oX F t v=some (x,l,K)) :
  v.val η=kS t x (aM t (aT η l))/\l.length=t.nh /\
  ∀(w:World) (c:aS) (K':List Nat),aj w c (F.map (AF.ha η))->(∀k∈K,k∈K')->bD w (λb=>c b∈K') t.ty x (aM t (aT η l)):=by
 cases v with
 |tu _=>cases h
 | ag ls=>
  simp only[oX]at h;cases ha:t.aggT
  ·grind
  ·rw[ha]at h;simp only[Ze]at h;split at h
   ·rename_i x' l' K' hd;simp only[no,ZC]at h;obtain⟨rfl,rfl,rfl⟩:=h;obtain⟨h1,h2⟩:=dA (η:=η) t hd;simp only[au,Z2]at h1;refine⟨?_,ee t hd,h2⟩;simp only[AV.val,h1];cases t<;>first|rfl|cases ha
   ·cases h
 | lf lf=>
  simp only[oX]at h;cases ha:(t.aggT==lf.isAr)
  ·grind
  ·rw[ha]at h;simp only[Ze]at h;split at h
   ·rename_i x' l' K' hd;simp only[no,ZC]at h;obtain⟨rfl,rfl,rfl⟩:=h;obtain⟨h1,h2⟩:=dA (η:=η) t hd;refine⟨?_,ee t hd,h2⟩;simp only[au,Z2]at h1;cases lf with
    |ar m s y=>
     have ht:t.aggT=true:=by simpa[Lf.isAr]using ha
     simp only[AV.val,Lf.val];simp only[Lf.cells]at h1;rw[h1];cases t<;>first|rfl|cases ht
    |ars t' y=>
     have ht:t.aggT=true:=by simpa[Lf.isAr]using ha
     simp only[AV.val,Lf.val];simp only[Lf.cells]at h1;rw[h1];cases t<;>first|rfl|cases ht
    |_=>
     have ht:t.aggT=false:=by simpa[Lf.isAr]using ha
     simp only[AV.val];cases t<;>first|cases ht|skip
     all_goals simp only[Lf.cells,Ty.fill,ahv,alE]at h1
     all_goals exact h1
   ·cases h
def rY(F:List AF):(ts:List TC)->List AV->Option (d8 ts×List Lf×List Nat)
 |[],[]=>some ((),[],[])
 |[t],[v]=>oX F t v
 |t::t'::r,v::vs=>match oX F t v,rY F (t'::r) vs with
  |some (x,l,K),some (y,l',K')=>some ((x,y),l++l',K++K')
  |_,_=>none
 |_,_=>none
theorem MJ{F:List AF}{η:Vn}:∀{ts:List TC} {vs:List AV} {x:d8 ts} {l:List Lf} {K:List Nat},rY F ts vs=some (x,l,K) ->
  AV.vals η vs=jz ts x (aT η l)/\l.length=gK ts
 |[],[],_,l,K,h=>by simp only[rY,no,ZC]at h;obtain⟨_,rfl,rfl⟩:=h;exact⟨rfl,rfl⟩
 |[t],[v],x,l,K,h=>by obtain⟨h1,h2,h3⟩:=ue (η:=η) (t:=t) h;grind[AV.vals,jz,gK]
 |t::t'::r,v::vs,x,l,K,h=>by
  simp only[rY]at h;split at h
  ·rename_i x1 l1 K1 x2 l2 K2 ha hb;simp only[no,ZC]at h;obtain⟨rfl,rfl,rfl⟩:=h;obtain⟨h1,h2,h3⟩:=ue (η:=η) ha;obtain⟨g1,g2⟩:=MJ (η:=η) hb;grind[aT,aM,gK,AV.vals,jz,dL,List.drop_append,List.drop_eq_nil_of_le]
  ·cases h
 |[],_::_,_,_,_,h=>by simp[rY]at h
 |[_],[],_,_,_,h=>by simp[rY]at h
 |[_],_::_::_,_,_,_,h=>by simp[rY]at h
 |_::_::_,[],_,_,_,h=>by simp[rY]at h
def tI{α:Type}:Option (α×List Lf×List Nat×List Lf)->Option (α×List Lf×List Nat×List (Nat×Nat)×List Lf)
 |some (x,l,K,r)=>some (x,l,K,[],r)
 |none=>none
theorem eQ{α:Type}{m:Option (α×List Lf×List Nat×List Lf)}{x:α}{l:List Lf}{K:List Nat}{μ:List (Nat×Nat)}{r:List Lf}(h:tI m=some (x,l,K,μ,r)):m=some (x,l,K,r):=by unfold tI at h;grind
def ahd(F:List AF)(k v:TC)(r:List Lf)(os:List (Option TypeId))(q:Nat):Option ((TC.mp k v).den×List Lf×List Nat×List (Nat×Nat)×List Lf):=match os with
 | some _::_=>match r with
  |.mp h::r=>match uP k v h F with
   |some s=>some (s.xs,[.mp h],[],[(s.i,q)],r)
   |none=>none
  |_=>none
 |_=>tI (bR F (.mp k v) r)
def gM(F:List AF):(t:TC)->List Lf->List (Option TypeId)->Nat->Option (t.den×List Lf×List Nat×List (Nat×Nat)×List Lf)
 | .pair a b,r,os,q=>match gM F a r os q with
  |some (x,l1,K1,μ1,r1)=>match gM F b r1 (os.drop a.nh) (q+a.nh)with
   |some (y,l2,K2,μ2,r2)=>some ((x,y),l1++l2,K1++K2,μ1++μ2,r2)
   |none=>none
  |none=>none
 | .slice t,r,os,q=>match os,r with
  |some e::_,.sl h::r=>match fy t e 0 F (.sl h)with
   |some (i,K,xs)=>some (xs,[.sl h],K,[(i,q)],r)
   |none=>none
  |some _::_,.nl::r=>some ([],[.nl],[],[],r)
  |some _::_,_=>none
  |_,r=>tI (bR F (.slice t) r)
 |.st a,r,os,q=>gM F a r os q
 |.sc s,r,_,_=>tI (bR F (.sc s) r)
 |.arr n s,r,_,_=>tI (bR F (.arr n s) r)
 |.unit,r,_,_=>tI (bR F .unit r)
 |.ext n,r,_,_=>tI (bR F (.ext n) r)
 |.node,r,_,_=>tI (bR F .node r)
 |.mp k v,r,os,q=>ahd F k v r os q
theorem D3{w:World}{c:aS}{m:Nat->Nat}{t:Ty}{e:TypeId}{i q:Nat}{K:List Nat}{xs:List t.den}{v:Hd}(h:HA.holds w c (dS t e i K xs v))(hK:∀k∈K,m k=1)(hi:m i=q):HA.holds w (λb=>m (c b)) (dS t e q [1] xs v):=
 KG (λb _ hb=>by grind) (λb _ hb=>by grind) h
theorem NA{w:World}{c:aS}{m:Nat->Nat}{K:List Nat}{t:Ty}{x:t.den}{y:t.Refs}(h:∀K':List Nat,(∀k∈K,k∈K')->bD w (λb=>c b∈K') t x y)(hK:∀k∈K,m k=1):bD w (λb=>m (c b)∈([1]:List Nat)) t x y:=
 bD.keep (S:=λb=>c b∈K) (λb _ hb=>⟨by grind,rfl⟩) t x y (h K λ_ hk=>hk)
theorem Q3{F:List AF}{η:Vn}:∀(t:TC) {ls:List Lf} {os:List (Option TypeId)} {q:Nat} {x:t.den} {l:List Lf} {K:List Nat} {μ:List (Nat×Nat)} {r:List Lf},gM F t ls os q=some (x,l,K,μ,r) ->
  au η ls=t.ty.fill x (aM t (aT η l))++au η r/\l.length=t.nh /\
  ∀(w:World) (c:aS) (m:Nat->Nat),aj w c (F.map (AF.ha η))->(∀k∈K,m k=1)->(∀p∈μ,m p.1=p.2)->aj w (λb=>m (c b)) (ir t x (aM t (aT η l)) os q):=by
 intro t;induction t with
 |sc s=>
  intro ls os q x l K μ r h;simp only[gM]at h;exact⟨(dA _ (eQ h)).1,ee _ (eQ h),λ_ _ _ _ _ _=>aj.nil _ _⟩
 |arr n s=>
  intro ls os q x l K μ r h;simp only[gM]at h;exact⟨(dA _ (eQ h)).1,ee _ (eQ h),λ_ _ _ _ _ _=>aj.nil _ _⟩
 |unit=>
  intro ls os q x l K μ r h;simp only[gM]at h;exact⟨(dA _ (eQ h)).1,ee _ (eQ h),λ_ _ _ _ _ _=>aj.nil _ _⟩
 |ext n=>
  intro ls os q x l K μ r h;simp only[gM]at h;exact⟨(dA _ (eQ h)).1,ee _ (eQ h),λ_ _ _ _ _ _=>aj.nil _ _⟩
 |node=>
  intro ls os q x l K μ r h;simp only[gM]at h;obtain⟨g1,g2⟩:=dA (η:=η) .node (eQ h);exact⟨g1,ee _ (eQ h),λw c m hF hK _=>aj.cons (ng.1 (NA (λK' hK'=>g2 w c K' hF hK') hK)) (aj.nil _ _)⟩
 | mp k v _ _=>
  intro ls os q x l K μ r h;have rep:(match os with|some _::_=>False|_=>True)->bR F (.mp k v) ls=some (x,l,K,r)->au η ls=(TC.mp k v).ty.fill x (aM (.mp k v) (aT η l))++au η r/\l.length=(TC.mp k v).nh /\
    ∀(w:World) (c:aS) (m:Nat->Nat),aj w c (F.map (AF.ha η))->(∀k∈K,m k=1)->(∀p∈μ,m p.1=p.2)->aj w (λb=>m (c b)) (ir (.mp k v) x (aM (.mp k v) (aT η l)) os q):=by
   intro ho hd;refine⟨(dA (η:=η) (.mp k v) hd).1,ee _ hd,λw c m hF hK _=>?_⟩;simp only[ir];split
   ·simp at ho
   ·exact aj.nil _ _
  simp only[gM]at h;cases os with
  |nil=>exact rep trivial (eQ h)
  | cons o os' =>
   cases o with
   |none=>exact rep trivial (eQ h)
   | some e=>
    simp only[ahd]at h;split at h
    ·rename_i hh r';dsimp only at h;split at h
     ·rename_i s hs;simp only[no,ZC]at h;obtain⟨rfl,rfl,rfl,rfl,rfl⟩:=h;refine⟨rfl,rfl,λw c m hF hK hμ=>aj.cons ?_ (aj.nil _ _)⟩;have hA:HA.holds w c (.mp s.i (η.h hh).blk (A4 k v s.xs)):=hF _ (ZA.2 ⟨_,gF hs,rfl⟩);exact sZ.keep (S:=λb=>c b=s.i) (λb _ hc=>⟨by show m (c b)=q;rw[hc];exact hμ _ ZO,rfl⟩) hA
     ·cases h
    ·cases h
 |st a ih=>exactλh=>ih h
 | pair a b iha ihb=>
  intro ls os q x l K μ r h;simp only[gM]at h;split at h
  ·rename_i x1 l1 K1 μ1 r1 h1;split at h
   ·rename_i x2 l2 K2 μ2 r2 h2;simp only[no,ZC]at h;obtain⟨rfl,rfl,rfl,rfl,rfl⟩:=h;obtain⟨c1,n1,f1⟩:=iha h1;obtain⟨c2,n2,f2⟩:=ihb h2;have hn:(aT η l1).length=a.nh:=by simp[aT,n1]
    have e1:aM a (aT η (l1++l2))=aM a (aT η l1):=by rw[show aT η (l1++l2)=aT η l1++aT η l2 by simp[aT],dL a _ _ hn]
    have e2:aM b ((aT η (l1++l2)).drop a.nh)=aM b (aT η l2):=by rw[show aT η (l1++l2)=aT η l1++aT η l2 by simp[aT],abe,aa6 (by omega),show a.nh-(aT η l1).length=0 by omega];rfl
    refine⟨?_,by simp only[TC.nh,ZD];omega,λw c m hF hK hμ=>?_⟩
    ·simp only[aM,Ty.fill];rw[e1,e2,c1,c2,aaf]
    ·simp only[ir,aM];rw[e1,e2];exact(f1 w c m hF (λk hk=>hK k (ZW _ hk)) λp hp=>hμ p (ZW _ hp)).append
      (f2 w c m hF (λk hk=>hK k (Z7 _ hk)) λp hp=>hμ p (Z7 _ hp))
   ·cases h
  ·cases h
 | slice t _=>
  intro ls os q x l K μ r h;have rep:(match os with|some _::_=>False|_=>True)->bR F (.slice t) ls=some (x,l,K,r)->au η ls=(TC.slice t).ty.fill x (aM (.slice t) (aT η l))++au η r/\l.length=(TC.slice t).nh /\
    ∀(w:World) (c:aS) (m:Nat->Nat),aj w c (F.map (AF.ha η))->(∀k∈K,m k=1)->(∀p∈μ,m p.1=p.2)->aj w (λb=>m (c b)) (ir (.slice t) x (aM (.slice t) (aT η l)) os q):=by
   intro ho hd;obtain⟨c1,f1⟩:=dA (η:=η) (.slice t) hd;refine⟨c1,ee _ hd,λw c m hF hK _=>?_⟩;have hr:=NA (m:=m) (λK' hK'=>f1 w c K' hF hK') hK;simp only[ir];split
   ·simp at ho
   ·exact aj.cons hr (aj.nil _ _)
  match os,ls,h,rep with
  |some e::os',.sl hh::r',h,_=>
   simp only[gM]at h;split at h
   ·rename_i i K' xs ho;simp only[no,ZC]at h;obtain⟨rfl,rfl,rfl,rfl,rfl⟩:=h;exact⟨rfl,rfl,λw c m hF hK hμ=>aj.cons (D3 (eC ho hF) hK (hμ _ ZO)) (aj.nil _ _)⟩
   ·cases h
  |some e::os',.nl::r',h,_=>
   simp only[gM,no,ZC]at h;obtain⟨rfl,rfl,rfl,rfl,rfl⟩:=h;exact⟨rfl,rfl,λw c m hF hK hμ=>aj.cons (sA _ _) (aj.nil _ _)⟩
  |none::_,_,h,rep=>exact rep trivial (eQ h)
  |[],_,h,rep=>exact rep trivial (eQ h)
  |some _::_,[],h,_=>simp[gM]at h
  |some _::_,.c _ _::_,h,_=>simp[gM]at h
  |some _::_,.ar _ _ _::_,h,_=>simp[gM]at h
  |some _::_,.bp _ _::_,h,_=>simp[gM]at h
  |some _::_,.bq _ _ _ _ _::_,h,_=>simp[gM]at h
  |some _::_,.rp _ _ _ _ _::_,h,_=>simp[gM]at h
  |some _::_,.xt _ _::_,h,_=>simp[gM]at h
  |some _::_,.fn _::_,h,_=>simp[gM]at h
  |some _::_,.clo _ _::_,h,_=>simp[gM]at h
  |some _::_,.gp _ _ _ _ _::_,h,_=>simp[gM]at h
  |some _::_,.ars _ _::_,h,_=>simp[gM]at h
  |some _::_,.v _::_,h,_=>simp[gM]at h
  |some _::_,.mp _::_,h,_=>simp[gM]at h
def tz(F:List AF)(p:PC)(v:AV)(q:Nat):Option (p.den×List Lf×List Nat×List (Nat×Nat)):=match p,v with
 |.d t,v=>match oX F t v with
  |some (x,l,K)=>some (x,l,K,[])
  |none=>none
 |.own t e,.lf (.sl h)=>match fy t e 0 F (.sl h)with
  |some (i,K,xs)=>some (xs,[.sl h],K,[(i,q)])
  |none=>none
 |.own _ _,.lf .nl=>some ([],[.nl],[],[])
 | .box m t os,.lf (.bp b 0)=>match iw b F with
  |some (i,cs)=>match gM F t cs (bif m then os else []) (q+1)with
   |some (x,l,K,μ,[])=>some (x,.bp b 0::l,(bif m then K else i::K),(bif m then(i,q)::μ else μ))
   |_=>none
  |none=>none
 |.fn f,.lf (.fn g)=>bif Nat.beq f g then some ((),[],[],[])else none
 | .clo f t,.lf (.clo g [b])=>bif Nat.beq f g then match iw b F with
  |some (i,cs)=>match gM F t cs [] (q+1)with
   |some (x,l,K,μ,[])=>some (x,.clo g [b]::l,i::K,μ)
   |_=>none
  |none=>none else none
 | .prt t e,.lf (.sl h')=>match ld h' F with
  |some (h,sz,lo,hi)=>match fy t e 0 F (.sl h)with
   |some (i,K,xs)=>bif Nat.beq sz t.ty.sz then some ((xs,lo,hi),[.sl h,.sl h'],K,[(i,q)])else none
   |none=>none
  |none=>match fy t e 0 F (.sl h')with
   |some (i,K,xs)=>bif eM e then none else some ((xs,0,(xs.length:Int)),[.sl h',.sl h'],K,[(i,q)])
   |none=>none
 |_,_=>none
theorem alK{w:World}{c:aS}{t:Ty}{e:TypeId}{i:Nat}{K:List Nat}{xs:List t.den}{v:Hd}(h:HA.holds w c (.own t e i K xs v)):kQ v v t.sz 0 xs.length:=by
 obtain⟨ys,_,⟨_,h⟩,_⟩:=h;rcases h with⟨hv,hn⟩|⟨g,cap,cur,ty,fz,hv,_⟩
 ·simp only[Hd.val,Value.slice.injEq]at hv;exact⟨acH _,by omega,λh=>by omega⟩
 ·simp only[Hd.val,Value.slice.injEq]at hv;exact⟨acH _,by omega,λ_=>⟨g,0,hv.1,by simp[dR,hv.1]⟩⟩
theorem tR{F:List AF}{b i:Nat}{cs:List Lf}(h:iw b F=some (i,cs)){η:Vn}{w:World}{c:aS}(hF:aj w c (F.map (AF.ha η))):HA.holds w c (.box i (η.b b) (au η cs)):=
 hF _ (ZA.2 ⟨_,d6 h,rfl⟩)
theorem Qq{F:List AF}{η:Vn}{p:PC}{v:AV}{q:Nat}{x:p.den}{l:List Lf}{K:List Nat}{μ:List (Nat×Nat)}(h:tz F p v q=some (x,l,K,μ)) :
  v.val η=p.val x (aT η l)/\l.length=p.nh /\
  ∀(w:World) (c:aS) (m:Nat->Nat),aj w c (F.map (AF.ha η))->(∀k∈K,m k=1)->(∀p∈μ,m p.1=p.2)->aj w (λb=>m (c b)) (p.facts x (aT η l) q):=by
 have box:∀{i b q':Nat} {cs:List Lf} {w:World} {c:aS} {m:Nat->Nat} {vs:List Value},iw b F=some (i,cs)->aj w c (F.map (AF.ha η))->m i=q'->au η cs=vs->HA.holds w (λb=>m (c b)) (.box q' (η.b b) vs):=by intro i b q' cs w c m vs hb hF hm hv;obtain⟨h1,h2⟩:=tR hb hF;subst hv;exact⟨h1,by grind⟩
 cases p with
 |d t=>
  simp only[tz]at h;split at h
  ·rename_i hd;simp only[no,ZC]at h;obtain⟨rfl,rfl,rfl,rfl⟩:=h;obtain⟨h1,h2,h3⟩:=ue (η:=η) hd;refine⟨h1,h2,λw c m hF hK _=>?_⟩;exact pd _ _ _ (NA (m:=m) (λK' hK'=>h3 w c K' hF hK') hK)
  ·cases h
 | own t e=>
  cases v with
  | lf lf=>
   cases lf with
   |sl hh=>
    simp only[tz]at h;split at h
    ·rename_i ho;simp only[no,ZC]at h;obtain⟨rfl,rfl,rfl,rfl⟩:=h;exact⟨rfl,rfl,λw c m hF hK hμ=>aj.cons (D3 (eC ho hF) hK (hμ _ ZO)) (aj.nil _ _)⟩
    ·cases h
   |nl=>
    simp only[tz,no,ZC]at h;obtain⟨rfl,rfl,rfl,rfl⟩:=h;exact⟨rfl,rfl,λw c m hF hK hμ=>aj.cons (sA _ _) (aj.nil _ _)⟩
   |_=>cases h
  |_=>cases h
 | box m t os=>
  cases v with
  | lf lf=>
   cases lf with
   | bp b off=>
    cases off with
    |succ _=>cases h
    | zero=>
     simp only[tz]at h;split at h
     ·rename_i i cs hb;split at h
      ·rename_i x' l' K' μ' hd;simp only[no,ZC]at h;obtain⟨rfl,rfl,rfl,rfl⟩:=h;obtain⟨c1,n1,f1⟩:=Q3 (η:=η) t hd;refine⟨rfl,by simp only[PC.nh,aaG,n1];omega,λw c mm hF hK hμ=>?_⟩;simp only[au,Z2]at c1;cases m with
       |true=>exact aj.cons (box hb hF (hμ (i,q) ZO) c1) (f1 w c mm hF hK λp hp=>hμ p (Zf _ hp))
       |false=>exact aj.cons (box hb hF (hK i ZO) c1) (f1 w c mm hF (λk hk=>hK k (Zf _ hk)) hμ)
      ·cases h
     ·cases h
   |_=>cases h
  |_=>cases h
 | fn f=>
  cases v with
  | lf lf=>
   cases lf with
   |fn g=>
    simp only[tz]at h;cases hb:Nat.beq f g
    ·grind
    ·rw[hb]at h;simp only[Ze,no,ZC]at h;obtain⟨_,rfl,rfl,rfl⟩:=h;obtain rfl:=f9 hb;exact⟨rfl,rfl,λ_ _ _ _ _ _=>aj.nil _ _⟩
   |_=>cases h
  |_=>cases h
 | clo f t=>
  cases v with
  | lf lf=>
   cases lf with
   | clo g bs=>
    rcases bs with _|⟨b,_|⟨b2,bs⟩⟩
    rotate_right
    ·simp[tz]at h
    ·simp[tz]at h
    simp only[tz]at h;cases hfg:Nat.beq f g
    ·grind
    ·rw[hfg]at h;obtain rfl:=f9 hfg;simp only[Ze]at h;split at h
     ·rename_i i cs hb;split at h
      ·rename_i x' l' K' μ' hd;simp only[no,ZC]at h;obtain⟨rfl,rfl,rfl,rfl⟩:=h;obtain⟨c1,n1,f1⟩:=Q3 (η:=η) t hd;simp only[au,Z2]at c1;refine⟨rfl,by simp only[PC.nh,aaG,n1];omega,λw c mm hF hK hμ=>?_⟩;exact aj.cons (box hb hF (hK i ZO) c1) (f1 w c mm hF (λk hk=>hK k (Zf _ hk)) hμ)
      ·cases h
     ·cases h
   |_=>cases h
  |_=>cases h
 | prt t e=>
  cases v with
  | lf lf=>
   cases lf with
   | sl hh=>
    simp only[tz]at h;split at h
    ·rename_i h0 sz lo hi hp;split at h
     ·rename_i ho;cases hsz:Nat.beq sz t.ty.sz
      ·grind
      ·rw[hsz]at h;simp only[Ze,no,ZC]at h;obtain⟨rfl,rfl,rfl,rfl⟩:=h;refine⟨rfl,rfl,λw c m hF hK hμ=>aj.cons (D3 (eC ho hF) hK (hμ _ ZO)) (aj.cons ?_ (aj.nil _ _))⟩;have hpt:kQ (η.h hh) (η.h h0) sz lo hi:=hF _ (ZA.2 ⟨_,f5 hp,rfl⟩);rw[f9 hsz]at hpt;exact hpt
     ·cases h
    ·split at h
     ·rename_i ho;cases htr:eM e
      ·rw[htr]at h;simp only[Zr,no,ZC]at h;obtain⟨rfl,rfl,rfl,rfl⟩:=h;refine⟨rfl,rfl,λw c m hF hK hμ=>aj.cons (D3 (eC ho hF) hK (hμ _ ZO)) (aj.cons ?_ (aj.nil _ _))⟩;have h1:=eC ho hF;rw[dx htr]at h1;exact alK h1
      ·rw[htr]at h;cases h
     ·cases h
   |_=>cases h
  |_=>cases h
def tJ(F:List AF):(ps:List PC)->List AV->Nat->Option (ja ps×List Lf×List Nat×List (Nat×Nat))
 |[],[],_=>some ((),[],[],[])
 |[p],[v],q=>tz F p v q
 |p::p'::r,v::vs,q=>match tz F p v q,tJ F (p'::r) vs (q+p.nc)with
  |some (x,l,K,μ),some (y,l',K',μ')=>some ((x,y),l++l',K++K',μ++μ')
  |_,_=>none
 |_,_,_=>none
theorem PC.val_left:(p:PC)->(x:p.den)->(l1 l2:List Hd)->l1.length=p.nh->p.val x (l1++l2)=p.val x l1
 |.d t,x,l1,l2,h=>by simp only[PC.val];rw[dL t l1 l2 h]
 |.own _ _,_,[],_,h=>by simp[PC.nh]at h
 |.own _ _,_,_::_,_,_=>rfl
 |.box _ _ _,_,[],_,h=>by simp[PC.nh]at h;omega
 |.box _ _ _,_,_::_,_,_=>rfl
 |.fn _,_,_,_,_=>rfl
 |.clo _ _,_,[],_,h=>by simp[PC.nh]at h;omega
 |.clo _ _,_,_::_,_,_=>rfl
 |.prt _ _,_,[],_,h=>by simp[PC.nh]at h
 |.prt _ _,_,[_],_,h=>by simp[PC.nh]at h
 |.prt _ _,_,_::_::_,_,_=>rfl
theorem PC.facts_left:(p:PC)->(x:p.den)->(l1 l2:List Hd)->(q:Nat)->l1.length=p.nh->p.facts x (l1++l2) q=p.facts x l1 q
 |.d t,x,l1,l2,_,h=>by simp only[PC.facts];rw[dL t l1 l2 h]
 |.own _ _,_,[],_,_,h=>by simp[PC.nh]at h
 |.own _ _,_,_::_,_,_,_=>rfl
 |.box _ _ _,_,[],_,_,h=>by simp[PC.nh]at h;omega
 |.box _ t _,_,a::l1,l2,_,h=>by grind[PC.nh,PC.facts,List.headD_cons,dL]
 |.fn _,_,_,_,_,_=>rfl
 |.clo _ _,_,[],_,_,h=>by simp[PC.nh]at h;omega
 |.clo _ t,_,a::l1,l2,_,h=>by grind[PC.nh,PC.facts,List.headD_cons,dL]
 |.prt _ _,_,[],_,_,h=>by simp[PC.nh]at h
 |.prt _ _,_,[_],_,_,h=>by simp[PC.nh]at h
 |.prt _ _,_,_::_::_,_,_,_=>rfl
theorem K6{F:List AF}{η:Vn}:∀{ps:List PC} {vs:List AV} {q:Nat} {x:ja ps} {l:List Lf} {K:List Nat} {μ:List (Nat×Nat)},tJ F ps vs q=some (x,l,K,μ) ->
  AV.vals η vs=kX ps x (aT η l)/\l.length=qE ps /\
  ∀(w:World) (c:aS) (m:Nat->Nat),aj w c (F.map (AF.ha η))->(∀k∈K,m k=1)->(∀p∈μ,m p.1=p.2)->aj w (λb=>m (c b)) (nA ps x (aT η l) q)
 |[],[],_,_,l,K,μ,h=>by simp only[tJ,no,ZC]at h;obtain⟨_,rfl,rfl,rfl⟩:=h;exact⟨rfl,rfl,λ_ _ _ _ _ _=>aj.nil _ _⟩
 |[p],[v],q,x,l,K,μ,h=>by obtain⟨h1,h2,h3⟩:=Qq (η:=η) (p:=p) h;exact⟨by simp only[AV.vals,kX,h1],by simp only[qE,h2];omega,h3⟩
 | p::p'::r,v::vs,q,x,l,K,μ,h=>by
  simp only[tJ]at h;split at h
  ·rename_i x1 l1 K1 μ1 x2 l2 K2 μ2 ha hb;simp only[no,ZC]at h;obtain⟨rfl,rfl,rfl,rfl⟩:=h;obtain⟨h1,h2,h3⟩:=Qq (η:=η) ha;obtain⟨g1,g2,g3⟩:=K6 (η:=η) hb;have e0:aT η (l1++l2)=aT η l1++aT η l2:=by simp[aT]
   have hl:(aT η l1).length=p.nh:=by simp[aT,h2]
   have e2:(aT η (l1++l2)).drop p.nh=aT η l2:=by grind
   refine⟨?_,by simp only[qE]at g2|-;simp[h2,g2],λw c m hF hK hμ=>?_⟩
   ·grind[AV.vals,kX,PC.val_left]
   ·simp only[nA,e2];rw[e0,PC.facts_left p x1 _ _ _ hl];exact(h3 w c m hF (λk hk=>hK k (ZW _ hk)) λp hp=>hμ p (ZW _ hp)).append
     (g3 w c m hF (λk hk=>hK k (Z7 _ hk)) λp hp=>hμ p (Z7 _ hp))
  ·cases h
 |[],_::_,_,_,_,_,_,h=>by simp[tJ]at h
 |[_],[],_,_,_,_,_,h=>by simp[tJ]at h
 |[_],_::_::_,_,_,_,_,_,h=>by simp[tJ]at h
 |_::_::_,[],_,_,_,_,_,h=>by simp[tJ]at h
def wY(E:SE):List Operand->Option (List AV)
 |[]=>some []
 |x::r=>match ev E x,wY E r with
  |some v,some vs=>some (v::vs)
  |_,_=>none
theorem DR{E:SE}{η:Vn}{ρ:cV}(hE:kU η ρ E):∀{xs:List Operand} {vs:List AV},wY E xs=some vs->xs.map (aJ ρ)=AV.vals η vs
 |[],vs,h=>by simp only[wY,no]at h;subst h;rfl
 |x::r,vs,h=>by
  simp only[wY]at h;split at h
  ·rename_i v vs' hv hvs;simp only[no]at h;subst h;simp only[aas,AV.vals,aH hE hv,DR hE hvs]
  ·cases h
abbrev Zl:(ts:List TC)->d8 ts
 |[]=>()
 |[t]=>t.dft
 |t::t'::r=>(t.dft,Zl (t'::r))
section
variable {R:Type} {P:Program} {o:Oper} {E:SE} {F:List AF} {n:Nat} {Θ:Tb} {ex:Option Bool}
def pE:AV->Option (FuncId×List AV)
 |.lf (.fn f)=>some (f,[])
 |.lf (.clo f bs)=>some (f,bs.map λb=>.lf (.bp b 0))
 |.lf (.c .fnc f)=>some (f,[])
 |_=>none
def anX(Ka:List Nat)(μ:List (Nat×Nat)):Bool:=Ka.all (λk=>Nat.beq (mu μ Ka k) 1)&&μ.all (λp=>Nat.beq (mu μ Ka p.1) p.2)&&μ.all (λp=>Nat.ble 2 p.2)&&μ.all (λp=>Nat.ble 2 p.1)
def bnm(l:List Lf)(k:Nat):Option ObA:=bif Nat.blt k 64 then(match l[k]? with
 |some (.bp b _)=>some (.b b)
 |_=>none)else match l[k%64]? with
 |some (.sl h)=>some (.r h (k / 64-1))
 |_=>none
def Of(l:List Lf):List Nat->Option (List ObA)
 |[]=>some []
 |k::r=>match bnm l k,Of l r with
  |some b,some bs=>some (b::bs)
  |_,_=>none
theorem Pr{η:Vn}{l:List Lf}:∀{bl:List Nat} {bs:List ObA},Of l bl=some bs->wN (aT η l) bl=bs.map (ObA.v η)
 |[],bs,h=>by simp only[Of,no]at h;subst h;rfl
 | k::r,bs,h=>by
  simp only[Of]at h;split at h
  ·rename_i b bs' h1 h2;simp only[no]at h;subst h;have ih:=Pr (η:=η) h2;simp only[wN,aas,ahv]at ih|-;refine⟨?_,ih⟩;unfold bnm at h1;unfold obH;cases hk64:Nat.blt k 64
   ·rw[hk64]at h1;simp only[Zr]at h1|-;split at h1
    ·rename_i h' hk;simp only[no]at h1;subst h1;have:(aT η l)[k%64]?=some ((Lf.sl h').hd η):=by rw[aT,aeJ,hk];rfl
     rw[aav,this];rfl
    ·cases h1
   ·rw[hk64]at h1;simp only[Ze]at h1|-;split at h1
    ·rename_i b' off hk;simp only[no]at h1;subst h1;have:(aT η l)[k]?=some ((Lf.bp b' off).hd η):=by rw[aT,aeJ,hk];rfl
     rw[aav,this];rfl
    ·cases h1
  ·cases h
theorem DA{w:World}{c:aS}{μ:List (Nat×Nat)}{Ka:List Nat}(hq:μ.all (λp=>Nat.ble 2 p.1)=true)(h:aj w c eV):aj w (λb=>mu μ Ka (c b)) eV:=by
 intro A hA;have hh:=h A hA;rcases aad.1 hA with hA|hA;rotate_left
 ·exact Yc.exm A hA w c _ hh λb hb=>by rw[hb];exact Qt hq
 obtain⟨e,_,rfl⟩:=ZA.1 hA;obtain⟨h1,hb',h3⟩:=hh;have hn:c e.g∉μ.map (·.1):=by intro hm;obtain⟨p,hp,he⟩:=ZA.1 hm;have:=Zh (Zy.1 hq p hp);omega
 exact⟨h1,(xD (Ka:=Ka) hn).1,h3⟩
theorem Fl{η:Vn}:∀{bs:List Nat},AV.vals η (bs.map λb=>AV.lf (.bp b 0))=bs.map λb=>Value.pointer (some ⟨η.b b,0,none⟩)
 |[]=>rfl
 |b::r=>by simp only[aas,AV.vals,AV.val,Lf.val,Fl]
def SJ(C:Sig)(fx:ja C.ps->Option (d8 C.rs))(vs:List AV)(ex:Option Bool)(n N:Nat)(F:List AF)(k:Out->Option R)(alt:Option R):Option R:=match tJ F C.ps vs 2 with
 |some (x,l,Ka,μ)=>match Of l C.bl with
  |some bs=>bif Nat.ble 2 N&&Nat.ble (gK C.rs) 64&&anX Ka μ&&bs.all (ObA.free n)then gbind ex (Zl C.rs) (fx x) λr=>k ⟨ye C.nr C.rs r n,(lg C.rs r C.ms 0).map (AF.inst n N Ka)++KI C.rs r n C.nr bs (N+128),μ.map (·.1)⟩else none
  |none=>none
 |none=>alt
theorem Pi{C:Sig}{f:FuncId}{fx:ja C.ps->Option (d8 C.rs)}(hC:∀x r,fx x=some r->Qr P f C x r){N:Nat}{x0:Operand}{v0:AV}{xs:Array Operand}{ts:Array TypeId}{vs cap:List AV}(ho:o.op=.call { callee:=.value x0,args:=xs,argTypes:=ts})
  (h0:ev E x0=some v0) (hv0:pE v0=some (f,cap)) (hvs:wY E xs.toList=some vs) (k:Out->Option R) {alt:Option R} (halt:aq ex P o E F n alt k) :
  aq ex P o E F n (SJ C fx (vs++cap) ex n N F k alt) k:=by
 unfold SJ;split
 ·rename_i x l Ka μ hd;split
  ·rename_i bs hbs;refine aq.bif λhc=>aq.gbind λr hr=>aq.ofG λhx η ρ hE=>?_
   simp only[Y5,anX]at hc;obtain⟨⟨⟨hN,h64⟩,⟨⟨hKa,hμ⟩,hq⟩,hq1⟩,hfree⟩:=hc;obtain⟨⟨fn,cd,hf,hb,hnm⟩,hs⟩:=hC x r (hr hx);obtain⟨d1,d2,d3⟩:=K6 (η:=η) hd;have h64:=Zh h64;have happ:∀(a b:List AV),AV.vals η (a++b)=AV.vals η a++AV.vals η b:=by
    intro a b;induction a with
    |nil=>rfl
    |cons v r ih=>simp only[acI,AV.vals,ih]
   have hargs:xs.toList.map (aJ ρ)++AV.vals η cap=kX C.ps x (aT η l):=by rw[DR hE hvs,<-happ,d1]
   have hcv:aJ ρ x0=.func (.func f) #[] (AV.vals η cap).toArray:=by rw[aH hE h0];unfold pE at hv0;split at hv0;all_goals first|(simp only[no,ZC]at hv0;rw[<-hv0.1,<-hv0.2];simp only[AV.val,Lf.val,Fl];done)|(simp only[no,ZC]at hv0;rw[<-hv0.1,<-hv0.2];rfl)|cases hv0
   let ηy : { y:List Hd//y.length=gK C.rs}->Vn:=λy=>⟨λm=>bif Nat.ble n m&&Nat.blt m (n+64)then(ηL y.1).h (m-n)else η.h m,η.b⟩
   have hat:∀(y : { y:List Hd//y.length=gK C.rs}) (j:Nat),j<64->(ηy y).h (n+j)=(ηL y.1).h j:=by
    intro y j hlt;have:(Nat.ble n (n+j)&&Nat.blt (n+j) (n+64))=true:=by simp_all
    grind
   have hnamed:∀y : { y:List Hd//y.length=gK C.rs},gU (ηy y) n y.1:=by intro y j h hj;grind[ηL]
   have hagr:∀y : { y:List Hd//y.length=gK C.rs},η.agr n (ηy y):=by
    intro y m hm;refine⟨?_,rfl⟩;have:(Nat.ble n m&&Nat.blt m (n+64))=false:=by
     cases hbb:(Nat.ble n m&&Nat.blt m (n+64))
     ·rfl
     ·simp only[Y5]at hbb;have h1:=Zh hbb.1;have h2:m+1<=n+64:=Zh hbb.2;simp only[out,abl]at hm;rcases hm with hm|hm
      ·have:m+1<=n:=Zh hm;omega
      ·have:=Zh hm;omega
    grind
   refine(abu (Y:={ y:List Hd//y.length=gK C.rs}) (val:=λy=>wB C.nr C.rs r y.1) (fcts:=λy=>(lg C.rs r C.ms 0).map (AF.ha (ηL y.1))++lJ C.rs r y.1 C.nr (wN (aT η l) C.bl) 130)
    (Φ:=λy=>((lg C.rs r C.ms 0).map (AF.inst n N Ka)++KI C.rs r n C.nr bs (N+128)).map (AF.ha (ηy y)))
    (λw c0 hH=>hs (aT η l) (by simp[aT,d2]) w c0 hH) ho hcv hargs hf hb hnm Ka μ hq
    (λw c hH=>(d3 w c (mu μ Ka) (λA hA=>hH A (ZW _ hA)) (λkk hk=>f9 (Zy.1 hKa kk hk)) λp hp=>f9 (Zy.1 hμ p hp)).append
     (DA hq1 λA hA=>hH A (Z7 _ hA))) ?_ ?_ hN).map
    (λy=>⟨ηy y,?_⟩) (λy=>?_) λy=>rfl
   ·grind[List.all_eq_true,O7,wU]
   ·intro y;simp only[abz];congr 1
    ·rw[adK,adK];refine abw λf hf=>?_;refine inst_ha f ?_ (wU (η:=η) _ _ _ _ f hf).2;have hlt:=Py _ _ _ _ f hf;grind
    ·rw[Xn,ajf C.rs r y.1 n C.nr bs (N+128) (hnamed y) (by grind),Pr (η:=η) hbs];congr 1;refine abw λb hb=>?_;have hbf:=Zy.1 hfree b hb;cases b with
     |b _=>rfl
     |r hh e=>simp only[ObA.v,(hagr y hh hbf).1]
   ·exact hagr y
   grind[Gu]
  ·exact aq.none
 ·exact halt
def Jo(f:FuncId)(vs:List AV)(ex:Option Bool)(n N:Nat)(F:List AF)(k:Out->Option R):List Ctr->Option R
 |[]=>none
 |C::r=>SJ C.toSig C.fn vs ex n N F k (Jo f vs ex n N F k r)
def abH(f:Nat)(vs:List AV)(ex:Option Bool)(n N:Nat)(F:List AF)(k:Out->Option R):List DCtr->Option R
 |[]=>none
 |C::r=>SJ C.toSig (C.fn f) vs ex n N F k (abH f vs ex n N F k r)
def Dw(Γ:Ct)(D:List DCtr)(E:SE)(ex:Option Bool)(n N:Nat)(v0:AV)(xs:List Operand)(F:List AF)(k:Out->Option R):Option R:=match wY E xs with
 |some vs=>match v0 with
  |.lf (.fn f)=>Jo f (vs++[]) ex n N F k (Γ f)
  |.lf (.clo f bs)=>Jo f (vs++bs.map λb=>.lf (.bp b 0)) ex n N F k (Γ f)
  |.lf (.c .fnc f)=>abH f (vs++[]) ex n N F k D
  |_=>none
 |none=>none
theorem De{Γ:Ct}(hΓ:Γ.ok P){D:List DCtr}(hD:∀C∈D,DCtr.sound P C){N:Nat}{v0:AV}{x0:Operand}{xs:Array Operand}{ts:Array TypeId}(ho:o.op=.call { callee:=.value x0,args:=xs,argTypes:=ts})(h0:ev E x0=some v0)(k:Out->Option R) :
  aq ex P o E F n (Dw Γ D E ex n N v0 xs.toList F k) k:=by
 have all:∀{f:FuncId} {vs cap:List AV} {l:List Ctr},pE v0=some (f,cap)->wY E xs.toList=some vs->(∀C∈l,Ctr.sound P f C)->aq ex P o E F n (Jo f (vs++cap) ex n N F k l) k:=by
  intro f vs cap l hv hvs hl;induction l with
  |nil=>exact aq.none
  |cons C r ih=>exact Pi (hl C ZO) ho h0 hv hvs k (ih λC hC=>hl C (Zf _ hC))
 have dyn:∀{f:FuncId} {vs cap:List AV} {l:List DCtr},pE v0=some (f,cap)->wY E xs.toList=some vs->(∀C∈l,DCtr.sound P C)->aq ex P o E F n (abH f (vs++cap) ex n N F k l) k:=by
  intro f vs cap l hv hvs hl;induction l with
  |nil=>exact aq.none
  |cons C r ih=>exact Pi (hl C ZO f) ho h0 hv hvs k (ih λC hC=>hl C (Zf _ hC))
 unfold Dw;split
 ·rename_i vs hvs;split
  ·exact all rfl hvs (hΓ _)
  ·exact all rfl hvs (hΓ _)
  ·exact dyn rfl hvs hD
  ·exact aq.none
 ·exact aq.none
end
end
end Go.Sm
