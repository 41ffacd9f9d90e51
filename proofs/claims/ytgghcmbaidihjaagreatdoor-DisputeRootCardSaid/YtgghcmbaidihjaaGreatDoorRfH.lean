/- Laws for the row. No condition. -/
import Derived.Test.YtgghcmbaidihjaaGreatDoorRfT
namespace Go.Sm
set_option linter.unusedSectionVars false
variable {N i:Nat} {w:World} {Ka:List Nat} {xs:Array Operand} {ts:Array TypeId} {μ:List (Nat×Nat)}
section
variable [X:XTab] [G:GTab] [Yc:GCx]
abbrev eJ:List TC->Type
 |[]=>Unit
 |[t]=>t.den
 |t::r=>t.den×eJ r
def iC:List TC->Nat
 |[]=>0
 |t::r=>t.nh+iC r
def mz(t:TC)(x:t.den)(y:t.ty.Refs):Value:=match t,x,y with
 |.sc s,x,_=>s.val x
 |.arr n s,x,_=>.agg ((TC.arr n s).ty.fill x ()).toArray
 |.unit,_,_=>.agg #[]
 |.pair a b,x,y=>.agg ((TC.pair a b).ty.fill x y).toArray
 |.st a,x,y=>.agg (a.ty.fill x y).toArray
 |.slice _,_,h=>Hd.val h
 |.ext k,x,_=>X.val k x
 |.node,x,h=>.agg (Ty.node.fill x h).toArray
 |.mp _ _,_,h=>.map (some (Hd.blk h))
def kU:(ts:List TC)->eJ ts->List Hd->List Value
 |[],_,_=>[]
 |[t],x,l=>[mz t x (aO t l)]
 |t::a::r,x,l=>mz t x.1 (aO t l)::kU (a::r) x.2 (l.drop t.nh)
structure RM where
 own:Option TypeId
 one:Bool
 new:Bool
def RM.K(m:RM)(c:Nat):List Nat:=(bif m.one then [1]else [])++(bif m.new then [c]else [])
def gE:(t:TC)->t.den->List RM->Nat->List AF
 |.pair a b,x,ms,j=>gE a x.1 ms j++gE b x.2 (ms.drop a.nh) (j+a.nh)
 |.slice t,xs,m::_,j=>match m.own with
  |some e=>bif Nat.ble 4194304 e && !(fk e)then []else [.own t e (2+2*j) (m.K 129) xs j]
  |none=>[.rep t (m.K 129) xs j]
 |.st a,x,ms,j=>gE a x ms j
 |.mp k v,xs,m::_,j=>match m.own with
  |some _=>[.mp k v (2+2*j) xs j]
  |none=>[]
 |_,_,_,_=>[]
def mO:(ts:List TC)->eJ ts->List RM->Nat->List AF
 |[],_,_,_=>[]
 |[t],x,ms,j=>gE t x ms j
 |t::a::r,x,ms,j=>gE t x.1 ms j++mO (a::r) x.2 (ms.drop t.nh) (j+t.nh)
inductive PC
 |d (t:TC)
 |own (t:TC) (e:TypeId)
 |box (m:Bool) (t:TC) (os:List (Option TypeId))
 |fn (f:FuncId)
 |clo (f:FuncId) (t:TC)
 |prt (t:TC) (e:TypeId)
 |rc (f:FuncId) (js:List Nat)
abbrev PC.den:PC->Type
 |.d t=>t.den
 |.own t _=>List t.den
 |.box _ t _=>t.den
 |.fn _=>Unit
 |.clo _ t=>t.den
 |.prt t _=>List t.den×Int×Int
 |.rc _ _=>Unit
abbrev j7:List PC->Type
 |[]=>Unit
 |[p]=>p.den
 |p::q::r=>p.den×j7 (q::r)
def PC.nh:PC->Nat
 |.d t=>t.nh
 |.own _ _=>1
 |.box _ t _=>1+t.nh
 |.fn _=>0
 |.clo _ t=>1+t.nh
 |.prt _ _=>2
 |.rc _ _=>1
def rU:List PC->Nat
 |[]=>0
 |p::r=>p.nh+rU r
def PC.nc:PC->Nat
 |.own _ _=>1
 |.box _ t _=>1+t.nh
 |.prt _ _=>1
 |_=>0
def PC.val:(p:PC)->p.den->List Hd->Value
 |.d t,x,l=>mz t x (aO t l)
 |.own _ _,_,l=>(l.headD eu).val
 |.box _ _ _,_,l=>.pointer (some ⟨(l.headD eu).blk,0,none⟩)
 |.fn f,_,_=>.func (.func f) #[] #[]
 |.clo f _,_,l=>.func (.func f) #[] #[.pointer (some ⟨(l.headD eu).blk,0,none⟩)]
 |.prt _ _,_,l=>(l.tail.headD eu).val
 |.rc _ _,_,l=>.pointer (some ⟨(l.headD eu).blk,0,none⟩)
def mF:(ps:List PC)->j7 ps->List Hd->List Value
 |[],_,_=>[]
 |[p],x,l=>[p.val x l]
 |p::a::r,x,l=>p.val x.1 l::mF (a::r) x.2 (l.drop p.nh)
def jt:(t:TC)->t.den->t.ty.Refs->List (Option TypeId)->Nat->List HA
 |.pair a b,x,y,os,q=>jt a x.1 y.1 os q++jt b x.2 y.2 (os.drop a.nh) (q+a.nh)
 |.slice t,xs,h,os,q=>match os with
  |some e::_=>[ep t.ty e q [1] xs h]
  |_=>[.rep t.ty [1] xs h]
 |.st a,x,y,os,q=>jt a x y os q
 |.sc _,_,_,_,_=>[]
 |.arr _ _,_,_,_,_=>[]
 |.unit,_,_,_,_=>[]
 |.ext _,_,_,_,_=>[]
 |.node,x,h,_,_=>[.rep .node [1] x.tup.2.2.2 h]
 |.mp k v,xs,h,os,q=>match os with
  |some _::_=>[.mp q (Hd.blk h) (Cn k v xs)]
  |_=>[]
def PC.facts:(p:PC)->p.den->List Hd->Nat->List HA
 |.d t,x,l,_=>Go.Sm.facts t.ty [1] x (aO t l)
 |.own t e,xs,l,q=>[ep t.ty e q [1] xs (l.headD eu)]
 |.box m t os,x,l,q=>.box (bif m then q else 1) (l.headD eu).blk (t.ty.fill x (aO t (l.drop 1)))::jt t x (aO t (l.drop 1)) (bif m then os else []) (q+1)
 |.fn _,_,_,_=>[]
 |.clo _ t,x,l,q=>.box 1 (l.headD eu).blk (t.ty.fill x (aO t (l.drop 1)))::jt t x (aO t (l.drop 1)) [] (q+1)
 |.prt t e,x,l,q=>[ep t.ty e q [1] x.1 (l.headD eu),.pure (lm (l.tail.headD eu) (l.headD eu) t.ty.sz x.2.1 x.2.2)]
 |.rc _ _,_,_,_=>[]
def pe:(ps:List PC)->j7 ps->List Hd->Nat->List HA
 |[],_,_,_=>[]
 |[p],x,l,q=>p.facts x l q
 |p::a::r,x,l,q=>p.facts x.1 l q++pe (a::r) x.2 (l.drop p.nh) (q+p.nc)
def yV(nr:Nat)(ts:List TC)(x:eJ ts)(l:List Hd):Value:=match(kU ts x l).take nr with
 |[v]=>v
 |vs=>.tuple vs.toArray
def nx{α:Type}(s:Nat)(a b:α):α:=match s with
 |0=>a
 |_=>b
def zW:(t:TC)->t.den->Hd->TypeId->Nat->List HA
 |.slice t,xs,h,e,c=>bif t.ty.pureB||fk e then [ep t.ty e c [] xs h]else []
 |_,_,_,_,_=>[]
inductive ObH
 |b (n:Nat)
 |r (h:Hd) (e:TypeId)
def tM(t:TC)(x:t.den)(l:List Hd)(s:Nat)(bs:List ObH)(c:Nat):List HA:=match s,bs with
 |0,.b b::_=>[.box c b (t.ty.fill x (aO t l))]
 |0,.r h e::_=>zW t x h e c
 |_,_=>[]
def nE:(ts:List TC)->eJ ts->List Hd->Nat->List ObH->Nat->List HA
 |[],_,_,_,_,_=>[]
 |[t],x,l,s,bs,c=>tM t x l s bs c
 |t::a::r,x,l,s,bs,c=>tM t x.1 l s bs c++nE (a::r) x.2 (l.drop t.nh) (s-1) (nx s bs.tail bs) (nx s (c+1) c)
structure Sig where
 ps:List PC
 rs:List TC
 nr:Nat
 bl:List Nat
 ms:List RM
def ηL(l:List Hd):Vn:=⟨λm=>l.getD m eu,λm=>(l.getD m eu).blk⟩
def vT(w0:World)(c0:aS){Y:Type}(val:Y->Value)(facts:Y->List HA)(e:Ending)(w':World):Prop:=
 ∃y c',e=.returned (val y)/\gU w0 w'/\w0.heap.size<=w'.heap.size/\(∀b,b<w0.heap.size->c0 b<=1->w'.heap[b]?=w0.heap[b]?/\c' b=c0 b) /\
  (∀b,b<w'.heap.size->(b<w0.heap.size->2<=c0 b)->2<=c' b)/\ao w' c' (facts y)
def obH(l:List Hd)(k:Nat):ObH:=bif Nat.blt k 64 then .b (l.getD k eu).blk else .r (l.getD (k%64) eu) (k / 64-1)
def yP(l:List Hd)(bl:List Nat):List ObH:=bl.map (obH l)
def Ia:List PC->Nat->List AF
 |[],_=>[]
 |.rc f js::r,n=>.box 1 n [.clo f js]::Ia r (n+1)
 |p::r,n=>Ia r (n+p.nh)
def TA(P:Program)(f:FuncId)(C:Sig)(x:j7 C.ps)(r:eJ C.rs):Prop:=
 (∃fn a,P.funcs[f]?=some fn/\fn.body=some a/\(fn.name == "runtime.NumGoroutine")=false) /\
 ∀ (l:List Hd),l.length=rU C.ps->∀(w:World) (c0:aS),ao w c0 ((Ia C.ps 0).map (AF.ha (ηL l))++(pe C.ps x l 2++fH)) ->
  Calls P f (mF C.ps x l).toArray w (vT w c0 (λy : { y:List Hd//y.length=iC C.rs}=>yV C.nr C.rs r y.1)
   (λy=>(mO C.rs r C.ms 0).map (AF.ha (ηL y.1))++nE C.rs r y.1 C.nr (yP l C.bl) 130))
structure Ctr extends Sig where
 fn:j7 ps->Option (eJ rs)
structure DCtr extends Sig where
 fn:Nat->j7 ps->Option (eJ rs)
def Ctr.sound(P:Program)(f:FuncId)(C:Ctr):Prop:=∀x r,C.fn x=some r->TA P f C.toSig x r
def DCtr.sound(P:Program)(C:DCtr):Prop:=∀f x r,C.fn f x=some r->TA P f C.toSig x r
abbrev Ct:=FuncId->List Ctr
def Ct.ok(Γ:Ct)(P:Program):Prop:=∀f,∀C∈Γ f,C.sound P f
def mu(μ:List (Nat×Nat))(Ka:List Nat)(k:Nat):Nat:=match μ with
 |[]=>bif Nat.ble 1 k&&bU k Ka then 1 else 0
 |(i,q)::r=>bif Nat.beq k i then q else mu r Ka k
theorem zT{Ka:List Nat}{k:Nat}:∀{μ:List (Nat×Nat)},k∉μ.map (·.1)->mu μ Ka k<=1/\(mu μ Ka k=1->k∈Ka)
 |[],_=>by grind[mu,bU,mem_iff]
 | (i,q)::r,h=>by
  simp only[aev,aen,not_or]at h;have:Nat.beq k i=false:=by
   cases a:Nat.beq k i
   ·rfl
   simp_all
  simp only[mu,this,ab7];exact zT h.2
theorem TQ{Ka:List Nat}:∀{μ:List (Nat×Nat)},μ.all (λp=>Nat.ble 2 p.1)=true->mu μ Ka 0=0
 |[],_=>rfl
 | (i,q)::r,h=>by
  simp only[afR,abF]at h;have b:=abM h.1;have:Nat.beq 0 i=false:=by
   cases a:Nat.beq 0 i
   ·rfl
   ·have:=f9 a;omega
  simp only[mu,this,ab7];exact TQ h.2
theorem XQ{Ka:List Nat}{k:Nat}:∀{μ:List (Nat×Nat)},μ.all (λp=>Nat.ble 2 p.2)=true->k∈μ.map (·.1)->2<=mu μ Ka k
 |[],_,h=>by simp at h
 | (i,q)::r,hq,h=>by
  simp only[afR,abF]at hq;simp only[mu];cases a:Nat.beq k i
  ·simp only[aev,aen]at h;rcases h with h|h
   ·simp_all
   ·exact XQ hq.2 h
  simp_all
def vq(w:World)(c:aS)(κ:List Nat)(N:Nat)(c':aS):aS:=open Classical inλb=>if b<w.heap.size/\c b∉κ then c b else N+(c' b-2)
theorem instC_holds{w':World}{c c':aS}{κ:List Nat}(s:∀b,b<w.heap.size->c b∉κ->c' b<=1/\(c' b=1->c b∈Ka))(r:∀b,b<w'.heap.size->(b<w.heap.size->c b∈κ)->2<=c' b) :
  (A:HA)->A.leaves=true->A.holds w' c'->(A.inst N Ka).holds w' (vq w c κ N c'):=by
 have f:∀K:List Nat,K.all (λk=>Nat.ble 1 k)=true->jb w' w' (λb=>c' b∈K) (λb=>vq w c κ N c' b∈instK N Ka K):=by
  intro K f b h a;refine⟨?_,rfl⟩;show vq w c κ N c' b∈_;unfold vq;split
  ·rename_i B;have j:1<=c' b:=abM (acr.1 f _ a);grind[instK_one]
  grind[instK_mem]
 have hi:∀i b,2<=i->c' b=i->vq w c κ N c' b=N+(i-2):=by intro i b l a;unfold vq;grind
 intro A hl d;cases A with
 |tr t e i K xs v=>
  simp only[HA.leaves,abF]at hl;exact cJ.keep (λb h a=>⟨hi i b (abM hl.1) a,rfl⟩) d
 |hol t e i xs v k cs=>exact ka.keep (λb h a=>⟨hi i b (abM hl) a,rfl⟩) d
 |rep t K xs v=>exact bH.keep (f K hl) (.slice t) xs v d
 |own t e i K xs v=>
  simp only[HA.leaves,abF]at hl;obtain⟨ys,j,l,q⟩:=d;exact⟨ys,j.mono (bH.keep (f K hl.2) t),l,λg z=>hi i g (abM hl.1) (q g z)⟩
 |box i b cs=>
  obtain⟨⟨ty,h⟩,a⟩:=d;exact⟨⟨ty,h⟩,hi i b (abM hl) a⟩
 |elem t K x p=>
  obtain⟨y,b,off,arr,ty,u,C,a,h,j,l,q⟩:=d;exact⟨y,b,off,arr,ty,u,C,(f K hl b (aeJ.1 h).1 a).1,h,j,l,bH.keep (f K hl) t x y q⟩
 |old w0 S=>simp[HA.leaves]at hl
 |pure p=>exact d
 |gl g n cs=>simp[HA.leaves]at hl
 |lp b o=>simp[HA.leaves]at hl
 |pt t e i K xs v m=>
  simp only[HA.leaves,abF]at hl;exact zN.keep (λb _ a=>⟨hi i b (abM hl.1) a,rfl⟩) (f K hl.2) d
 |mp i b es=>
  exact vG.keep (S:=λb=>c' b=i) (λb _ a=>⟨hi i b (abM hl) a,rfl⟩) d
theorem afI{P:Program}{ρ:dm}{L:List HA}{o:Oper}{x:Operand}{f:FuncId}{fn:Func}{args cap:List Value}{Y:Type}{val:Y->Value}{fcts:Y->List HA}{pre:List HA}{D:Code}
  (S:∀w c0,ao w c0 pre->Calls P f args.toArray w (vT w c0 val fcts))
  (U:o.op=.call { callee:=.value x,args:=xs,argTypes:=ts}) (V:aL ρ x=.func (.func f) #[] cap.toArray) (s:xs.toList.map (aL ρ)++cap=args)
  (hf:P.funcs[f]?=some fn) (g:fn.body=some D) (v:(fn.name == "runtime.NumGoroutine")=false) (Ka:List Nat) (μ:List (Nat×Nat)) (hq:μ.all (λp=>Nat.ble 2 p.2)=true)
  (q:∀w c,ao w c L->ao w (λb=>mu μ Ka (c b)) pre)
  (hl:∀y,(fcts y).all HA.leaves=true)  {Φ:Y->List HA} (z:∀y,(fcts y).map (HA.inst N Ka)=Φ y) (M:Nat.ble 2 N=true) :
  cN P ρ o L (μ.map (·.1)) val Φ:=by
 intro a ev w c next Q ha K T
 have W:2<=N:=abM M;have u:¬fn.name = "runtime.NumGoroutine" := by grind
 have d:xs.map (aL ρ)++cap.toArray=args.toArray:=by grind
 have r:(execOp ev o).run P w=.ok (.enter f args.toArray) w:=by simp[execOp,U,resolve,ha,V,Deferred.ofValue,invoke,callFunc,hf,g,u,d,Result.andThen]
 rw[r,Oper.uponIn_enter];refine⟨λh=>(by cases h),callsIn_wide.2 ?_⟩;refine(S w (λb=>mu μ Ka (c b)) (q w c K)).mono ?_;rintro e w' ⟨y,c',rfl,j,H,m,l,J⟩;refine T y w' (vq w c (μ.map (·.1)) N c') ⟨H,λb g k=>by simp only[vq];grind,λb g k=>(m b g (zT k).1).1,λb g O => ?_,j⟩ ?_
 ·simp only[vq];grind
 ·rw[<-z y];intro A I;obtain⟨B,C,rfl⟩:=acG.1 I;refine instC_holds (λb g k=>?_) (λb g k=>l b g λt=>XQ hq (k t)) B (acr.1 (hl y) B C) (J B C);grind[zT]
def AF.inst(n N:Nat)(Ka:List Nat):AF->AF
 |.rep t K xs h=>.rep t (instK N Ka K) xs (n+h)
 |.own t e i K xs h=>.own t e (N+(i-2)) (instK N Ka K) xs (n+h)
 |.box i b cs=>.box i b cs
 |.isn h b=>.isn h b
 |.ag B=>.ag B
 |.prt a b s l h=>.prt a b s l h
 |.pbx a b s l h=>.pbx a b s l h
 |.hol t e i xs h k cs=>.hol t e i xs h k cs
 |.mp k v i xs h=>.mp k v (N+(i-2)) xs (n+h)
 |.pt t e i K xs h m=>.pt t e (N+(i-2)) (instK N Ka K) xs (n+h) m
def AF.isBox:AF->Bool
 |.box _ _ _=>true
 |.isn _ _=>true
 |.ag _=>true
 |.prt _ _ _ _ _=>true
 |.pbx _ _ _ _ _=>true
 |.hol _ _ _ _ _ _ _=>true
 |_=>false
theorem qG{l:Vn}:∀(t:TC) (x:t.den) (ms:List RM) (j:Nat),∀f∈gE t x ms j,(f.ha l).leaves=true/\f.isBox=false
 |.pair a b,x,ms,j,f,h=>by
  simp only[gE,aef]at h;rcases h with h|h
  ·exact qG a _ _ _ f h
  ·exact qG b _ _ _ f h
 |.slice t,xs,[],j,f,h=>by simp[gE]at h
 | .slice t,xs,m::r,j,f,h=>by
  have d:∀c,1<=c->(m.K c).all (λk=>Nat.ble 1 k)=true:=by grind[RM.K,List.all_eq_true,Nat.ble_eq_true_of_le]
  simp only[gE]at h;split at h
  ·rename_i e _;cases g:(Nat.ble 4194304 e && !(fk e))
   ·rw[g]at h;simp only[ab7,ade]at h;subst h;refine⟨?_,rfl⟩;grind[AF.ha,zd,Nat.ble_eq_true_of_le]
   grind
  ·simp only[ade]at h;subst h;exact⟨d _ (by omega),rfl⟩
 |.st a,x,ms,j,f,h=>qG a x ms j f h
 |.sc _,_,_,_,_,h=>by simp[gE]at h
 |.arr _ _,_,_,_,_,h=>by simp[gE]at h
 |.unit,_,_,_,_,h=>by simp[gE]at h
 |.ext _,_,_,_,_,h=>by simp[gE]at h
 |.node,_,_,_,_,h=>by simp[gE]at h
 |.mp _ _,_,[],_,_,h=>by simp[gE]at h
 |.mp _ _,_,m::_,_,_,h=>by
  simp only[gE]at h;split at h
  ·simp only[ade]at h;subst h;exact⟨aeo (by omega),rfl⟩
  ·cases h
theorem zi{η:Vn}:∀(ts:List TC) (x:eJ ts) (ms:List RM) (j:Nat),∀f∈mO ts x ms j,(f.ha η).leaves=true/\f.isBox=false
 |[],_,_,_,_,h=>by simp[mO]at h
 |[t],x,ms,j,f,h=>qG t x ms j f h
 |t::a::r,x,ms,j,f,h=>by
  simp only[mO,aef]at h;rcases h with h|h
  ·exact qG t _ _ _ f h
  ·exact zi (a::r) _ _ _ f h
def AF.hdN:AF->Nat
 |.rep _ _ _ h=>h
 |.own _ _ _ _ _ h=>h
 |.box _ _ _=>0
 |.isn _ _=>0
 |.ag _=>0
 |.prt _ _ _ _ _=>0
 |.pbx _ _ _ _ _=>0
 |.hol _ _ _ _ _ _ _=>0
 |.mp _ _ _ _ h=>h
 |.pt _ _ _ _ _ h _=>h
theorem inst_ha{n:Nat}{l:List Hd}{b:Vn}:(f:AF)->b.h (n+f.hdN)=(ηL l).h f.hdN->f.isBox=false->HA.inst N Ka (f.ha (ηL l))=(f.inst n N Ka).ha b
 |.rep t K xs h,a,_=>by grind[AF.hdN,AF.ha,HA.inst,AF.inst]
 |.own t e i K xs h,a,_=>by grind[AF.hdN,AF.ha,AF.inst,CA]
 |.box _ _ _,_,h=>by cases h
 |.isn _ _,_,h=>by cases h
 |.ag _,_,h=>by cases h
 |.prt _ _ _ _ _,_,h=>by cases h
 |.pbx _ _ _ _ _,_,h=>by cases h
 |.hol _ _ _ _ _ _ _,_,h=>by cases h
 |.mp k v i xs h,a,_=>by grind[AF.hdN,AF.ha,HA.inst,AF.inst]
 |.pt t e i K xs h m,a,_=>by grind[AF.hdN,AF.ha,HA.inst,AF.inst]
theorem zD:∀(t:TC) (x:t.den) (ms:List RM) (j:Nat),∀f∈gE t x ms j,f.hdN<j+t.nh
 |.pair a b,x,ms,j,f,h=>by
  simp only[gE,aef]at h;simp only[TC.nh];rcases h with h|h
  ·have:=zD a _ _ _ f h;omega
  ·have:=zD b _ _ _ f h;omega
 |.slice t,xs,[],j,f,h=>by simp[gE]at h
 |.slice t,xs,m::r,j,f,h=>by grind[gE,Nat.ble,fk,AF.hdN,TC.nh]
 |.st a,x,ms,j,f,h=>zD a x ms j f h
 |.sc _,_,_,_,_,h=>by simp[gE]at h
 |.arr _ _,_,_,_,_,h=>by simp[gE]at h
 |.unit,_,_,_,_,h=>by simp[gE]at h
 |.ext _,_,_,_,_,h=>by simp[gE]at h
 |.node,_,_,_,_,h=>by simp[gE]at h
 |.mp _ _,_,[],_,_,h=>by simp[gE]at h
 |.mp _ _,_,m::_,_,_,h=>by grind[gE,AF.hdN,TC.nh]
theorem Vc:∀(ts:List TC) (x:eJ ts) (ms:List RM) (j:Nat),∀f∈mO ts x ms j,f.hdN<j+iC ts
 |[],_,_,_,_,h=>by simp[mO]at h
 |[t],x,ms,j,f,h=>by have:=zD t x ms j f h;simp only[iC];omega
 |t::a::r,x,ms,j,f,h=>by
  simp only[mO,aef]at h;have e:iC (t::a::r)=t.nh+iC (a::r):=rfl;rcases h with h|h
  ·have:=zD t _ _ _ f h;omega
  ·have:=Vc (a::r) _ _ _ f h;omega
def EQ:(ts:List TC)->eJ ts->Nat->List AV
 |[],_,_=>[]
 |[t],x,n=>[rr t x n]
 |t::a::r,x,n=>rr t x.1 n::EQ (a::r) x.2 (n+t.nh)
def Ao(nr:Nat)(ts:List TC)(x:eJ ts)(n:Nat):AV:=match(EQ ts x n).take nr with
 |[v]=>v
 |vs=>.tu vs
def aeY:(t:TC)->t.den->Nat->TypeId->Nat->List AF
 |.slice t,xs,h,e,c=>bif t.ty.pureB||fk e then [.own t e c [] xs h]else []
 |_,_,_,_,_=>[]
inductive ObA
 |b (n:Nat)
 |r (h:Nat) (e:TypeId)
def ObA.v(η:Vn):ObA->ObH
 |.b n=>.b (η.b n)
 |.r h e=>.r (η.h h) e
def ObA.free(n:Nat):ObA->Bool
 |.b _=>true
 |.r h _=>out n h
def Gi(t:TC)(x:t.den)(n:Nat)(s:Nat)(bs:List ObA)(c:Nat):List AF:=match s,bs with
 |0,.b b::_=>[.box c b (jK t x n)]
 |0,.r h e::_=>aeY t x h e c
 |_,_=>[]
theorem asE{a:Vn}:∀(t:TC) (x:t.den) (h:Nat) (e:TypeId) (c:Nat),(aeY t x h e c).map (AF.ha a)=zW t x (a.h h) e c
 |.slice t,xs,h,e,c=>by simp only[aeY,zW];cases (t.ty.pureB||fk e)<;>rfl
 |.sc _,_,_,_,_=>rfl
 |.arr _ _,_,_,_,_=>rfl
 |.unit,_,_,_,_=>rfl
 |.pair _ _,_,_,_,_=>rfl
 |.st _,_,_,_,_=>rfl
 |.ext _,_,_,_,_=>rfl
 |.node,_,_,_,_=>rfl
 |.mp _ _,_,_,_,_=>rfl
theorem Ts:∀(t:TC) (x:t.den) (h:Hd) (e:TypeId) (c:Nat),2<=c->(zW t x h e c).all HA.leaves=true
 |.slice t,xs,h,e,c,a=>by simp only[zW];cases (t.ty.pureB||fk e)<;>simp[zd,a]
 |.sc _,_,_,_,_,_=>rfl
 |.arr _ _,_,_,_,_,_=>rfl
 |.unit,_,_,_,_,_=>rfl
 |.pair _ _,_,_,_,_,_=>rfl
 |.st _,_,_,_,_,_=>rfl
 |.ext _,_,_,_,_,_=>rfl
 |.node,_,_,_,_,_=>rfl
 |.mp _ _,_,_,_,_,_=>rfl
theorem adI:∀(t:TC) (x:t.den) (h:Hd) (e:TypeId) (c:Nat),(zW t x h e (c+2)).map (HA.inst N Ka)=zW t x h e (N+c)
 |.slice t,xs,h,e,c=>by grind[zW,fk,instK,CA]
 |.sc _,_,_,_,_=>rfl
 |.arr _ _,_,_,_,_=>rfl
 |.unit,_,_,_,_=>rfl
 |.pair _ _,_,_,_,_=>rfl
 |.st _,_,_,_,_=>rfl
 |.ext _,_,_,_,_=>rfl
 |.node,_,_,_,_=>rfl
 |.mp _ _,_,_,_,_=>rfl
def SU:(ts:List TC)->eJ ts->Nat->Nat->List ObA->Nat->List AF
 |[],_,_,_,_,_=>[]
 |[t],x,n,s,bs,c=>Gi t x n s bs c
 |t::a::r,x,n,s,bs,c=>Gi t x.1 n s bs c++SU (a::r) x.2 (n+t.nh) (s-1) (nx s bs.tail bs) (nx s (c+1) c)
def iS(η:Vn)(n:Nat)(l:List Hd):Prop:=∀j h,l[j]?=some h->η.h (n+j)=h
theorem jf{d:Vn}:(t:TC)->(x:t.den)->(l:List Hd)->(n:Nat)->iS d n l->t.nh<=l.length->aw d (jK t x n)=t.ty.fill x (aO t l)
 |.sc _,_,_,_,_,_=>rfl
 |.arr _ _,_,_,_,_,_=>by simp[jK,aw,Lf.cells,Ty.fill]
 |.unit,_,_,_,_,_=>rfl
 |.pair a b,x,l,n,h,hl=>by simp only[TC.nh]at hl;simp only[jK,ba,Ty.fill,aO];rw[jf a x.1 l n h (by omega),jf b x.2 (l.drop a.nh) (n+a.nh) (λj e c=>by rw[afS]at c;have:=h _ e c;grind) (by simp;omega)]
 | .slice _,x,l,n,h,hl=>by
  simp only[TC.nh]at hl;cases l with
  |nil=>simp at hl
  |cons hd r=>
   have:=h 0 hd rfl;grind[jK,aw,Lf.cells,Ty.fill,aO]
 |.st a,x,l,n,h,hl=>jf a x l n h hl
 |.ext _,_,_,_,_,_=>rfl
 | .node,x,l,n,h,hl=>by
  simp only[TC.nh]at hl;cases l with
  |nil=>simp at hl
  |cons hd r=>
   have:=h 0 hd rfl;simp only[afu]at this;simp[jK,aw,Lf.cells,Ty.fill,Nd.fill,aO,this]
 | .mp _ _,x,l,n,h,hl=>by
  simp only[TC.nh]at hl;cases l with
  |nil=>simp at hl
  |cons hd r=>
   have:=h 0 hd rfl;grind[jK,aw,Lf.cells,Ty.fill,aO]
theorem Ck{c:Vn}(t:TC)(x:t.den)(l:List Hd)(n:Nat)(h:iS c n l)(hl:t.nh<=l.length):(rr t x n).val c=mz t x (aO t l):=by
 cases t with
 |sc s=>rfl
 |arr m s=>rfl
 |unit=>rfl
 |pair a b=>grind[rr,AV.val,mz,jf]
 |st a=>simp only[rr,AV.val,mz,aO];rw[jf a x l n h hl]
 | slice t=>
  simp only[TC.nh]at hl;cases l with
  |nil=>simp at hl
  |cons hd r=>
   have:=h 0 hd rfl;grind[rr,AV.val,Lf.val,mz,aO]
 |ext k=>rfl
 |node=>grind[rr,AV.val,mz,jf]
 | mp k v=>
  simp only[TC.nh]at hl;cases l with
  |nil=>simp at hl
  |cons hd r=>
   have:=h 0 hd rfl;grind[rr,AV.val,Lf.val,mz,aO]
theorem IM{η:Vn}:∀(ts:List TC) (x:eJ ts) (l:List Hd) (n:Nat),iS η n l->iC ts<=l.length->AV.vals η (EQ ts x n)=kU ts x l
 |[],_,_,_,_,_=>rfl
 |[t],x,l,n,h,hl=>by grind[iC,EQ,AV.vals,kU,Ck]
 |t::c::r,x,l,n,h,hl=>by simp only[iC]at hl;simp only[EQ,AV.vals,kU];rw[Ck t x.1 l n h (by omega),IM (c::r) x.2 (l.drop t.nh) (n+t.nh) (λj b a=>by rw[afS]at a;have:=h _ b a;grind) (by simp only[iC,agk];omega)]
theorem JI{η:Vn}:∀(vs:List AV) (k:Nat),AV.vals η (vs.take k)=(AV.vals η vs).take k
 |[],k=>by cases k<;>rfl
 |v::r,0=>rfl
 |v::r,k+1=>by simp only[ai3,AV.vals,JI r k]
theorem Jj{η:Vn}{nr:Nat}(ts:List TC)(x:eJ ts)(l:List Hd)(n:Nat)(h:iS η n l)(hl:iC ts<=l.length):(Ao nr ts x n).val η=yV nr ts x l:=by
 have e:=IM ts x l n h hl;have a:=JI (η:=η) (EQ ts x n) nr;rw[e]at a;unfold Ao yV;rw[<-a];generalize(EQ ts x n).take nr=vs;cases vs with
 |nil=>rfl
 |cons v r=>cases r<;>rfl
theorem atc{η:Vn}:∀(ts:List TC) (x:eJ ts) (l:List Hd) (n s:Nat) (bs:List ObA) (c:Nat),iS η n l->iC ts<=l.length->(SU ts x n s bs c).map (AF.ha η)=nE ts x l s (bs.map (ObA.v η)) c:=by
 have one:∀(t:TC) (x:t.den) (l:List Hd) (n s:Nat) (bs:List ObA) (c:Nat),iS η n l->t.nh<=l.length->(Gi t x n s bs c).map (AF.ha η)=tM t x l s (bs.map (ObA.v η)) c:=by
  intro t x l n s bs c h hl;cases s with
  |succ s=>rfl
  | zero=>
   cases bs with
   |nil=>rfl
   |cons b bs=>
    cases b with
    |b b=>grind[Gi,tM,AF.ha,ObA.v,jf]
    |r a e=>simp only[Gi,tM,aev,ObA.v,asE]
 intro ts;induction ts with
 |nil=>intros;rfl
 | cons t ts g=>
  intro x l n s bs c h hl;cases ts with
  |nil=>exact one t x l n s bs c h (by simp only[iC]at hl;omega)
  |cons f ts=>
   have e:iC (t::f::ts)=t.nh+iC (f::ts):=rfl;simp only[SU,nE,afo];rw[one t x.1 l n s bs c h (by omega),g x.2 (l.drop t.nh) (n+t.nh) (s-1) (nx s bs.tail bs) (nx s (c+1) c) (λj a d=>by rw[afS]at d;have:=h _ a d;grind) (by grind)];congr 2;cases s<;>simp[nx]
theorem S4:∀(ts:List TC) (x:eJ ts) (l:List Hd) (s:Nat) (bs:List ObH) (c:Nat),2<=c->(nE ts x l s bs c).all HA.leaves=true:=by
 have one:∀(t:TC) (x:t.den) (l:List Hd) (s:Nat) (bs:List ObH) (c:Nat),2<=c->(tM t x l s bs c).all HA.leaves=true:=by
  intro t x l s bs c a;cases s with
  |succ s=>rfl
  | zero=>
   cases bs with
   |nil=>rfl
   |cons b bs=>
    cases b with
    |b b=>simp[tM,HA.leaves,a]
    |r d e=>exact Ts t x d e c a
 intro ts;induction ts with
 |nil=>intros;rfl
 | cons t ts f=>
  intro x l s bs c a;cases ts with
  |nil=>exact one t x l s bs c a
  |cons g ts=>
   simp only[nE,List.all_append,abF];exact⟨one t x.1 l s bs c a,f x.2 _ _ _ _ (by cases s<;>simp[nx]<;>omega)⟩
theorem abT:∀(ts:List TC) (x:eJ ts) (l:List Hd) (s:Nat) (bs:List ObH) (c:Nat),(nE ts x l s bs (c+2)).map (HA.inst N Ka)=nE ts x l s bs (N+c):=by
 have one:∀(t:TC) (x:t.den) (l:List Hd) (s:Nat) (bs:List ObH) (c:Nat),(tM t x l s bs (c+2)).map (HA.inst N Ka)=tM t x l s bs (N+c):=by
  intro t x l s bs c;cases s with
  |succ s=>rfl
  | zero=>
   cases bs with
   |nil=>rfl
   |cons b bs=>
    cases b with
    |b b=>rfl
    |r a e=>exact adI t x a e c
 intro ts;induction ts with
 |nil=>intros;rfl
 | cons t ts d=>
  intro x l s bs c;cases ts with
  |nil=>exact one t x l s bs c
  |cons f ts=>
   simp only[nE,afo,one];congr 1;cases s with
   |zero=>simp only[nx];grind
   |succ s=>simp only[nx];grind
def Lf.isAr:Lf->Bool
 |.ar _ _ _=>true
 |.ars _ _=>true
 |_=>false
def rf(F:List AF)(t:TC)(v:AV):Option (t.den×List Lf×List Nat):=match v with
 |.ag ls=>bif t.aggT then match bV F t ls with|some (x,l,K,[])=>some (x,l,K)|_=>none else none
 |.lf l=>bif t.aggT==l.isAr then match bV F t [l]with|some (x,l,K,[])=>some (x,l,K)|_=>none else none
 |.tu _=>none
theorem wz{F:List AF}{η:Vn}{t:TC}{v:AV}{x:t.den}{l:List Lf}{K:List Nat}(h:rf F t v=some (x,l,K)) :
  v.val η=mz t x (aO t (aT η l))/\l.length=t.nh /\
  ∀(w:World) (c:aS) (e:List Nat),ao w c (F.map (AF.ha η))->(∀k∈K,k∈e)->bH w (λb=>c b∈e) t.ty x (aO t (aT η l)):=by
 cases v with
 |tu _=>cases h
 | ag ls=>
  simp only[rf]at h;cases ha:t.aggT
  ·grind
  ·rw[ha]at h;simp only[abv]at h;split at h
   ·rename_i g l' e hd;simp only[no,acW]at h;obtain⟨rfl,rfl,rfl⟩:=h;obtain⟨a,f⟩:=dO (η:=η) t hd;simp only[aw,ad0]at a;refine⟨?_,eL t hd,f⟩;simp only[AV.val,a];cases t<;>first|rfl|cases ha
   ·cases h
 | lf lf=>
  simp only[rf]at h;cases ha:(t.aggT==lf.isAr)
  ·grind
  ·rw[ha]at h;simp only[abv]at h;split at h
   ·rename_i g l' e hd;simp only[no,acW]at h;obtain⟨rfl,rfl,rfl⟩:=h;obtain⟨a,f⟩:=dO (η:=η) t hd;refine⟨?_,eL t hd,f⟩;simp only[aw,ad0]at a;cases lf with
    |ar m s y=>
     have d:t.aggT=true:=by simpa[Lf.isAr]using ha
     simp only[AV.val,Lf.val];simp only[Lf.cells]at a;rw[a];cases t<;>first|rfl|cases d
    |ars j y=>
     have d:t.aggT=true:=by simpa[Lf.isAr]using ha
     simp only[AV.val,Lf.val];simp only[Lf.cells]at a;rw[a];cases t<;>first|rfl|cases d
    |_=>
     have d:t.aggT=false:=by simpa[Lf.isAr]using ha
     simp only[AV.val];cases t<;>first|cases d|skip
     all_goals simp only[Lf.cells,Ty.fill,ah6,aqi]at a
     all_goals exact a
   ·cases h
def uk(F:List AF):(ts:List TC)->List AV->Option (eJ ts×List Lf×List Nat)
 |[],[]=>some ((),[],[])
 |[t],[v]=>rf F t v
 |t::c::r,v::vs=>match rf F t v,uk F (c::r) vs with
  |some (x,l,K),some (y,b,a)=>some ((x,y),l++b,K++a)
  |_,_=>none
 |_,_=>none
theorem Qj{F:List AF}{η:Vn}:∀{ts:List TC} {vs:List AV} {x:eJ ts} {l:List Lf} {K:List Nat},uk F ts vs=some (x,l,K) ->
  AV.vals η vs=kU ts x (aT η l)/\l.length=iC ts
 |[],[],_,l,K,h=>by simp only[uk,no,acW]at h;obtain⟨_,rfl,rfl⟩:=h;exact⟨rfl,rfl⟩
 |[t],[v],x,l,K,h=>by obtain⟨a,b,c⟩:=wz (η:=η) (t:=t) h;grind[AV.vals,kU,iC]
 |t::m::r,v::vs,x,l,K,h=>by
  simp only[uk]at h;split at h
  ·rename_i p j e q k K2 ha d;simp only[no,acW]at h;obtain⟨rfl,rfl,rfl⟩:=h;obtain⟨a,b,c⟩:=wz (η:=η) ha;obtain⟨f,g⟩:=Qj (η:=η) d;grind[aT,aO,iC,AV.vals,kU,dZ,List.drop_append,List.drop_eq_nil_of_le]
  ·cases h
 |[],_::_,_,_,_,h=>by simp[uk]at h
 |[_],[],_,_,_,h=>by simp[uk]at h
 |[_],_::_::_,_,_,_,h=>by simp[uk]at h
 |_::_::_,[],_,_,_,h=>by simp[uk]at h
def wq{α:Type}:Option (α×List Lf×List Nat×List Lf)->Option (α×List Lf×List Nat×List (Nat×Nat)×List Lf)
 |some (x,l,K,r)=>some (x,l,K,[],r)
 |none=>none
theorem fA{α:Type}{m:Option (α×List Lf×List Nat×List Lf)}{x:α}{l:List Lf}{K:List Nat}{r:List Lf}(h:wq m=some (x,l,K,μ,r)):m=some (x,l,K,r):=by unfold wq at h;grind
def apS(F:List AF)(k v:TC)(r:List Lf)(os:List (Option TypeId))(q:Nat):Option ((TC.mp k v).den×List Lf×List Nat×List (Nat×Nat)×List Lf):=match os with
 | some _::_=>match r with
  |.mp h::r=>match xd k v h F with
   |some s=>some (s.xs,[.mp h],[],[(s.i,q)],r)
   |none=>none
  |_=>none
 |_=>wq (bV F (.mp k v) r)
def iG(F:List AF):(t:TC)->List Lf->List (Option TypeId)->Nat->Option (t.den×List Lf×List Nat×List (Nat×Nat)×List Lf)
 | .pair a b,r,os,q=>match iG F a r os q with
  |some (x,g,f,c,r1)=>match iG F b r1 (os.drop a.nh) (q+a.nh)with
   |some (y,j,K2,d,l)=>some ((x,y),g++j,f++K2,c++d,l)
   |none=>none
  |none=>none
 | .slice t,r,os,q=>match os,r with
  |some e::_,.sl h::r=>match fY t e 0 F (.sl h)with
   |some (i,K,xs)=>some (xs,[.sl h],K,[(i,q)],r)
   |none=>none
  |some _::_,.nl::r=>some ([],[.nl],[],[],r)
  |some _::_,_=>none
  |_,r=>wq (bV F (.slice t) r)
 |.st a,r,os,q=>iG F a r os q
 |.sc s,r,_,_=>wq (bV F (.sc s) r)
 |.arr n s,r,_,_=>wq (bV F (.arr n s) r)
 |.unit,r,_,_=>wq (bV F .unit r)
 |.ext n,r,_,_=>wq (bV F (.ext n) r)
 |.node,r,_,_=>wq (bV F .node r)
 |.mp k v,r,os,q=>apS F k v r os q
theorem FN{c:aS}{m:Nat->Nat}{t:Ty}{e:TypeId}{q:Nat}{K:List Nat}{xs:List t.den}{v:Hd}(h:HA.holds w c (ep t e i K xs v))(d:∀k∈K,m k=1)(hi:m i=q):HA.holds w (λb=>m (c b)) (ep t e q [1] xs v):=
 PV (λb _ a=>by grind) (λb _ a=>by grind) h
theorem OL{c:aS}{m:Nat->Nat}{K:List Nat}{t:Ty}{x:t.den}{y:t.Refs}(h:∀a:List Nat,(∀k∈K,k∈a)->bH w (λb=>c b∈a) t x y)(e:∀k∈K,m k=1):bH w (λb=>m (c b)∈([1]:List Nat)) t x y:=
 bH.keep (S:=λb=>c b∈K) (λb _ f=>⟨by grind,rfl⟩) t x y (h K λ_ d=>d)
theorem TW{F:List AF}{η:Vn}:∀(t:TC) {ls:List Lf} {os:List (Option TypeId)} {q:Nat} {x:t.den} {l:List Lf} {K:List Nat} {μ:List (Nat×Nat)} {r:List Lf},iG F t ls os q=some (x,l,K,μ,r) ->
  aw η ls=t.ty.fill x (aO t (aT η l))++aw η r/\l.length=t.nh /\
  ∀(w:World) (c:aS) (m:Nat->Nat),ao w c (F.map (AF.ha η))->(∀k∈K,m k=1)->(∀p∈μ,m p.1=p.2)->ao w (λb=>m (c b)) (jt t x (aO t (aT η l)) os q):=by
 intro t;induction t with
 |sc s=>
  intro ls os q x l K μ r h;simp only[iG]at h;exact⟨(dO _ (fA h)).1,eL _ (fA h),λ_ _ _ _ _ _=>ao.nil _ _⟩
 |arr n s=>
  intro ls os q x l K μ r h;simp only[iG]at h;exact⟨(dO _ (fA h)).1,eL _ (fA h),λ_ _ _ _ _ _=>ao.nil _ _⟩
 |unit=>
  intro ls os q x l K μ r h;simp only[iG]at h;exact⟨(dO _ (fA h)).1,eL _ (fA h),λ_ _ _ _ _ _=>ao.nil _ _⟩
 |ext n=>
  intro ls os q x l K μ r h;simp only[iG]at h;exact⟨(dO _ (fA h)).1,eL _ (fA h),λ_ _ _ _ _ _=>ao.nil _ _⟩
 |node=>
  intro ls os q x l K μ r h;simp only[iG]at h;obtain⟨U,V⟩:=dO (η:=η) .node (fA h);exact⟨U,eL _ (fA h),λw c m f g _=>ao.cons (pL.1 (OL (λB u=>V w c B f u) g)) (ao.nil _ _)⟩
 | mp k v _ _=>
  intro ls os q x l K μ r h;have rep:(match os with|some _::_=>False|_=>True)->bV F (.mp k v) ls=some (x,l,K,r)->aw η ls=(TC.mp k v).ty.fill x (aO (.mp k v) (aT η l))++aw η r/\l.length=(TC.mp k v).nh /\
    ∀(w:World) (c:aS) (m:Nat->Nat),ao w c (F.map (AF.ha η))->(∀k∈K,m k=1)->(∀p∈μ,m p.1=p.2)->ao w (λb=>m (c b)) (jt (.mp k v) x (aO (.mp k v) (aT η l)) os q):=by
   intro z hd;refine⟨(dO (η:=η) (.mp k v) hd).1,eL _ hd,λw c m f g _=>?_⟩;simp only[jt];split
   ·simp at z
   ·exact ao.nil _ _
  simp only[iG]at h;cases os with
  |nil=>exact rep trivial (fA h)
  | cons o A =>
   cases o with
   |none=>exact rep trivial (fA h)
   | some e=>
    simp only[apS]at h;split at h
    ·rename_i Q r';dsimp only at h;split at h
     ·rename_i s hs;simp only[no,acW]at h;obtain⟨rfl,rfl,rfl,rfl,rfl⟩:=h;refine⟨rfl,rfl,λw c m f g d=>ao.cons ?_ (ao.nil _ _)⟩;have Z:HA.holds w c (.mp s.i (η.h Q).blk (Cn k v s.xs)):=f _ (acG.2 ⟨_,ir hs,rfl⟩);exact vG.keep (S:=λb=>c b=s.i) (λb _ hc=>⟨by show m (c b)=q;rw[hc];exact d _ adT,rfl⟩) Z
     ·cases h
    ·cases h
 |st a ih=>exactλh=>ih h
 | pair a b J L=>
  intro ls os q x l K μ r h;simp only[iG]at h;split at h
  ·rename_i x1 j K1 μ1 r1 W;split at h
   ·rename_i x2 y K2 μ2 r2 Y;simp only[no,acW]at h;obtain⟨rfl,rfl,rfl,rfl,rfl⟩:=h;obtain⟨C,n1,D⟩:=J W;obtain⟨c2,n2,T⟩:=L Y;have hn:(aT η j).length=a.nh:=by simp[aT,n1]
    have M:aO a (aT η (j++y))=aO a (aT η j):=by rw[show aT η (j++y)=aT η j++aT η y by simp[aT],dZ a _ _ hn]
    have O:aO b ((aT η (j++y)).drop a.nh)=aO b (aT η y):=by rw[show aT η (j++y)=aT η j++aT η y by simp[aT],afr,afc (by omega),show a.nh-(aT η j).length=0 by omega];rfl
    refine⟨?_,by simp only[TC.nh,acA];omega,λw c m f g d=>?_⟩
    ·simp only[aO,Ty.fill];rw[M,O,C,c2,aeh]
    ·simp only[jt,aO];rw[M,O];exact(D w c m f (λk H=>g k (ad2 _ H)) λp I=>d p (ad2 _ I)).append
      (T w c m f (λk H=>g k (adF _ H)) λp I=>d p (adF _ I))
   ·cases h
  ·cases h
 | slice t _=>
  intro ls os q x l K μ r h;have rep:(match os with|some _::_=>False|_=>True)->bV F (.slice t) ls=some (x,l,K,r)->aw η ls=(TC.slice t).ty.fill x (aO (.slice t) (aT η l))++aw η r/\l.length=(TC.slice t).nh /\
    ∀(w:World) (c:aS) (m:Nat->Nat),ao w c (F.map (AF.ha η))->(∀k∈K,m k=1)->(∀p∈μ,m p.1=p.2)->ao w (λb=>m (c b)) (jt (.slice t) x (aO (.slice t) (aT η l)) os q):=by
   intro z hd;obtain⟨C,D⟩:=dO (η:=η) (.slice t) hd;refine⟨C,eL _ hd,λw c m f g _=>?_⟩;have hr:=OL (m:=m) (λB u=>D w c B f u) g;simp only[jt];split
   ·simp at z
   ·exact ao.cons hr (ao.nil _ _)
  match os,ls,h,rep with
  |some e::A,.sl Q::r',h,_=>
   simp only[iG]at h;split at h
   ·rename_i i B xs z;simp only[no,acW]at h;obtain⟨rfl,rfl,rfl,rfl,rfl⟩:=h;exact⟨rfl,rfl,λw c m f g d=>ao.cons (FN (eO z f) g (d _ adT)) (ao.nil _ _)⟩
   ·cases h
  |some e::A,.nl::r',h,_=>
   simp only[iG,no,acW]at h;obtain⟨rfl,rfl,rfl,rfl,rfl⟩:=h;exact⟨rfl,rfl,λw c m f g d=>ao.cons (vg _ _) (ao.nil _ _)⟩
  |none::_,_,h,rep=>exact rep trivial (fA h)
  |[],_,h,rep=>exact rep trivial (fA h)
  |some _::_,[],h,_=>simp[iG]at h
  |some _::_,.c _ _::_,h,_=>simp[iG]at h
  |some _::_,.ar _ _ _::_,h,_=>simp[iG]at h
  |some _::_,.bp _ _::_,h,_=>simp[iG]at h
  |some _::_,.bq _ _ _ _ _::_,h,_=>simp[iG]at h
  |some _::_,.rp _ _ _ _ _::_,h,_=>simp[iG]at h
  |some _::_,.xt _ _::_,h,_=>simp[iG]at h
  |some _::_,.fn _::_,h,_=>simp[iG]at h
  |some _::_,.clo _ _::_,h,_=>simp[iG]at h
  |some _::_,.gp _ _ _ _ _::_,h,_=>simp[iG]at h
  |some _::_,.ars _ _::_,h,_=>simp[iG]at h
  |some _::_,.v _::_,h,_=>simp[iG]at h
  |some _::_,.mp _::_,h,_=>simp[iG]at h
def tT(F:List AF)(p:PC)(v:AV)(q:Nat):Option (p.den×List Lf×List Nat×List (Nat×Nat)):=match p,v with
 |.d t,v=>match rf F t v with
  |some (x,l,K)=>some (x,l,K,[])
  |none=>none
 |.own t e,.lf (.sl h)=>match fY t e 0 F (.sl h)with
  |some (i,K,xs)=>some (xs,[.sl h],K,[(i,q)])
  |none=>none
 |.own _ _,.lf .nl=>some ([],[.nl],[],[])
 | .box m t os,.lf (.bp b 0)=>match i6 b F with
  |some (i,cs)=>match iG F t cs (bif m then os else []) (q+1)with
   |some (x,l,K,μ,[])=>some (x,.bp b 0::l,(bif m then K else i::K),(bif m then(i,q)::μ else μ))
   |_=>none
  |none=>none
 |.fn f,.lf (.fn g)=>bif Nat.beq f g then some ((),[],[],[])else none
 | .clo f t,.lf (.clo g [b])=>bif Nat.beq f g then match i6 b F with
  |some (i,cs)=>match iG F t cs [] (q+1)with
   |some (x,l,K,μ,[])=>some (x,.clo g [b]::l,i::K,μ)
   |_=>none
  |none=>none else none
 | .prt t e,.lf (.sl h')=>match mY h' F with
  |some (h,sz,lo,hi)=>match fY t e 0 F (.sl h)with
   |some (i,K,xs)=>bif Nat.beq sz t.ty.sz then some ((xs,lo,hi),[.sl h,.sl h'],K,[(i,q)])else none
   |none=>none
  |none=>match fY t e 0 F (.sl h')with
   |some (i,K,xs)=>bif fk e then none else some ((xs,0,(xs.length:Int)),[.sl h',.sl h'],K,[(i,q)])
   |none=>none
 |.rc _ _,.lf (.bp b 0)=>match i6 b F with
  |some (i,_)=>some ((),[.bp b 0],[i],[])
  |none=>none
 |_,_=>none
theorem ate{c:aS}{t:Ty}{e:TypeId}{K:List Nat}{xs:List t.den}{v:Hd}(h:HA.holds w c (.own t e i K xs v)):lm v v t.sz 0 xs.length:=by
 obtain⟨ys,_,⟨_,h⟩,_⟩:=h;rcases h with⟨a,f⟩|⟨g,cap,b,ty,d,a,_⟩
 ·simp only[Hd.val,Value.slice.injEq]at a;exact⟨af3 _,by omega,λh=>by omega⟩
 ·simp only[Hd.val,Value.slice.injEq]at a;exact⟨af3 _,by omega,λ_=>⟨g,0,a.1,by simp[di,a.1]⟩⟩
theorem sn{F:List AF}{b:Nat}{cs:List Lf}(h:i6 b F=some (i,cs)){η:Vn}{c:aS}(a:ao w c (F.map (AF.ha η))):HA.holds w c (.box i (η.b b) (aw η cs)):=
 a _ (acG.2 ⟨_,fw h,rfl⟩)
theorem Ul{F:List AF}{η:Vn}{p:PC}{v:AV}{q:Nat}{x:p.den}{l:List Lf}{K:List Nat}(h:tT F p v q=some (x,l,K,μ)) :
  v.val η=p.val x (aT η l)/\l.length=p.nh /\
  ∀(w:World) (c:aS) (m:Nat->Nat),ao w c (F.map (AF.ha η))->(∀k∈K,m k=1)->(∀p∈μ,m p.1=p.2)->ao w (λb=>m (c b)) (p.facts x (aT η l) q):=by
 have box:∀{i b Q:Nat} {cs:List Lf} {w:World} {c:aS} {m:Nat->Nat} {vs:List Value},i6 b F=some (i,cs)->ao w c (F.map (AF.ha η))->m i=Q->aw η cs=vs->HA.holds w (λb=>m (c b)) (.box Q (η.b b) vs):=by intro i b Q cs w c m vs s j hm Y;obtain⟨z,T⟩:=sn s j;subst Y;exact⟨z,by grind⟩
 cases p with
 |d t=>
  simp only[tT]at h;split at h
  ·rename_i hd;simp only[no,acW]at h;obtain⟨rfl,rfl,rfl,rfl⟩:=h;obtain⟨z,T,W⟩:=wz (η:=η) hd;refine⟨z,T,λw c m j r _=>?_⟩;exact qY _ _ _ (OL (m:=m) (λJ L=>W w c J j L) r)
  ·cases h
 | own t e=>
  cases v with
  | lf lf=>
   cases lf with
   |sl U=>
    simp only[tT]at h;split at h
    ·rename_i A;simp only[no,acW]at h;obtain⟨rfl,rfl,rfl,rfl⟩:=h;exact⟨rfl,rfl,λw c m j r a=>ao.cons (FN (eO A j) r (a _ adT)) (ao.nil _ _)⟩
    ·cases h
   |nl=>
    simp only[tT,no,acW]at h;obtain⟨rfl,rfl,rfl,rfl⟩:=h;exact⟨rfl,rfl,λw c m j r a=>ao.cons (vg _ _) (ao.nil _ _)⟩
   |_=>cases h
  |_=>cases h
 | box m t os=>
  cases v with
  | lf lf=>
   cases lf with
   | bp b off=>
    cases off with
    |succ _=>cases h
    | zero=>
     simp only[tT]at h;split at h
     ·rename_i i cs s;split at h
      ·rename_i x' Z J S hd;simp only[no,acW]at h;obtain⟨rfl,rfl,rfl,rfl⟩:=h;obtain⟨y,n1,H⟩:=TW (η:=η) t hd;refine⟨rfl,by simp only[PC.nh,aeH,n1];omega,λw c I j r a=>?_⟩;simp only[aw,ad0]at y;cases m with
       |true=>exact ao.cons (box s j (a (i,q) adT) y) (H w c I j r λp O=>a p (abJ _ O))
       |false=>exact ao.cons (box s j (r i adT) y) (H w c I j (λk M=>r k (abJ _ M)) a)
      ·cases h
     ·cases h
   |_=>cases h
  |_=>cases h
 | fn f=>
  cases v with
  | lf lf=>
   cases lf with
   |fn g=>
    simp only[tT]at h;cases s:Nat.beq f g
    ·grind
    ·rw[s]at h;simp only[abv,no,acW]at h;obtain⟨_,rfl,rfl,rfl⟩:=h;obtain rfl:=f9 s;exact⟨rfl,rfl,λ_ _ _ _ _ _=>ao.nil _ _⟩
   |_=>cases h
  |_=>cases h
 | clo f t=>
  cases v with
  | lf lf=>
   cases lf with
   | clo g bs=>
    rcases bs with _|⟨b,_|⟨b2,bs⟩⟩
    rotate_right
    ·simp[tT]at h
    ·simp[tT]at h
    simp only[tT]at h;cases B:Nat.beq f g
    ·grind
    ·rw[B]at h;obtain rfl:=f9 B;simp only[abv]at h;split at h
     ·rename_i i cs s;split at h
      ·rename_i x' Z J S hd;simp only[no,acW]at h;obtain⟨rfl,rfl,rfl,rfl⟩:=h;obtain⟨y,n1,H⟩:=TW (η:=η) t hd;simp only[aw,ad0]at y;refine⟨rfl,by simp only[PC.nh,aeH,n1];omega,λw c I j r a=>?_⟩;exact ao.cons (box s j (r i adT) y) (H w c I j (λk M=>r k (abJ _ M)) a)
      ·cases h
     ·cases h
   |_=>cases h
  |_=>cases h
 | prt t e=>
  cases v with
  | lf lf=>
   cases lf with
   | sl U=>
    simp only[tT]at h;split at h
    ·rename_i V sz lo hi O;split at h
     ·rename_i A;cases D:Nat.beq sz t.ty.sz
      ·grind
      ·rw[D]at h;simp only[abv,no,acW]at h;obtain⟨rfl,rfl,rfl,rfl⟩:=h;refine⟨rfl,rfl,λw c m j r a=>ao.cons (FN (eO A j) r (a _ adT)) (ao.cons ?_ (ao.nil _ _))⟩;have C:lm (η.h U) (η.h V) sz lo hi:=j _ (acG.2 ⟨_,gD O,rfl⟩);rw[f9 D]at C;exact C
     ·cases h
    ·split at h
     ·rename_i A;cases u:fk e
      ·rw[u]at h;simp only[ab7,no,acW]at h;obtain⟨rfl,rfl,rfl,rfl⟩:=h;refine⟨rfl,rfl,λw c m j r a=>ao.cons (FN (eO A j) r (a _ adT)) (ao.cons ?_ (ao.nil _ _))⟩;have z:=eO A j;rw[dK u]at z;exact ate z
      ·rw[u]at h;cases h
     ·cases h
   |_=>cases h
  |_=>cases h
 | rc f js=>
  cases v with
  | lf lf=>
   cases lf with
   | bp b off=>
    cases off with
    |succ _=>cases h
    |zero=>
     simp only[tT]at h;split at h
     ·simp only[no,acW]at h;obtain⟨_,rfl,rfl,rfl⟩:=h;exact⟨rfl,rfl,λ_ _ _ _ _ _=>ao.nil _ _⟩
     ·cases h
   |_=>cases h
  |_=>cases h
def wm(F:List AF):(ps:List PC)->List AV->Nat->Option (j7 ps×List Lf×List Nat×List (Nat×Nat))
 |[],[],_=>some ((),[],[],[])
 |[p],[v],q=>tT F p v q
 |p::d::r,v::vs,q=>match tT F p v q,wm F (d::r) vs (q+p.nc)with
  |some (x,l,K,μ),some (y,c,b,a)=>some ((x,y),l++c,K++b,μ++a)
  |_,_=>none
 |_,_,_=>none
theorem PC.val_left:(p:PC)->(x:p.den)->(a b:List Hd)->a.length=p.nh->p.val x (a++b)=p.val x a
 |.d t,x,a,b,h=>by simp only[PC.val];rw[dZ t a b h]
 |.own _ _,_,[],_,h=>by simp[PC.nh]at h
 |.own _ _,_,_::_,_,_=>rfl
 |.box _ _ _,_,[],_,h=>by simp[PC.nh]at h;omega
 |.box _ _ _,_,_::_,_,_=>rfl
 |.fn _,_,_,_,_=>rfl
 |.clo _ _,_,[],_,h=>by simp[PC.nh]at h;omega
 |.clo _ _,_,_::_,_,_=>rfl
 |.prt _ _,_,[],_,h=>by simp[PC.nh]at h
 |.prt _ _,_,[_],_,h=>by simp[PC.nh]at h
 |.prt _ _,_,_::_::_,_,_=>rfl
 |.rc _ _,_,[],_,h=>by simp[PC.nh]at h
 |.rc _ _,_,_::_,_,_=>rfl
theorem PC.facts_left:(p:PC)->(x:p.den)->(b c:List Hd)->(q:Nat)->b.length=p.nh->p.facts x (b++c) q=p.facts x b q
 |.d t,x,b,c,_,h=>by simp only[PC.facts];rw[dZ t b c h]
 |.own _ _,_,[],_,_,h=>by simp[PC.nh]at h
 |.own _ _,_,_::_,_,_,_=>rfl
 |.box _ _ _,_,[],_,_,h=>by simp[PC.nh]at h;omega
 |.box _ t _,_,a::b,c,_,h=>by grind[PC.nh,PC.facts,List.headD_cons,dZ]
 |.fn _,_,_,_,_,_=>rfl
 |.clo _ _,_,[],_,_,h=>by simp[PC.nh]at h;omega
 |.clo _ t,_,a::b,c,_,h=>by grind[PC.nh,PC.facts,List.headD_cons,dZ]
 |.prt _ _,_,[],_,_,h=>by simp[PC.nh]at h
 |.prt _ _,_,[_],_,_,h=>by simp[PC.nh]at h
 |.prt _ _,_,_::_::_,_,_,_=>rfl
 |.rc _ _,_,_,_,_,_=>rfl
theorem RE{F:List AF}{η:Vn}:∀{ps:List PC} {vs:List AV} {q:Nat} {x:j7 ps} {l:List Lf} {K:List Nat} {μ:List (Nat×Nat)},wm F ps vs q=some (x,l,K,μ) ->
  AV.vals η vs=mF ps x (aT η l)/\l.length=rU ps /\
  ∀(w:World) (c:aS) (m:Nat->Nat),ao w c (F.map (AF.ha η))->(∀k∈K,m k=1)->(∀p∈μ,m p.1=p.2)->ao w (λb=>m (c b)) (pe ps x (aT η l) q)
 |[],[],_,_,l,K,μ,h=>by simp only[wm,no,acW]at h;obtain⟨_,rfl,rfl,rfl⟩:=h;exact⟨rfl,rfl,λ_ _ _ _ _ _=>ao.nil _ _⟩
 |[p],[v],q,x,l,K,μ,h=>by obtain⟨u,d,g⟩:=Ul (η:=η) (p:=p) h;exact⟨by simp only[AV.vals,mF,u],by simp only[rU,d];omega,g⟩
 | p::O::r,v::vs,q,x,l,K,μ,h=>by
  simp only[wm]at h;split at h
  ·rename_i H e L I Q f K2 J ha D;simp only[no,acW]at h;obtain⟨rfl,rfl,rfl,rfl⟩:=h;obtain⟨u,d,g⟩:=Ul (η:=η) ha;obtain⟨M,t,C⟩:=RE (η:=η) D;have A:aT η (e++f)=aT η e++aT η f:=by simp[aT]
   have hl:(aT η e).length=p.nh:=by simp[aT,d]
   have B:(aT η (e++f)).drop p.nh=aT η f:=by grind
   refine⟨?_,by simp only[rU]at t|-;simp[d,t],λw c m y z a=>?_⟩
   ·grind[AV.vals,mF,PC.val_left]
   ·simp only[pe,B];rw[A,PC.facts_left p H _ _ _ hl];exact(g w c m y (λk j=>z k (ad2 _ j)) λp s=>a p (ad2 _ s)).append
     (C w c m y (λk j=>z k (adF _ j)) λp s=>a p (adF _ s))
  ·cases h
 |[],_::_,_,_,_,_,_,h=>by simp[wm]at h
 |[_],[],_,_,_,_,_,h=>by simp[wm]at h
 |[_],_::_::_,_,_,_,_,_,h=>by simp[wm]at h
 |_::_::_,[],_,_,_,_,_,h=>by simp[wm]at h
def zm(E:SE):List Operand->Option (List AV)
 |[]=>some []
 |x::r=>match ev E x,zm E r with
  |some v,some vs=>some (v::vs)
  |_,_=>none
theorem Fw{E:SE}{c:Vn}{ρ:dm}(b:mH c ρ E):∀{xs:List Operand} {vs:List AV},zm E xs=some vs->xs.map (aL ρ)=AV.vals c vs
 |[],vs,h=>by simp only[zm,no]at h;subst h;rfl
 |x::r,vs,h=>by
  simp only[zm]at h;split at h
  ·rename_i v e d a;simp only[no]at h;subst h;simp only[aev,AV.vals,aK b d,Fw b a]
  ·cases h
abbrev ahr:(ts:List TC)->eJ ts
 |[]=>()
 |[t]=>t.dft
 |t::a::r=>(t.dft,ahr (a::r))
section
variable {R:Type} {P:Program} {o:Oper} {E:SE} {F:List AF} {n:Nat} {Θ:Tb} {ex:Option Bool}
def rF:AV->Option (FuncId×List AV)
 |.lf (.fn f)=>some (f,[])
 |.lf (.clo f bs)=>some (f,bs.map λb=>.lf (.bp b 0))
 |.lf (.c .fnc f)=>some (f,[])
 |_=>none
def awo(Ka:List Nat)(μ:List (Nat×Nat)):Bool:=Ka.all (λk=>Nat.beq (mu μ Ka k) 1)&&μ.all (λp=>Nat.beq (mu μ Ka p.1) p.2)&&μ.all (λp=>Nat.ble 2 p.2)&&μ.all (λp=>Nat.ble 2 p.1)
def bnm(l:List Lf)(k:Nat):Option ObA:=bif Nat.blt k 64 then(match l[k]? with
 |some (.bp b _)=>some (.b b)
 |_=>none)else match l[k%64]? with
 |some (.sl h)=>some (.r h (k / 64-1))
 |_=>none
def R5(l:List Lf):List Nat->Option (List ObA)
 |[]=>some []
 |k::r=>match bnm l k,R5 l r with
  |some b,some bs=>some (b::bs)
  |_,_=>none
theorem TP{η:Vn}{l:List Lf}:∀{bl:List Nat} {bs:List ObA},R5 l bl=some bs->yP (aT η l) bl=bs.map (ObA.v η)
 |[],bs,h=>by simp only[R5,no]at h;subst h;rfl
 | k::r,bs,h=>by
  simp only[R5]at h;split at h
  ·rename_i b g a j;simp only[no]at h;subst h;have e:=TP (η:=η) j;simp only[yP,aev,ah6]at e|-;refine⟨?_,e⟩;unfold bnm at a;unfold obH;cases c:Nat.blt k 64
   ·rw[c]at a;simp only[ab7]at a|-;split at a
    ·rename_i h' d;simp only[no]at a;subst a;have:(aT η l)[k%64]?=some ((Lf.sl h').hd η):=by rw[aT,afX,d];rfl
     rw[aee,this];rfl
    ·cases a
   ·rw[c]at a;simp only[abv]at a|-;split at a
    ·rename_i f off d;simp only[no]at a;subst a;have:(aT η l)[k]?=some ((Lf.bp f off).hd η):=by rw[aT,afX,d];rfl
     rw[aee,this];rfl
    ·cases a
  ·cases h
theorem R4{c:aS}(hq:μ.all (λp=>Nat.ble 2 p.1)=true)(h:ao w c fH):ao w (λb=>mu μ Ka (c b)) fH:=by
 intro A a;have d:=h A a;rcases aef.1 a with a|a;rotate_left
 ·exact Yc.exm A a w c _ d λb j=>by rw[j];exact TQ hq
 obtain⟨e,_,rfl⟩:=acG.1 a;obtain⟨f,k,g⟩:=d;have m:c e.g∉μ.map (·.1):=by intro l;obtain⟨p,q,r⟩:=acG.1 l;have:=abM (acr.1 hq p q);omega
 exact⟨f,(zT (Ka:=Ka) m).1,g⟩
theorem Il{a:Vn}:∀{bs:List Nat},AV.vals a (bs.map λb=>AV.lf (.bp b 0))=bs.map λb=>Value.pointer (some ⟨a.b b,0,none⟩)
 |[]=>rfl
 |b::r=>by simp only[aev,AV.vals,AV.val,Lf.val,Il]
def Wy(F:List AF)(l:List Lf)(g:Nat->Nat):List AF->Bool
 |[]=>true
 | .box q n [.clo f js]::r=>(match l[n]? with
  | some (.bp b _)=>(match i6 b F with
   |some (i,[.clo c bs])=>Nat.beq (g i) q&&Nat.beq f c&&Nat.beq js.length bs.length&&(js.zip bs).all λp=>match l[p.1]? with
    |some (.bp a _)=>Nat.beq a p.2
    |_=>false
   |_=>false)
  |_=>false)&&Wy F l g r
 |_=>false
theorem arE{F:List AF}{l:List Lf}{g:Nat->Nat}{d:Vn}{c:aS}(y:ao w c (F.map (AF.ha d))):∀{fs:List AF},Wy F l g fs=true->ao w (λb=>g (c b)) (fs.map (AF.ha (ηL (aT d l)))):=by
 intro fs h;have nm:∀{n b off:Nat},l[n]?=some (.bp b off)->((aT d l).getD n eu).blk=d.b b:=λh=>by rw[aee,aT,afX,h];rfl
 have eq:∀js bs:List Nat,js.length=bs.length->((js.zip bs).all λp=>match l[p.1]? with
    |some (.bp q _)=>Nat.beq q p.2
    |_=>false)=true->js.map (λj=>Value.pointer (some ⟨((aT d l).getD j eu).blk,0,none⟩))=bs.map λb=>.pointer (some ⟨d.b b,0,none⟩):=by
  intro js;induction js with
  |nil=>intro bs k _;cases bs<;>simp_all
  | cons j js m=>
   intro bs k a;cases bs with
   |nil=>simp at k
   |cons q bs=>
    simp only[List.zip_cons_cons,afR,abF]at a;simp only[aev];rw[m bs (by simpa using k) a.2];replace a:=a.1;split at a
    ·rename_i A;rw[nm A,f9 a]
    ·cases a
 induction fs with
 |nil=>exact ao.nil _ _
 | cons f r C=>
  unfold Wy at h;split at h
  ·simp_all
  ·rename_i n f js r' z;obtain⟨rfl,rfl⟩:=List.cons.inj z;simp only[abF]at h;refine ao.cons ?_ (C h.2);replace h:=h.1;split at h
   ·rename_i b _ s;split at h
    ·rename_i i D bs B;simp only[abF]at h;obtain⟨⟨⟨v,x⟩,k⟩,a⟩:=h;obtain⟨t,u⟩:=sn B y;obtain rfl:=f9 x;have e:=eq js bs (f9 k) a;refine⟨?_,?_⟩
     ·simp only[ηL,nm s,aw,Lf.cells,e];exact t
     ·simp only[ηL,nm s];rw[u];exact f9 v
    ·cases h
   ·cases h
  ·cases h
def YP(C:Sig)(a:j7 C.ps->Option (eJ C.rs))(vs:List AV)(ex:Option Bool)(n N:Nat)(F:List AF)(k:Out->Option R)(alt:Option R):Option R:=match wm F C.ps vs 2 with
 |some (x,l,Ka,μ)=>match R5 l C.bl with
  |some bs=>bif Nat.ble 2 N&&Nat.ble (iC C.rs) 64&&awo Ka μ&&bs.all (ObA.free n)&&Wy F l (mu μ Ka) (Ia C.ps 0)then gbind ex (ahr C.rs) (a x) λr=>k ⟨Ao C.nr C.rs r n,(mO C.rs r C.ms 0).map (AF.inst n N Ka)++SU C.rs r n C.nr bs (N+128),μ.map (·.1)⟩else none
  |none=>none
 |none=>alt
theorem Uj{C:Sig}{f:FuncId}{fx:j7 C.ps->Option (eJ C.rs)}(hC:∀x r,fx x=some r->TA P f C x r){x0:Operand}{v0:AV}{vs cap:List AV}(ho:o.op=.call { callee:=.value x0,args:=xs,argTypes:=ts})
  (h0:ev E x0=some v0) (d:rF v0=some (f,cap)) (W:zm E xs.toList=some vs) (k:Out->Option R) {alt:Option R} (halt:aq ex P o E F n alt k) :
  aq ex P o E F n (YP C fx (vs++cap) ex n N F k alt) k:=by
 unfold YP;split
 ·rename_i x l Ka μ hd;split
  ·rename_i bs Q;refine aq.bif λhc=>aq.gbind λr hr=>aq.ofG λhx η ρ hE=>?_
   simp only[abF,awo]at hc;obtain⟨⟨⟨⟨hN,D⟩,⟨⟨L,Z⟩,hq⟩,V⟩,z⟩,K⟩:=hc;obtain⟨⟨fn,cd,hf,M,U⟩,hs⟩:=hC x r (hr hx);obtain⟨d1,d2,d3⟩:=RE (η:=η) hd;have D:=abM D;have J:∀(a b:List AV),AV.vals η (a++b)=AV.vals η a++AV.vals η b:=by
    intro a b;induction a with
    |nil=>rfl
    |cons v r ih=>simp only[afO,AV.vals,ih]
   have t:xs.toList.map (aL ρ)++AV.vals η cap=mF C.ps x (aT η l):=by rw[Fw hE W,<-J,d1]
   have S:aL ρ x0=.func (.func f) #[] (AV.vals η cap).toArray:=by rw[aK hE h0];unfold rF at d;split at d;all_goals first|(simp only[no,acW]at d;rw[<-d.1,<-d.2];simp only[AV.val,Lf.val,Il];done)|(simp only[no,acW]at d;rw[<-d.1,<-d.2];rfl)|cases d
   let g : { y:List Hd//y.length=iC C.rs}->Vn:=λy=>⟨λm=>bif Nat.ble n m&&Nat.blt m (n+64)then(ηL y.1).h (m-n)else η.h m,η.b⟩
   have hat:∀(y : { y:List Hd//y.length=iC C.rs}) (j:Nat),j<64->(g y).h (n+j)=(ηL y.1).h j:=by
    intro y j T;have:(Nat.ble n (n+j)&&Nat.blt (n+j) (n+64))=true:=by simp_all
    grind
   have q:∀y : { y:List Hd//y.length=iC C.rs},iS (g y) n y.1:=by intro y j h hj;grind[ηL]
   have s:∀y : { y:List Hd//y.length=iC C.rs},η.agr n (g y):=by
    intro y m B;refine⟨?_,rfl⟩;have:(Nat.ble n m&&Nat.blt m (n+64))=false:=by
     cases u:(Nat.ble n m&&Nat.blt m (n+64))
     ·rfl
     ·simp only[abF]at u;have h1:=abM u.1;have h2:m+1<=n+64:=abM u.2;simp only[out,afz]at B;rcases B with B|B
      ·have:m+1<=n:=abM B;omega
      ·have:=abM B;omega
    grind
   refine(afI (Y:={ y:List Hd//y.length=iC C.rs}) (val:=λy=>yV C.nr C.rs r y.1) (fcts:=λy=>(mO C.rs r C.ms 0).map (AF.ha (ηL y.1))++nE C.rs r y.1 C.nr (yP (aT η l) C.bl) 130)
    (Φ:=λy=>((mO C.rs r C.ms 0).map (AF.inst n N Ka)++SU C.rs r n C.nr bs (N+128)).map (AF.ha (g y)))
    (λw c0 I=>hs (aT η l) (by simp[aT,d2]) w c0 I) ho S t hf M U Ka μ hq
    (λw c I=>(arE (λA H=>I A (ad2 _ H)) K).append <| (d3 w c (mu μ Ka) (λA H=>I A (ad2 _ H)) (λkk hk=>f9 (acr.1 L kk hk)) λp hp=>f9 (acr.1 Z p hp)).append
     (R4 V λA H=>I A (adF _ H))) ?_ ?_ hN).map
    (λy=>⟨g y,?_⟩) (λy=>?_) λy=>rfl
   ·grind[List.all_eq_true,S4,zi]
   ·intro y;simp only[afo];congr 1
    ·rw[ag1,ag1];refine afA λf hf=>?_;refine inst_ha f ?_ (zi (η:=η) _ _ _ _ f hf).2;have T:=Vc _ _ _ _ f hf;grind
    ·rw[abT,atc C.rs r y.1 n C.nr bs (N+128) (q y) (by grind),TP (η:=η) Q];congr 1;refine afA λb M=>?_;have O:=acr.1 z b M;cases b with
     |b _=>rfl
     |r hh e=>simp only[ObA.v,(s y hh O).1]
   ·exact s y
   grind[Jj]
  ·exact aq.none
 ·exact halt
def L5(f:FuncId)(vs:List AV)(ex:Option Bool)(n N:Nat)(F:List AF)(k:Out->Option R):List Ctr->Option R
 |[]=>none
 |C::r=>YP C.toSig C.fn vs ex n N F k (L5 f vs ex n N F k r)
def agU(f:Nat)(vs:List AV)(ex:Option Bool)(n N:Nat)(F:List AF)(k:Out->Option R):List DCtr->Option R
 |[]=>none
 |C::r=>YP C.toSig (C.fn f) vs ex n N F k (agU f vs ex n N F k r)
def G3(Γ:Ct)(D:List DCtr)(E:SE)(ex:Option Bool)(n N:Nat)(v0:AV)(xs:List Operand)(F:List AF)(k:Out->Option R):Option R:=match zm E xs with
 |some vs=>match v0 with
  |.lf (.fn f)=>L5 f (vs++[]) ex n N F k (Γ f)
  |.lf (.clo f bs)=>L5 f (vs++bs.map λb=>.lf (.bp b 0)) ex n N F k (Γ f)
  |.lf (.c .fnc f)=>agU f (vs++[]) ex n N F k D
  |_=>none
 |none=>none
theorem EN{Γ:Ct}(b:Γ.ok P){D:List DCtr}(p:∀C∈D,DCtr.sound P C){v0:AV}{m:Operand}(j:o.op=.call { callee:=.value m,args:=xs,argTypes:=ts})(h:ev E m=some v0)(k:Out->Option R) :
  aq ex P o E F n (G3 Γ D E ex n N v0 xs.toList F k) k:=by
 have all:∀{f:FuncId} {vs cap:List AV} {l:List Ctr},rF v0=some (f,cap)->zm E xs.toList=some vs->(∀C∈l,Ctr.sound P f C)->aq ex P o E F n (L5 f (vs++cap) ex n N F k l) k:=by
  intro f vs cap l e a hl;induction l with
  |nil=>exact aq.none
  |cons C r g=>exact Uj (hl C adT) j h e a k (g λC d=>hl C (abJ _ d))
 have c:∀{f:FuncId} {vs cap:List AV} {l:List DCtr},rF v0=some (f,cap)->zm E xs.toList=some vs->(∀C∈l,DCtr.sound P C)->aq ex P o E F n (agU f (vs++cap) ex n N F k l) k:=by
  intro f vs cap l e a hl;induction l with
  |nil=>exact aq.none
  |cons C r g=>exact Uj (hl C adT f) j h e a k (g λC d=>hl C (abJ _ d))
 unfold G3;split
 ·rename_i vs a;split
  ·exact all rfl a (b _)
  ·exact all rfl a (b _)
  ·exact c rfl a p
  ·exact aq.none
 ·exact aq.none
end
end
end Go.Sm
