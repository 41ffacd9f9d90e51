/- Laws for the row. No condition. -/
import Derived.Test.YtgghcmbaidihjaaGreatDoorRfP
namespace Go.Sm
set_option linter.unusedSectionVars false
section
variable [X:XTab] [G:GTab] [Yc:GCx]
def N9:(p:PC)->p.den->Nat->AV
 |.d t,x,n=>pC t x n
 |.own _ _,_,n=>.lf (.sl n)
 |.box _ _ _,_,n=>.lf (.bp n 0)
 |.fn f,_,_=>.lf (.fn f)
 |.clo f _,_,n=>.lf (.clo f [n])
 |.prt _ _,_,n=>.lf (.sl (n+1))
def OB:(ps:List PC)->ja ps->Nat->List AV
 |[],_,_=>[]
 |[p],x,n=>[N9 p x n]
 |p::p'::r,x,n=>N9 p x.1 n::OB (p'::r) x.2 (n+p.nh)
def uX:(t:TC)->t.den->List (Option TypeId)->Nat->Nat->List AF
 |.pair a b,x,os,q,n=>uX a x.1 os q n++uX b x.2 (os.drop a.nh) (q+a.nh) (n+a.nh)
 |.slice t,xs,os,q,n=>match os with
  |some e::_=>[.own t e q [1] xs n]
  |_=>[.rep t [1] xs n]
 |.st a,x,os,q,n=>uX a x os q n
 |.sc _,_,_,_,_=>[]
 |.arr _ _,_,_,_,_=>[]
 |.unit,_,_,_,_=>[]
 |.ext _,_,_,_,_=>[]
 |.node,x,_,_,n=>[.rep .node [1] x.tup.2.2.2 n]
 |.mp k v,xs,os,q,n=>match os with
  |some _::_=>[.mp k v q xs n]
  |_=>[]
def CP:(p:PC)->p.den->Nat->Nat->List AF
 |.d t,x,_,n=>tB t x [1] n
 |.own t e,xs,q,n=>[.own t e q [1] xs n]
 |.box m t os,x,q,n=>.box (bif m then q else 1) n (iG t x (n+1))::uX t x (bif m then os else []) (q+1) (n+1)
 |.fn _,_,_,_=>[]
 |.clo _ t,x,q,n=>.box 1 n (iG t x (n+1))::uX t x [] (q+1) (n+1)
 |.prt t e,x,q,n=>[.own t e q [1] x.1 n,.prt (n+1) n t.ty.sz x.2.1 x.2.2]
def Ez:(ps:List PC)->ja ps->Nat->Nat->List AF
 |[],_,_,_=>[]
 |[p],x,q,n=>CP p x q n
 |p::p'::r,x,q,n=>CP p x.1 q n++Ez (p'::r) x.2 (q+p.nc) (n+p.nh)
def wz:List AV->Nat->SE
 |[],_=>[]
 |v::r,i=>(i,v)::wz r (i+1)
def acQ(xf:List AF)(ps:List PC)(x:ja ps):SS:=⟨wz (OB ps x 0) 0,Ez ps x 2 0++xf,64,256,[]⟩
def sR(Θ:Tb)(E:SE)(F:List AF):List ResultVar->Option (List AV)
 |[]=>some []
 |.tmp t::r=>match bN E t,sR Θ E F r with
  |some v,some vs=>some (v::vs)
  |_,_=>none
 | .cell x t::r=>match bN E x,Θ t,sR Θ E F r with
  | some (.lf (.bp b 0)),some i,some vs=>match iw b F with
   | some (_,cs)=>match j6 cs i.sz with
    |some (_,[])=>match Gx i.d.agg cs with
     |some v=>some (v::vs)
     |none=>none
    |_=>none
   |none=>none
  |_,_,_=>none
def nL(F:List AF):List RM->List Lf->Nat->List (Nat×Nat)
 |m::ms,.sl h::ls,j=>(match m.own with
  |some _=>Bx F (.sl h) |>.map λi=>(i,2+2*j)
  |none=>[])++nL F ms ls (j+1)
 |m::ms,.mp h::ls,j=>(match m.own with
  |some _=>Bx F (.mp h) |>.map λi=>(i,2+2*j)
  |none=>[])++nL F ms ls (j+1)
 |_::ms,_::ls,j=>nL F ms ls (j+1)
 |_,_,_=>[]
def pR(F:List AF):List RM->List Lf->Nat->List (Nat×Nat)
 |_::ms,.sl h::ls,j=>(DV F (.sl h)).map (λk=>(k,129))++pR F ms ls (j+1)
 |_::ms,_::ls,j=>pR F ms ls (j+1)
 |_,_,_=>[]
def ai9(g:Nat->Nat)(F:List AF)(t:TC)(m:RM)(l:Lf)(j:Nat):Bool:=match m.own,l with
 |_,.nl=>true
 |some e,.sl h=>bif Nat.ble 4194304 e && !(eM e)then true else match fy t e 0 F (.sl h)with
  |some (i,K,_)=>Nat.beq (g i) (2+2*j)&&(t.ty.pureB||eM e||sub (K.map g) (m.K 129))
  |none=>false
 |none,.sl h=>match gH t F (.sl h)with
  |some s=>sub (s.all.map g) (m.K 129)
  |none=>false
 |_,_=>false
def vA(g:Nat->Nat)(F:List AF):TC->List RM->List Lf->Nat->Bool
 |.pair a b,ms,ls,j=>vA g F a ms ls j&&vA g F b (ms.drop a.nh) (ls.drop a.nh) (j+a.nh)
 |.slice t,m::_,l::_,j=>ai9 g F t m l j
 |.slice _,_,_,_=>false
 |.st a,ms,ls,j=>vA g F a ms ls j
 | .mp k v,m::_,.mp h::_,j=>match m.own with
  |some _=>(match uP k v h F with
   |some s=>Nat.beq (g s.i) (2+2*j)
   |none=>false)
  |none=>true
 |.mp _ _,m::_,_,_=>m.own.isNone
 |_,_,_,_=>true
def tT(g:Nat->Nat)(F:List AF):List TC->List RM->List Lf->Nat->Bool
 |[],_,_,_=>true
 |t::r,ms,ls,j=>vA g F t ms ls j&&tT g F r (ms.drop t.nh) (ls.drop t.nh) (j+t.nh)
def pn(h:Nat)(e:TypeId):List AF->Option Nat
 |[]=>none
 |.own _ e' i _ _ h'::r=>bif Nat.beq h h' then(bif Nat.beq e e' then some i else none)else pn h e r
 |.rep _ _ _ h'::r=>bif Nat.beq h h' then none else pn h e r
 |.box _ _ _::r=>pn h e r
 |.isn _ _::r=>pn h e r
 |.ag _::r=>pn h e r
 |.prt _ _ _ _ _::r=>pn h e r
 |.pbx _ _ _ _ _::r=>pn h e r
 |.hol _ _ _ _ _ _ _::r=>pn h e r
 |.mp _ _ _ _ _::r=>pn h e r
 |.pt _ _ _ _ _ _ _::r=>pn h e r
def Rb(k:Nat):ObA:=bif Nat.blt k 64 then .b k else .r (k%64) (k / 64-1)
def I0(F:List AF)(k:Nat):Option (Nat×List Lf):=bif Nat.blt k 64 then iw k F else match pn (k%64) (k / 64-1) F with
 |some i=>some (i,[.sl (k%64)])
 |none=>none
def vu(F:List AF):List Nat->Option (List (Nat×List Lf))
 |[]=>some []
 |b::r=>match I0 F b,vu F r with
  |some (i,cs),some vs=>some ((i,cs)::vs)
  |_,_=>none
theorem jC{t:TC}{h:Nat}{e:TypeId}:∀{F:List AF} {i:Nat} {s:SI t},pn h e F=some i->jQ t h F=some s->s.own=some (e,i)
 |[],_,_,h1,_=>by simp[pn]at h1
 | .own t' e' i' K xs h'::r,i,s,h1,h2=>by
  simp only[pn]at h1;simp only[jQ]at h2;cases hb:Nat.beq h h'
  ·rw[hb]at h1 h2;exact jC h1 h2
  ·rw[hb]at h1 h2;simp only[Ze]at h1 h2;cases he:Nat.beq e e'
   ·grind
   ·rw[he]at h1;simp only[Ze,no]at h1;split at h2
    ·simp only[no]at h2;subst h2;simp_all
    ·cases h2
 |.rep _ _ _ h'::r,i,s,h1,h2=>by
  simp only[pn]at h1;simp only[jQ]at h2;cases hb:Nat.beq h h'
  ·rw[hb]at h1 h2;exact jC h1 h2
  grind
 |.box _ _ _::r,_,_,h1,h2=>jC (F:=r) h1 h2
 |.isn _ _::r,_,_,h1,h2=>jC (F:=r) h1 h2
 |.ag _::r,_,_,h1,h2=>jC (F:=r) h1 h2
 |.prt _ _ _ _ _::r,_,_,h1,h2=>jC (F:=r) h1 h2
 |.pbx _ _ _ _ _::r,_,_,h1,h2=>jC (F:=r) h1 h2
 |.hol _ _ _ _ _ _ _::r,_,_,h1,h2=>jC (F:=r) h1 h2
 |.mp _ _ _ _ _::r,_,_,h1,h2=>jC (F:=r) h1 h2
 |.pt _ _ _ _ _ _ _::r,_,_,h1,h2=>jC (F:=r) h1 h2
def wX(F:List AF):(ts:List TC)->List (List Lf)->Option (d8 ts×List Lf)
 |[],[]=>some ((),[])
 |[t],[cs]=>match bR F t cs with
  |some (x,l,_,[])=>some (x,l)
  |_=>none
 |t::t'::r,cs::vs=>match bR F t cs,wX F (t'::r) vs with
  |some (x,l,_,[]),some (y,l')=>some ((x,y),l++l')
  |_,_=>none
 |_,_=>none
def wS(F:List AF):(ts:List TC)->List AV->List (List Lf)->Option (d8 ts×List Lf)
 |ts,[],bs=>wX F ts bs
 |[t],[v],[]=>match oX F t v with
  |some (x,l,_)=>some (x,l)
  |none=>none
 |t::t'::r,v::vs,bs=>match oX F t v,wS F (t'::r) vs bs with
  |some (x,l,_),some (y,l')=>some ((x,y),l++l')
  |_,_=>none
 |_,_,_=>none
def fC:List Nat->Nat->List (Nat×Nat)
 |[],_=>[]
 |i::r,c=>(i,c)::fC r (c+1)
def yD(Θ:Tb)(fn:Func)(C:Sig)(S:SS):Option (d8 C.rs):=match sR Θ S.E S.F fn.results.toList,vu S.F C.bl with
 | some vs,some bs=>match wS S.F C.rs vs (bs.map (·.2))with
  |some (x,l)=>
   let cm:=(fC (bs.map (·.1)) 130++(nL S.F C.ms l 0++pR S.F C.ms l 0)).filter λp=>Nat.ble 2 p.1
   bif tT (pJ cm 2) S.F C.rs C.ms l 0&&Nat.beq C.ms.length l.length&&Nat.beq vs.length C.nr&&(fC (bs.map (·.1)) 130).all (λp=>Nat.beq (pJ cm 2 p.1) p.2)then some x else none
  |none=>none
 |_,_=>none
section
variable {P:Program}
theorem BB{K:List Nat}{η:Vn}:∀(t:TC) (x:t.den) (l:List Hd) (n:Nat),gU η n l->t.nh<=l.length->(tB t x K n).map (AF.ha η)=facts t.ty K x (aM t l)
 |.sc _,_,_,_,_,_=>rfl
 |.arr _ _,_,_,_,_,_=>rfl
 |.unit,_,_,_,_,_=>rfl
 |.pair a b,x,l,n,h,hl=>by simp only[TC.nh]at hl;simp only[tB,abz,facts,aM];rw[BB a x.1 l n h (by omega),BB b x.2 (l.drop a.nh) (n+a.nh) (λj hh hj=>by rw[aci]at hj;have:=h _ hh hj;grind) (by simp;omega)]
 | .slice _,x,l,n,h,hl=>by
  simp only[TC.nh]at hl;cases l with
  |nil=>simp at hl
  |cons hd r=>
   have:=h 0 hd rfl;grind[tB,AF.ha,facts,aM]
 |.st a,x,l,n,h,hl=>BB a x l n h hl
 |.ext _,_,_,_,_,_=>rfl
 | .node,x,l,n,h,hl=>by
  simp only[TC.nh]at hl;cases l with
  |nil=>simp at hl
  |cons hd r=>
   have:=h 0 hd rfl;grind[tB,AF.ha,facts,aM]
 |.mp _ _,_,_,_,_,_=>rfl
theorem xp{η:Vn}:∀(t:TC) (x:t.den) (os:List (Option TypeId)) (q:Nat) (l:List Hd) (n:Nat),gU η n l->t.nh<=l.length->(uX t x os q n).map (AF.ha η)=ir t x (aM t l) os q
 |.sc _,_,_,_,_,_,_,_=>rfl
 |.arr _ _,_,_,_,_,_,_,_=>rfl
 |.unit,_,_,_,_,_,_,_=>rfl
 |.pair a b,x,os,q,l,n,h,hl=>by simp only[TC.nh]at hl;simp only[uX,abz,ir,aM];rw[xp a x.1 os q l n h (by omega),xp b x.2 (os.drop a.nh) (q+a.nh) (l.drop a.nh) (n+a.nh) (λj hh hj=>by rw[aci]at hj;have:=h _ hh hj;grind) (by simp;omega)]
 | .slice _,x,os,q,l,n,h,hl=>by
  simp only[TC.nh]at hl;cases l with
  |nil=>simp at hl
  |cons hd r=>
   have:=h 0 hd rfl;simp only[abj]at this;cases os with
   |nil=>simp[uX,AF.ha,ir,aM,this]
   |cons o os=>cases o<;>simp[uX,AF.ha,ir,aM,this]
 |.st a,x,os,q,l,n,h,hl=>xp a x os q l n h hl
 |.ext _,_,_,_,_,_,_,_=>rfl
 | .node,x,os,q,l,n,h,hl=>by
  simp only[TC.nh]at hl;cases l with
  |nil=>simp at hl
  |cons hd r=>
   have:=h 0 hd rfl;grind[uX,AF.ha,ir,aM]
 | .mp _ _,x,os,q,l,n,h,hl=>by
  simp only[TC.nh]at hl;cases l with
  |nil=>simp at hl
  |cons hd r=>
   have:=h 0 hd rfl;simp only[abj]at this;cases os with
   |nil=>rfl
   |cons o os=>cases o<;>simp[uX,AF.ha,ir,aM,this]
theorem Qi{η:Vn}:∀(p:PC) (x:p.den) (l:List Hd) (n:Nat),gU η n l->(∀j h,l[j]?=some h->η.b (n+j)=h.blk)->p.nh<=l.length->(N9 p x n).val η=p.val x l
 |.d t,x,l,n,h,_,hl=>zi t x l n h hl
 |.own _ _,_,[],_,_,_,hl=>by simp[PC.nh]at hl
 |.own _ _,_,hd::r,n,h,_,_=>by have:=h 0 hd rfl;grind[N9,PC.val,AV.val,Lf.val]
 |.box _ _ _,_,[],_,_,_,hl=>by simp[PC.nh]at hl
 |.box _ _ _,_,hd::r,n,_,hb,_=>by have:=hb 0 hd rfl;grind[N9,PC.val,AV.val,Lf.val]
 |.fn _,_,_,_,_,_,_=>rfl
 |.clo _ _,_,[],_,_,_,hl=>by simp[PC.nh]at hl
 |.clo _ _,_,hd::r,n,_,hb,_=>by have:=hb 0 hd rfl;grind[N9,PC.val,AV.val,Lf.val]
 |.prt _ _,_,[],_,_,_,hl=>by simp[PC.nh]at hl
 |.prt _ _,_,[_],_,_,_,hl=>by simp[PC.nh]at hl
 |.prt _ _,_,_::hd::r,n,h,_,_=>by have:=h 1 hd rfl;simp[N9,PC.val,AV.val,Lf.val,this]
theorem gU.tail{η:Vn}{n k:Nat}{l:List Hd}(h:gU η n l):gU η (n+k) (l.drop k):=λj hh hj=>by rw[aci]at hj;have:=h _ hh hj;grind
theorem PU{η:Vn}:∀(p:PC) (x:p.den) (q:Nat) (l:List Hd) (n:Nat),gU η n l->(∀j h,l[j]?=some h->η.b (n+j)=h.blk)->p.nh<=l.length->(CP p x q n).map (AF.ha η)=p.facts x l q
 |.d t,x,q,l,n,h,_,hl=>BB t x l n h hl
 |.own _ _,_,_,[],_,_,_,hl=>by simp[PC.nh]at hl
 |.own _ _,_,_,hd::r,n,h,_,_=>by have:=h 0 hd rfl;grind[CP,PC.facts,AF.ha]
 |.box _ _ _,_,_,[],_,_,_,hl=>by simp[PC.nh]at hl
 |.box m t os,x,q,hd::r,n,h,hb,hl=>by
  have:=hb 0 hd rfl;simp only[abj]at this;have hr:gU η (n+1) r:=h.tail (k:=1);have hlr:t.nh<=r.length:=by simp[PC.nh]at hl;omega
  simp only[CP,PC.facts,aas,AF.ha,this,akZ,ajK,adq,im t x r (n+1) hr hlr,xp t x _ _ r (n+1) hr hlr]
 |.fn _,_,_,_,_,_,_,_=>rfl
 |.clo _ _,_,_,[],_,_,_,hl=>by simp[PC.nh]at hl
 |.clo _ t,x,q,hd::r,n,h,hb,hl=>by
  have:=hb 0 hd rfl;simp only[abj]at this;have hr:gU η (n+1) r:=h.tail (k:=1);have hlr:t.nh<=r.length:=by simp[PC.nh]at hl;omega
  simp only[CP,PC.facts,aas,AF.ha,this,akZ,ajK,adq,im t x r (n+1) hr hlr,xp t x _ _ r (n+1) hr hlr]
 |.prt _ _,_,_,[],_,_,_,hl=>by simp[PC.nh]at hl
 |.prt _ _,_,_,[_],_,_,_,hl=>by simp[PC.nh]at hl
 |.prt _ _,_,_,h0::h1::r,n,h,_,_=>by have e0:=h 0 h0 rfl;have e1:=h 1 h1 rfl;grind[CP,PC.facts,AF.ha]
theorem Pj{η:Vn}:∀(ps:List PC) (x:ja ps) (q:Nat) (l:List Hd) (n:Nat),gU η n l->(∀j h,l[j]?=some h->η.b (n+j)=h.blk)->qE ps<=l.length ->
  AV.vals η (OB ps x n)=kX ps x l/\(Ez ps x q n).map (AF.ha η)=nA ps x l q
 |[],_,_,_,_,_,_,_=>⟨rfl,rfl⟩
 |[p],x,q,l,n,h,hb,hl=>by simp only[qE,abj]at hl;exact⟨by simp only[OB,AV.vals,kX,Qi p x l n h hb hl],PU p x q l n h hb hl⟩
 |p::p'::r,x,q,l,n,h,hb,hl=>by have e:qE (p::p'::r)=p.nh+qE (p'::r):=rfl;obtain⟨h1,h2⟩:=Pj (p'::r) x.2 (q+p.nc) (l.drop p.nh) (n+p.nh) h.tail (λj hh hj=>by grind) (by grind);grind[OB,AV.vals,kX,Ez,nA,Qi,PU]
theorem AN{η:Vn}:∀{vs:List AV} {i t:Nat} {v:AV},bN (wz vs i) t=some v->∃j,t=i+j/\(AV.vals η vs)[j]?=some (v.val η)
 |[],_,_,_,h=>by simp[wz,bN]at h
 |u::r,i,t,v,h=>by
  simp only[wz,bN]at h;cases hb:Nat.beq t i
  ·rw[hb]at h;obtain⟨j,h1,h2⟩:=AN (η:=η) h;exact⟨j+1,by omega,by simpa[AV.vals]using h2⟩
  ·rw[hb]at h;simp only[Ze,no]at h;subst h;exact⟨0,by simp_all,by simp[AV.vals]⟩
theorem BE{Θ:Tb}(hΘ:Θ.ok P){η:Vn}{ρ:cV}{E:SE}{F:List AF}(hE:kU η ρ E):∀{l:List ResultVar} {vs:List AV},sR Θ E F l=some vs->Vr P ρ (F.map (AF.ha η)) l (AV.vals η vs)
 |[],vs,h=>by simp only[sR,no]at h;subst h;exact trivial
 |.tmp t::r,vs,h=>by
  simp only[sR]at h;split at h
  ·rename_i v vs' h1 h2;simp only[no]at h;subst h;exact⟨amT (hE t v h1),BE hΘ hE h2⟩
  ·cases h
 | .cell x t::r,vs,h=>by
  simp only[sR]at h;split at h
  ·rename_i b i vs' h1 hi h2;split at h
   ·rename_i ci cs hb;split at h
    ·rename_i q hc;split at h
     ·rename_i v hv;simp only[no]at h;subst h;refine⟨?_,BE hΘ hE h2⟩;obtain⟨g1,g2,_,_⟩:=hΘ t i hi;obtain⟨td,ht,hd⟩:=l9 g2;obtain⟨k,hk⟩:=lh (d6 hb) η;obtain⟨e2,l3⟩:=g9 hc;rw[Z2]at e2;subst e2;have hxv:ρ x=.pointer (some ⟨η.b b,0,none⟩):=hE x _ h1;cases hag:i.d.agg
      ·rw[hag]at hv hd;obtain⟨l,rfl,rfl,hl1⟩:=BP hv η;refine adl k hk ht hd hxv ?_;simp[au,hl1]
      ·rw[hag]at hv hd;rw[Bo hv η];exact ZM k hk ht hd g1 hxv (by simp[l3 η])
     ·cases h
    ·cases h
   ·cases h
  ·cases h
theorem rB{g:Nat->Nat}(hg:Gd g){F:List AF}{η:Vn}{w:World}{c:aS}(hF:aj w c (F.map (AF.ha η))):∀{t:TC} {ls:List Lf} {x:t.den} {l:List Lf} {K:List Nat} {r:List Lf} {ms:List RM} {j:Nat} {l':List Lf},bR F t ls=some (x,l,K,r)->vA g F t ms (l++l') j=true ->
  ∀η':Vn,(∀(q:Nat) (a:Lf),l[q]?=some a->η'.h (j+q)=a.hd η)->aj w (λb=>g (c b)) ((f0 t x ms j).map (AF.ha η'))
 |.sc _,_,_,_,_,_,_,_,_,_,_,_,_=>aj.nil _ _
 |.arr _ _,_,_,_,_,_,_,_,_,_,_,_,_=>aj.nil _ _
 |.unit,_,_,_,_,_,_,_,_,_,_,_,_=>aj.nil _ _
 |.ext _,_,_,_,_,_,_,_,_,_,_,_,_=>aj.nil _ _
 |.node,_,_,_,_,_,_,_,_,_,_,_,_=>aj.nil _ _
 |.mp k v,[],_,_,_,_,_,_,_,h,_,_,_=>by simp[bR]at h
 | .mp k v,a::ls,x,l,K,r,ms,j,l',h,hc,η',hn=>by
  cases a with
  | mp hh=>
   simp only[bR,no,ZC]at h;obtain⟨rfl,rfl,rfl,rfl⟩:=h;cases ms with
   |nil=>exact aj.nil _ _
   | cons m ms=>
    have hna:=hn 0 (.mp hh) rfl;rw[abj]at hna;simp only[acI,vA]at hc;simp only[f0];cases ho:m.own with
    |none=>exact aj.nil _ _
    | some e=>
     simp only[ho]at hc;cases hs:uP k v hh F with
     |none=>grind
     |some s=>
      simp only[hs]at hc|-;refine aj.cons ?_ (aj.nil _ _);have h3:=HA.ren_holds hg _ (hF _ (ZA.2 ⟨_,gF hs,rfl⟩));simp only[AF.ha,HA.ren]at h3|-;rw[f9 hc]at h3;rw[hna];exact h3
  |_=>simp[bR]at h
 |.st a,_,_,_,_,_,_,_,_,h,hc,η',hn=>rB hg hF (t:=a) h hc η' hn
 |.slice t,[],_,_,_,_,_,_,_,h,_,_,_=>by simp[bR]at h
 | .slice t,a::ls,x,l,K,r,ms,j,l',h,hc,η',hn=>by
  simp only[bR]at h;split at h
  ·rename_i s hs;simp only[no,ZC]at h;obtain⟨rfl,rfl,rfl,rfl⟩:=h;cases ms with
   |nil=>exact aj.nil _ _
   | cons m ms=>
    have hna:=hn 0 a rfl;rw[abj]at hna;simp only[acI,vA,ai9]at hc;simp only[f0];cases ho:m.own with
    | none=>
     simp only[ho]at hc;refine aj.cons ?_ (aj.nil _ _);simp only[AF.ha,hna];cases a with
     |sl h=>
      simp only[hs]at hc;exact X9 hg (gE hs hF) hc
     |nl=>
      simp only[gH,no]at hs;subst hs;exact ra _ _
     |_=>grind
    | some e=>
     cases hsen:(Nat.ble 4194304 e && !(eM e));rotate_left
     ·simp only[hsen,Ze];exact aj.nil _ _
     simp only[ho]at hc;simp only[hsen,Zr];refine aj.cons ?_ (aj.nil _ _);simp only[AF.ha,hna];cases a with
     | sl h=>
      simp only[hsen,Zr]at hc;split at hc
      ·rename_i i K' xs hoi;simp only[Y5,abl]at hc;have hxs:xs=s.xs:=by
        grind[gH,fy]
       rw[<-hxs];exact DJ hg (eC hoi hF) (f9 hc.1) hc.2
      ·cases hc
     |nl=>
      simp only[gH,no]at hs;subst hs;exact sA _ _
     |_=>grind
  ·cases h
 | .pair a b,ls,x,l,K,r,ms,j,l',h,hc,η',hn=>by
  simp only[bR]at h;split at h
  ·rename_i x1 l1 K1 r1 h1;split at h
   ·rename_i x2 l2 K2 r2 h2;simp only[no,ZC]at h;obtain⟨rfl,rfl,rfl,rfl⟩:=h;simp only[vA,Y5]at hc;have hn1:=ee a h1;simp only[f0,abz];refine(rB hg hF h1 (l':=l2++l') (by grind) η' λq z hz=>hn q z (by grind)).append
     (rB hg hF h2 (l':=l') ?_ η' λq z hz=>?_)
    ·grind
    grind
   ·cases h
  ·cases h
end
end
section
variable [X:XTab] [G:GTab] [Yc:GCx]
section
variable {P:Program}
theorem XJ{F:List AF}{t:TC}{v:AV}{x:t.den}{l:List Lf}{K:List Nat}(h:oX F t v=some (x,l,K)):∃ls r,bR F t ls=some (x,l,K,r):=by
 cases v with
 |tu _=>cases h
 |ag ls=>
  simp only[oX]at h;grind
 |lf lf=>
  simp only[oX]at h;grind
theorem Ql{g:Nat->Nat}(hg:Gd g){F:List AF}{η:Vn}{w:World}{c:aS}(hF:aj w c (F.map (AF.ha η))):∀{ts:List TC} {bl:List Nat} {bs:List (Nat×List Lf)} {x:d8 ts} {l:List Lf} {q:Nat},vu F bl=some bs->wX F ts (bs.map (·.2))=some (x,l)->(fC (bs.map (·.1)) q).all (λp=>Nat.beq (g p.1) p.2)=true ->
  l.length=gK ts/\aj w (λb=>g (c b)) (lJ ts x (aT η l) 0 (bl.map λk=>(Rb k).v η) q) /\
  ∀{ms:List RM} {j:Nat},tT g F ts ms l j=true->∀η':Vn,(∀(q:Nat) (a:Lf),l[q]?=some a->η'.h (j+q)=a.hd η)->aj w (λb=>g (c b)) ((lg ts x ms j).map (AF.ha η')):=by
 have box:∀{t:TC} {b i q:Nat} {cs l:List Lf} {x:t.den} {K:List Nat} {r:List ObH} (l':List Hd),aM t l'=aM t (aT η l)->I0 F b=some (i,cs)->bR F t cs=some (x,l,K,[])->Nat.beq (g i) q=true->aj w (λb=>g (c b)) (ry t x l' 0 ((Rb b).v η::r) q):=by
  intro t b i q cs l x K r l' hl' hb hd hq;unfold I0 at hb;unfold Rb;cases hk:Nat.blt b 64
  ·rw [hk]at hb;simp only[Zr]at hb|-;split at hb
   ·rename_i i' hr;simp only[no,ZC]at hb;obtain⟨rfl,rfl⟩:=hb;simp only[ObA.v,ry];cases t with
    | slice t=>
     simp only[xY];cases hp:(t.ty.pureB||eM (b / 64-1))
     ·exact aj.nil _ _
     ·simp only[bR,gH]at hd;split at hd
      ·rename_i s hs;simp only[no,ZC]at hd;obtain⟨rfl,rfl,rfl,_⟩:=hd;have ho:=jC hr hs;have hm:=hF _ (ZA.2 ⟨_,fB hs,rfl⟩);obtain⟨own,K',xs⟩:=s;simp only at ho;subst ho;refine aj.cons ?_ (aj.nil _ _);exact DJ hg hm (f9 hq) (.inl (by simpa using hp))
      ·cases hd
    |_=>exact aj.nil _ _
   ·cases hb
  ·rw[hk]at hb;simp only[Ze]at hb|-;obtain⟨h1,h2⟩:=tR hb hF;have e:=(dA (η:=η) t hd).1;simp only[au,Z2]at e;simp only[ObA.v,ry];rw[hl',<-e];exact aj.cons ⟨h1,by simp_all⟩ (aj.nil _ _)
 have outs:∀{b:Nat} {bl:List Nat} {bs:List (Nat×List Lf)},vu F (b::bl)=some bs->∃i cs bs',bs=(i,cs)::bs'/\I0 F b=some (i,cs)/\vu F bl=some bs':=by intro b bl bs h;simp only[vu]at h;grind
 intro ts;induction ts with
 | nil=>
  intro bl bs x l q ho h hq;cases bs with
  |nil=>
   simp only[ad5,wX,no,ZC]at h;obtain⟨_,rfl⟩:=h;exact⟨rfl,aj.nil _ _,λ_ _ _=>aj.nil _ _⟩
  |cons b bs=>simp[wX]at h
 | cons t ts ih=>
  intro bl bs x l q ho h hq;cases bl with
  |nil=>
   grind[vu,wX]
  | cons b bl=>
   obtain⟨i,cs,bs',rfl,hb,ho'⟩:=outs ho;simp only[aas,fC,acw,Y5]at hq;cases ts with
   | nil=>
    simp only[aas]at h;cases bs' with
    |cons _ _=>simp[wX]at h
    |nil=>
     simp only[ad5,wX]at h;split at h
     ·rename_i x' l' K hd;simp only[no,ZC]at h;obtain⟨rfl,rfl⟩:=h;refine⟨by simp only[gK,ee t hd];omega,box _ rfl hb hd hq.1,λhc η' hn=>?_⟩;simp only[tT,ahn]at hc;exact rB hg hF hd (l':=[]) (by grind) η' hn
     ·cases h
   | cons t' ts=>
    simp only[aas,wX]at h;split at h
    ·rename_i x1 l1 K1 x2 l2 hd hds;simp only[no,ZC]at h;obtain⟨rfl,rfl⟩:=h;obtain⟨n1,n2,n3⟩:=ih ho' hds hq.2;have hn1:=ee t hd;have e0:aT η (l1++l2)=aT η l1++aT η l2:=by simp[aT]
     have e1:aM t (aT η (l1++l2))=aM t (aT η l1):=by rw[e0];exact dL t _ _ (by simp[aT,hn1])
     have e2:(aT η (l1++l2)).drop t.nh=aT η l2:=by grind[aT]
     have e:gK (t::t'::ts)=t.nh+gK (t'::ts):=rfl;refine⟨by grind,?_,λhc η' hn=>?_⟩
     ·grind[lJ,nx,List.tail_cons,aj.append]
     ·rw[tT,Y5]at hc;simp only[lg,abz];refine(rB hg hF hd (l':=l2) hc.1 η' λq z hz=>hn q z (by grind)).append
       (n3 ?_ η' λq z hz=>?_)
      ·grind
      grind
    ·cases h
theorem ak7{g:Nat->Nat}(hg:Gd g){F:List AF}{η:Vn}{w:World}{c:aS}(hF:aj w c (F.map (AF.ha η))):∀{ts:List TC} {vs:List AV} {bl:List Nat} {bs:List (Nat×List Lf)} {x:d8 ts} {l:List Lf} {q:Nat},vu F bl=some bs->wS F ts vs (bs.map (·.2))=some (x,l)->(fC (bs.map (·.1)) q).all (λp=>Nat.beq (g p.1) p.2)=true ->
  (jz ts x (aT η l)).take vs.length=AV.vals η vs/\l.length=gK ts/\aj w (λb=>g (c b)) (lJ ts x (aT η l) vs.length (bl.map λk=>(Rb k).v η) q) /\
  ∀{ms:List RM} {j:Nat},tT g F ts ms l j=true->∀η':Vn,(∀(q:Nat) (a:Lf),l[q]?=some a->η'.h (j+q)=a.hd η)->aj w (λb=>g (c b)) ((lg ts x ms j).map (AF.ha η')):=by
 intro ts;induction ts with
 | nil=>
  intro vs bl bs x l q ho h hq;cases vs with
  |nil=>
   simp only[wS]at h;exact⟨rfl,Ql hg hF ho h hq⟩
  |cons v vs=>simp[wS]at h
 | cons t ts ih=>
  intro vs bl bs x l q ho h hq;cases vs with
  |nil=>
   have h':wX F (t::ts) (bs.map (·.2))=some (x,l):=by cases ts<;>simpa only[wS]using h
   obtain⟨n1,n2,n3⟩:=Ql hg hF ho h' hq;exact⟨rfl,n1,n2,n3⟩
  | cons v vs=>
   cases ts with
   | nil=>
    cases vs with
    |cons _ _=>simp[wS]at h
    | nil=>
     cases bs with
     |cons _ _=>simp[wS]at h
     |nil=>
      simp only[ad5,wS]at h;split at h
      ·rename_i x' l' K ha;simp only[no,ZC]at h;obtain⟨rfl,rfl⟩:=h;obtain⟨h1,h2,h3⟩:=ue (η:=η) (t:=t) ha;obtain⟨ls,r,hd⟩:=XJ (t:=t) ha;refine⟨by simp only[jz,AV.vals,h1];rfl,by simp only[gK,h2];omega,aj.nil _ _,λhc η' hn=>?_⟩;simp only[tT,ahn]at hc;exact rB hg hF hd (l':=[]) (by grind) η' hn
      ·cases h
   | cons t' ts=>
    simp only[wS]at h;split at h
    ·rename_i x1 l1 K1 x2 l2 ha hds;simp only[no,ZC]at h;obtain⟨rfl,rfl⟩:=h;obtain⟨h1,h2,h3⟩:=ue (η:=η) ha;obtain⟨ls,r',hd⟩:=XJ ha;obtain⟨n0,n1,n2,n3⟩:=ih ho hds hq;have hn1:=ee t hd;have e0:aT η (l1++l2)=aT η l1++aT η l2:=by simp[aT]
     have e1:aM t (aT η (l1++l2))=aM t (aT η l1):=by rw[e0];exact dL t _ _ (by simp[aT,hn1])
     have e2:(aT η (l1++l2)).drop t.nh=aT η l2:=by grind[aT]
     have e:gK (t::t'::ts)=t.nh+gK (t'::ts):=rfl;refine⟨?_,by grind,?_,λhc η' hn=>?_⟩
     ·grind[jz,AV.vals]
     ·simp only[lJ,nx,ry,e2,abx,aaG,Nat.add_sub_cancel];exact n2
     ·rw[tT,Y5]at hc;simp only[lg,abz];refine(rB hg hF hd (l':=l2) hc.1 η' λq z hz=>hn q z (by grind)).append
       (n3 ?_ η' λq z hz=>?_)
      ·grind
      grind
    ·cases h
theorem S8{F:List AF}{p:Nat×Nat}:∀{ms:List RM} {ls:List Lf} {j:Nat},p∈nL F ms ls j->2<=p.2:=by
 intro ms;induction ms with
 |nil=>intro ls j h;simp[nL]at h
 | cons m ms ih=>
  intro ls j h;cases ls with
  |nil=>simp[nL]at h
  | cons z ls=>
   cases z with
   |sl hh=>
    simp only[nL,aad]at h;grind
   |mp hh=>
    simp only[nL,aad]at h;grind
   |_=>exact ih (by simpa only[nL]using h)
theorem UV{F:List AF}{p:Nat×Nat}:∀{ms:List RM} {ls:List Lf} {j:Nat},p∈pR F ms ls j->2<=p.2:=by
 intro ms;induction ms with
 |nil=>intro ls j h;simp[pR]at h
 | cons m ms ih=>
  intro ls j h;cases ls with
  |nil=>simp[pR]at h
  | cons z ls=>
   cases z with
   |sl hh=>
    simp only[pR,aad]at h;grind
   |_=>exact ih (by simpa only[pR]using h)
theorem WD{p:Nat×Nat}:∀{l:List Nat} {q:Nat},2<=q->p∈fC l q->2<=p.2:=by
 intro l;induction l with
 |nil=>intro q _ h;simp[fC]at h
 |cons i r ih=>
  grind[fC]
theorem XV:∀(ps:List PC) (x:ja ps) (l:List Hd),(kX ps x l).length=ps.length:=by
 intro ps;induction ps with
 |nil=>intro x l;rfl
 |cons t ts ih=>
  intro x l;cases ts with
  |nil=>rfl
  |cons t' ts=>simp only[kX,aaG,ih]
end
end
end Go.Sm
