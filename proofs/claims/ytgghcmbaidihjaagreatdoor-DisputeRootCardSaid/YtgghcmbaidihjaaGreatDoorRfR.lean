/- Laws for the row. No condition. -/
import Derived.Test.YtgghcmbaidihjaaGreatDoorRfP
namespace Go.Sm
set_option linter.unusedSectionVars false
section
variable [X:XTab] [G:GTab] [Yc:GCx]
def Jp:(p:PC)->p.den->Nat->AV
 |.d t,x,n=>rr t x n
 |.own _ _,_,n=>.lf (.sl n)
 |.box _ _ _,_,n=>.lf (.bp n 0)
 |.fn f,_,_=>.lf (.fn f)
 |.clo f _,_,n=>.lf (.clo f [n])
 |.prt _ _,_,n=>.lf (.sl (n+1))
 |.rc _ _,_,n=>.lf (.bp n 0)
def OD:(ps:List PC)->j7 ps->Nat->List AV
 |[],_,_=>[]
 |[p],x,n=>[Jp p x n]
 |p::a::r,x,n=>Jp p x.1 n::OD (a::r) x.2 (n+p.nh)
def wP:(t:TC)->t.den->List (Option TypeId)->Nat->Nat->List AF
 |.pair a b,x,os,q,n=>wP a x.1 os q n++wP b x.2 (os.drop a.nh) (q+a.nh) (n+a.nh)
 |.slice t,xs,os,q,n=>match os with
  |some e::_=>[.own t e q [1] xs n]
  |_=>[.rep t [1] xs n]
 |.st a,x,os,q,n=>wP a x os q n
 |.sc _,_,_,_,_=>[]
 |.arr _ _,_,_,_,_=>[]
 |.unit,_,_,_,_=>[]
 |.ext _,_,_,_,_=>[]
 |.node,x,_,_,n=>[.rep .node [1] x.tup.2.2.2 n]
 |.mp k v,xs,os,q,n=>match os with
  |some _::_=>[.mp k v q xs n]
  |_=>[]
def Et:(p:PC)->p.den->Nat->Nat->List AF
 |.d t,x,_,n=>vR t x [1] n
 |.own t e,xs,q,n=>[.own t e q [1] xs n]
 |.box m t os,x,q,n=>.box (bif m then q else 1) n (jK t x (n+1))::wP t x (bif m then os else []) (q+1) (n+1)
 |.fn _,_,_,_=>[]
 |.clo _ t,x,q,n=>.box 1 n (jK t x (n+1))::wP t x [] (q+1) (n+1)
 |.prt t e,x,q,n=>[.own t e q [1] x.1 n,.prt (n+1) n t.ty.sz x.2.1 x.2.2]
 |.rc _ _,_,_,_=>[]
def FL:(ps:List PC)->j7 ps->Nat->Nat->List AF
 |[],_,_,_=>[]
 |[p],x,q,n=>Et p x q n
 |p::a::r,x,q,n=>Et p x.1 q n++FL (a::r) x.2 (q+p.nc) (n+p.nh)
def yQ:List AV->Nat->SE
 |[],_=>[]
 |v::r,i=>(i,v)::yQ r (i+1)
def aeZ(a:List AF)(ps:List PC)(x:j7 ps):SS:=⟨yQ (OD ps x 0) 0,Ia ps 0++FL ps x 2 0++a,64,256,[]⟩
def vu(Θ:Tb)(E:SE)(F:List AF):List ResultVar->Option (List AV)
 |[]=>some []
 |.tmp t::r=>match bP E t,vu Θ E F r with
  |some v,some vs=>some (v::vs)
  |_,_=>none
 | .cell x t::r=>match bP E x,Θ t,vu Θ E F r with
  | some (.lf (.bp b 0)),some i,some vs=>match i6 b F with
   | some (_,cs)=>match lj cs i.sz with
    |some (_,[])=>match Ja i.d.agg cs with
     |some v=>some (v::vs)
     |none=>none
    |_=>none
   |none=>none
  |_,_,_=>none
def pw(F:List AF):List RM->List Lf->Nat->List (Nat×Nat)
 |m::ms,.sl h::ls,j=>(match m.own with
  |some _=>DI F (.sl h) |>.map λi=>(i,2+2*j)
  |none=>[])++pw F ms ls (j+1)
 |m::ms,.mp h::ls,j=>(match m.own with
  |some _=>DI F (.mp h) |>.map λi=>(i,2+2*j)
  |none=>[])++pw F ms ls (j+1)
 |_::ms,_::ls,j=>pw F ms ls (j+1)
 |_,_,_=>[]
def sy(F:List AF):List RM->List Lf->Nat->List (Nat×Nat)
 |_::ms,.sl h::ls,j=>(Gv F (.sl h)).map (λk=>(k,129))++sy F ms ls (j+1)
 |_::ms,_::ls,j=>sy F ms ls (j+1)
 |_,_,_=>[]
def aow(g:Nat->Nat)(F:List AF)(t:TC)(m:RM)(l:Lf)(j:Nat):Bool:=match m.own,l with
 |_,.nl=>true
 |some e,.sl h=>bif Nat.ble 4194304 e && !(fk e)then true else match fY t e 0 F (.sl h)with
  |some (i,K,_)=>Nat.beq (g i) (2+2*j)&&(t.ty.pureB||fk e||sub (K.map g) (m.K 129))
  |none=>false
 |none,.sl h=>match iB t F (.sl h)with
  |some s=>sub (s.all.map g) (m.K 129)
  |none=>false
 |_,_=>false
def x8(g:Nat->Nat)(F:List AF):TC->List RM->List Lf->Nat->Bool
 |.pair a b,ms,ls,j=>x8 g F a ms ls j&&x8 g F b (ms.drop a.nh) (ls.drop a.nh) (j+a.nh)
 |.slice t,m::_,l::_,j=>aow g F t m l j
 |.slice _,_,_,_=>false
 |.st a,ms,ls,j=>x8 g F a ms ls j
 | .mp k v,m::_,.mp h::_,j=>match m.own with
  |some _=>(match xd k v h F with
   |some s=>Nat.beq (g s.i) (2+2*j)
   |none=>false)
  |none=>true
 |.mp _ _,m::_,_,_=>m.own.isNone
 |_,_,_,_=>true
def vW(g:Nat->Nat)(F:List AF):List TC->List RM->List Lf->Nat->Bool
 |[],_,_,_=>true
 |t::r,ms,ls,j=>x8 g F t ms ls j&&vW g F r (ms.drop t.nh) (ls.drop t.nh) (j+t.nh)
def rg(h:Nat)(e:TypeId):List AF->Option Nat
 |[]=>none
 |.own _ a i _ _ h'::r=>bif Nat.beq h h' then(bif Nat.beq e a then some i else none)else rg h e r
 |.rep _ _ _ h'::r=>bif Nat.beq h h' then none else rg h e r
 |.box _ _ _::r=>rg h e r
 |.isn _ _::r=>rg h e r
 |.ag _::r=>rg h e r
 |.prt _ _ _ _ _::r=>rg h e r
 |.pbx _ _ _ _ _::r=>rg h e r
 |.hol _ _ _ _ _ _ _::r=>rg h e r
 |.mp _ _ _ _ _::r=>rg h e r
 |.pt _ _ _ _ _ _ _::r=>rg h e r
def VT(k:Nat):ObA:=bif Nat.blt k 64 then .b k else .r (k%64) (k / 64-1)
def Mb(F:List AF)(k:Nat):Option (Nat×List Lf):=bif Nat.blt k 64 then i6 k F else match rg (k%64) (k / 64-1) F with
 |some i=>some (i,[.sl (k%64)])
 |none=>none
def xP(F:List AF):List Nat->Option (List (Nat×List Lf))
 |[]=>some []
 |b::r=>match Mb F b,xP F r with
  |some (i,cs),some vs=>some ((i,cs)::vs)
  |_,_=>none
theorem kD{t:TC}{h:Nat}{e:TypeId}:∀{F:List AF} {i:Nat} {s:SI t},rg h e F=some i->lu t h F=some s->s.own=some (e,i)
 |[],_,_,a,_=>by simp[rg]at a
 | .own j d g K xs h'::r,i,s,a,b=>by
  simp only[rg]at a;simp only[lu]at b;cases c:Nat.beq h h'
  ·rw[c]at a b;exact kD a b
  ·rw[c]at a b;simp only[abv]at a b;cases f:Nat.beq e d
   ·grind
   ·rw[f]at a;simp only[abv,no]at a;split at b
    ·simp only[no]at b;subst b;simp_all
    ·cases b
 |.rep _ _ _ h'::r,i,s,a,b=>by
  simp only[rg]at a;simp only[lu]at b;cases c:Nat.beq h h'
  ·rw[c]at a b;exact kD a b
  grind
 |.box _ _ _::r,_,_,a,b=>kD (F:=r) a b
 |.isn _ _::r,_,_,a,b=>kD (F:=r) a b
 |.ag _::r,_,_,a,b=>kD (F:=r) a b
 |.prt _ _ _ _ _::r,_,_,a,b=>kD (F:=r) a b
 |.pbx _ _ _ _ _::r,_,_,a,b=>kD (F:=r) a b
 |.hol _ _ _ _ _ _ _::r,_,_,a,b=>kD (F:=r) a b
 |.mp _ _ _ _ _::r,_,_,a,b=>kD (F:=r) a b
 |.pt _ _ _ _ _ _ _::r,_,_,a,b=>kD (F:=r) a b
def yS(F:List AF):(ts:List TC)->List (List Lf)->Option (eJ ts×List Lf)
 |[],[]=>some ((),[])
 |[t],[cs]=>match bV F t cs with
  |some (x,l,_,[])=>some (x,l)
  |_=>none
 |t::a::r,cs::vs=>match bV F t cs,yS F (a::r) vs with
  |some (x,l,_,[]),some (y,l')=>some ((x,y),l++l')
  |_,_=>none
 |_,_=>none
def za(F:List AF):(ts:List TC)->List AV->List (List Lf)->Option (eJ ts×List Lf)
 |ts,[],bs=>yS F ts bs
 |[t],[v],[]=>match rf F t v with
  |some (x,l,_)=>some (x,l)
  |none=>none
 |t::b::r,v::vs,bs=>match rf F t v,za F (b::r) vs bs with
  |some (x,l,_),some (y,a)=>some ((x,y),l++a)
  |_,_=>none
 |_,_,_=>none
def fZ:List Nat->Nat->List (Nat×Nat)
 |[],_=>[]
 |i::r,c=>(i,c)::fZ r (c+1)
def AJ(Θ:Tb)(fn:Func)(C:Sig)(S:SS):Option (eJ C.rs):=match vu Θ S.E S.F fn.results.toList,xP S.F C.bl with
 | some vs,some bs=>match za S.F C.rs vs (bs.map (·.2))with
  |some (x,l)=>
   let a:=(fZ (bs.map (·.1)) 130++(pw S.F C.ms l 0++sy S.F C.ms l 0)).filter λp=>Nat.ble 2 p.1
   bif vW (ry a 2) S.F C.rs C.ms l 0&&Nat.beq C.ms.length l.length&&Nat.beq vs.length C.nr&&(fZ (bs.map (·.1)) 130).all (λp=>Nat.beq (ry a 2 p.1) p.2)then some x else none
  |none=>none
 |_,_=>none
section
variable {P:Program}
theorem Dr{K:List Nat}{d:Vn}:∀(t:TC) (x:t.den) (l:List Hd) (n:Nat),iS d n l->t.nh<=l.length->(vR t x K n).map (AF.ha d)=facts t.ty K x (aO t l)
 |.sc _,_,_,_,_,_=>rfl
 |.arr _ _,_,_,_,_,_=>rfl
 |.unit,_,_,_,_,_=>rfl
 |.pair a b,x,l,n,h,hl=>by simp only[TC.nh]at hl;simp only[vR,afo,facts,aO];rw[Dr a x.1 l n h (by omega),Dr b x.2 (l.drop a.nh) (n+a.nh) (λj e c=>by rw[afS]at c;have:=h _ e c;grind) (by simp;omega)]
 | .slice _,x,l,n,h,hl=>by
  simp only[TC.nh]at hl;cases l with
  |nil=>simp at hl
  |cons hd r=>
   have:=h 0 hd rfl;grind[vR,AF.ha,facts,aO]
 |.st a,x,l,n,h,hl=>Dr a x l n h hl
 |.ext _,_,_,_,_,_=>rfl
 | .node,x,l,n,h,hl=>by
  simp only[TC.nh]at hl;cases l with
  |nil=>simp at hl
  |cons hd r=>
   have:=h 0 hd rfl;grind[vR,AF.ha,facts,aO]
 |.mp _ _,_,_,_,_,_=>rfl
theorem zL{d:Vn}:∀(t:TC) (x:t.den) (os:List (Option TypeId)) (q:Nat) (l:List Hd) (n:Nat),iS d n l->t.nh<=l.length->(wP t x os q n).map (AF.ha d)=jt t x (aO t l) os q
 |.sc _,_,_,_,_,_,_,_=>rfl
 |.arr _ _,_,_,_,_,_,_,_=>rfl
 |.unit,_,_,_,_,_,_,_=>rfl
 |.pair a b,x,os,q,l,n,h,hl=>by simp only[TC.nh]at hl;simp only[wP,afo,jt,aO];rw[zL a x.1 os q l n h (by omega),zL b x.2 (os.drop a.nh) (q+a.nh) (l.drop a.nh) (n+a.nh) (λj e c=>by rw[afS]at c;have:=h _ e c;grind) (by simp;omega)]
 | .slice _,x,os,q,l,n,h,hl=>by
  simp only[TC.nh]at hl;cases l with
  |nil=>simp at hl
  |cons hd r=>
   have:=h 0 hd rfl;simp only[afu]at this;cases os with
   |nil=>simp[wP,AF.ha,jt,aO,this]
   |cons o os=>cases o<;>simp[wP,AF.ha,jt,aO,this]
 |.st a,x,os,q,l,n,h,hl=>zL a x os q l n h hl
 |.ext _,_,_,_,_,_,_,_=>rfl
 | .node,x,os,q,l,n,h,hl=>by
  simp only[TC.nh]at hl;cases l with
  |nil=>simp at hl
  |cons hd r=>
   have:=h 0 hd rfl;grind[wP,AF.ha,jt,aO]
 | .mp _ _,x,os,q,l,n,h,hl=>by
  simp only[TC.nh]at hl;cases l with
  |nil=>simp at hl
  |cons hd r=>
   have:=h 0 hd rfl;simp only[afu]at this;cases os with
   |nil=>rfl
   |cons o os=>cases o<;>simp[wP,AF.ha,jt,aO,this]
theorem T4{b:Vn}:∀(p:PC) (x:p.den) (l:List Hd) (n:Nat),iS b n l->(∀j h,l[j]?=some h->b.b (n+j)=h.blk)->p.nh<=l.length->(Jp p x n).val b=p.val x l
 |.d t,x,l,n,h,_,hl=>Ck t x l n h hl
 |.own _ _,_,[],_,_,_,hl=>by simp[PC.nh]at hl
 |.own _ _,_,hd::r,n,h,_,_=>by have:=h 0 hd rfl;grind[Jp,PC.val,AV.val,Lf.val]
 |.box _ _ _,_,[],_,_,_,hl=>by simp[PC.nh]at hl
 |.box _ _ _,_,hd::r,n,_,a,_=>by have:=a 0 hd rfl;grind[Jp,PC.val,AV.val,Lf.val]
 |.fn _,_,_,_,_,_,_=>rfl
 |.clo _ _,_,[],_,_,_,hl=>by simp[PC.nh]at hl
 |.clo _ _,_,hd::r,n,_,a,_=>by have:=a 0 hd rfl;grind[Jp,PC.val,AV.val,Lf.val]
 |.prt _ _,_,[],_,_,_,hl=>by simp[PC.nh]at hl
 |.prt _ _,_,[_],_,_,_,hl=>by simp[PC.nh]at hl
 |.prt _ _,_,_::hd::r,n,h,_,_=>by have:=h 1 hd rfl;simp[Jp,PC.val,AV.val,Lf.val,this]
 |.rc _ _,_,[],_,_,_,hl=>by simp[PC.nh]at hl
 |.rc _ _,_,hd::r,n,_,a,_=>by have:=a 0 hd rfl;grind[Jp,PC.val,AV.val,Lf.val]
theorem iS.tail{b:Vn}{n k:Nat}{l:List Hd}(h:iS b n l):iS b (n+k) (l.drop k):=λj c a=>by rw[afS]at a;have:=h _ c a;grind
theorem TR{c:Vn}:∀(p:PC) (x:p.den) (q:Nat) (l:List Hd) (n:Nat),iS c n l->(∀j h,l[j]?=some h->c.b (n+j)=h.blk)->p.nh<=l.length->(Et p x q n).map (AF.ha c)=p.facts x l q
 |.d t,x,q,l,n,h,_,hl=>Dr t x l n h hl
 |.own _ _,_,_,[],_,_,_,hl=>by simp[PC.nh]at hl
 |.own _ _,_,_,hd::r,n,h,_,_=>by have:=h 0 hd rfl;grind[Et,PC.facts,AF.ha]
 |.box _ _ _,_,_,[],_,_,_,hl=>by simp[PC.nh]at hl
 |.box m t os,x,q,hd::r,n,h,d,hl=>by
  have:=d 0 hd rfl;simp only[afu]at this;have b:iS c (n+1) r:=h.tail (k:=1);have a:t.nh<=r.length:=by simp[PC.nh]at hl;omega
  simp only[Et,PC.facts,aev,AF.ha,this,ak6,aj0,agY,jf t x r (n+1) b a,zL t x _ _ r (n+1) b a]
 |.fn _,_,_,_,_,_,_,_=>rfl
 |.clo _ _,_,_,[],_,_,_,hl=>by simp[PC.nh]at hl
 |.clo _ t,x,q,hd::r,n,h,d,hl=>by
  have:=d 0 hd rfl;simp only[afu]at this;have b:iS c (n+1) r:=h.tail (k:=1);have a:t.nh<=r.length:=by simp[PC.nh]at hl;omega
  simp only[Et,PC.facts,aev,AF.ha,this,ak6,aj0,agY,jf t x r (n+1) b a,zL t x _ _ r (n+1) b a]
 |.prt _ _,_,_,[],_,_,_,hl=>by simp[PC.nh]at hl
 |.prt _ _,_,_,[_],_,_,_,hl=>by simp[PC.nh]at hl
 |.prt _ _,_,_,e::f::r,n,h,_,_=>by have g:=h 0 e rfl;have i:=h 1 f rfl;grind[Et,PC.facts,AF.ha]
 |.rc _ _,_,_,_,_,_,_,_=>rfl
theorem V0{η:Vn}:∀(ps:List PC) (x:j7 ps) (q:Nat) (l:List Hd) (n:Nat),iS η n l->(∀j h,l[j]?=some h->η.b (n+j)=h.blk)->rU ps<=l.length ->
  AV.vals η (OD ps x n)=mF ps x l/\(FL ps x q n).map (AF.ha η)=pe ps x l q
 |[],_,_,_,_,_,_,_=>⟨rfl,rfl⟩
 |[p],x,q,l,n,h,a,hl=>by simp only[rU,afu]at hl;exact⟨by simp only[OD,AV.vals,mF,T4 p x l n h a hl],TR p x q l n h a hl⟩
 |p::b::r,x,q,l,n,h,a,hl=>by have e:rU (p::b::r)=p.nh+rU (b::r):=rfl;obtain⟨c,d⟩:=V0 (b::r) x.2 (q+p.nc) (l.drop p.nh) (n+p.nh) h.tail (λj f g=>by grind) (by grind);grind[OD,AV.vals,mF,FL,pe,T4,TR]
theorem Cs{η:Vn}:∀{vs:List AV} {i t:Nat} {v:AV},bP (yQ vs i) t=some v->∃j,t=i+j/\(AV.vals η vs)[j]?=some (v.val η)
 |[],_,_,_,h=>by simp[yQ,bP]at h
 |u::r,i,t,v,h=>by
  simp only[yQ,bP]at h;cases a:Nat.beq t i
  ·rw[a]at h;obtain⟨j,c,b⟩:=Cs (η:=η) h;exact⟨j+1,by omega,by simpa[AV.vals]using b⟩
  ·rw[a]at h;simp only[abv,no]at h;subst h;exact⟨0,by simp_all,by simp[AV.vals]⟩
theorem DF{Θ:Tb}(c:Θ.ok P){a:Vn}{ρ:dm}{E:SE}{F:List AF}(f:mH a ρ E):∀{l:List ResultVar} {vs:List AV},vu Θ E F l=some vs->Zm P ρ (F.map (AF.ha a)) l (AV.vals a vs)
 |[],vs,h=>by simp only[vu,no]at h;subst h;exact trivial
 |.tmp t::r,vs,h=>by
  simp only[vu]at h;split at h
  ·rename_i v o j m;simp only[no]at h;subst h;exact⟨auF (f t v j),DF c f m⟩
  ·cases h
 | .cell x t::r,vs,h=>by
  simp only[vu]at h;split at h
  ·rename_i b i o j hi m;split at h
   ·rename_i ci cs z;split at h
    ·rename_i q A;split at h
     ·rename_i v g;simp only[no]at h;subst h;refine⟨?_,DF c f m⟩;obtain⟨w,y,_,_⟩:=c t i hi;obtain⟨C,u,hd⟩:=nq y;obtain⟨k,s⟩:=mN (fw z) a;obtain⟨p,B⟩:=hU A;rw[ad0]at p;subst p;have e:ρ x=.pointer (some ⟨a.b b,0,none⟩):=f x _ j;cases d:i.d.agg
      ·rw[d]at g hd;obtain⟨l,rfl,rfl,n⟩:=Dv g a;refine aht k s u hd e ?_;simp[aw,n]
      ·rw[d]at g hd;rw[DB g a];exact ahf k s u hd w e (by simp[B a])
     ·cases h
    ·cases h
   ·cases h
  ·cases h
theorem tO{g:Nat->Nat}(u:Gd g){F:List AF}{η:Vn}{w:World}{c:aS}(p:ao w c (F.map (AF.ha η))):∀{t:TC} {ls:List Lf} {x:t.den} {l:List Lf} {K:List Nat} {r:List Lf} {ms:List RM} {j:Nat} {l':List Lf},bV F t ls=some (x,l,K,r)->x8 g F t ms (l++l') j=true ->
  ∀η':Vn,(∀(q:Nat) (a:Lf),l[q]?=some a->η'.h (j+q)=a.hd η)->ao w (λb=>g (c b)) ((gE t x ms j).map (AF.ha η'))
 |.sc _,_,_,_,_,_,_,_,_,_,_,_,_=>ao.nil _ _
 |.arr _ _,_,_,_,_,_,_,_,_,_,_,_,_=>ao.nil _ _
 |.unit,_,_,_,_,_,_,_,_,_,_,_,_=>ao.nil _ _
 |.ext _,_,_,_,_,_,_,_,_,_,_,_,_=>ao.nil _ _
 |.node,_,_,_,_,_,_,_,_,_,_,_,_=>ao.nil _ _
 |.mp k v,[],_,_,_,_,_,_,_,h,_,_,_=>by simp[bV]at h
 | .mp k v,a::ls,x,l,K,r,ms,j,l',h,d,η',o=>by
  cases a with
  | mp E=>
   simp only[bV,no,acW]at h;obtain⟨rfl,rfl,rfl,rfl⟩:=h;cases ms with
   |nil=>exact ao.nil _ _
   | cons m ms=>
    have f:=o 0 (.mp E) rfl;rw[afu]at f;simp only[afO,x8]at d;simp only[gE];cases y:m.own with
    |none=>exact ao.nil _ _
    | some e=>
     simp only[y]at d;cases hs:xd k v E F with
     |none=>grind
     |some s=>
      simp only[hs]at d|-;refine ao.cons ?_ (ao.nil _ _);have A:=HA.ren_holds u _ (p _ (acG.2 ⟨_,ir hs,rfl⟩));simp only[AF.ha,HA.ren]at A|-;rw[f9 d]at A;rw[f];exact A
  |_=>simp[bV]at h
 |.st a,_,_,_,_,_,_,_,_,h,d,η',o=>tO u p (t:=a) h d η' o
 |.slice t,[],_,_,_,_,_,_,_,h,_,_,_=>by simp[bV]at h
 | .slice t,a::ls,x,l,K,r,ms,j,l',h,d,η',o=>by
  simp only[bV]at h;split at h
  ·rename_i s hs;simp only[no,acW]at h;obtain⟨rfl,rfl,rfl,rfl⟩:=h;cases ms with
   |nil=>exact ao.nil _ _
   | cons m ms=>
    have f:=o 0 a rfl;rw[afu]at f;simp only[afO,x8,aow]at d;simp only[gE];cases y:m.own with
    | none=>
     simp only[y]at d;refine ao.cons ?_ (ao.nil _ _);simp only[AF.ha,f];cases a with
     |sl h=>
      simp only[hs]at d;exact abI u (iq hs p) d
     |nl=>
      simp only[iB,no]at hs;subst hs;exact tL _ _
     |_=>grind
    | some e=>
     cases n:(Nat.ble 4194304 e && !(fk e));rotate_left
     ·simp only[n,abv];exact ao.nil _ _
     simp only[y]at d;simp only[n,ab7];refine ao.cons ?_ (ao.nil _ _);simp only[AF.ha,f];cases a with
     | sl h=>
      simp only[n,ab7]at d;split at d
      ·rename_i i M xs B;simp only[abF,afz]at d;have C:xs=s.xs:=by
        grind[iB,fY]
       rw[<-C];exact FB u (eO B p) (f9 d.1) d.2
      ·cases d
     |nl=>
      simp only[iB,no]at hs;subst hs;exact vg _ _
     |_=>grind
  ·cases h
 | .pair a b,ls,x,l,K,r,ms,j,l',h,d,η',o=>by
  simp only[bV]at h;split at h
  ·rename_i R O N r1 D;split at h
   ·rename_i S L K2 Q H;simp only[no,acW]at h;obtain⟨rfl,rfl,rfl,rfl⟩:=h;simp only[x8,abF]at d;have I:=eL a D;simp only[gE,afo];refine(tO u p D (l':=L++l') (by grind) η' λq z J=>o q z (by grind)).append
     (tO u p H (l':=l') ?_ η' λq z J=>?_)
    ·grind
    grind
   ·cases h
  ·cases h
end
end
section
variable [X:XTab] [G:GTab] [Yc:GCx]
section
variable {P:Program}
theorem ac1{F:List AF}{t:TC}{v:AV}{x:t.den}{l:List Lf}{K:List Nat}(h:rf F t v=some (x,l,K)):∃ls r,bV F t ls=some (x,l,K,r):=by
 cases v with
 |tu _=>cases h
 |ag ls=>
  simp only[rf]at h;grind
 |lf lf=>
  simp only[rf]at h;grind
theorem VB{g:Nat->Nat}(B:Gd g){F:List AF}{η:Vn}{w:World}{c:aS}(v:ao w c (F.map (AF.ha η))):∀{ts:List TC} {bl:List Nat} {bs:List (Nat×List Lf)} {x:eJ ts} {l:List Lf} {q:Nat},xP F bl=some bs->yS F ts (bs.map (·.2))=some (x,l)->(fZ (bs.map (·.1)) q).all (λp=>Nat.beq (g p.1) p.2)=true ->
  l.length=iC ts/\ao w (λb=>g (c b)) (nE ts x (aT η l) 0 (bl.map λk=>(VT k).v η) q) /\
  ∀{ms:List RM} {j:Nat},vW g F ts ms l j=true->∀η':Vn,(∀(q:Nat) (a:Lf),l[q]?=some a->η'.h (j+q)=a.hd η)->ao w (λb=>g (c b)) ((mO ts x ms j).map (AF.ha η')):=by
 have box:∀{t:TC} {b i q:Nat} {cs l:List Lf} {x:t.den} {K:List Nat} {r:List ObH} (l':List Hd),aO t l'=aO t (aT η l)->Mb F b=some (i,cs)->bV F t cs=some (x,l,K,[])->Nat.beq (g i) q=true->ao w (λb=>g (c b)) (tM t x l' 0 ((VT b).v η::r) q):=by
  intro t b i q cs l x K r l' C d hd hq;unfold Mb at d;unfold VT;cases I:Nat.blt b 64
  ·rw [I]at d;simp only[ab7]at d|-;split at d
   ·rename_i i' Q;simp only[no,acW]at d;obtain⟨rfl,rfl⟩:=d;simp only[ObA.v,tM];cases t with
    | slice t=>
     simp only[zW];cases O:(t.ty.pureB||fk (b / 64-1))
     ·exact ao.nil _ _
     ·simp only[bV,iB]at hd;split at hd
      ·rename_i s hs;simp only[no,acW]at hd;obtain⟨rfl,rfl,rfl,_⟩:=hd;have n:=kD Q hs;have N:=v _ (acG.2 ⟨_,f5 hs,rfl⟩);obtain⟨own,U,xs⟩:=s;simp only at n;subst n;refine ao.cons ?_ (ao.nil _ _);exact FB B N (f9 hq) (.inl (by simpa using O))
      ·cases hd
    |_=>exact ao.nil _ _
   ·cases d
  ·rw[I]at d;simp only[abv]at d|-;obtain⟨M,Z⟩:=sn d v;have e:=(dO (η:=η) t hd).1;simp only[aw,ad0]at e;simp only[ObA.v,tM];rw[C,<-e];exact ao.cons ⟨M,by simp_all⟩ (ao.nil _ _)
 have u:∀{b:Nat} {bl:List Nat} {bs:List (Nat×List Lf)},xP F (b::bl)=some bs->∃i cs f,bs=(i,cs)::f/\Mb F b=some (i,cs)/\xP F bl=some f:=by intro b bl bs h;simp only[xP]at h;grind
 intro ts;induction ts with
 | nil=>
  intro bl bs x l q n h hq;cases bs with
  |nil=>
   simp only[ahd,yS,no,acW]at h;obtain⟨_,rfl⟩:=h;exact⟨rfl,ao.nil _ _,λ_ _ _=>ao.nil _ _⟩
  |cons b bs=>simp[yS]at h
 | cons t ts S=>
  intro bl bs x l q n h hq;cases bl with
  |nil=>
   grind[xP,yS]
  | cons b bl=>
   obtain⟨i,cs,f,rfl,d,H⟩:=u n;simp only[aev,fZ,afR,abF]at hq;cases ts with
   | nil=>
    simp only[aev]at h;cases f with
    |cons _ _=>simp[yS]at h
    |nil=>
     simp only[ahd,yS]at h;split at h
     ·rename_i x' l' K hd;simp only[no,acW]at h;obtain⟨rfl,rfl⟩:=h;refine⟨by simp only[iC,eL t hd];omega,box _ rfl d hd hq.1,λy η' D=>?_⟩;simp only[vW,aii]at y;exact tO B v hd (l':=[]) (by grind) η' D
     ·cases h
   | cons J ts=>
    simp only[aev,yS]at h;split at h
    ·rename_i x1 o V x2 m hd A;simp only[no,acW]at h;obtain⟨rfl,rfl⟩:=h;obtain⟨n1,n2,T⟩:=S H A hq.2;have E:=eL t hd;have L:aT η (o++m)=aT η o++aT η m:=by simp[aT]
     have W:aO t (aT η (o++m))=aO t (aT η o):=by rw[L];exact dZ t _ _ (by simp[aT,E])
     have Y:(aT η (o++m)).drop t.nh=aT η m:=by grind[aT]
     have e:iC (t::J::ts)=t.nh+iC (J::ts):=rfl;refine⟨by grind,?_,λy η' D=>?_⟩
     ·grind[nE,nx,List.tail_cons,ao.append]
     ·rw[vW,abF]at y;simp only[mO,afo];refine(tO B v hd (l':=m) y.1 η' λq z R=>D q z (by grind)).append
       (T ?_ η' λq z R=>?_)
      ·grind
      grind
    ·cases h
theorem asf{g:Nat->Nat}(n:Gd g){F:List AF}{η:Vn}{w:World}{c:aS}(i:ao w c (F.map (AF.ha η))):∀{ts:List TC} {vs:List AV} {bl:List Nat} {bs:List (Nat×List Lf)} {x:eJ ts} {l:List Lf} {q:Nat},xP F bl=some bs->za F ts vs (bs.map (·.2))=some (x,l)->(fZ (bs.map (·.1)) q).all (λp=>Nat.beq (g p.1) p.2)=true ->
  (kU ts x (aT η l)).take vs.length=AV.vals η vs/\l.length=iC ts/\ao w (λb=>g (c b)) (nE ts x (aT η l) vs.length (bl.map λk=>(VT k).v η) q) /\
  ∀{ms:List RM} {j:Nat},vW g F ts ms l j=true->∀η':Vn,(∀(q:Nat) (a:Lf),l[q]?=some a->η'.h (j+q)=a.hd η)->ao w (λb=>g (c b)) ((mO ts x ms j).map (AF.ha η')):=by
 intro ts;induction ts with
 | nil=>
  intro vs bl bs x l q o h hq;cases vs with
  |nil=>
   simp only[za]at h;exact⟨rfl,VB n i o h hq⟩
  |cons v vs=>simp[za]at h
 | cons t ts M=>
  intro vs bl bs x l q o h hq;cases vs with
  |nil=>
   have h':yS F (t::ts) (bs.map (·.2))=some (x,l):=by cases ts<;>simpa only[za]using h
   obtain⟨n1,A,B⟩:=VB n i o h' hq;exact⟨rfl,n1,A,B⟩
  | cons v vs=>
   cases ts with
   | nil=>
    cases vs with
    |cons _ _=>simp[za]at h
    | nil=>
     cases bs with
     |cons _ _=>simp[za]at h
     |nil=>
      simp only[ahd,za]at h;split at h
      ·rename_i R l' K ha;simp only[no,acW]at h;obtain⟨rfl,rfl⟩:=h;obtain⟨C,D,J⟩:=wz (η:=η) (t:=t) ha;obtain⟨ls,r,hd⟩:=ac1 (t:=t) ha;refine⟨by simp only[kU,AV.vals,C];rfl,by simp only[iC,D];omega,ao.nil _ _,λm η' u=>?_⟩;simp only[vW,aii]at m;exact tO n i hd (l':=[]) (by grind) η' u
      ·cases h
   | cons E ts=>
    simp only[za]at h;split at h
    ·rename_i S f N T d ha s;simp only[no,acW]at h;obtain⟨rfl,rfl⟩:=h;obtain⟨C,D,J⟩:=wz (η:=η) ha;obtain⟨ls,r',hd⟩:=ac1 ha;obtain⟨Q,n1,A,B⟩:=M o s hq;have y:=eL t hd;have H:aT η (f++d)=aT η f++aT η d:=by simp[aT]
     have O:aO t (aT η (f++d))=aO t (aT η f):=by rw[H];exact dZ t _ _ (by simp[aT,y])
     have I:(aT η (f++d)).drop t.nh=aT η d:=by grind[aT]
     have e:iC (t::E::ts)=t.nh+iC (E::ts):=rfl;refine⟨?_,by grind,?_,λm η' u=>?_⟩
     ·grind[kU,AV.vals]
     ·simp only[nE,nx,tM,I,ae4,aeH,Nat.add_sub_cancel];exact A
     ·rw[vW,abF]at m;simp only[mO,afo];refine(tO n i hd (l':=d) m.1 η' λq z L=>u q z (by grind)).append
       (B ?_ η' λq z L=>?_)
      ·grind
      grind
    ·cases h
theorem W8{F:List AF}{p:Nat×Nat}:∀{ms:List RM} {ls:List Lf} {j:Nat},p∈pw F ms ls j->2<=p.2:=by
 intro ms;induction ms with
 |nil=>intro ls j h;simp[pw]at h
 | cons m ms b=>
  intro ls j h;cases ls with
  |nil=>simp[pw]at h
  | cons z ls=>
   cases z with
   |sl a=>
    simp only[pw,aef]at h;grind
   |mp a=>
    simp only[pw,aef]at h;grind
   |_=>exact b (by simpa only[pw]using h)
theorem aaZ{F:List AF}{p:Nat×Nat}:∀{ms:List RM} {ls:List Lf} {j:Nat},p∈sy F ms ls j->2<=p.2:=by
 intro ms;induction ms with
 |nil=>intro ls j h;simp[sy]at h
 | cons m ms a=>
  intro ls j h;cases ls with
  |nil=>simp[sy]at h
  | cons z ls=>
   cases z with
   |sl b=>
    simp only[sy,aef]at h;grind
   |_=>exact a (by simpa only[sy]using h)
theorem acm{p:Nat×Nat}:∀{l:List Nat} {q:Nat},2<=q->p∈fZ l q->2<=p.2:=by
 intro l;induction l with
 |nil=>intro q _ h;simp[fZ]at h
 |cons i r a=>
  grind[fZ]
theorem abA:∀(ps:List PC) (x:j7 ps) (l:List Hd),(mF ps x l).length=ps.length:=by
 intro ps;induction ps with
 |nil=>intro x l;rfl
 |cons t ts a=>
  intro x l;cases ts with
  |nil=>rfl
  |cons b ts=>simp only[mF,aeH,a]
end
end
end Go.Sm
