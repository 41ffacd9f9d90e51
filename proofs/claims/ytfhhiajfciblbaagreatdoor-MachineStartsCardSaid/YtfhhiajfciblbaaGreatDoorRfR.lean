/-
  The symbolic evaluator: functions. Nothing of a program is named here; no condition.
-/
import Derived.Test.YtfhhiajfciblbaaGreatDoorRfP
namespace Go.Sm
set_option linter.unusedSectionVars false
section
variable [X:XTab] [G:GTab]
def EN:(p:PC)→p.den→Nat→AV
 | .d t,x,n=>nP t x n
 | .own _ _,_,n=>.lf (.sl n)
 | .box _ _ _,_,n=>.lf (.bp n 0)
 | .fn f,_,_=>.lf (.fn f)
 | .clo f _,_,n=>.lf (.clo f n)
 | .prt _ _,_,n=>.lf (.sl (n+1))
def HT:(ps:List PC)→iS ps→Nat→List AV
 | [],_,_=>[]
 | [p],x,n=>[EN p x n]
 | p::p' :: r,x,n=>EN p x.1 n::HT (p' :: r) x.2 (n+p.nh)
def qc:(t:TC)→t.den→List (Option TypeId)→Nat→Nat→List AF
 | .pair a b,x,os,q,n=>qc a x.1 os q n++qc b x.2 (os.drop a.nh) (q+a.nh) (n+a.nh)
 | .slice t,xs,os,q,n=>match os with
  | some e::_=>[.own t e q [1] xs n]
  | _=>[.rep t [1] xs n]
 | .st a,x,os,q,n=>qc a x os q n
 | .sc _,_,_,_,_=>[]
 | .arr _ _,_,_,_,_=>[]
 | .unit,_,_,_,_=>[]
 | .ext _,_,_,_,_=>[]
 | .node,x,_,_,n=>[.rep .node [1] x.tup.2.2.2 n]
 | .mp k v,xs,os,q,n=>match os with
  | some _::_=>[.mp k v q xs n]
  | _=>[]
def yl:(p:PC)→p.den→Nat→Nat→List AF
 | .d t,x,_,n=>qu t x [1] n
 | .own t e,xs,q,n=>[.own t e q [1] xs n]
 | .box m t os,x,q,n=>.box (bif m then q else 1) n (gS t x (n+1))::qc t x (bif m then os else []) (q+1) (n+1)
 | .fn _,_,_,_=>[]
 | .clo _ t,x,q,n=>.box 1 n (gS t x (n+1))::qc t x [] (q+1) (n+1)
 | .prt t e,x,q,n=>[.own t e q [1] x.1 n, .prt (n+1) n t.ty.sz x.2.1 x.2.2]
def zz:(ps:List PC)→iS ps→Nat→Nat→List AF
 | [],_,_,_=>[]
 | [p],x,q,n=>yl p x q n
 | p::p' :: r,x,q,n=>yl p x.1 q n++zz (p' :: r) x.2 (q+p.nc) (n+p.nh)
def tm:List AV→Nat→SE
 | [],_=>[]
 | v::r,i=>(i,v)::tm r (i+1)
def abG (xf:List AF) (ps:List PC) (x:iS ps):SS:=⟨tm (HT ps x 0) 0,zz ps x 2 0++xf,64,256,[]⟩
def pZ (Θ:Tb) (E:SE) (F:List AF):List ResultVar→Option (List AV)
 | []=>some []
 | .tmp t::r=>match bL E t,pZ Θ E F r with
  | some v,some vs=>some (v::vs)
  | _,_=>none
 | .cell x t::r=>match bL E x,Θ t,pZ Θ E F r with
  | some (.lf (.bp b 0)),some i,some vs=>match ja b F with
   | some (_,cs)=>match kU cs i.sz with
    | some (_,[])=>match Ca i.d.agg cs with
     | some v=>some (v::vs)
     | none=>none
    | _=>none
   | none=>none
  | _,_,_=>none
def lK (F:List AF):List RM→List Lf→Nat→List (Nat×Nat)
 | m::ms, .sl h::ls,j=>(match m.own with
  | some _=>xh F (.sl h) |>.map fun i=>(i,2+2 * j)
  | none=>[])++lK F ms ls (j+1)
 | m::ms, .mp h::ls,j=>(match m.own with
  | some _=>xh F (.mp h) |>.map fun i=>(i,2+2 * j)
  | none=>[])++lK F ms ls (j+1)
 | _::ms,_::ls,j=>lK F ms ls (j+1)
 | _,_,_=>[]
def nV (F:List AF):List RM→List Lf→Nat→List (Nat×Nat)
 | _::ms, .sl h::ls,j=>(zC F (.sl h)).map (fun k=>(k,129))++nV F ms ls (j+1)
 | _::ms,_::ls,j=>nV F ms ls (j+1)
 | _,_,_=>[]
def VC (g:Nat→Nat) (F:List AF) (t:TC) (m:RM) (l:Lf) (j:Nat):Bool:=match m.own,l with
 | _, .nl=>true
 | some e, .sl h=>bif Nat.ble 4194304 e && !(ep e) then true else match eN t e 0 F (.sl h) with
  | some (i,K,_)=>Nat.beq (g i) (2+2 * j)&&(t.ty.pureB||ep e||sub (K.map g) (m.K 129))
  | none=>false
 | none, .sl h=>match gb t F (.sl h) with
  | some s=>sub (s.all.map g) (m.K 129)
  | none=>false
 | _,_=>false
def rZ (g:Nat→Nat) (F:List AF):TC→List RM→List Lf→Nat→Bool
 | .pair a b,ms,ls,j=>rZ g F a ms ls j&&rZ g F b (ms.drop a.nh) (ls.drop a.nh) (j+a.nh)
 | .slice t,m::_,l::_,j=>VC g F t m l j
 | .slice _,_,_,_=>false
 | .st a,ms,ls,j=>rZ g F a ms ls j
 | .mp k v,m::_, .mp h::_,j=>match m.own with
  | some _=>(match rd k v h F with
   | some s=>Nat.beq (g s.i) (2+2 * j)
   | none=>false)
  | none=>true
 | .mp _ _,m::_,_,_=>m.own.isNone
 | _,_,_,_=>true
def qv (g:Nat→Nat) (F:List AF):List TC→List RM→List Lf→Nat→Bool
 | [],_,_,_=>true
 | t::r,ms,ls,j=>rZ g F t ms ls j&&qv g F r (ms.drop t.nh) (ls.drop t.nh) (j+t.nh)
def o0 (h:Nat) (e:TypeId):List AF→Option Nat
 | []=>none
 | .own _ e' i _ _ h' :: r=>bif Nat.beq h h' then (bif Nat.beq e e' then some i else none) else o0 h e r
 | .rep _ _ _ h' :: r=>bif Nat.beq h h' then none else o0 h e r
 | .box _ _ _::r=>o0 h e r
 | .isn _ _::r=>o0 h e r
 | .prt _ _ _ _ _::r=>o0 h e r
 | .hol _ _ _ _ _ _ _::r=>o0 h e r
 | .mp _ _ _ _ _::r=>o0 h e r
 | .pt _ _ _ _ _ _ _::r=>o0 h e r
def Jh (k:Nat):ObA:=bif Nat.blt k 64 then .b k else .r (k % 64) (k / 64 - 1)
def Dm (F:List AF) (k:Nat):Option (Nat×List Lf):=bif Nat.blt k 64 then ja k F else match o0 (k % 64) (k / 64 - 1) F with
 | some i=>some (i,[.sl (k % 64)])
 | none=>none
def sj (F:List AF):List Nat→Option (List (Nat×List Lf))
 | []=>some []
 | b::r=>match Dm F b,sj F r with
  | some (i,cs),some vs=>some ((i,cs)::vs)
  | _,_=>none
theorem kQ {t:TC} {h:Nat} {e:TypeId} : ∀ {F:List AF} {i:Nat} {s:SI t},o0 h e F=some i→kq t h F=some s→s.own=some (e,i)
 | [],_,_,h1,_=>by simp [o0] at h1
 | .own t' e' i' K xs h' :: r,i,s,h1,h2=>by
  simp only [o0] at h1
  simp only [kq] at h2
  cases hb:Nat.beq h h'
  ·rw [hb] at h1 h2; exact kQ h1 h2
  ·rw [hb] at h1 h2
   simp only [cond_true] at h1 h2
   cases he:Nat.beq e e'
   ·rw [he] at h1; cases h1
   ·rw [he] at h1
    simp only [cond_true,Option.some.injEq] at h1
    split at h2
    ·simp only [Option.some.injEq] at h2
     subst h2
     rw [Nat.eq_of_beq_eq_true he,h1]
    ·cases h2
 | .rep _ _ _ h' :: r,i,s,h1,h2=>by
  simp only [o0] at h1
  simp only [kq] at h2
  cases hb:Nat.beq h h'
  ·rw [hb] at h1 h2; exact kQ h1 h2
  ·rw [hb] at h1; cases h1
 | .box _ _ _::r,_,_,h1,h2=>kQ (F:=r) h1 h2
 | .isn _ _::r,_,_,h1,h2=>kQ (F:=r) h1 h2
 | .prt _ _ _ _ _::r,_,_,h1,h2=>kQ (F:=r) h1 h2
 | .hol _ _ _ _ _ _ _::r,_,_,h1,h2=>kQ (F:=r) h1 h2
 | .mp _ _ _ _ _::r,_,_,h1,h2=>kQ (F:=r) h1 h2
 | .pt _ _ _ _ _ _ _::r,_,_,h1,h2=>kQ (F:=r) h1 h2
def tg (F:List AF):(ts:List TC)→List (List Lf)→Option (dR ts×List Lf)
 | [],[]=>some ((),[])
 | [t],[cs]=>match bH F t cs with
  | some (x,l,_,[])=>some (x,l)
  | _=>none
 | t::t' :: r,cs::vs=>match bH F t cs,tg F (t' :: r) vs with
  | some (x,l,_,[]),some (y,l')=>some ((x,y),l++l')
  | _,_=>none
 | _,_=>none
def tk (F:List AF):(ts:List TC)→List AV→List (List Lf)→Option (dR ts×List Lf)
 | ts,[],bs=>tg F ts bs
 | [t],[v],[]=>match nu F t v with
  | some (x,l,_)=>some (x,l)
  | none=>none
 | t::t' :: r,v::vs,bs=>match nu F t v,tk F (t' :: r) vs bs with
  | some (x,l,_),some (y,l')=>some ((x,y),l++l')
  | _,_=>none
 | _,_,_=>none
def e9:List Nat→Nat→List (Nat×Nat)
 | [],_=>[]
 | i::r,c=>(i,c)::e9 r (c+1)
def MK (Θ:Tb) (fn:Func) (C:Sig) (S:SS):Option (dR C.rs):=match pZ Θ S.E S.F fn.results.toList,sj S.F C.bl with
 | some vs,some bs=>match tk S.F C.rs vs (bs.map (·.2)) with
  | some (x,l)=>
   let cm:=(e9 (bs.map (·.1)) 130++(lK S.F C.ms l 0++nV S.F C.ms l 0)).filter fun p=>Nat.ble 2 p.1
   bif qv (nM cm 2) S.F C.rs C.ms l 0&&Nat.beq C.ms.length l.length&&Nat.beq vs.length C.nr&&(e9 (bs.map (·.1)) 130).all (fun p=>Nat.beq (nM cm 2 p.1) p.2) then some x else none
  | none=>none
 | _,_=>none
def sZ [Itr] (xf:List AF) (C:Cx) (fn:Func) (an:An) (sg:Sig) (x:iS sg.ps):Option (dR sg.rs):=match fn.body with
 | some cd=>my (C.at 64) fn.ntmps cd (dR sg.rs) an [] [] (abG xf sg.ps x) ⟨MK C.Θ fn sg,MK C.Θ fn sg,fun _ _=>none⟩
 | none=>none
def aJ [Itr] (C:Cx) (fn:Func) (an:An) (sg:Sig) (x:iS sg.ps):Option (dR sg.rs):=sZ [] C fn an sg x
section
variable {P:Program}
theorem wV {K:List Nat} {η:Vn} : ∀ (t:TC) (x:t.den) (l:List Hd) (n:Nat),gx η n l→t.nh≤l.length→(qu t x K n).map (AF.ha η)=facts t.ty K x (aI t l)
 | .sc _,_,_,_,_,_=>rfl
 | .arr _ _,_,_,_,_,_=>rfl
 | .unit,_,_,_,_,_=>rfl
 | .pair a b,x,l,n,h,hl=>by
  simp only [TC.nh] at hl
  simp only [qu,List.map_append,facts,aI]
  rw [wV a x.1 l n h (by omega),wV b x.2 (l.drop a.nh) (n+a.nh) (fun j hh hj=>by
   rw [List.getElem?_drop] at hj
   have:=h _ hh hj
   rwa [show n+a.nh+j=n+(a.nh+j) by omega]) (by simp; omega)]
 | .slice _,x,l,n,h,hl=>by
  simp only [TC.nh] at hl
  cases l with
  | nil=>simp at hl
  | cons hd r=>
   have:=h 0 hd rfl
   simp only [Nat.add_zero] at this
   simp [qu,AF.ha,facts,aI,this]
 | .st a,x,l,n,h,hl=>wV a x l n h hl
 | .ext _,_,_,_,_,_=>rfl
 | .node,x,l,n,h,hl=>by
  simp only [TC.nh] at hl
  cases l with
  | nil=>simp at hl
  | cons hd r=>
   have:=h 0 hd rfl
   simp only [Nat.add_zero] at this
   simp [qu,AF.ha,facts,aI,this]
 | .mp _ _,_,_,_,_,_=>rfl
theorem tC {η:Vn} : ∀ (t:TC) (x:t.den) (os:List (Option TypeId)) (q:Nat) (l:List Hd) (n:Nat),gx η n l→t.nh≤l.length→(qc t x os q n).map (AF.ha η)=gw t x (aI t l) os q
 | .sc _,_,_,_,_,_,_,_=>rfl
 | .arr _ _,_,_,_,_,_,_,_=>rfl
 | .unit,_,_,_,_,_,_,_=>rfl
 | .pair a b,x,os,q,l,n,h,hl=>by
  simp only [TC.nh] at hl
  simp only [qc,List.map_append,gw,aI]
  rw [tC a x.1 os q l n h (by omega),tC b x.2 (os.drop a.nh) (q+a.nh) (l.drop a.nh) (n+a.nh) (fun j hh hj=>by
   rw [List.getElem?_drop] at hj
   have:=h _ hh hj
   rwa [show n+a.nh+j=n+(a.nh+j) by omega]) (by simp; omega)]
 | .slice _,x,os,q,l,n,h,hl=>by
  simp only [TC.nh] at hl
  cases l with
  | nil=>simp at hl
  | cons hd r=>
   have:=h 0 hd rfl
   simp only [Nat.add_zero] at this
   cases os with
   | nil=>simp [qc,AF.ha,gw,aI,this]
   | cons o os=>cases o <;> simp [qc,AF.ha,gw,aI,this]
 | .st a,x,os,q,l,n,h,hl=>tC a x os q l n h hl
 | .ext _,_,_,_,_,_,_,_=>rfl
 | .node,x,os,q,l,n,h,hl=>by
  simp only [TC.nh] at hl
  cases l with
  | nil=>simp at hl
  | cons hd r=>
   have:=h 0 hd rfl
   simp only [Nat.add_zero] at this
   simp [qc,AF.ha,gw,aI,this]
 | .mp _ _,x,os,q,l,n,h,hl=>by
  simp only [TC.nh] at hl
  cases l with
  | nil=>simp at hl
  | cons hd r=>
   have:=h 0 hd rfl
   simp only [Nat.add_zero] at this
   cases os with
   | nil=>simp [qc,gw]
   | cons o os=>cases o <;> simp [qc,AF.ha,gw,aI,this]
theorem Ke {η:Vn} : ∀ (p:PC) (x:p.den) (l:List Hd) (n:Nat),gx η n l→(∀ j h,l[j]? = some h→η.b (n+j)=h.blk)→p.nh≤l.length→(EN p x n).val η=p.val x l
 | .d t,x,l,n,h,_,hl=>vH t x l n h hl
 | .own _ _,_,[],_,_,_,hl=>by simp [PC.nh] at hl
 | .own _ _,_,hd::r,n,h,_,_=>by
  have:=h 0 hd rfl
  simp only [Nat.add_zero] at this
  simp [EN,PC.val,AV.val,Lf.val,this]
 | .box _ _ _,_,[],_,_,_,hl=>by simp [PC.nh] at hl
 | .box _ _ _,_,hd::r,n,_,hb,_=>by
  have:=hb 0 hd rfl
  simp only [Nat.add_zero] at this
  simp [EN,PC.val,AV.val,Lf.val,this]
 | .fn _,_,_,_,_,_,_=>rfl
 | .clo _ _,_,[],_,_,_,hl=>by simp [PC.nh] at hl
 | .clo _ _,_,hd::r,n,_,hb,_=>by
  have:=hb 0 hd rfl
  simp only [Nat.add_zero] at this
  simp [EN,PC.val,AV.val,Lf.val,this]
 | .prt _ _,_,[],_,_,_,hl=>by simp [PC.nh] at hl
 | .prt _ _,_,[_],_,_,_,hl=>by simp [PC.nh] at hl
 | .prt _ _,_,_::hd::r,n,h,_,_=>by
  have:=h 1 hd rfl
  simp [EN,PC.val,AV.val,Lf.val,this]
theorem gx.tail {η:Vn} {n k:Nat} {l:List Hd} (h:gx η n l):gx η (n+k) (l.drop k):=fun j hh hj=>by
 rw [List.getElem?_drop] at hj
 have:=h _ hh hj
 rwa [show n+k+j=n+(k+j) by omega]
theorem KH {η:Vn} : ∀ (p:PC) (x:p.den) (q:Nat) (l:List Hd) (n:Nat),gx η n l→(∀ j h,l[j]? = some h→η.b (n+j)=h.blk)→p.nh≤l.length→(yl p x q n).map (AF.ha η)=p.facts x l q
 | .d t,x,q,l,n,h,_,hl=>wV t x l n h hl
 | .own _ _,_,_,[],_,_,_,hl=>by simp [PC.nh] at hl
 | .own _ _,_,_,hd::r,n,h,_,_=>by
  have:=h 0 hd rfl
  simp only [Nat.add_zero] at this
  simp [yl,PC.facts,AF.ha,this]
 | .box _ _ _,_,_,[],_,_,_,hl=>by simp [PC.nh] at hl
 | .box m t os,x,q,hd::r,n,h,hb,hl=>by
  have:=hb 0 hd rfl
  simp only [Nat.add_zero] at this
  have hr:gx η (n+1) r:=h.tail (k:=1)
  have hlr:t.nh≤r.length:=by simp [PC.nh] at hl; omega
  simp only [yl,PC.facts,List.map_cons,AF.ha,this,List.headD_cons,List.drop_succ_cons,List.drop_zero,gE t x r (n+1) hr hlr,tC t x _ _ r (n+1) hr hlr]
 | .fn _,_,_,_,_,_,_,_=>rfl
 | .clo _ _,_,_,[],_,_,_,hl=>by simp [PC.nh] at hl
 | .clo _ t,x,q,hd::r,n,h,hb,hl=>by
  have:=hb 0 hd rfl
  simp only [Nat.add_zero] at this
  have hr:gx η (n+1) r:=h.tail (k:=1)
  have hlr:t.nh≤r.length:=by simp [PC.nh] at hl; omega
  simp only [yl,PC.facts,List.map_cons,AF.ha,this,List.headD_cons,List.drop_succ_cons,List.drop_zero,gE t x r (n+1) hr hlr,tC t x _ _ r (n+1) hr hlr]
 | .prt _ _,_,_,[],_,_,_,hl=>by simp [PC.nh] at hl
 | .prt _ _,_,_,[_],_,_,_,hl=>by simp [PC.nh] at hl
 | .prt _ _,_,_,h0::h1::r,n,h,_,_=>by
  have e0:=h 0 h0 rfl
  have e1:=h 1 h1 rfl
  simp only [Nat.add_zero] at e0
  simp [yl,PC.facts,AF.ha,e0,e1]
theorem J3 {η:Vn} : ∀ (ps:List PC) (x:iS ps) (q:Nat) (l:List Hd) (n:Nat),gx η n l→(∀ j h,l[j]? = some h→η.b (n+j)=h.blk)→oM ps≤l.length →
  AV.vals η (HT ps x n)=ka ps x l∧(zz ps x q n).map (AF.ha η)=mJ ps x l q
 | [],_,_,_,_,_,_,_=>⟨rfl,rfl⟩
 | [p],x,q,l,n,h,hb,hl=>by
  simp only [oM,Nat.add_zero] at hl
  exact ⟨by simp only [HT,AV.vals,ka,Ke p x l n h hb hl],KH p x q l n h hb hl⟩
 | p::p' :: r,x,q,l,n,h,hb,hl=>by
  have e:oM (p::p' :: r)=p.nh+oM (p' :: r):=rfl
  obtain ⟨h1,h2⟩:=J3 (p' :: r) x.2 (q+p.nc) (l.drop p.nh) (n+p.nh) h.tail (fun j hh hj=>by
   rw [List.getElem?_drop] at hj
   have:=hb _ hh hj
   rwa [show n+p.nh+j=n+(p.nh+j) by omega]) (by simp only [List.length_drop]; omega)
  refine ⟨?_,?_⟩
  ·simp only [HT,AV.vals,ka,h1,Ke p x.1 l n h hb (by omega)]
  ·simp only [zz,List.map_append,mJ,h2,KH p x.1 q l n h hb (by omega)]
theorem wi {η:Vn} : ∀ {vs:List AV} {i t:Nat} {v:AV},bL (tm vs i) t=some v→∃ j,t=i+j∧(AV.vals η vs)[j]? = some (v.val η)
 | [],_,_,_,h=>by simp [tm,bL] at h
 | u::r,i,t,v,h=>by
  simp only [tm,bL] at h
  cases hb:Nat.beq t i
  ·rw [hb] at h
   obtain ⟨j,h1,h2⟩:=wi (η:=η) h
   exact ⟨j+1,by omega,by simpa [AV.vals] using h2⟩
  ·rw [hb] at h
   simp only [cond_true,Option.some.injEq] at h
   subst h
   exact ⟨0,by have:=Nat.eq_of_beq_eq_true hb; omega,by simp [AV.vals]⟩
theorem wS {Θ:Tb} (hΘ:Θ.ok P) {η:Vn} {ρ:cF} {E:SE} {F:List AF} (hE:kH η ρ E) : ∀ {l:List ResultVar} {vs:List AV},pZ Θ E F l=some vs→Np P ρ (F.map (AF.ha η)) l (AV.vals η vs)
 | [],vs,h=>by simp only [pZ,Option.some.injEq] at h; subst h; exact trivial
 | .tmp t::r,vs,h=>by
  simp only [pZ] at h
  split at h
  ·rename_i v vs' h1 h2
   simp only [Option.some.injEq] at h
   subst h
   exact ⟨adm (hE t v h1),wS hΘ hE h2⟩
  ·cases h
 | .cell x t::r,vs,h=>by
  simp only [pZ] at h
  split at h
  ·rename_i b i vs' h1 hi h2
   split at h
   ·rename_i ci cs hb
    split at h
    ·rename_i q hc
     split at h
     ·rename_i v hv
      simp only [Option.some.injEq] at h
      subst h
      refine ⟨?_,wS hΘ hE h2⟩
      obtain ⟨g1,g2,_,_⟩:=hΘ t i hi
      obtain ⟨td,ht,hd⟩:=kY g2
      obtain ⟨k,hk⟩:=kz (eP hb) η
      obtain ⟨e2,l3⟩:=il hc
      rw [List.append_nil] at e2
      subst e2
      have hxv:ρ x = .pointer (some ⟨η.b b,0,none⟩):=hE x _ h1
      cases hag:i.d.agg
      ·rw [hag] at hv hd
       obtain ⟨l,rfl,rfl,hl1⟩:=wN hv η
       refine UR k hk ht hd hxv ?_
       simp [aq,hl1]
      ·rw [hag] at hv hd
       rw [w8 hv η]
       exact SY k hk ht hd g1 hxv (by simp [l3 η])
     ·cases h
    ·cases h
   ·cases h
  ·cases h
theorem oT {g:Nat→Nat} (hg:Gd g) {F:List AF} {η:Vn} {w:World} {c:bd} (hF:ai w c (F.map (AF.ha η))) : ∀ {t:TC} {ls:List Lf} {x:t.den} {l:List Lf} {K:List Nat} {r:List Lf} {ms:List RM} {j:Nat} {l' : List Lf},bH F t ls=some (x,l,K,r)→rZ g F t ms (l++l') j=true →
  ∀ η' : Vn,(∀ (q:Nat) (a:Lf),l[q]? = some a→η'.h (j+q)=a.hd η)→ai w (fun b=>g (c b)) ((fg t x ms j).map (AF.ha η'))
 | .sc _,_,_,_,_,_,_,_,_,_,_,_,_=>ai.nil _ _
 | .arr _ _,_,_,_,_,_,_,_,_,_,_,_,_=>ai.nil _ _
 | .unit,_,_,_,_,_,_,_,_,_,_,_,_=>ai.nil _ _
 | .ext _,_,_,_,_,_,_,_,_,_,_,_,_=>ai.nil _ _
 | .node,_,_,_,_,_,_,_,_,_,_,_,_=>ai.nil _ _
 | .mp k v,[],_,_,_,_,_,_,_,h,_,_,_=>by simp [bH] at h
 | .mp k v,a::ls,x,l,K,r,ms,j,l',h,hc,η',hn=>by
  cases a with
  | mp hh=>
   simp only [bH,Option.some.injEq,Prod.mk.injEq] at h
   obtain ⟨rfl,rfl,rfl,rfl⟩:=h
   cases ms with
   | nil=>exact ai.nil _ _
   | cons m ms=>
    have hna:=hn 0 (.mp hh) rfl
    rw [Nat.add_zero] at hna
    simp only [List.cons_append,rZ] at hc
    simp only [fg]
    cases ho:m.own with
    | none=>exact ai.nil _ _
    | some e=>
     simp only [ho] at hc
     cases hs:rd k v hh F with
     | none=>rw [hs] at hc; cases hc
     | some s=>
      simp only [hs] at hc ⊢
      refine ai.cons ?_ (ai.nil _ _)
      have h3:=HA.ren_holds hg _ (hF _ (List.mem_map.2 ⟨_,gT hs,rfl⟩))
      simp only [AF.ha,HA.ren] at h3 ⊢
      rw [Nat.eq_of_beq_eq_true hc] at h3
      rw [hna]
      exact h3
  | _=>simp [bH] at h
 | .st a,_,_,_,_,_,_,_,_,h,hc,η',hn=>oT hg hF (t:=a) h hc η' hn
 | .slice t,[],_,_,_,_,_,_,_,h,_,_,_=>by simp [bH] at h
 | .slice t,a::ls,x,l,K,r,ms,j,l',h,hc,η',hn=>by
  simp only [bH] at h
  split at h
  ·rename_i s hs
   simp only [Option.some.injEq,Prod.mk.injEq] at h
   obtain ⟨rfl,rfl,rfl,rfl⟩:=h
   cases ms with
   | nil=>exact ai.nil _ _
   | cons m ms=>
    have hna:=hn 0 a rfl
    rw [Nat.add_zero] at hna
    simp only [List.cons_append,rZ,VC] at hc
    simp only [fg]
    cases ho:m.own with
    | none=>
     simp only [ho] at hc
     refine ai.cons ?_ (ai.nil _ _)
     simp only [AF.ha,hna]
     cases a with
     | sl h=>
      simp only [hs] at hc
      exact P8 hg (iN hs hF) hc
     | nl=>
      simp only [gb,Option.some.injEq] at hs
      subst hs
      exact oW _ _
     | _=>simp [gb] at hs
    | some e=>
     cases hsen:(Nat.ble 4194304 e && !(ep e))
     rotate_left
     ·simp only [hsen,cond_true]; exact ai.nil _ _
     simp only [ho] at hc
     simp only [hsen,cond_false]
     refine ai.cons ?_ (ai.nil _ _)
     simp only [AF.ha,hna]
     cases a with
     | sl h=>
      simp only [hsen,cond_false] at hc
      split at hc
      ·rename_i i K' xs hoi
       simp only [Bool.and_eq_true,Bool.or_eq_true] at hc
       have hxs:xs=s.xs:=by
        simp only [gb] at hs
        simp only [eN,hs] at hoi
        split at hoi
        ·rename_i e' i' K2 xs2 heq
         simp only [Option.some.injEq] at heq
         cases hb:Nat.beq e e'
         ·rw [hb] at hoi; cases hoi
         ·rw [hb] at hoi
          simp only [cond_true,Option.some.injEq,Prod.mk.injEq] at hoi
          rw [heq]; exact hoi.2.2.symm
        ·cases hoi
       rw [← hxs]
       exact y4 hg (eC hoi hF) (Nat.eq_of_beq_eq_true hc.1) hc.2
      ·cases hc
     | nl=>
      simp only [gb,Option.some.injEq] at hs
      subst hs
      exact pE _ _
     | _=>simp [gb] at hs
  ·cases h
 | .pair a b,ls,x,l,K,r,ms,j,l',h,hc,η',hn=>by
  simp only [bH] at h
  split at h
  ·rename_i x1 l1 K1 r1 h1
   split at h
   ·rename_i x2 l2 K2 r2 h2
    simp only [Option.some.injEq,Prod.mk.injEq] at h
    obtain ⟨rfl,rfl,rfl,rfl⟩:=h
    simp only [rZ,Bool.and_eq_true] at hc
    have hn1:=dM a h1
    simp only [fg,List.map_append]
    refine (oT hg hF h1 (l' := l2++l') (by rw [← List.append_assoc]; exact hc.1) η' fun q z hz=>hn q z (by rw [List.getElem?_append_left (List.getElem?_eq_some_iff.1 hz).1]; exact hz)).append
     (oT hg hF h2 (l' := l') ?_ η' fun q z hz=>?_)
    ·have:(l1++l2++l').drop a.nh=l2++l' := by
      rw [List.append_assoc,List.drop_append,List.drop_eq_nil_of_le (by omega),show a.nh - l1.length=0 by omega]; rfl
     rw [← this]; exact hc.2
    ·have:=hn (a.nh+q) z (by rw [List.getElem?_append_right (by omega)]; rw [show a.nh+q - l1.length=q by omega]; exact hz)
     rwa [show j+a.nh+q=j+(a.nh+q) by omega]
   ·cases h
  ·cases h
end
end
end Go.Sm
namespace Go.Sm
set_option linter.unusedSectionVars false
section
variable [X:XTab] [G:GTab]
section
variable {P:Program}
theorem Qh {F:List AF} {t:TC} {v:AV} {x:t.den} {l:List Lf} {K:List Nat} (h:nu F t v=some (x,l,K)) : ∃ ls r,bH F t ls=some (x,l,K,r):=by
 cases v with
 | tu _=>cases h
 | ag ls=>
  simp only [nu] at h
  cases ha:t.aggT
  ·rw [ha] at h; cases h
  ·rw [ha] at h
   simp only [cond_true] at h
   split at h
   ·rename_i x' l' K' hd
    simp only [Option.some.injEq,Prod.mk.injEq] at h
    obtain ⟨rfl,rfl,rfl⟩:=h
    exact ⟨_,_,hd⟩
   ·cases h
 | lf lf=>
  simp only [nu] at h
  cases ha:(t.aggT==lf.isAr)
  ·rw [ha] at h; cases h
  ·rw [ha] at h
   simp only [cond_true] at h
   split at h
   ·rename_i x' l' K' hd
    simp only [Option.some.injEq,Prod.mk.injEq] at h
    obtain ⟨rfl,rfl,rfl⟩:=h
    exact ⟨_,_,hd⟩
   ·cases h
theorem JI {g:Nat→Nat} (hg:Gd g) {F:List AF} {η:Vn} {w:World} {c:bd} (hF:ai w c (F.map (AF.ha η))) : ∀ {ts:List TC} {bl:List Nat} {bs:List (Nat×List Lf)} {x:dR ts} {l:List Lf} {q:Nat},sj F bl=some bs→tg F ts (bs.map (·.2))=some (x,l)→(e9 (bs.map (·.1)) q).all (fun p=>Nat.beq (g p.1) p.2)=true →
  l.length=gL ts∧ai w (fun b=>g (c b)) (ni ts x (aL η l) 0 (bl.map fun k=>(Jh k).v η) q) ∧
  ∀ {ms:List RM} {j:Nat},qv g F ts ms l j=true→∀ η' : Vn,(∀ (q:Nat) (a:Lf),l[q]? = some a→η'.h (j+q)=a.hd η)→ai w (fun b=>g (c b)) ((mF ts x ms j).map (AF.ha η')):=by
 have box : ∀ {t:TC} {b i q:Nat} {cs l:List Lf} {x:t.den} {K:List Nat} {r:List ObH} (l' : List Hd),aI t l' = aI t (aL η l)→Dm F b=some (i,cs)→bH F t cs=some (x,l,K,[])→Nat.beq (g i) q=true→ai w (fun b=>g (c b)) (nY t x l' 0 ((Jh b).v η::r) q):=by
  intro t b i q cs l x K r l' hl' hb hd hq
  unfold Dm at hb
  unfold Jh
  cases hk:Nat.blt b 64
  ·rw [hk] at hb
   simp only [cond_false] at hb ⊢
   split at hb
   ·rename_i i' hr
    simp only [Option.some.injEq,Prod.mk.injEq] at hb
    obtain ⟨rfl,rfl⟩:=hb
    simp only [ObA.v,nY]
    cases t with
    | slice t=>
     simp only [uo]
     cases hp:(t.ty.pureB||ep (b / 64 - 1))
     ·exact ai.nil _ _
     ·simp only [bH,gb] at hd
      split at hd
      ·rename_i s hs
       simp only [Option.some.injEq,Prod.mk.injEq] at hd
       obtain ⟨rfl,rfl,rfl,_⟩:=hd
       have ho:=kQ hr hs
       have hm:=hF _ (List.mem_map.2 ⟨_,fm hs,rfl⟩)
       obtain ⟨own,K',xs⟩:=s
       simp only at ho
       subst ho
       refine ai.cons ?_ (ai.nil _ _)
       exact y4 hg hm (Nat.eq_of_beq_eq_true hq) (.inl (by simpa using hp))
      ·cases hd
    | _=>exact ai.nil _ _
   ·cases hb
  ·rw [hk] at hb
   simp only [cond_true] at hb ⊢
   obtain ⟨h1,h2⟩:=uV hb hF
   have e:=(cY (η:=η) t hd).1
   simp only [aq,List.append_nil] at e
   simp only [ObA.v,nY]
   rw [hl',← e]
   exact ai.cons ⟨h1,by show g (c _)=q; rw [h2]; exact Nat.eq_of_beq_eq_true hq⟩ (ai.nil _ _)
 have outs : ∀ {b:Nat} {bl:List Nat} {bs:List (Nat×List Lf)},sj F (b::bl)=some bs→∃ i cs bs',bs=(i,cs)::bs' ∧ Dm F b=some (i,cs)∧sj F bl=some bs' := by
  intro b bl bs h
  simp only [sj] at h
  split at h
  ·rename_i i cs vs h1 h2
   simp only [Option.some.injEq] at h
   exact ⟨i,cs,vs,h.symm,h1,h2⟩
  ·cases h
 intro ts
 induction ts with
 | nil=>
  intro bl bs x l q ho h hq
  cases bs with
  | nil=>
   simp only [List.map_nil,tg,Option.some.injEq,Prod.mk.injEq] at h
   obtain ⟨_,rfl⟩:=h
   exact ⟨rfl,ai.nil _ _,fun _ _ _=>ai.nil _ _⟩
  | cons b bs=>simp [tg] at h
 | cons t ts ih=>
  intro bl bs x l q ho h hq
  cases bl with
  | nil=>
   simp only [sj,Option.some.injEq] at ho
   subst ho
   cases ts <;> simp [tg] at h
  | cons b bl=>
   obtain ⟨i,cs,bs',rfl,hb,ho'⟩:=outs ho
   simp only [List.map_cons,e9,List.all_cons,Bool.and_eq_true] at hq
   cases ts with
   | nil=>
    simp only [List.map_cons] at h
    cases bs' with
    | cons _ _=>simp [tg] at h
    | nil=>
     simp only [List.map_nil,tg] at h
     split at h
     ·rename_i x' l' K hd
      simp only [Option.some.injEq,Prod.mk.injEq] at h
      obtain ⟨rfl,rfl⟩:=h
      refine ⟨by simp only [gL,dM t hd]; omega,box _ rfl hb hd hq.1,fun hc η' hn=>?_⟩
      simp only [qv,Bool.and_true] at hc
      exact oT hg hF hd (l' := []) (by rw [List.append_nil]; exact hc) η' hn
     ·cases h
   | cons t' ts=>
    simp only [List.map_cons,tg] at h
    split at h
    ·rename_i x1 l1 K1 x2 l2 hd hds
     simp only [Option.some.injEq,Prod.mk.injEq] at h
     obtain ⟨rfl,rfl⟩:=h
     obtain ⟨n1,n2,n3⟩:=ih ho' hds hq.2
     have hn1:=dM t hd
     have e0:aL η (l1++l2)=aL η l1++aL η l2:=by simp [aL]
     have e1:aI t (aL η (l1++l2))=aI t (aL η l1):=by rw [e0]; exact dl t _ _ (by simp [aL,hn1])
     have e2:(aL η (l1++l2)).drop t.nh=aL η l2:=by
      rw [e0,List.drop_append,List.drop_eq_nil_of_le (by simp [aL,hn1]),show t.nh - (aL η l1).length=0 by simp [aL,hn1]]
      rfl
     have e:gL (t::t' :: ts)=t.nh+gL (t' :: ts):=rfl
     refine ⟨by simp only [List.length_append]; omega,?_,fun hc η' hn=>?_⟩
     ·simp only [ni,nx,List.map_cons,List.tail_cons,e2]
      exact ai.append (box _ e1 hb hd hq.1) n2
     ·rw [qv,Bool.and_eq_true] at hc
      simp only [mF,List.map_append]
      refine (oT hg hF hd (l' := l2) hc.1 η' fun q z hz=>hn q z (by rw [List.getElem?_append_left (List.getElem?_eq_some_iff.1 hz).1]; exact hz)).append
       (n3 ?_ η' fun q z hz=>?_)
      ·have:(l1++l2).drop t.nh=l2:=by
        rw [List.drop_append,List.drop_eq_nil_of_le (by omega),show t.nh - l1.length=0 by omega]; rfl
       rw [this] at hc; exact hc.2
      ·have:=hn (t.nh+q) z (by rw [List.getElem?_append_right (by omega)]; rw [show t.nh+q - l1.length=q by omega]; exact hz)
       rw [Nat.add_assoc]; exact this
    ·cases h
theorem YE {g:Nat→Nat} (hg:Gd g) {F:List AF} {η:Vn} {w:World} {c:bd} (hF:ai w c (F.map (AF.ha η))) : ∀ {ts:List TC} {vs:List AV} {bl:List Nat} {bs:List (Nat×List Lf)} {x:dR ts} {l:List Lf} {q:Nat},sj F bl=some bs→tk F ts vs (bs.map (·.2))=some (x,l)→(e9 (bs.map (·.1)) q).all (fun p=>Nat.beq (g p.1) p.2)=true →
  (iO ts x (aL η l)).take vs.length=AV.vals η vs∧l.length=gL ts∧ai w (fun b=>g (c b)) (ni ts x (aL η l) vs.length (bl.map fun k=>(Jh k).v η) q) ∧
  ∀ {ms:List RM} {j:Nat},qv g F ts ms l j=true→∀ η' : Vn,(∀ (q:Nat) (a:Lf),l[q]? = some a→η'.h (j+q)=a.hd η)→ai w (fun b=>g (c b)) ((mF ts x ms j).map (AF.ha η')):=by
 intro ts
 induction ts with
 | nil=>
  intro vs bl bs x l q ho h hq
  cases vs with
  | nil=>
   simp only [tk] at h
   exact ⟨rfl,JI hg hF ho h hq⟩
  | cons v vs=>simp [tk] at h
 | cons t ts ih=>
  intro vs bl bs x l q ho h hq
  cases vs with
  | nil=>
   have h' : tg F (t::ts) (bs.map (·.2))=some (x,l):=by
    cases ts <;> simpa only [tk] using h
   obtain ⟨n1,n2,n3⟩:=JI hg hF ho h' hq
   exact ⟨rfl,n1,n2,n3⟩
  | cons v vs=>
   cases ts with
   | nil=>
    cases vs with
    | cons _ _=>simp [tk] at h
    | nil=>
     cases bs with
     | cons _ _=>simp [tk] at h
     | nil=>
      simp only [List.map_nil,tk] at h
      split at h
      ·rename_i x' l' K ha
       simp only [Option.some.injEq,Prod.mk.injEq] at h
       obtain ⟨rfl,rfl⟩:=h
       obtain ⟨h1,h2,h3⟩:=qL (η:=η) (t:=t) ha
       obtain ⟨ls,r,hd⟩:=Qh (t:=t) ha
       refine ⟨by simp only [iO,AV.vals,h1]; rfl,by simp only [gL,h2]; omega,ai.nil _ _,fun hc η' hn=>?_⟩
       simp only [qv,Bool.and_true] at hc
       exact oT hg hF hd (l' := []) (by rw [List.append_nil]; exact hc) η' hn
      ·cases h
   | cons t' ts=>
    simp only [tk] at h
    split at h
    ·rename_i x1 l1 K1 x2 l2 ha hds
     simp only [Option.some.injEq,Prod.mk.injEq] at h
     obtain ⟨rfl,rfl⟩:=h
     obtain ⟨h1,h2,h3⟩:=qL (η:=η) ha
     obtain ⟨ls,r',hd⟩:=Qh ha
     obtain ⟨n0,n1,n2,n3⟩:=ih ho hds hq
     have hn1:=dM t hd
     have e0:aL η (l1++l2)=aL η l1++aL η l2:=by simp [aL]
     have e1:aI t (aL η (l1++l2))=aI t (aL η l1):=by rw [e0]; exact dl t _ _ (by simp [aL,hn1])
     have e2:(aL η (l1++l2)).drop t.nh=aL η l2:=by
      rw [e0,List.drop_append,List.drop_eq_nil_of_le (by simp [aL,hn1]),show t.nh - (aL η l1).length=0 by simp [aL,hn1]]
      rfl
     have e:gL (t::t' :: ts)=t.nh+gL (t' :: ts):=rfl
     refine ⟨?_,by simp only [List.length_append]; omega,?_,fun hc η' hn=>?_⟩
     ·simp only [iO,AV.vals,e1,e2,h1,List.length_cons,List.take_succ_cons,n0]
     ·simp only [ni,nx,nY,e2,List.nil_append,List.length_cons,Nat.add_sub_cancel]
      exact n2
     ·rw [qv,Bool.and_eq_true] at hc
      simp only [mF,List.map_append]
      refine (oT hg hF hd (l' := l2) hc.1 η' fun q z hz=>hn q z (by rw [List.getElem?_append_left (List.getElem?_eq_some_iff.1 hz).1]; exact hz)).append
       (n3 ?_ η' fun q z hz=>?_)
      ·have:(l1++l2).drop t.nh=l2:=by
        rw [List.drop_append,List.drop_eq_nil_of_le (by omega),show t.nh - l1.length=0 by omega]; rfl
       rw [this] at hc; exact hc.2
      ·have:=hn (t.nh+q) z (by rw [List.getElem?_append_right (by omega)]; rw [show t.nh+q - l1.length=q by omega]; exact hz)
       rw [Nat.add_assoc]; exact this
    ·cases h
theorem KL {F:List AF} {p:Nat×Nat} : ∀ {ms:List RM} {ls:List Lf} {j:Nat},p∈lK F ms ls j→2≤p.2:=by
 intro ms
 induction ms with
 | nil=>intro ls j h; simp [lK] at h
 | cons m ms ih=>
  intro ls j h
  cases ls with
  | nil=>simp [lK] at h
  | cons z ls=>
   cases z with
   | sl hh=>
    simp only [lK,List.mem_append] at h
    rcases h with h | h
    ·split at h
     ·obtain ⟨_,_,rfl⟩:=List.mem_map.1 h; show 2≤2+2 * j; omega
     ·simp at h
    ·exact ih h
   | mp hh=>
    simp only [lK,List.mem_append] at h
    rcases h with h | h
    ·split at h
     ·obtain ⟨_,_,rfl⟩:=List.mem_map.1 h; show 2≤2+2 * j; omega
     ·simp at h
    ·exact ih h
   | _=>exact ih (by simpa only [lK] using h)
theorem MO {F:List AF} {p:Nat×Nat} : ∀ {ms:List RM} {ls:List Lf} {j:Nat},p∈nV F ms ls j→2≤p.2:=by
 intro ms
 induction ms with
 | nil=>intro ls j h; simp [nV] at h
 | cons m ms ih=>
  intro ls j h
  cases ls with
  | nil=>simp [nV] at h
  | cons z ls=>
   cases z with
   | sl hh=>
    simp only [nV,List.mem_append] at h
    rcases h with h | h
    ·obtain ⟨_,_,rfl⟩:=List.mem_map.1 h
     simp only
     show 2≤129; omega
    ·exact ih h
   | _=>exact ih (by simpa only [nV] using h)
theorem O1 {p:Nat×Nat} : ∀ {l:List Nat} {q:Nat},2≤q→p∈e9 l q→2≤p.2:=by
 intro l
 induction l with
 | nil=>intro q _ h; simp [e9] at h
 | cons i r ih=>
  intro q hq h
  simp only [e9,List.mem_cons] at h
  rcases h with rfl | h
  ·exact hq
  ·exact ih (by omega) h
theorem O0 : ∀ (ps:List PC) (x:iS ps) (l:List Hd),(ka ps x l).length=ps.length:=by
 intro ps
 induction ps with
 | nil=>intro x l; rfl
 | cons t ts ih=>
  intro x l
  cases ts with
  | nil=>rfl
  | cons t' ts=>simp only [ka,List.length_cons,ih]
theorem O9 [Itr] {C:Cx} (hC:C.ok P) (hm:P.follows .mixedOrders=true) {f:FuncId} {fn:Func} (hf:P.funcs[f]? = some fn) (hname:(fn.name == "runtime.NumGoroutine")=false) {an:An} {sg:Sig}
  {x:iS sg.ps} {r:dR sg.rs} (hbody:fn.body.isSome=true) (hsem : ∀ l:List Hd,l.length=oM sg.ps→∀ w c,ai w c (mJ sg.ps x l 2)→∃ xf,(∀ A∈xf.map (AF.ha (ηL l)),Bi A)∧sZ xf C fn an sg x=some r) (hs:(Nat.ble sg.ps.length fn.ntmps&&Nat.ble (oM sg.ps) 64)=true):OV P f sg x r:=by
 obtain ⟨cd,hcd⟩:=Option.isSome_iff_exists.1 hbody
 refine ⟨⟨fn,cd,hf,hcd,hname⟩,fun l hl w c0 hH=>?_⟩
 obtain ⟨xf,hxf,hsem⟩:=hsem l hl w c0 (fun A hA=>hH A (List.mem_append_left _ hA))
 simp only [sZ,hcd] at hsem
 simp only [Bool.and_eq_true] at hs
 have hps:=Nat.le_of_ble_eq_true hs.1
 refine Ko (n:=fn.ntmps) hf hcd rfl _ (Nat.ble_eq_true_of_le (by rw [O0]; exact hps)) hH ?_
 intro a w1 c1 ha hHeap
 have hL0:L0ok (HA.old w c0::lJ):=⟨fun A hA=>by
  rcases List.mem_cons.1 hA with rfl | hA
  ·intro k hk
   simp [HA.uses] at hk
   omega
  ·obtain ⟨e,_,rfl⟩:=List.mem_map.1 hA
   intro k hk
   simp [GEnt.ha,HA.uses] at hk
   omega,fun A hA=>List.mem_cons_of_mem _ hA⟩
 have hnamed:gx (ηL l) 0 l:=fun j h hj=>by simp [ηL,hj]
 have hnb : ∀ j h,l[j]? = some h→(ηL l).b (0+j)=h.blk:=fun j h hj=>by simp [ηL,hj]
 obtain ⟨p1,p2⟩:=J3 (η:=ηL l) sg.ps x 2 l 0 hnamed hnb (by omega)
 have hI:g9 64 fn.ntmps (HA.old w c0::lJ) (ηL l) [] [] (abG xf sg.ps x) a w1:=by
  refine ⟨ηL l,c1,_,ha,fun t v hlk=>?_,?_,?_,fun _ _=>⟨rfl,rfl⟩⟩
  ·rw [List.append_nil] at hlk
   obtain ⟨j,hj,hv⟩:=wi (η:=ηL l) hlk
   rw [p1] at hv
   rw [Nat.zero_add] at hj
   subst hj
   show (ka sg.ps x l).getD _ undef=_
   rw [List.getD_eq_getElem?_getD,hv]; rfl
  ·rw [show ∀ d,bj d []=[] from fun _=>rfl,List.append_nil]
   show ai w1 c1 ((zz sg.ps x 2 0++xf).map (AF.ha (ηL l)))
   rw [List.map_append,p2]
   exact ai.append (fun A hA=>hHeap A (List.mem_cons_of_mem _ (List.mem_append_left _ hA))) fun A hA=>hxf A hA w1 c1
  ·intro A hA
   rcases List.mem_cons.1 hA with rfl | hA
   ·exact hHeap _ List.mem_cons_self
   ·exact hHeap A (List.mem_cons_of_mem _ (List.mem_append_right _ hA))
 have fin : ∀ S',MK C.Θ fn sg S' = some r→∀ a w',g9 64 fn.ntmps (HA.old w c0::lJ) (ηL l) [] [] S' a w' → bodyPost P fn (uv w c0 (fun y : { y:List Hd // y.length=gL sg.rs }=>yg sg.nr sg.rs r y.1)
   (fun y=>(mF sg.rs r sg.ms 0).map (AF.ha (ηL y.1))++ni sg.rs r y.1 sg.nr (AI l sg.bl) 130)) .ret a w' := by
  intro S' hret a w' hI'
  obtain ⟨η,c,ρ,hrel,hE,hFf,hL,hβ⟩:=hI'
  rw [List.append_nil] at hE
  rw [show bj S'.d []=[] from rfl,List.append_nil] at hFf
  unfold MK at hret
  split at hret
  ·rename_i vs bs hvs hbs
   split at hret
   ·rename_i x' ll hd
    simp only at hret
    generalize hcm:(e9 (bs.map (·.1)) 130++(lK S'.F sg.ms ll 0++nV S'.F sg.ms ll 0)).filter (fun p=>Nat.ble 2 p.1)=cm at hret
    cases hchk:(qv (nM cm 2) S'.F sg.rs sg.ms ll 0&&Nat.beq sg.ms.length ll.length&&Nat.beq vs.length sg.nr&&(e9 (bs.map (·.1)) 130).all (fun p=>Nat.beq (nM cm 2 p.1) p.2))
    ·rw [hchk] at hret; cases hret
    ·rw [hchk] at hret
     simp only [cond_true,Option.some.injEq] at hret
     subst hret
     simp only [Bool.and_eq_true] at hchk
     obtain ⟨⟨⟨hchk,_⟩,hnr⟩,henum⟩:=hchk
     have hnr:=Nat.eq_of_beq_eq_true hnr
     have hg:Gd (nM cm 2):=by
      refine Ig ?_
      simp only [List.all_cons,Bool.and_eq_true]
      refine ⟨rfl,List.all_eq_true.2 fun z hz=>?_⟩
      obtain ⟨p,hp,rfl⟩:=List.mem_map.1 hz
      rw [← hcm] at hp
      refine Nat.ble_eq_true_of_le ?_
      have hp:=(List.mem_filter.1 hp).1
      rcases List.mem_append.1 hp with hp | hp
      ·exact O1 (by omega) hp
      ·rcases List.mem_append.1 hp with hp | hp
       ·exact KL hp
       ·exact MO hp
     obtain ⟨d1,d2,d3,d4⟩:=YE hg hFf hbs hd henum
     have hres:=wS hC.Θ hE hvs
     have hrun:=xM (fn:=fn) (rs:=fn.results.toList) (vs:=AV.vals η vs) (by simp) hrel.val hFf hres
     have hnm : ∀ (q:Nat) (z:Lf),ll[q]? = some z→(ηL (aL η ll)).h (0+q)=z.hd η:=fun q z hz=>by
      have:(aL η ll)[q]? = some (z.hd η):=by rw [aL,List.getElem?_map,hz]; rfl
      simp only [ηL,Nat.zero_add]
      rw [List.getD_eq_getElem?_getD,this]; rfl
     have hfacts:=d4 hchk (ηL (aL η ll)) hnm
     have hblk:AI l sg.bl=sg.bl.map fun k=>(Jh k).v η:=by
      refine List.map_congr_left fun b hb=>?_
      unfold obH Jh
      cases hk:Nat.blt b 64
      ·simp only [cond_false,ObA.v,(hβ (b % 64) (Nat.mod_lt _ (by omega))).2]; rfl
      ·have h1:b+1≤64:=Nat.le_of_ble_eq_true hk
       simp only [cond_true,ObA.v,(hβ b (by omega)).1]; rfl
     obtain ⟨o1,o2,o3,o4⟩:=hL _ List.mem_cons_self
     refine ⟨hrel.defers,_,hrun,⟨aL η ll,by simp [aL,d2]⟩,fun b=>nM cm 2 (c b),?_,o4,o1,fun b hb' h01=>⟨(o2 b hb' h01).1,?_⟩,fun b hb' hb'' => hg.two _ (o3 b hb' hb''),hfacts.append (by rw [hblk,← hnr]; exact d3)⟩
     ·congr 1
      simp only [yg]
      rw [← hnr,d1]
      generalize AV.vals η vs=us
      match us with
      | []=>rfl
      | [v]=>rfl
      | v::v' :: us=>
       simp only
       rw [dif_neg (by simp)]
     ·show nM cm 2 (c b)=_
      rw [(o2 b hb' h01).2]
      rcases (show c0 b=0∨c0 b=1 by omega) with e | e <;> rw [e]
      ·exact hg.z
      ·exact hg.o
   ·cases hret
  ·cases hret
 exact abJ (Cx.at_ok hC 64) hm hL0 cd hsem hI (fun S' h' a w' hI' => fin S' h' a w' hI') (fun S' h' a w' hI' => fin S' h' a w' hI') (fun i S' h' => by cases h')
theorem aeb [Itr] {C:Cx} (hC:C.ok P) (hm:P.follows .mixedOrders=true) {f:FuncId} {fn:Func} (hf:P.funcs[f]? = some fn) (hname:(fn.name == "runtime.NumGoroutine")=false) {an:An} {sg:Sig}
  {x:iS sg.ps} {r:dR sg.rs} (hsem:aJ C fn an sg x=some r) (hs:(Nat.ble sg.ps.length fn.ntmps&&Nat.ble (oM sg.ps) 64)=true):OV P f sg x r:=
 O9 hC hm hf hname (by
  simp only [aJ,sZ] at hsem
  cases hb:fn.body with
  | none=>rw [hb] at hsem; cases hsem
  | some _=>rfl) (fun _ _ _ _ _=>⟨[],fun A hA=>by simp at hA,hsem⟩) hs
theorem sr [Itr] {C:Cx} (hC:C.ok P) (hm:P.follows .mixedOrders=true) {f:FuncId} {fn:Func} (hf:P.funcs[f]? = some fn) (hname:(fn.name == "runtime.NumGoroutine")=false) (hbody:fn.body.isSome=true) {an:An} {t:TC} {rs:List TC} {nr:Nat} {ms:List RM}
  {F:List t.den→Option (dR rs)} (hF : ∀ x,F x=sZ [.isn 0 false] C fn an ⟨[.d (.slice t)],rs,nr,[],ms⟩ x) (h0:F []=sZ [.isn 0 true] C fn an ⟨[.d (.slice t)],rs,nr,[],ms⟩ ([]:List t.den)) (hs:Nat.ble 1 fn.ntmps=true):Ctr.sound P f ⟨⟨[.d (.slice t)],rs,nr,[],ms⟩,F⟩:=by
 intro x r hr
 refine O9 hC hm hf hname (an:=an) hbody (fun l hl w c hH=>?_) (by simp [hs,oM,PC.nh,TC.nh])
 have hr:F x=some r:=hr
 have hl:l.length=1:=by simpa [oM,PC.nh,TC.nh] using hl
 match l,hl with
 | [h],_=>
  cases hn:h.isNil with
  | false=>exact ⟨[.isn 0 false],fun A hA=>by
    simp only [List.map_cons,List.map_nil,List.mem_singleton] at hA
    subst hA
    intro w c
    show (h.isNil=false)
    exact hn,(hF x).symm.trans hr⟩
  | true=>
   have hx:x=([]:List t.den):=by
    obtain ⟨ys,hr,h1,h2,h3,h4⟩:=hH (.rep t.ty [1] x h) List.mem_cons_self
    rcases h4 with ⟨_,hc⟩ | ⟨b,off,arr,ty',fz,ha',_⟩
    ·exact List.eq_nil_of_length_eq_zero (by omega)
    ·simp [Hd.isNil,ha'] at hn
   subst hx
   exact ⟨[.isn 0 true],fun A hA=>by
    simp only [List.map_cons,List.map_nil,List.mem_singleton] at hA
    subst hA
    intro w c
    show (h.isNil=true)
    exact hn,h0.symm.trans hr⟩
theorem am [Itr] {C:Cx} (hC:C.ok P) (hm:P.follows .mixedOrders=true) {f:FuncId} {fn:Func} (hf:P.funcs[f]? = some fn) (hname:(fn.name == "runtime.NumGoroutine")=false) {an:An} {sg:Sig}
  {F:iS sg.ps→Option (dR sg.rs)} (hF : ∀ x,F x=aJ C fn an sg x) (hs:(Nat.ble sg.ps.length fn.ntmps&&Nat.ble (oM sg.ps) 64)=true):Ctr.sound P f ⟨sg,F⟩:=
 fun x _ hr=>aeb hC hm hf hname (an:=an) ((hF x).symm.trans hr) hs
def aC (C:Cx) (f:FuncId) (ct:Ctr):Cx:=⟨fun g=>bif Nat.beq g f then ct::C.Γ g else C.Γ g,C.Θ,C.G,C.D,C.W,C.I,C.B,C.K,C.O⟩
theorem ak {C:Cx} (hC:C.ok P) {f:FuncId} {ct:Ctr} (h:ct.sound P f):(aC C f ct).ok P:=by
 refine ⟨fun g c hg=>?_,hC.Θ,hC.G,hC.D,hC.I⟩
 simp only [aC] at hg
 cases hb:Nat.beq g f
 ·rw [hb] at hg; exact hC.Γ g c hg
 ·rw [hb] at hg
  simp only [cond_true,List.mem_cons] at hg
  rcases hg with rfl | hg
  ·rw [Nat.eq_of_beq_eq_true hb]; exact h
  ·exact hC.Γ g c hg
def adu (C:Cx) (d:DCtr) (W:Bool):Cx:=⟨C.Γ,C.Θ,C.G,d::C.D,W,C.I,C.B,C.K,C.O⟩
theorem ZB {C:Cx} (hC:C.ok P) {d:DCtr} {W:Bool} (h:d.sound P):(adu C d W).ok P:=
 ⟨hC.Γ,hC.Θ,hC.G,fun e he=>by
  rcases List.mem_cons.1 he with rfl | he
  ·exact h
  ·exact hC.D e he,hC.I⟩
def Cx.wr (C:Cx):Cx:=⟨C.Γ,C.Θ,C.G,C.D,true,C.I,C.B,C.K,C.O⟩
end
end
end Go.Sm
