/- Laws for the row. No condition. -/
import Derived.Test.YtfhhiajfciblbaaGreatDoorRfP
namespace Go.Sm
set_option linter.unusedSectionVars false
variable {f:FuncId} {fn:Func}
section
variable [X:XTab] [G:GTab]
def HF:(p:PC)→p.den→Nat→AV
 | .d t,x,n=>qJ t x n
 | .own _ _,_,n=>.lf (.sl n)
 | .box _ _ _,_,n=>.lf (.bp n 0)
 | .fn f,_,_=>.lf (.fn f)
 | .clo f _,_,n=>.lf (.clo f n)
 | .prt _ _,_,n=>.lf (.sl (n+1))
def Ia:(ps:List PC)→kA ps→Nat→List AV
 | [],_,_=>[]
 | [p],x,n=>[HF p x n]
 | p::p' :: r,x,n=>HF p x.1 n::Ia (p' :: r) x.2 (n+p.nh)
def sr:(t:TC)→t.den→List (Option TypeId)→Nat→Nat→List AF
 | .pair a b,x,os,q,n=>sr a x.1 os q n++sr b x.2 (os.drop a.nh) (q+a.nh) (n+a.nh)
 | .slice t,xs,os,q,n=>match os with
  | some e::_=>[.own t e q [1] xs n]
  | _=>[.rep t [1] xs n]
 | .st a,x,os,q,n=>sr a x os q n
 | .sc _,_,_,_,_=>[]
 | .arr _ _,_,_,_,_=>[]
 | .unit,_,_,_,_=>[]
 | .ext _,_,_,_,_=>[]
 | .node,x,_,_,n=>[.rep .node [1] x.tup.2.2.2 n]
 | .mp k v,xs,os,q,n=>match os with
  | some _::_=>[.mp k v q xs n]
  | _=>[]
def Be:(p:PC)→p.den→Nat→Nat→List AF
 | .d t,x,_,n=>sK t x [1] n
 | .own t e,xs,q,n=>[.own t e q [1] xs n]
 | .box m t os,x,q,n=>.box (bif m then q else 1) n (jq t x (n+1))::sr t x (bif m then os else []) (q+1) (n+1)
 | .fn _,_,_,_=>[]
 | .clo _ t,x,q,n=>.box 1 n (jq t x (n+1))::sr t x [] (q+1) (n+1)
 | .prt t e,x,q,n=>[.own t e q [1] x.1 n, .prt (n+1) n t.ty.sz x.2.1 x.2.2]
def B3:(ps:List PC)→kA ps→Nat→Nat→List AF
 | [],_,_,_=>[]
 | [p],x,q,n=>Be p x q n
 | p::p' :: r,x,q,n=>Be p x.1 q n++B3 (p' :: r) x.2 (q+p.nc) (n+p.nh)
def vm:List AV→Nat→SE
 | [],_=>[]
 | v::r,i=>(i,v)::vm r (i+1)
def ags (xf:List AF) (ps:List PC) (x:kA ps):SS:=⟨vm (Ia ps x 0) 0,B3 ps x 2 0++xf,64,256,[]⟩
def sH (Θ:Tb) (E:SE) (F:List AF):List ResultVar→Option (List AV)
 | []=>some []
 | .tmp t::r=>match bd E t,sH Θ E F r with
  | some v,some vs=>some (v::vs)
  | _,_=>none
 | .cell x t::r=>match bd E x,Θ t,sH Θ E F r with
  | some (.lf (.bp b 0)),some i,some vs=>match kN b F with
   | some (_,cs)=>match mI cs i.sz with
    | some (_,[])=>match EB i.d.agg cs with
     | some v=>some (v::vs)
     | none=>none
    | _=>none
   | none=>none
  | _,_,_=>none
def nX (F:List AF):List RM→List Lf→Nat→List (Nat×Nat)
 | m::ms, .sl h::ls,j=>(match m.own with
  | some _=>y7 F (.sl h) |>.map fun i=>(i,2+2 * j)
  | none=>[])++nX F ms ls (j+1)
 | m::ms, .mp h::ls,j=>(match m.own with
  | some _=>y7 F (.mp h) |>.map fun i=>(i,2+2 * j)
  | none=>[])++nX F ms ls (j+1)
 | _::ms,_::ls,j=>nX F ms ls (j+1)
 | _,_,_=>[]
def qO (F:List AF):List RM→List Lf→Nat→List (Nat×Nat)
 | _::ms, .sl h::ls,j=>(Ck F (.sl h)).map (fun k=>(k,129))++qO F ms ls (j+1)
 | _::ms,_::ls,j=>qO F ms ls (j+1)
 | _,_,_=>[]
def aco (g:Nat→Nat) (F:List AF) (t:TC) (m:RM) (l:Lf) (j:Nat):Bool:=match m.own,l with
 | _, .nl=>true
 | some e, .sl h=>bif Nat.ble 4194304 e && !(eW e) then true else match gf t e 0 F (.sl h) with
  | some (i,K,_)=>Nat.beq (g i) (2+2 * j)&&(t.ty.pureB||eW e||sub (K.map g) (m.K 129))
  | none=>false
 | none, .sl h=>match io t F (.sl h) with
  | some s=>sub (s.all.map g) (m.K 129)
  | none=>false
 | _,_=>false
def uU (g:Nat→Nat) (F:List AF):TC→List RM→List Lf→Nat→Bool
 | .pair a b,ms,ls,j=>uU g F a ms ls j&&uU g F b (ms.drop a.nh) (ls.drop a.nh) (j+a.nh)
 | .slice t,m::_,l::_,j=>aco g F t m l j
 | .slice _,_,_,_=>false
 | .st a,ms,ls,j=>uU g F a ms ls j
 | .mp k v,m::_, .mp h::_,j=>match m.own with
  | some _=>(match tK k v h F with
   | some s=>Nat.beq (g s.i) (2+2 * j)
   | none=>false)
  | none=>true
 | .mp _ _,m::_,_,_=>m.own.isNone
 | _,_,_,_=>true
def sR (g:Nat→Nat) (F:List AF):List TC→List RM→List Lf→Nat→Bool
 | [],_,_,_=>true
 | t::r,ms,ls,j=>uU g F t ms ls j&&sR g F r (ms.drop t.nh) (ls.drop t.nh) (j+t.nh)
def ru (h:Nat) (e:TypeId):List AF→Option Nat
 | []=>none
 | .own _ e' i _ _ h' :: r=>bif Nat.beq h h' then (bif Nat.beq e e' then some i else none) else ru h e r
 | .rep _ _ _ h' :: r=>bif Nat.beq h h' then none else ru h e r
 | .box _ _ _::r=>ru h e r
 | .isn _ _::r=>ru h e r
 | .prt _ _ _ _ _::r=>ru h e r
 | .hol _ _ _ _ _ _ _::r=>ru h e r
 | .mp _ _ _ _ _::r=>ru h e r
 | .pt _ _ _ _ _ _ _::r=>ru h e r
def L6 (k:Nat):ObA:=bif Nat.blt k 64 then .b k else .r (k % 64) (k / 64 - 1)
def Hc (F:List AF) (k:Nat):Option (Nat×List Lf):=bif Nat.blt k 64 then kN k F else match ru (k % 64) (k / 64 - 1) F with
 | some i=>some (i,[.sl (k % 64)])
 | none=>none
def u9 (F:List AF):List Nat→Option (List (Nat×List Lf))
 | []=>some []
 | b::r=>match Hc F b,u9 F r with
  | some (i,cs),some vs=>some ((i,cs)::vs)
  | _,_=>none
theorem mY {t:TC} {h:Nat} {e:TypeId} : ∀ {F:List AF} {i:Nat} {s:SI t},ru h e F=some i→my t h F=some s→s.own=some (e,i)
 | [],_,_,h1,_=>by simp [ru] at h1
 | .own t' e' i' K xs h' :: r,i,s,h1,h2=>by
  simp only [ru] at h1
  simp only [my] at h2
  cases hb:Nat.beq h h'
  ·rw [hb] at h1 h2; exact mY h1 h2
  ·rw [hb] at h1 h2
   simp only [f9] at h1 h2
   cases he:Nat.beq e e'
   ·rw [he] at h1; cases h1
   ·rw [he] at h1
    simp only [f9,Va] at h1
    split at h2
    ·simp only [Va] at h2
     subst h2
     rw [Vb he,h1]
    ·cases h2
 | .rep _ _ _ h' :: r,i,s,h1,h2=>by
  simp only [ru] at h1
  simp only [my] at h2
  cases hb:Nat.beq h h'
  ·rw [hb] at h1 h2; exact mY h1 h2
  ·rw [hb] at h1; cases h1
 | .box _ _ _::r,_,_,h1,h2=>mY (F:=r) h1 h2
 | .isn _ _::r,_,_,h1,h2=>mY (F:=r) h1 h2
 | .prt _ _ _ _ _::r,_,_,h1,h2=>mY (F:=r) h1 h2
 | .hol _ _ _ _ _ _ _::r,_,_,h1,h2=>mY (F:=r) h1 h2
 | .mp _ _ _ _ _::r,_,_,h1,h2=>mY (F:=r) h1 h2
 | .pt _ _ _ _ _ _ _::r,_,_,h1,h2=>mY (F:=r) h1 h2
def vf (F:List AF):(ts:List TC)→List (List Lf)→Option (eC ts×List Lf)
 | [],[]=>some ((),[])
 | [t],[cs]=>match bW F t cs with
  | some (x,l,_,[])=>some (x,l)
  | _=>none
 | t::t' :: r,cs::vs=>match bW F t cs,vf F (t' :: r) vs with
  | some (x,l,_,[]),some (y,l')=>some ((x,y),l++l')
  | _,_=>none
 | _,_=>none
def vw (F:List AF):(ts:List TC)→List AV→List (List Lf)→Option (eC ts×List Lf)
 | ts,[],bs=>vf F ts bs
 | [t],[v],[]=>match pN F t v with
  | some (x,l,_)=>some (x,l)
  | none=>none
 | t::t' :: r,v::vs,bs=>match pN F t v,vw F (t' :: r) vs bs with
  | some (x,l,_),some (y,l')=>some ((x,y),l++l')
  | _,_=>none
 | _,_,_=>none
def gi:List Nat→Nat→List (Nat×Nat)
 | [],_=>[]
 | i::r,c=>(i,c)::gi r (c+1)
def Oq (Θ:Tb) (fn:Func) (C:Sig) (S:SS):Option (eC C.rs):=match sH Θ S.E S.F fn.results.toList,u9 S.F C.bl with
 | some vs,some bs=>match vw S.F C.rs vs (bs.map (·.2)) with
  | some (x,l)=>
   let cm:=(gi (bs.map (·.1)) 130++(nX S.F C.ms l 0++qO S.F C.ms l 0)).filter fun p=>Nat.ble 2 p.1
   bif sR (pX cm 2) S.F C.rs C.ms l 0&&Nat.beq C.ms.length l.length&&Nat.beq vs.length C.nr&&(gi (bs.map (·.1)) 130).all (fun p=>Nat.beq (pX cm 2 p.1) p.2) then some x else none
  | none=>none
 | _,_=>none
def vo [Itr] (xf:List AF) (C:Cx) (fn:Func) (an:An) (sg:Sig) (x:kA sg.ps):Option (eC sg.rs):=match fn.body with
 | some cd=>oP (C.at 64) fn.ntmps cd (eC sg.rs) an [] [] (ags xf sg.ps x) ⟨Oq C.Θ fn sg,Oq C.Θ fn sg,fun _ _=>none⟩
 | none=>none
def aL [Itr] (C:Cx) (fn:Func) (an:An) (sg:Sig) (x:kA sg.ps):Option (eC sg.rs):=vo [] C fn an sg x
section
variable {P:Program}
theorem zo {K:List Nat} {η:Vn} : ∀ (t:TC) (x:t.den) (l:List Hd) (n:Nat),iH η n l→t.nh≤l.length→(sK t x K n).map (AF.ha η)=facts t.ty K x (aN t l)
 | .sc _,_,_,_,_,_=>rfl
 | .arr _ _,_,_,_,_,_=>rfl
 | .unit,_,_,_,_,_=>rfl
 | .pair a b,x,l,n,h,hl=>by
  simp only [TC.nh] at hl
  simp only [sK,Ym,facts,aN]
  rw [zo a x.1 l n h (by omega),zo b x.2 (l.drop a.nh) (n+a.nh) (fun j hh hj=>by
   rw [Xl] at hj
   have:=h _ hh hj
   rwa [show n+a.nh+j=n+(a.nh+j) by omega]) (by simp; omega)]
 | .slice _,x,l,n,h,hl=>by
  simp only [TC.nh] at hl
  cases l with
  | nil=>simp at hl
  | cons hd r=>
   have:=h 0 hd rfl
   simp only [W4] at this
   simp [sK,AF.ha,facts,aN,this]
 | .st a,x,l,n,h,hl=>zo a x l n h hl
 | .ext _,_,_,_,_,_=>rfl
 | .node,x,l,n,h,hl=>by
  simp only [TC.nh] at hl
  cases l with
  | nil=>simp at hl
  | cons hd r=>
   have:=h 0 hd rfl
   simp only [W4] at this
   simp [sK,AF.ha,facts,aN,this]
 | .mp _ _,_,_,_,_,_=>rfl
theorem we {η:Vn} : ∀ (t:TC) (x:t.den) (os:List (Option TypeId)) (q:Nat) (l:List Hd) (n:Nat),iH η n l→t.nh≤l.length→(sr t x os q n).map (AF.ha η)=iE t x (aN t l) os q
 | .sc _,_,_,_,_,_,_,_=>rfl
 | .arr _ _,_,_,_,_,_,_,_=>rfl
 | .unit,_,_,_,_,_,_,_=>rfl
 | .pair a b,x,os,q,l,n,h,hl=>by
  simp only [TC.nh] at hl
  simp only [sr,Ym,iE,aN]
  rw [we a x.1 os q l n h (by omega),we b x.2 (os.drop a.nh) (q+a.nh) (l.drop a.nh) (n+a.nh) (fun j hh hj=>by
   rw [Xl] at hj
   have:=h _ hh hj
   rwa [show n+a.nh+j=n+(a.nh+j) by omega]) (by simp; omega)]
 | .slice _,x,os,q,l,n,h,hl=>by
  simp only [TC.nh] at hl
  cases l with
  | nil=>simp at hl
  | cons hd r=>
   have:=h 0 hd rfl
   simp only [W4] at this
   cases os with
   | nil=>simp [sr,AF.ha,iE,aN,this]
   | cons o os=>cases o <;> simp [sr,AF.ha,iE,aN,this]
 | .st a,x,os,q,l,n,h,hl=>we a x os q l n h hl
 | .ext _,_,_,_,_,_,_,_=>rfl
 | .node,x,os,q,l,n,h,hl=>by
  simp only [TC.nh] at hl
  cases l with
  | nil=>simp at hl
  | cons hd r=>
   have:=h 0 hd rfl
   simp only [W4] at this
   simp [sr,AF.ha,iE,aN,this]
 | .mp _ _,x,os,q,l,n,h,hl=>by
  simp only [TC.nh] at hl
  cases l with
  | nil=>simp at hl
  | cons hd r=>
   have:=h 0 hd rfl
   simp only [W4] at this
   cases os with
   | nil=>simp [sr,iE]
   | cons o os=>cases o <;> simp [sr,AF.ha,iE,aN,this]
theorem M4 {η:Vn} : ∀ (p:PC) (x:p.den) (l:List Hd) (n:Nat),iH η n l→(∀ j h,l[j]? = some h→η.b (n+j)=h.blk)→p.nh≤l.length→(HF p x n).val η=p.val x l
 | .d t,x,l,n,h,_,hl=>yA t x l n h hl
 | .own _ _,_,[],_,_,_,hl=>by simp [PC.nh] at hl
 | .own _ _,_,hd::r,n,h,_,_=>by
  have:=h 0 hd rfl
  simp only [W4] at this
  simp [HF,PC.val,AV.val,Lf.val,this]
 | .box _ _ _,_,[],_,_,_,hl=>by simp [PC.nh] at hl
 | .box _ _ _,_,hd::r,n,_,hb,_=>by
  have:=hb 0 hd rfl
  simp only [W4] at this
  simp [HF,PC.val,AV.val,Lf.val,this]
 | .fn _,_,_,_,_,_,_=>rfl
 | .clo _ _,_,[],_,_,_,hl=>by simp [PC.nh] at hl
 | .clo _ _,_,hd::r,n,_,hb,_=>by
  have:=hb 0 hd rfl
  simp only [W4] at this
  simp [HF,PC.val,AV.val,Lf.val,this]
 | .prt _ _,_,[],_,_,_,hl=>by simp [PC.nh] at hl
 | .prt _ _,_,[_],_,_,_,hl=>by simp [PC.nh] at hl
 | .prt _ _,_,_::hd::r,n,h,_,_=>by
  have:=h 1 hd rfl
  simp [HF,PC.val,AV.val,Lf.val,this]
theorem iH.tail {η:Vn} {n k:Nat} {l:List Hd} (h:iH η n l):iH η (n+k) (l.drop k):=fun j hh hj=>by
 rw [Xl] at hj
 have:=h _ hh hj
 rwa [show n+k+j=n+(k+j) by omega]
theorem MW {η:Vn} : ∀ (p:PC) (x:p.den) (q:Nat) (l:List Hd) (n:Nat),iH η n l→(∀ j h,l[j]? = some h→η.b (n+j)=h.blk)→p.nh≤l.length→(Be p x q n).map (AF.ha η)=p.facts x l q
 | .d t,x,q,l,n,h,_,hl=>zo t x l n h hl
 | .own _ _,_,_,[],_,_,_,hl=>by simp [PC.nh] at hl
 | .own _ _,_,_,hd::r,n,h,_,_=>by
  have:=h 0 hd rfl
  simp only [W4] at this
  simp [Be,PC.facts,AF.ha,this]
 | .box _ _ _,_,_,[],_,_,_,hl=>by simp [PC.nh] at hl
 | .box m t os,x,q,hd::r,n,h,hb,hl=>by
  have:=hb 0 hd rfl
  simp only [W4] at this
  have hr:iH η (n+1) r:=h.tail (k:=1)
  have hlr:t.nh≤r.length:=by simp [PC.nh] at hl; omega
  simp only [Be,PC.facts,WD,AF.ha,this,ae4,adL,Yw,i4 t x r (n+1) hr hlr,we t x _ _ r (n+1) hr hlr]
 | .fn _,_,_,_,_,_,_,_=>rfl
 | .clo _ _,_,_,[],_,_,_,hl=>by simp [PC.nh] at hl
 | .clo _ t,x,q,hd::r,n,h,hb,hl=>by
  have:=hb 0 hd rfl
  simp only [W4] at this
  have hr:iH η (n+1) r:=h.tail (k:=1)
  have hlr:t.nh≤r.length:=by simp [PC.nh] at hl; omega
  simp only [Be,PC.facts,WD,AF.ha,this,ae4,adL,Yw,i4 t x r (n+1) hr hlr,we t x _ _ r (n+1) hr hlr]
 | .prt _ _,_,_,[],_,_,_,hl=>by simp [PC.nh] at hl
 | .prt _ _,_,_,[_],_,_,_,hl=>by simp [PC.nh] at hl
 | .prt _ _,_,_,h0::h1::r,n,h,_,_=>by
  have e0:=h 0 h0 rfl
  have e1:=h 1 h1 rfl
  simp only [W4] at e0
  simp [Be,PC.facts,AF.ha,e0,e1]
theorem Mf {η:Vn} : ∀ (ps:List PC) (x:kA ps) (q:Nat) (l:List Hd) (n:Nat),iH η n l→(∀ j h,l[j]? = some h→η.b (n+j)=h.blk)→rc ps≤l.length →
  AV.vals η (Ia ps x n)=l7 ps x l∧(B3 ps x q n).map (AF.ha η)=pj ps x l q
 | [],_,_,_,_,_,_,_=>⟨rfl,rfl⟩
 | [p],x,q,l,n,h,hb,hl=>by
  simp only [rc,W4] at hl
  exact ⟨by simp only [Ia,AV.vals,l7,M4 p x l n h hb hl],MW p x q l n h hb hl⟩
 | p::p' :: r,x,q,l,n,h,hb,hl=>by
  have e:rc (p::p' :: r)=p.nh+rc (p' :: r):=rfl
  obtain ⟨h1,h2⟩:=Mf (p' :: r) x.2 (q+p.nc) (l.drop p.nh) (n+p.nh) h.tail (fun j hh hj=>by
   rw [Xl] at hj
   have:=hb _ hh hj
   rwa [show n+p.nh+j=n+(p.nh+j) by omega]) (by simp only [XZ]; omega)
  refine ⟨?_,?_⟩
  ·simp only [Ia,AV.vals,l7,h1,M4 p x.1 l n h hb (by omega)]
  ·simp only [B3,Ym,pj,h2,MW p x.1 q l n h hb (by omega)]
theorem yq {η:Vn} : ∀ {vs:List AV} {i t:Nat} {v:AV},bd (vm vs i) t=some v→∃ j,t=i+j∧(AV.vals η vs)[j]? = some (v.val η)
 | [],_,_,_,h=>by simp [vm,bd] at h
 | u::r,i,t,v,h=>by
  simp only [vm,bd] at h
  cases hb:Nat.beq t i
  ·rw [hb] at h
   obtain ⟨j,h1,h2⟩:=yq (η:=η) h
   exact ⟨j+1,by omega,by simpa [AV.vals] using h2⟩
  ·rw [hb] at h
   simp only [f9,Va] at h
   subst h
   exact ⟨0,by have:=Vb hb; omega,by simp [AV.vals]⟩
theorem zn {Θ:Tb} (hΘ:Θ.ok P) {η:Vn} {ρ:db} {E:SE} {F:List AF} (hE:mL η ρ E) : ∀ {l:List ResultVar} {vs:List AV},sH Θ E F l=some vs→R7 P ρ (F.map (AF.ha η)) l (AV.vals η vs)
 | [],vs,h=>by simp only [sH,Va] at h; subst h; exact trivial
 | .tmp t::r,vs,h=>by
  simp only [sH] at h
  split at h
  ·rename_i v vs' h1 h2
   simp only [Va] at h
   subst h
   exact ⟨ah3 (hE t v h1),zn hΘ hE h2⟩
  ·cases h
 | .cell x t::r,vs,h=>by
  simp only [sH] at h
  split at h
  ·rename_i b i vs' h1 hi h2
   split at h
   ·rename_i ci cs hb
    split at h
    ·rename_i q hc
     split at h
     ·rename_i v hv
      simp only [Va] at h
      subst h
      refine ⟨?_,zn hΘ hE h2⟩
      obtain ⟨g1,g2,_,_⟩:=hΘ t i hi
      obtain ⟨td,ht,hd⟩:=mN g2
      obtain ⟨k,hk⟩:=mj (fU hb) η
      obtain ⟨e2,l3⟩:=jG hc
      rw [Wm] at e2
      subst e2
      have hxv:ρ x = .pointer (some ⟨η.b b,0,none⟩):=hE x _ h1
      cases hag:i.d.agg
      ·rw [hag] at hv hd
       obtain ⟨l,rfl,rfl,hl1⟩:=y5 hv η
       refine XC k hk ht hd hxv ?_
       simp [au,hl1]
      ·rw [hag] at hv hd
       rw [zp hv η]
       exact V0 k hk ht hd g1 hxv (by simp [l3 η])
     ·cases h
    ·cases h
   ·cases h
  ·cases h
theorem rz {g:Nat→Nat} (hg:Gd g) {F:List AF} {η:Vn} {w:World} {c:bu} (hF:am w c (F.map (AF.ha η))) : ∀ {t:TC} {ls:List Lf} {x:t.den} {l:List Lf} {K:List Nat} {r:List Lf} {ms:List RM} {j:Nat} {l' : List Lf},bW F t ls=some (x,l,K,r)→uU g F t ms (l++l') j=true →
  ∀ η' : Vn,(∀ (q:Nat) (a:Lf),l[q]? = some a→η'.h (j+q)=a.hd η)→am w (fun b=>g (c b)) ((gr t x ms j).map (AF.ha η'))
 | .sc _,_,_,_,_,_,_,_,_,_,_,_,_=>am.nil _ _
 | .arr _ _,_,_,_,_,_,_,_,_,_,_,_,_=>am.nil _ _
 | .unit,_,_,_,_,_,_,_,_,_,_,_,_=>am.nil _ _
 | .ext _,_,_,_,_,_,_,_,_,_,_,_,_=>am.nil _ _
 | .node,_,_,_,_,_,_,_,_,_,_,_,_=>am.nil _ _
 | .mp k v,[],_,_,_,_,_,_,_,h,_,_,_=>by simp [bW] at h
 | .mp k v,a::ls,x,l,K,r,ms,j,l',h,hc,η',hn=>by
  cases a with
  | mp hh=>
   simp only [bW,Va,VI] at h
   obtain ⟨rfl,rfl,rfl,rfl⟩:=h
   cases ms with
   | nil=>exact am.nil _ _
   | cons m ms=>
    have hna:=hn 0 (.mp hh) rfl
    rw [W4] at hna
    simp only [YB,uU] at hc
    simp only [gr]
    cases ho:m.own with
    | none=>exact am.nil _ _
    | some e=>
     simp only [ho] at hc
     cases hs:tK k v hh F with
     | none=>rw [hs] at hc; cases hc
     | some s=>
      simp only [hs] at hc ⊢
      refine am.cons ?_ (am.nil _ _)
      have h3:=HA.ren_holds hg _ (hF _ (VO.2 ⟨_,jl hs,rfl⟩))
      simp only [AF.ha,HA.ren] at h3 ⊢
      rw [Vb hc] at h3
      rw [hna]
      exact h3
  | _=>simp [bW] at h
 | .st a,_,_,_,_,_,_,_,_,h,hc,η',hn=>rz hg hF (t:=a) h hc η' hn
 | .slice t,[],_,_,_,_,_,_,_,h,_,_,_=>by simp [bW] at h
 | .slice t,a::ls,x,l,K,r,ms,j,l',h,hc,η',hn=>by
  simp only [bW] at h
  split at h
  ·rename_i s hs
   simp only [Va,VI] at h
   obtain ⟨rfl,rfl,rfl,rfl⟩:=h
   cases ms with
   | nil=>exact am.nil _ _
   | cons m ms=>
    have hna:=hn 0 a rfl
    rw [W4] at hna
    simp only [YB,uU,aco] at hc
    simp only [gr]
    cases ho:m.own with
    | none=>
     simp only [ho] at hc
     refine am.cons ?_ (am.nil _ _)
     simp only [AF.ha,hna]
     cases a with
     | sl h=>
      simp only [hs] at hc
      exact Ti hg (kp hs hF) hc
     | nl=>
      simp only [io,Va] at hs
      subst hs
      exact ry _ _
     | _=>simp [io] at hs
    | some e=>
     cases hsen:(Nat.ble 4194304 e && !(eW e))
     rotate_left
     ·simp only [hsen,f9]; exact am.nil _ _
     simp only [ho] at hc
     simp only [hsen,no]
     refine am.cons ?_ (am.nil _ _)
     simp only [AF.ha,hna]
     cases a with
     | sl h=>
      simp only [hsen,no] at hc
      split at hc
      ·rename_i i K' xs hoi
       simp only [Vf,Yi] at hc
       have hxs:xs=s.xs:=by
        simp only [io] at hs
        simp only [gf,hs] at hoi
        split at hoi
        ·rename_i e' i' K2 xs2 heq
         simp only [Va] at heq
         cases hb:Nat.beq e e'
         ·rw [hb] at hoi; cases hoi
         ·rw [hb] at hoi
          simp only [f9,Va,VI] at hoi
          rw [heq]; exact hoi.2.2.symm
        ·cases hoi
       rw [← hxs]
       exact BK hg (fR hoi hF) (Vb hc.1) hc.2
      ·cases hc
     | nl=>
      simp only [io,Va] at hs
      subst hs
      exact rZ _ _
     | _=>simp [io] at hs
  ·cases h
 | .pair a b,ls,x,l,K,r,ms,j,l',h,hc,η',hn=>by
  simp only [bW] at h
  split at h
  ·rename_i x1 l1 K1 r1 h1
   split at h
   ·rename_i x2 l2 K2 r2 h2
    simp only [Va,VI] at h
    obtain ⟨rfl,rfl,rfl,rfl⟩:=h
    simp only [uU,Vf] at hc
    have hn1:=d9 a h1
    simp only [gr,Ym]
    refine (rz hg hF h1 (l' := l2++l') (by rw [← V8]; exact hc.1) η' fun q z hz=>hn q z (by rw [Yq (VN.1 hz).1]; exact hz)).append
     (rz hg hF h2 (l' := l') ?_ η' fun q z hz=>?_)
    ·have:(l1++l2++l').drop a.nh=l2++l' := by
      rw [V8,W6,Wq (by omega),show a.nh - l1.length=0 by omega]; rfl
     rw [← this]; exact hc.2
    ·have:=hn (a.nh+q) z (by rw [Yf (by omega)]; rw [show a.nh+q - l1.length=q by omega]; exact hz)
     rwa [show j+a.nh+q=j+(a.nh+q) by omega]
   ·cases h
  ·cases h
end
end
section
variable [X:XTab] [G:GTab]
section
variable {P:Program}
theorem SU {F:List AF} {t:TC} {v:AV} {x:t.den} {l:List Lf} {K:List Nat} (h:pN F t v=some (x,l,K)) : ∃ ls r,bW F t ls=some (x,l,K,r):=by
 cases v with
 | tu _=>cases h
 | ag ls=>
  simp only [pN] at h
  cases ha:t.aggT
  ·rw [ha] at h; cases h
  ·rw [ha] at h
   simp only [f9] at h
   split at h
   ·rename_i x' l' K' hd
    simp only [Va,VI] at h
    obtain ⟨rfl,rfl,rfl⟩:=h
    exact ⟨_,_,hd⟩
   ·cases h
 | lf lf=>
  simp only [pN] at h
  cases ha:(t.aggT==lf.isAr)
  ·rw [ha] at h; cases h
  ·rw [ha] at h
   simp only [f9] at h
   split at h
   ·rename_i x' l' K' hd
    simp only [Va,VI] at h
    obtain ⟨rfl,rfl,rfl⟩:=h
    exact ⟨_,_,hd⟩
   ·cases h
theorem Od {g:Nat→Nat} (hg:Gd g) {F:List AF} {η:Vn} {w:World} {c:bu} (hF:am w c (F.map (AF.ha η))) : ∀ {ts:List TC} {bl:List Nat} {bs:List (Nat×List Lf)} {x:eC ts} {l:List Lf} {q:Nat},u9 F bl=some bs→vf F ts (bs.map (·.2))=some (x,l)→(gi (bs.map (·.1)) q).all (fun p=>Nat.beq (g p.1) p.2)=true →
  l.length=i9 ts∧am w (fun b=>g (c b)) (pG ts x (aS η l) 0 (bl.map fun k=>(L6 k).v η) q) ∧
  ∀ {ms:List RM} {j:Nat},sR g F ts ms l j=true→∀ η' : Vn,(∀ (q:Nat) (a:Lf),l[q]? = some a→η'.h (j+q)=a.hd η)→am w (fun b=>g (c b)) ((oQ ts x ms j).map (AF.ha η')):=by
 have box : ∀ {t:TC} {b i q:Nat} {cs l:List Lf} {x:t.den} {K:List Nat} {r:List ObH} (l' : List Hd),aN t l' = aN t (aS η l)→Hc F b=some (i,cs)→bW F t cs=some (x,l,K,[])→Nat.beq (g i) q=true→am w (fun b=>g (c b)) (qN t x l' 0 ((L6 b).v η::r) q):=by
  intro t b i q cs l x K r l' hl' hb hd hq
  unfold Hc at hb
  unfold L6
  cases hk:Nat.blt b 64
  ·rw [hk] at hb
   simp only [no] at hb ⊢
   split at hb
   ·rename_i i' hr
    simp only [Va,VI] at hb
    obtain ⟨rfl,rfl⟩:=hb
    simp only [ObA.v,qN]
    cases t with
    | slice t=>
     simp only [wU]
     cases hp:(t.ty.pureB||eW (b / 64 - 1))
     ·exact am.nil _ _
     ·simp only [bW,io] at hd
      split at hd
      ·rename_i s hs
       simp only [Va,VI] at hd
       obtain ⟨rfl,rfl,rfl,_⟩:=hd
       have ho:=mY hr hs
       have hm:=hF _ (VO.2 ⟨_,gt hs,rfl⟩)
       obtain ⟨own,K',xs⟩:=s
       simp only at ho
       subst ho
       refine am.cons ?_ (am.nil _ _)
       exact BK hg hm (Vb hq) (.inl (by simpa using hp))
      ·cases hd
    | _=>exact am.nil _ _
   ·cases hb
  ·rw [hk] at hb
   simp only [f9] at hb ⊢
   obtain ⟨h1,h2⟩:=wQ hb hF
   have e:=(dP (η:=η) t hd).1
   simp only [au,Wm] at e
   simp only [ObA.v,qN]
   rw [hl',← e]
   exact am.cons ⟨h1,by show g (c _)=q; rw [h2]; exact Vb hq⟩ (am.nil _ _)
 have outs : ∀ {b:Nat} {bl:List Nat} {bs:List (Nat×List Lf)},u9 F (b::bl)=some bs→∃ i cs bs',bs=(i,cs)::bs' ∧ Hc F b=some (i,cs)∧u9 F bl=some bs' := by
  intro b bl bs h
  simp only [u9] at h
  split at h
  ·rename_i i cs vs h1 h2
   simp only [Va] at h
   exact ⟨i,cs,vs,h.symm,h1,h2⟩
  ·cases h
 intro ts
 induction ts with
 | nil=>
  intro bl bs x l q ho h hq
  cases bs with
  | nil=>
   simp only [Zy,vf,Va,VI] at h
   obtain ⟨_,rfl⟩:=h
   exact ⟨rfl,am.nil _ _,fun _ _ _=>am.nil _ _⟩
  | cons b bs=>simp [vf] at h
 | cons t ts ih=>
  intro bl bs x l q ho h hq
  cases bl with
  | nil=>
   simp only [u9,Va] at ho
   subst ho
   cases ts <;> simp [vf] at h
  | cons b bl=>
   obtain ⟨i,cs,bs',rfl,hb,ho'⟩:=outs ho
   simp only [WD,gi,ZN,Vf] at hq
   cases ts with
   | nil=>
    simp only [WD] at h
    cases bs' with
    | cons _ _=>simp [vf] at h
    | nil=>
     simp only [Zy,vf] at h
     split at h
     ·rename_i x' l' K hd
      simp only [Va,VI] at h
      obtain ⟨rfl,rfl⟩:=h
      refine ⟨by simp only [i9,d9 t hd]; omega,box _ rfl hb hd hq.1,fun hc η' hn=>?_⟩
      simp only [sR,aeu] at hc
      exact rz hg hF hd (l' := []) (by rw [Wm]; exact hc) η' hn
     ·cases h
   | cons t' ts=>
    simp only [WD,vf] at h
    split at h
    ·rename_i x1 l1 K1 x2 l2 hd hds
     simp only [Va,VI] at h
     obtain ⟨rfl,rfl⟩:=h
     obtain ⟨n1,n2,n3⟩:=ih ho' hds hq.2
     have hn1:=d9 t hd
     have e0:aS η (l1++l2)=aS η l1++aS η l2:=by simp [aS]
     have e1:aN t (aS η (l1++l2))=aN t (aS η l1):=by rw [e0]; exact dK t _ _ (by simp [aS,hn1])
     have e2:(aS η (l1++l2)).drop t.nh=aS η l2:=by
      rw [e0,W6,Wq (by simp [aS,hn1]),show t.nh - (aS η l1).length=0 by simp [aS,hn1]]
      rfl
     have e:i9 (t::t' :: ts)=t.nh+i9 (t' :: ts):=rfl
     refine ⟨by simp only [Vs]; omega,?_,fun hc η' hn=>?_⟩
     ·simp only [pG,nx,WD,List.tail_cons,e2]
      exact am.append (box _ e1 hb hd hq.1) n2
     ·rw [sR,Vf] at hc
      simp only [oQ,Ym]
      refine (rz hg hF hd (l' := l2) hc.1 η' fun q z hz=>hn q z (by rw [Yq (VN.1 hz).1]; exact hz)).append
       (n3 ?_ η' fun q z hz=>?_)
      ·have:(l1++l2).drop t.nh=l2:=by
        rw [W6,Wq (by omega),show t.nh - l1.length=0 by omega]; rfl
       rw [this] at hc; exact hc.2
      ·have:=hn (t.nh+q) z (by rw [Yf (by omega)]; rw [show t.nh+q - l1.length=q by omega]; exact hz)
       rw [adu]; exact this
    ·cases h
theorem aex {g:Nat→Nat} (hg:Gd g) {F:List AF} {η:Vn} {w:World} {c:bu} (hF:am w c (F.map (AF.ha η))) : ∀ {ts:List TC} {vs:List AV} {bl:List Nat} {bs:List (Nat×List Lf)} {x:eC ts} {l:List Lf} {q:Nat},u9 F bl=some bs→vw F ts vs (bs.map (·.2))=some (x,l)→(gi (bs.map (·.1)) q).all (fun p=>Nat.beq (g p.1) p.2)=true →
  (kI ts x (aS η l)).take vs.length=AV.vals η vs∧l.length=i9 ts∧am w (fun b=>g (c b)) (pG ts x (aS η l) vs.length (bl.map fun k=>(L6 k).v η) q) ∧
  ∀ {ms:List RM} {j:Nat},sR g F ts ms l j=true→∀ η' : Vn,(∀ (q:Nat) (a:Lf),l[q]? = some a→η'.h (j+q)=a.hd η)→am w (fun b=>g (c b)) ((oQ ts x ms j).map (AF.ha η')):=by
 intro ts
 induction ts with
 | nil=>
  intro vs bl bs x l q ho h hq
  cases vs with
  | nil=>
   simp only [vw] at h
   exact ⟨rfl,Od hg hF ho h hq⟩
  | cons v vs=>simp [vw] at h
 | cons t ts ih=>
  intro vs bl bs x l q ho h hq
  cases vs with
  | nil=>
   have h' : vf F (t::ts) (bs.map (·.2))=some (x,l):=by
    cases ts <;> simpa only [vw] using h
   obtain ⟨n1,n2,n3⟩:=Od hg hF ho h' hq
   exact ⟨rfl,n1,n2,n3⟩
  | cons v vs=>
   cases ts with
   | nil=>
    cases vs with
    | cons _ _=>simp [vw] at h
    | nil=>
     cases bs with
     | cons _ _=>simp [vw] at h
     | nil=>
      simp only [Zy,vw] at h
      split at h
      ·rename_i x' l' K ha
       simp only [Va,VI] at h
       obtain ⟨rfl,rfl⟩:=h
       obtain ⟨h1,h2,h3⟩:=tn (η:=η) (t:=t) ha
       obtain ⟨ls,r,hd⟩:=SU (t:=t) ha
       refine ⟨by simp only [kI,AV.vals,h1]; rfl,by simp only [i9,h2]; omega,am.nil _ _,fun hc η' hn=>?_⟩
       simp only [sR,aeu] at hc
       exact rz hg hF hd (l' := []) (by rw [Wm]; exact hc) η' hn
      ·cases h
   | cons t' ts=>
    simp only [vw] at h
    split at h
    ·rename_i x1 l1 K1 x2 l2 ha hds
     simp only [Va,VI] at h
     obtain ⟨rfl,rfl⟩:=h
     obtain ⟨h1,h2,h3⟩:=tn (η:=η) ha
     obtain ⟨ls,r',hd⟩:=SU ha
     obtain ⟨n0,n1,n2,n3⟩:=ih ho hds hq
     have hn1:=d9 t hd
     have e0:aS η (l1++l2)=aS η l1++aS η l2:=by simp [aS]
     have e1:aN t (aS η (l1++l2))=aN t (aS η l1):=by rw [e0]; exact dK t _ _ (by simp [aS,hn1])
     have e2:(aS η (l1++l2)).drop t.nh=aS η l2:=by
      rw [e0,W6,Wq (by simp [aS,hn1]),show t.nh - (aS η l1).length=0 by simp [aS,hn1]]
      rfl
     have e:i9 (t::t' :: ts)=t.nh+i9 (t' :: ts):=rfl
     refine ⟨?_,by simp only [Vs]; omega,?_,fun hc η' hn=>?_⟩
     ·simp only [kI,AV.vals,e1,e2,h1,Ws,aeo,n0]
     ·simp only [pG,nx,qN,e2,XI,Ws,Nat.add_sub_cancel]
      exact n2
     ·rw [sR,Vf] at hc
      simp only [oQ,Ym]
      refine (rz hg hF hd (l' := l2) hc.1 η' fun q z hz=>hn q z (by rw [Yq (VN.1 hz).1]; exact hz)).append
       (n3 ?_ η' fun q z hz=>?_)
      ·have:(l1++l2).drop t.nh=l2:=by
        rw [W6,Wq (by omega),show t.nh - l1.length=0 by omega]; rfl
       rw [this] at hc; exact hc.2
      ·have:=hn (t.nh+q) z (by rw [Yf (by omega)]; rw [show t.nh+q - l1.length=q by omega]; exact hz)
       rw [adu]; exact this
    ·cases h
theorem Qr {F:List AF} {p:Nat×Nat} : ∀ {ms:List RM} {ls:List Lf} {j:Nat},p∈nX F ms ls j→2≤p.2:=by
 intro ms
 induction ms with
 | nil=>intro ls j h; simp [nX] at h
 | cons m ms ih=>
  intro ls j h
  cases ls with
  | nil=>simp [nX] at h
  | cons z ls=>
   cases z with
   | sl hh=>
    simp only [nX,Wc] at h
    rcases h with h | h
    ·split at h
     ·obtain ⟨_,_,rfl⟩:=VO.1 h; show 2≤2+2 * j; omega
     ·simp at h
    ·exact ih h
   | mp hh=>
    simp only [nX,Wc] at h
    rcases h with h | h
    ·split at h
     ·obtain ⟨_,_,rfl⟩:=VO.1 h; show 2≤2+2 * j; omega
     ·simp at h
    ·exact ih h
   | _=>exact ih (by simpa only [nX] using h)
theorem Rk {F:List AF} {p:Nat×Nat} : ∀ {ms:List RM} {ls:List Lf} {j:Nat},p∈qO F ms ls j→2≤p.2:=by
 intro ms
 induction ms with
 | nil=>intro ls j h; simp [qO] at h
 | cons m ms ih=>
  intro ls j h
  cases ls with
  | nil=>simp [qO] at h
  | cons z ls=>
   cases z with
   | sl hh=>
    simp only [qO,Wc] at h
    rcases h with h | h
    ·obtain ⟨_,_,rfl⟩:=VO.1 h
     simp only
     show 2≤129; omega
    ·exact ih h
   | _=>exact ih (by simpa only [qO] using h)
theorem TA {p:Nat×Nat} : ∀ {l:List Nat} {q:Nat},2≤q→p∈gi l q→2≤p.2:=by
 intro l
 induction l with
 | nil=>intro q _ h; simp [gi] at h
 | cons i r ih=>
  intro q hq h
  simp only [gi,Wd] at h
  rcases h with rfl | h
  ·exact hq
  ·exact ih (by omega) h
theorem Td : ∀ (ps:List PC) (x:kA ps) (l:List Hd),(l7 ps x l).length=ps.length:=by
 intro ps
 induction ps with
 | nil=>intro x l; rfl
 | cons t ts ih=>
  intro x l
  cases ts with
  | nil=>rfl
  | cons t' ts=>simp only [l7,Ws,ih]
theorem UD [Itr] {C:Cx} (hC:C.ok P) (hm:P.follows .mixedOrders=true) (hf:P.funcs[f]? = some fn) (hname:(fn.name == "runtime.NumGoroutine")=false) {an:An} {sg:Sig}
  {x:kA sg.ps} {r:eC sg.rs} (hbody:fn.body.isSome=true) (hsem : ∀ l:List Hd,l.length=rc sg.ps→∀ w c,am w c (pj sg.ps x l 2)→∃ xf,(∀ A∈xf.map (AF.ha (ηL l)),CL A)∧vo xf C fn an sg x=some r) (hs:(Nat.ble sg.ps.length fn.ntmps&&Nat.ble (rc sg.ps) 64)=true):T6 P f sg x r:=by
 obtain ⟨cd,hcd⟩:=adE.1 hbody
 refine ⟨⟨fn,cd,hf,hcd,hname⟩,fun l hl w c0 hH=>?_⟩
 obtain ⟨xf,hxf,hsem⟩:=hsem l hl w c0 (fun A hA=>hH A (Ww _ hA))
 simp only [vo,hcd] at hsem
 simp only [Vf] at hs
 have hps:=Vg hs.1
 refine Nr (n:=fn.ntmps) hf hcd rfl _ (Wo (by rw [Td]; exact hps)) hH ?_
 intro a w1 c1 ha hHeap
 have hL0:L0ok (HA.old w c0::nR):=⟨fun A hA=>by
  rcases Wd.1 hA with rfl | hA
  ·intro k hk
   simp [HA.uses] at hk
   omega
  ·obtain ⟨e,_,rfl⟩:=VO.1 hA
   intro k hk
   simp [GEnt.ha,HA.uses] at hk
   omega,fun A hA=>Vi _ hA⟩
 have hnamed:iH (ηL l) 0 l:=fun j h hj=>by simp [ηL,hj]
 have hnb : ∀ j h,l[j]? = some h→(ηL l).b (0+j)=h.blk:=fun j h hj=>by simp [ηL,hj]
 obtain ⟨p1,p2⟩:=Mf (η:=ηL l) sg.ps x 2 l 0 hnamed hnb (by omega)
 have hI:jz 64 fn.ntmps (HA.old w c0::nR) (ηL l) [] [] (ags xf sg.ps x) a w1:=by
  refine ⟨ηL l,c1,_,ha,fun t v hlk=>?_,?_,?_,fun _ _=>⟨rfl,rfl⟩⟩
  ·rw [Wm] at hlk
   obtain ⟨j,hj,hv⟩:=yq (η:=ηL l) hlk
   rw [p1] at hv
   rw [YK] at hj
   subst hj
   show (l7 sg.ps x l).getD _ undef=_
   rw [WT,hv]; rfl
  ·rw [show ∀ d,bD d []=[] from fun _=>rfl,Wm]
   show am w1 c1 ((B3 sg.ps x 2 0++xf).map (AF.ha (ηL l)))
   rw [Ym,p2]
   exact am.append (fun A hA=>hHeap A (Vi _ (Ww _ hA))) fun A hA=>hxf A hA w1 c1
  ·intro A hA
   rcases Wd.1 hA with rfl | hA
   ·exact hHeap _ VU
   ·exact hHeap A (Vi _ (WQ _ hA))
 have fin : ∀ S',Oq C.Θ fn sg S' = some r→∀ a w',jz 64 fn.ntmps (HA.old w c0::nR) (ηL l) [] [] S' a w' → bodyPost P fn (wX w c0 (fun y : { y:List Hd // y.length=i9 sg.rs }=>AZ sg.nr sg.rs r y.1)
   (fun y=>(oQ sg.rs r sg.ms 0).map (AF.ha (ηL y.1))++pG sg.rs r y.1 sg.nr (Dg l sg.bl) 130)) .ret a w' := by
  intro S' hret a w' hI'
  obtain ⟨η,c,ρ,hrel,hE,hFf,hL,hβ⟩:=hI'
  rw [Wm] at hE
  rw [show bD S'.d []=[] from rfl,Wm] at hFf
  unfold Oq at hret
  split at hret
  ·rename_i vs bs hvs hbs
   split at hret
   ·rename_i x' ll hd
    simp only at hret
    generalize hcm:(gi (bs.map (·.1)) 130++(nX S'.F sg.ms ll 0++qO S'.F sg.ms ll 0)).filter (fun p=>Nat.ble 2 p.1)=cm at hret
    cases hchk:(sR (pX cm 2) S'.F sg.rs sg.ms ll 0&&Nat.beq sg.ms.length ll.length&&Nat.beq vs.length sg.nr&&(gi (bs.map (·.1)) 130).all (fun p=>Nat.beq (pX cm 2 p.1) p.2))
    ·rw [hchk] at hret; cases hret
    ·rw [hchk] at hret
     simp only [f9,Va] at hret
     subst hret
     simp only [Vf] at hchk
     obtain ⟨⟨⟨hchk,_⟩,hnr⟩,henum⟩:=hchk
     have hnr:=Vb hnr
     have hg:Gd (pX cm 2):=by
      refine HN ?_
      simp only [ZN,Vf]
      refine ⟨rfl,Vx.2 fun z hz=>?_⟩
      obtain ⟨p,hp,rfl⟩:=VO.1 hz
      rw [← hcm] at hp
      refine Wo ?_
      have hp:=(Yc.1 hp).1
      rcases Wc.1 hp with hp | hp
      ·exact TA (by omega) hp
      ·rcases Wc.1 hp with hp | hp
       ·exact Qr hp
       ·exact Rk hp
     obtain ⟨d1,d2,d3,d4⟩:=aex hg hFf hbs hd henum
     have hres:=zn hC.Θ hE hvs
     have hrun:=zP (fn:=fn) (rs:=fn.results.toList) (vs:=AV.vals η vs) (by simp) hrel.val hFf hres
     have hnm : ∀ (q:Nat) (z:Lf),ll[q]? = some z→(ηL (aS η ll)).h (0+q)=z.hd η:=fun q z hz=>by
      have:(aS η ll)[q]? = some (z.hd η):=by rw [aS,Zc,hz]; rfl
      simp only [ηL,YK]
      rw [WT,this]; rfl
     have hfacts:=d4 hchk (ηL (aS η ll)) hnm
     have hblk:Dg l sg.bl=sg.bl.map fun k=>(L6 k).v η:=by
      refine ZI fun b hb=>?_
      unfold obH L6
      cases hk:Nat.blt b 64
      ·simp only [no,ObA.v,(hβ (b % 64) (Nat.mod_lt _ (by omega))).2]; rfl
      ·have h1:b+1≤64:=Vg hk
       simp only [f9,ObA.v,(hβ b (by omega)).1]; rfl
     obtain ⟨o1,o2,o3,o4⟩:=hL _ VU
     refine ⟨hrel.defers,_,hrun,⟨aS η ll,by simp [aS,d2]⟩,fun b=>pX cm 2 (c b),?_,o4,o1,fun b hb' h01=>⟨(o2 b hb' h01).1,?_⟩,fun b hb' hb'' => hg.two _ (o3 b hb' hb''),hfacts.append (by rw [hblk,← hnr]; exact d3)⟩
     ·congr 1
      simp only [AZ]
      rw [← hnr,d1]
      generalize AV.vals η vs=us
      match us with
      | []=>rfl
      | [v]=>rfl
      | v::v' :: us=>
       simp only
       rw [dif_neg (by simp)]
     ·show pX cm 2 (c b)=_
      rw [(o2 b hb' h01).2]
      rcases (show c0 b=0∨c0 b=1 by omega) with e | e <;> rw [e]
      ·exact hg.z
      ·exact hg.o
   ·cases hret
  ·cases hret
 exact afJ (Cx.at_ok hC 64) hm hL0 cd hsem hI (fun S' h' a w' hI' => fin S' h' a w' hI') (fun S' h' a w' hI' => fin S' h' a w' hI') (fun i S' h' => by cases h')
theorem ai9 [Itr] {C:Cx} (hC:C.ok P) (hm:P.follows .mixedOrders=true) (hf:P.funcs[f]? = some fn) (hname:(fn.name == "runtime.NumGoroutine")=false) {an:An} {sg:Sig}
  {x:kA sg.ps} {r:eC sg.rs} (hsem:aL C fn an sg x=some r) (hs:(Nat.ble sg.ps.length fn.ntmps&&Nat.ble (rc sg.ps) 64)=true):T6 P f sg x r:=
 UD hC hm hf hname (by
  simp only [aL,vo] at hsem
  cases hb:fn.body with
  | none=>rw [hb] at hsem; cases hsem
  | some _=>rfl) (fun _ _ _ _ _=>⟨[],fun A hA=>by simp at hA,hsem⟩) hs
theorem uR [Itr] {C:Cx} (hC:C.ok P) (hm:P.follows .mixedOrders=true) (hf:P.funcs[f]? = some fn) (hname:(fn.name == "runtime.NumGoroutine")=false) (hbody:fn.body.isSome=true) {an:An} {t:TC} {rs:List TC} {nr:Nat} {ms:List RM}
  {F:List t.den→Option (eC rs)} (hF : ∀ x,F x=vo [.isn 0 false] C fn an ⟨[.d (.slice t)],rs,nr,[],ms⟩ x) (h0:F []=vo [.isn 0 true] C fn an ⟨[.d (.slice t)],rs,nr,[],ms⟩ ([]:List t.den)) (hs:Nat.ble 1 fn.ntmps=true):Ctr.sound P f ⟨⟨[.d (.slice t)],rs,nr,[],ms⟩,F⟩:=by
 intro x r hr
 refine UD hC hm hf hname (an:=an) hbody (fun l hl w c hH=>?_) (by simp [hs,rc,PC.nh,TC.nh])
 have hr:F x=some r:=hr
 have hl:l.length=1:=by simpa [rc,PC.nh,TC.nh] using hl
 match l,hl with
 | [h],_=>
  cases hn:h.isNil with
  | false=>exact ⟨[.isn 0 false],fun A hA=>by
    simp only [WD,Zy,Vt] at hA
    subst hA
    intro w c
    show (h.isNil=false)
    exact hn,(hF x).symm.trans hr⟩
  | true=>
   have hx:x=([]:List t.den):=by
    obtain ⟨ys,hr,h1,h2,h3,h4⟩:=hH (.rep t.ty [1] x h) VU
    rcases h4 with ⟨_,hc⟩ | ⟨b,off,arr,ty',fz,ha',_⟩
    ·exact Ya (by omega)
    ·simp [Hd.isNil,ha'] at hn
   subst hx
   exact ⟨[.isn 0 true],fun A hA=>by
    simp only [WD,Zy,Vt] at hA
    subst hA
    intro w c
    show (h.isNil=true)
    exact hn,h0.symm.trans hr⟩
theorem aj [Itr] {C:Cx} (hC:C.ok P) (hm:P.follows .mixedOrders=true) (hf:P.funcs[f]? = some fn) (hname:(fn.name == "runtime.NumGoroutine")=false) {an:An} {sg:Sig}
  {F:kA sg.ps→Option (eC sg.rs)} (hF : ∀ x,F x=aL C fn an sg x) (hs:(Nat.ble sg.ps.length fn.ntmps&&Nat.ble (rc sg.ps) 64)=true):Ctr.sound P f ⟨sg,F⟩:=
 fun x _ hr=>ai9 hC hm hf hname (an:=an) ((hF x).symm.trans hr) hs
def aI (C:Cx) (f:FuncId) (ct:Ctr):Cx:=⟨fun g=>bif Nat.beq g f then ct::C.Γ g else C.Γ g,C.Θ,C.G,C.D,C.W,C.I,C.B,C.K,C.O⟩
theorem ai {C:Cx} (hC:C.ok P) {ct:Ctr} (h:ct.sound P f):(aI C f ct).ok P:=by
 refine ⟨fun g c hg=>?_,hC.Θ,hC.G,hC.D,hC.I⟩
 simp only [aI] at hg
 cases hb:Nat.beq g f
 ·rw [hb] at hg; exact hC.Γ g c hg
 ·rw [hb] at hg
  simp only [f9,Wd] at hg
  rcases hg with rfl | hg
  ·rw [Vb hb]; exact h
  ·exact hC.Γ g c hg
def ahK (C:Cx) (d:DCtr) (W:Bool):Cx:=⟨C.Γ,C.Θ,C.G,d::C.D,W,C.I,C.B,C.K,C.O⟩
theorem afb {C:Cx} (hC:C.ok P) {d:DCtr} {W:Bool} (h:d.sound P):(ahK C d W).ok P:=
 ⟨hC.Γ,hC.Θ,hC.G,fun e he=>by
  rcases Wd.1 he with rfl | he
  ·exact h
  ·exact hC.D e he,hC.I⟩
def Cx.wr (C:Cx):Cx:=⟨C.Γ,C.Θ,C.G,C.D,true,C.I,C.B,C.K,C.O⟩
end
end
end Go.Sm
