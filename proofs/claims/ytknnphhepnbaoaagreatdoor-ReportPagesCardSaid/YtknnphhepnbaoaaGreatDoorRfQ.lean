/-
  The symbolic evaluator: functions. Nothing of a program is named here; no condition.
-/
import Derived.Test.YtknnphhepnbaoaaGreatDoorRfP
namespace Go.Sm
set_option linter.unusedSectionVars false
section
variable [X:XTab] [G:GTab]
def mkP:(p:PC)→p.den→Nat→AV
 | .d t,x,n=>mkV t x n
 | .own _ _,_,n=>.lf (.sl n)
 | .box _ _ _,_,n=>.lf (.bp n 0)
 | .fn f,_,_=>.lf (.fn f)
 | .clo f _,_,n=>.lf (.clo f n)
 | .prt _ _,_,n=>.lf (.sl (n+1))
def mkPs:(ps:List PC)→DenP ps→Nat→List AV
 | [],_,_=>[]
 | [p],x,n=>[mkP p x n]
 | p::p' :: r,x,n=>mkP p x.1 n::mkPs (p' :: r) x.2 (n+p.nh)
def mkFM:(t:TC)→t.den→List (Option TypeId)→Nat→Nat→List AF
 | .pair a b,x,os,q,n=>mkFM a x.1 os q n++mkFM b x.2 (os.drop a.nh) (q+a.nh) (n+a.nh)
 | .slice t,xs,os,q,n=>match os with
  | some e::_=>[.own t e q [1] xs n]
  | _=>[.rep t [1] xs n]
 | .st a,x,os,q,n=>mkFM a x os q n
 | .sc _,_,_,_,_=>[]
 | .arr _ _,_,_,_,_=>[]
 | .unit,_,_,_,_=>[]
 | .ext _,_,_,_,_=>[]
def mkPF:(p:PC)→p.den→Nat→Nat→List AF
 | .d t,x,_,n=>mkF t x [1] n
 | .own t e,xs,q,n=>[.own t e q [1] xs n]
 | .box m t os,x,q,n=>.box (bif m then q else 1) n (mkL t x (n+1))::mkFM t x (bif m then os else []) (q+1) (n+1)
 | .fn _,_,_,_=>[]
 | .clo _ t,x,q,n=>.box 1 n (mkL t x (n+1))::mkFM t x [] (q+1) (n+1)
 | .prt t e,x,q,n=>[.own t e q [1] x.1 n, .prt (n+1) n t.ty.sz x.2.1 x.2.2]
def mkPFs:(ps:List PC)→DenP ps→Nat→Nat→List AF
 | [],_,_,_=>[]
 | [p],x,q,n=>mkPF p x q n
 | p::p' :: r,x,q,n=>mkPF p x.1 q n++mkPFs (p' :: r) x.2 (q+p.nc) (n+p.nh)
def argE:List AV→Nat→SE
 | [],_=>[]
 | v::r,i=>(i,v)::argE r (i+1)
def argS (xf:List AF) (ps:List PC) (x:DenP ps):SS:=⟨argE (mkPs ps x 0) 0,mkPFs ps x 2 0++xf,64,256,[]⟩
def resE (Θ:Tb) (E:SE) (F:List AF):List ResultVar→Option (List AV)
 | []=>some []
 | .tmp t::r=>match look E t,resE Θ E F r with
  | some v,some vs=>some (v::vs)
  | _,_=>none
 | .cell x t::r=>match look E x,Θ t,resE Θ E F r with
  | some (.lf (.bp b 0)),some i,some vs=>match boxI b F with
   | some (_,cs)=>match cutAt cs i.sz with
    | some (_,[])=>match ofL i.d.agg cs with
     | some v=>some (v::vs)
     | none=>none
    | _=>none
   | none=>none
  | _,_,_=>none
def retOwn (F:List AF):List RM→List Lf→Nat→List (Nat×Nat)
 | m::ms, .sl h::ls,j=>(match m.own with
  | some _=>ownLf F (.sl h) |>.map fun i=>(i,2+2 * j)
  | none=>[])++retOwn F ms ls (j+1)
 | _::ms,_::ls,j=>retOwn F ms ls (j+1)
 | _,_,_=>[]
def retCls (F:List AF):List RM→List Lf→Nat→List (Nat×Nat)
 | _::ms, .sl h::ls,j=>(colsLf F (.sl h)).map (fun k=>(k,129))++retCls F ms ls (j+1)
 | _::ms,_::ls,j=>retCls F ms ls (j+1)
 | _,_,_=>[]
def chkR1 (g:Nat→Nat) (F:List AF) (t:TC) (m:RM) (l:Lf) (j:Nat):Bool:=match m.own,l with
 | _, .nl=>true
 | some e, .sl h=>bif Nat.ble 4194304 e then true else match ownI t e 0 F (.sl h) with
  | some (i,K,_)=>Nat.beq (g i) (2+2 * j)&&(t.ty.pureB||sub (K.map g) (m.K 129))
  | none=>false
 | none, .sl h=>match lfI t F (.sl h) with
  | some s=>sub (s.all.map g) (m.K 129)
  | none=>false
 | _,_=>false
def chkRT (g:Nat→Nat) (F:List AF):TC→List RM→List Lf→Nat→Bool
 | .pair a b,ms,ls,j=>chkRT g F a ms ls j&&chkRT g F b (ms.drop a.nh) (ls.drop a.nh) (j+a.nh)
 | .slice t,m::_,l::_,j=>chkR1 g F t m l j
 | .slice _,_,_,_=>false
 | .st a,ms,ls,j=>chkRT g F a ms ls j
 | _,_,_,_=>true
def chkRL (g:Nat→Nat) (F:List AF):List TC→List RM→List Lf→Nat→Bool
 | [],_,_,_=>true
 | t::r,ms,ls,j=>chkRT g F t ms ls j&&chkRL g F r (ms.drop t.nh) (ls.drop t.nh) (j+t.nh)
def rowI (h:Nat) (e:TypeId):List AF→Option Nat
 | []=>none
 | .own _ e' i _ _ h' :: r=>bif Nat.beq h h' then (bif Nat.beq e e' then some i else none) else rowI h e r
 | .rep _ _ _ h' :: r=>bif Nat.beq h h' then none else rowI h e r
 | .box _ _ _::r=>rowI h e r
 | .isn _ _::r=>rowI h e r
 | .prt _ _ _ _ _::r=>rowI h e r
def obA (k:Nat):ObA:=bif Nat.blt k 64 then .b k else .r (k % 64) (k / 64 - 1)
def outV1 (F:List AF) (k:Nat):Option (Nat×List Lf):=bif Nat.blt k 64 then boxI k F else match rowI (k % 64) (k / 64 - 1) F with
 | some i=>some (i,[.sl (k % 64)])
 | none=>none
def outVs (F:List AF):List Nat→Option (List (Nat×List Lf))
 | []=>some []
 | b::r=>match outV1 F b,outVs F r with
  | some (i,cs),some vs=>some ((i,cs)::vs)
  | _,_=>none
theorem rowI_own {t:TC} {h:Nat} {e:TypeId} : ∀ {F:List AF} {i:Nat} {s:SI t},rowI h e F=some i→slI t h F=some s→s.own=some (e,i)
 | [],_,_,h1,_=>by simp [rowI] at h1
 | .own t' e' i' K xs h' :: r,i,s,h1,h2=>by
  simp only [rowI] at h1
  simp only [slI] at h2
  cases hb:Nat.beq h h'
  ·rw [hb] at h1 h2; exact rowI_own h1 h2
  ·rw [hb] at h1 h2
   simp only [cond_true] at h1 h2
   cases he:Nat.beq e e'
   ·rw [he] at h1; cases h1
   ·rw [he] at h1
    simp only [cond_true,Option.some.injEq] at h1
    split at h2
    ·simp only [Option.some.injEq] at h2
     subst h2
     rw [Nat.eq_of_beq_eq_true he,h1]
    ·cases h2
 | .rep _ _ _ h' :: r,i,s,h1,h2=>by
  simp only [rowI] at h1
  simp only [slI] at h2
  cases hb:Nat.beq h h'
  ·rw [hb] at h1 h2; exact rowI_own h1 h2
  ·rw [hb] at h1; cases h1
 | .box _ _ _::r,_,_,h1,h2=>rowI_own (F:=r) h1 h2
 | .isn _ _::r,_,_,h1,h2=>rowI_own (F:=r) h1 h2
 | .prt _ _ _ _ _::r,_,_,h1,h2=>rowI_own (F:=r) h1 h2
def datO (F:List AF):(ts:List TC)→List (List Lf)→Option (DenL ts×List Lf)
 | [],[]=>some ((),[])
 | [t],[cs]=>match datL F t cs with
  | some (x,l,_,[])=>some (x,l)
  | _=>none
 | t::t' :: r,cs::vs=>match datL F t cs,datO F (t' :: r) vs with
  | some (x,l,_,[]),some (y,l')=>some ((x,y),l++l')
  | _,_=>none
 | _,_=>none
def datR (F:List AF):(ts:List TC)→List AV→List (List Lf)→Option (DenL ts×List Lf)
 | ts,[],bs=>datO F ts bs
 | [t],[v],[]=>match datA F t v with
  | some (x,l,_)=>some (x,l)
  | none=>none
 | t::t' :: r,v::vs,bs=>match datA F t v,datR F (t' :: r) vs bs with
  | some (x,l,_),some (y,l')=>some ((x,y),l++l')
  | _,_=>none
 | _,_,_=>none
def enumC:List Nat→Nat→List (Nat×Nat)
 | [],_=>[]
 | i::r,c=>(i,c)::enumC r (c+1)
def retD (Θ:Tb) (fn:Func) (C:Sig) (S:SS):Option (DenL C.rs):=match resE Θ S.E S.F fn.results.toList,outVs S.F C.bl with
 | some vs,some bs=>match datR S.F C.rs vs (bs.map (·.2)) with
  | some (x,l)=>
   let cm:=(enumC (bs.map (·.1)) 130++(retOwn S.F C.ms l 0++retCls S.F C.ms l 0)).filter fun p=>Nat.ble 2 p.1
   bif chkRL (mkg cm 2) S.F C.rs C.ms l 0&&Nat.beq C.ms.length l.length&&Nat.beq vs.length C.nr&&(enumC (bs.map (·.1)) 130).all (fun p=>Nat.beq (mkg cm 2 p.1) p.2) then some x else none
  | none=>none
 | _,_=>none
def semX [Itr] (xf:List AF) (C:Cx) (fn:Func) (an:An) (sg:Sig) (x:DenP sg.ps):Option (DenL sg.rs):=match fn.body with
 | some cd=>sem C fn.ntmps cd (DenL sg.rs) an [] [] (argS xf sg.ps x) ⟨retD C.Θ fn sg,retD C.Θ fn sg,fun _ _=>none⟩
 | none=>none
def semF [Itr] (C:Cx) (fn:Func) (an:An) (sg:Sig) (x:DenP sg.ps):Option (DenL sg.rs):=semX [] C fn an sg x
section
variable {P:Program}
theorem mkF_ha' {K:List Nat} {η:Vn} : ∀ (t:TC) (x:t.den) (l:List Hd) (n:Nat),NamedL η n l→t.nh≤l.length→(mkF t x K n).map (AF.ha η)=facts t.ty K x (refsOf t l)
 | .sc _,_,_,_,_,_=>rfl
 | .arr _ _,_,_,_,_,_=>rfl
 | .unit,_,_,_,_,_=>rfl
 | .pair a b,x,l,n,h,hl=>by
  simp only [TC.nh] at hl
  simp only [mkF,List.map_append,facts,refsOf]
  rw [mkF_ha' a x.1 l n h (by omega),mkF_ha' b x.2 (l.drop a.nh) (n+a.nh) (fun j hh hj=>by
   rw [List.getElem?_drop] at hj
   have:=h _ hh hj
   rwa [show n+a.nh+j=n+(a.nh+j) by omega]) (by simp; omega)]
 | .slice _,x,l,n,h,hl=>by
  simp only [TC.nh] at hl
  cases l with
  | nil=>simp at hl
  | cons hd r=>
   have:=h 0 hd rfl
   simp only [Nat.add_zero] at this
   simp [mkF,AF.ha,facts,refsOf,this]
 | .st a,x,l,n,h,hl=>mkF_ha' a x l n h hl
 | .ext _,_,_,_,_,_=>rfl
theorem mkFM_ha {η:Vn} : ∀ (t:TC) (x:t.den) (os:List (Option TypeId)) (q:Nat) (l:List Hd) (n:Nat),NamedL η n l→t.nh≤l.length→(mkFM t x os q n).map (AF.ha η)=factsM t x (refsOf t l) os q
 | .sc _,_,_,_,_,_,_,_=>rfl
 | .arr _ _,_,_,_,_,_,_,_=>rfl
 | .unit,_,_,_,_,_,_,_=>rfl
 | .pair a b,x,os,q,l,n,h,hl=>by
  simp only [TC.nh] at hl
  simp only [mkFM,List.map_append,factsM,refsOf]
  rw [mkFM_ha a x.1 os q l n h (by omega),mkFM_ha b x.2 (os.drop a.nh) (q+a.nh) (l.drop a.nh) (n+a.nh) (fun j hh hj=>by
   rw [List.getElem?_drop] at hj
   have:=h _ hh hj
   rwa [show n+a.nh+j=n+(a.nh+j) by omega]) (by simp; omega)]
 | .slice _,x,os,q,l,n,h,hl=>by
  simp only [TC.nh] at hl
  cases l with
  | nil=>simp at hl
  | cons hd r=>
   have:=h 0 hd rfl
   simp only [Nat.add_zero] at this
   cases os with
   | nil=>simp [mkFM,AF.ha,factsM,refsOf,this]
   | cons o os=>cases o <;> simp [mkFM,AF.ha,factsM,refsOf,this]
 | .st a,x,os,q,l,n,h,hl=>mkFM_ha a x os q l n h hl
 | .ext _,_,_,_,_,_,_,_=>rfl
theorem mkP_val {η:Vn} : ∀ (p:PC) (x:p.den) (l:List Hd) (n:Nat),NamedL η n l→(∀ j h,l[j]? = some h→η.b (n+j)=h.blk)→p.nh≤l.length→(mkP p x n).val η=p.val x l
 | .d t,x,l,n,h,_,hl=>mkV_valOf t x l n h hl
 | .own _ _,_,[],_,_,_,hl=>by simp [PC.nh] at hl
 | .own _ _,_,hd::r,n,h,_,_=>by
  have:=h 0 hd rfl
  simp only [Nat.add_zero] at this
  simp [mkP,PC.val,AV.val,Lf.val,this]
 | .box _ _ _,_,[],_,_,_,hl=>by simp [PC.nh] at hl
 | .box _ _ _,_,hd::r,n,_,hb,_=>by
  have:=hb 0 hd rfl
  simp only [Nat.add_zero] at this
  simp [mkP,PC.val,AV.val,Lf.val,this]
 | .fn _,_,_,_,_,_,_=>rfl
 | .clo _ _,_,[],_,_,_,hl=>by simp [PC.nh] at hl
 | .clo _ _,_,hd::r,n,_,hb,_=>by
  have:=hb 0 hd rfl
  simp only [Nat.add_zero] at this
  simp [mkP,PC.val,AV.val,Lf.val,this]
 | .prt _ _,_,[],_,_,_,hl=>by simp [PC.nh] at hl
 | .prt _ _,_,[_],_,_,_,hl=>by simp [PC.nh] at hl
 | .prt _ _,_,_::hd::r,n,h,_,_=>by
  have:=h 1 hd rfl
  simp [mkP,PC.val,AV.val,Lf.val,this]
theorem NamedL.tail {η:Vn} {n k:Nat} {l:List Hd} (h:NamedL η n l):NamedL η (n+k) (l.drop k):=fun j hh hj=>by
 rw [List.getElem?_drop] at hj
 have:=h _ hh hj
 rwa [show n+k+j=n+(k+j) by omega]
theorem mkPF_ha {η:Vn} : ∀ (p:PC) (x:p.den) (q:Nat) (l:List Hd) (n:Nat),NamedL η n l→(∀ j h,l[j]? = some h→η.b (n+j)=h.blk)→p.nh≤l.length→(mkPF p x q n).map (AF.ha η)=p.facts x l q
 | .d t,x,q,l,n,h,_,hl=>mkF_ha' t x l n h hl
 | .own _ _,_,_,[],_,_,_,hl=>by simp [PC.nh] at hl
 | .own _ _,_,_,hd::r,n,h,_,_=>by
  have:=h 0 hd rfl
  simp only [Nat.add_zero] at this
  simp [mkPF,PC.facts,AF.ha,this]
 | .box _ _ _,_,_,[],_,_,_,hl=>by simp [PC.nh] at hl
 | .box m t os,x,q,hd::r,n,h,hb,hl=>by
  have:=hb 0 hd rfl
  simp only [Nat.add_zero] at this
  have hr:NamedL η (n+1) r:=h.tail (k:=1)
  have hlr:t.nh≤r.length:=by simp [PC.nh] at hl; omega
  simp only [mkPF,PC.facts,List.map_cons,AF.ha,this,List.headD_cons,List.drop_succ_cons,List.drop_zero,mkL_cells' t x r (n+1) hr hlr,mkFM_ha t x _ _ r (n+1) hr hlr]
 | .fn _,_,_,_,_,_,_,_=>rfl
 | .clo _ _,_,_,[],_,_,_,hl=>by simp [PC.nh] at hl
 | .clo _ t,x,q,hd::r,n,h,hb,hl=>by
  have:=hb 0 hd rfl
  simp only [Nat.add_zero] at this
  have hr:NamedL η (n+1) r:=h.tail (k:=1)
  have hlr:t.nh≤r.length:=by simp [PC.nh] at hl; omega
  simp only [mkPF,PC.facts,List.map_cons,AF.ha,this,List.headD_cons,List.drop_succ_cons,List.drop_zero,mkL_cells' t x r (n+1) hr hlr,mkFM_ha t x _ _ r (n+1) hr hlr]
 | .prt _ _,_,_,[],_,_,_,hl=>by simp [PC.nh] at hl
 | .prt _ _,_,_,[_],_,_,_,hl=>by simp [PC.nh] at hl
 | .prt _ _,_,_,h0::h1::r,n,h,_,_=>by
  have e0:=h 0 h0 rfl
  have e1:=h 1 h1 rfl
  simp only [Nat.add_zero] at e0
  simp [mkPF,PC.facts,AF.ha,e0,e1]
theorem mkPs_ok {η:Vn} : ∀ (ps:List PC) (x:DenP ps) (q:Nat) (l:List Hd) (n:Nat),NamedL η n l→(∀ j h,l[j]? = some h→η.b (n+j)=h.blk)→nhP ps≤l.length →
  AV.vals η (mkPs ps x n)=valsP ps x l∧(mkPFs ps x q n).map (AF.ha η)=factsP ps x l q
 | [],_,_,_,_,_,_,_=>⟨rfl,rfl⟩
 | [p],x,q,l,n,h,hb,hl=>by
  simp only [nhP,Nat.add_zero] at hl
  exact ⟨by simp only [mkPs,AV.vals,valsP,mkP_val p x l n h hb hl],mkPF_ha p x q l n h hb hl⟩
 | p::p' :: r,x,q,l,n,h,hb,hl=>by
  have e:nhP (p::p' :: r)=p.nh+nhP (p' :: r):=rfl
  obtain ⟨h1,h2⟩:=mkPs_ok (p' :: r) x.2 (q+p.nc) (l.drop p.nh) (n+p.nh) h.tail (fun j hh hj=>by
   rw [List.getElem?_drop] at hj
   have:=hb _ hh hj
   rwa [show n+p.nh+j=n+(p.nh+j) by omega]) (by simp only [List.length_drop]; omega)
  refine ⟨?_,?_⟩
  ·simp only [mkPs,AV.vals,valsP,h1,mkP_val p x.1 l n h hb (by omega)]
  ·simp only [mkPFs,List.map_append,factsP,h2,mkPF_ha p x.1 q l n h hb (by omega)]
theorem argE_look {η:Vn} : ∀ {vs:List AV} {i t:Nat} {v:AV},look (argE vs i) t=some v→∃ j,t=i+j∧(AV.vals η vs)[j]? = some (v.val η)
 | [],_,_,_,h=>by simp [argE,look] at h
 | u::r,i,t,v,h=>by
  simp only [argE,look] at h
  cases hb:Nat.beq t i
  ·rw [hb] at h
   obtain ⟨j,h1,h2⟩:=argE_look (η:=η) h
   exact ⟨j+1,by omega,by simpa [AV.vals] using h2⟩
  ·rw [hb] at h
   simp only [cond_true,Option.some.injEq] at h
   subst h
   exact ⟨0,by have:=Nat.eq_of_beq_eq_true hb; omega,by simp [AV.vals]⟩
theorem resE_ok {Θ:Tb} (hΘ:Θ.ok P) {η:Vn} {ρ:Env} {E:SE} {F:List AF} (hE:EnvOk η ρ E) : ∀ {l:List ResultVar} {vs:List AV},resE Θ E F l=some vs→ResL P ρ (F.map (AF.ha η)) l (AV.vals η vs)
 | [],vs,h=>by simp only [resE,Option.some.injEq] at h; subst h; exact trivial
 | .tmp t::r,vs,h=>by
  simp only [resE] at h
  split at h
  ·rename_i v vs' h1 h2
   simp only [Option.some.injEq] at h
   subst h
   exact ⟨ra_tmp (hE t v h1),resE_ok hΘ hE h2⟩
  ·cases h
 | .cell x t::r,vs,h=>by
  simp only [resE] at h
  split at h
  ·rename_i b i vs' h1 hi h2
   split at h
   ·rename_i ci cs hb
    split at h
    ·rename_i q hc
     split at h
     ·rename_i v hv
      simp only [Option.some.injEq] at h
      subst h
      refine ⟨?_,resE_ok hΘ hE h2⟩
      obtain ⟨g1,g2,_,_⟩:=hΘ t i hi
      obtain ⟨td,ht,hd⟩:=fits_agg g2
      obtain ⟨k,hk⟩:=fact_at (boxI_mem hb) η
      obtain ⟨e2,l3⟩:=cutAt_ok hc
      rw [List.append_nil] at e2
      subst e2
      have hxv:ρ x = .pointer (some ⟨η.b b,0,none⟩):=hE x _ h1
      cases hag:i.d.agg
      ·rw [hag] at hv hd
       obtain ⟨l,rfl,rfl,hl1⟩:=ofL_one hv η
       refine ra_cell1 k hk ht hd hxv ?_
       simp [cellsL,hl1]
      ·rw [hag] at hv hd
       rw [ofL_agg hv η]
       exact ra_cellN k hk ht hd g1 hxv (by simp [l3 η])
     ·cases h
    ·cases h
   ·cases h
  ·cases h
theorem chkR_ok {g:Nat→Nat} (hg:Gd g) {F:List AF} {η:Vn} {w:World} {c:Col} (hF:Heap w c (F.map (AF.ha η))) : ∀ {t:TC} {ls:List Lf} {x:t.den} {l:List Lf} {K:List Nat} {r:List Lf} {ms:List RM} {j:Nat} {l' : List Lf},datL F t ls=some (x,l,K,r)→chkRT g F t ms (l++l') j=true →
  ∀ η' : Vn,(∀ (q:Nat) (a:Lf),l[q]? = some a→η'.h (j+q)=a.hd η)→Heap w (fun b=>g (c b)) ((resT t x ms j).map (AF.ha η'))
 | .sc _,_,_,_,_,_,_,_,_,_,_,_,_=>Heap.nil _ _
 | .arr _ _,_,_,_,_,_,_,_,_,_,_,_,_=>Heap.nil _ _
 | .unit,_,_,_,_,_,_,_,_,_,_,_,_=>Heap.nil _ _
 | .ext _,_,_,_,_,_,_,_,_,_,_,_,_=>Heap.nil _ _
 | .st a,_,_,_,_,_,_,_,_,h,hc,η',hn=>chkR_ok hg hF (t:=a) h hc η' hn
 | .slice t,[],_,_,_,_,_,_,_,h,_,_,_=>by simp [datL] at h
 | .slice t,a::ls,x,l,K,r,ms,j,l',h,hc,η',hn=>by
  simp only [datL] at h
  split at h
  ·rename_i s hs
   simp only [Option.some.injEq,Prod.mk.injEq] at h
   obtain ⟨rfl,rfl,rfl,rfl⟩:=h
   cases ms with
   | nil=>exact Heap.nil _ _
   | cons m ms=>
    have hna:=hn 0 a rfl
    rw [Nat.add_zero] at hna
    simp only [List.cons_append,chkRT,chkR1] at hc
    simp only [resT]
    cases ho:m.own with
    | none=>
     simp only [ho] at hc
     refine Heap.cons ?_ (Heap.nil _ _)
     simp only [AF.ha,hna]
     cases a with
     | sl h=>
      simp only [hs] at hc
      exact rep_re hg (lfI_rep hs hF) hc
     | nl=>
      simp only [lfI,Option.some.injEq] at hs
      subst hs
      exact free_rep _ _
     | _=>simp [lfI] at hs
    | some e=>
     cases hsen:Nat.ble 4194304 e
     rotate_left
     ·simp only [hsen,cond_true]; exact Heap.nil _ _
     simp only [ho] at hc
     simp only [hsen,cond_false]
     refine Heap.cons ?_ (Heap.nil _ _)
     simp only [AF.ha,hna]
     cases a with
     | sl h=>
      simp only [hsen,cond_false] at hc
      split at hc
      ·rename_i i K' xs hoi
       simp only [Bool.and_eq_true,Bool.or_eq_true] at hc
       have hxs:xs=s.xs:=by
        simp only [lfI] at hs
        simp only [ownI,hs] at hoi
        split at hoi
        ·rename_i e' i' K2 xs2 heq
         simp only [Option.some.injEq] at heq
         cases hb:Nat.beq e e'
         ·rw [hb] at hoi; cases hoi
         ·rw [hb] at hoi
          simp only [cond_true,Option.some.injEq,Prod.mk.injEq] at hoi
          rw [heq]; exact hoi.2.2.symm
        ·cases hoi
       rw [← hxs]
       exact own_re hg (ownI_own hoi hF) (Nat.eq_of_beq_eq_true hc.1) hc.2
      ·cases hc
     | nl=>
      simp only [lfI,Option.some.injEq] at hs
      subst hs
      exact free_own _ _
     | _=>simp [lfI] at hs
  ·cases h
 | .pair a b,ls,x,l,K,r,ms,j,l',h,hc,η',hn=>by
  simp only [datL] at h
  split at h
  ·rename_i x1 l1 K1 r1 h1
   split at h
   ·rename_i x2 l2 K2 r2 h2
    simp only [Option.some.injEq,Prod.mk.injEq] at h
    obtain ⟨rfl,rfl,rfl,rfl⟩:=h
    simp only [chkRT,Bool.and_eq_true] at hc
    have hn1:=datL_nh a h1
    simp only [resT,List.map_append]
    refine (chkR_ok hg hF h1 (l' := l2++l') (by rw [← List.append_assoc]; exact hc.1) η' fun q z hz=>hn q z (by rw [List.getElem?_append_left (List.getElem?_eq_some_iff.1 hz).1]; exact hz)).append
     (chkR_ok hg hF h2 (l' := l') ?_ η' fun q z hz=>?_)
    ·have:(l1++l2++l').drop a.nh=l2++l' := by
      rw [List.append_assoc,List.drop_append,List.drop_eq_nil_of_le (by omega),show a.nh - l1.length=0 by omega]; rfl
     rw [← this]; exact hc.2
    ·have:=hn (a.nh+q) z (by rw [List.getElem?_append_right (by omega)]; rw [show a.nh+q - l1.length=q by omega]; exact hz)
     rwa [show j+a.nh+q=j+(a.nh+q) by omega]
   ·cases h
  ·cases h
end
end
end Go.Sm
