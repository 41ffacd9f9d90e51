/- Laws for the row. No condition. -/
import Derived.Test.YtfhhiajfciblbaaGreatDoorRfM
namespace Go.Sm
set_option linter.unusedSectionVars false
variable {w:World} {nm:Nat} {K:List Nat}
section
variable [X:XTab] [G:GTab]
inductive Sp
 | sc (s:SC)
 | ar (n:Nat) (s:SC)
 | xt (n:Nat)
 | own (t:TC) (e:TypeId) (one:Bool) (src:List Nat)
 | rep (t:TC) (one:Bool) (src:List Nat)
 | ownk (t:TC) (e:TypeId) (h:Nat)
 | mp (k v:TC)
 | pt (t:TC) (e:TypeId) (one:Bool) (src:List Nat)
 | al (d:Nat)
abbrev Sp.den:Sp→Type
 | .sc s=>s.den
 | .ar _ s=>List s.den
 | .xt n=>X.den n
 | .own t _ _ _=>List t.den
 | .rep t _ _=>List t.den
 | .ownk t _ _=>List t.den
 | .mp k v=>List (k.den×v.den)
 | .pt t _ _ _=>List t.den×Int
 | .al _=>Unit
abbrev wM:List Sp→Type
 | []=>Unit
 | [a]=>a.den
 | a::b::r=>a.den×wM (b::r)
inductive ShV
 | lf (l:Sp)
 | ag (ls:List Sp)
def ShV.ls:ShV→List Sp
 | .lf l=>[l]
 | .ag ls=>ls
structure Shp where
 keep:List Nat
 vs:List (Nat×ShV)
 bx:List (Nat×List Sp)
 dead:List Nat
def Shp.ls (sh:Shp):List Sp:=sh.vs.flatMap (fun p=>p.2.ls)++sh.bx.flatMap (fun p=>p.2)
def sa (E:SE):List (Nat×ShV)→Option (List Lf)
 | []=>some []
 | (t, .lf _)::r=>match bg E t,sa E r with
  | some (.lf l),some ls=>some (l::ls)
  | _,_=>none
 | (t, .ag ps)::r=>match bg E t,sa E r with
  | some (.ag l),some ls=>bif Nat.beq l.length ps.length then some (l++ls) else none
  | _,_=>none
def CH (E:SE) (F:List AF):List (Nat×List Sp)→Option (List Lf)
 | []=>some []
 | (t,ps)::r=>match bg E t with
  | some (.lf (.bp b 0))=>match kZ b F,CH E F r with
   | some (_,cs),some ls=>bif Nat.beq cs.length ps.length then some (cs++ls) else none
   | _,_=>none
  | some (.lf (.sl h))=>match ot h F,CH E F r with
   | some (h0,_,_,_),some ls=>bif Nat.beq 1 ps.length then some (.sl h0::ls) else none
   | _,_=>none
  | _=>none
def Sp.abs (F:List AF):(p:Sp)→Lf→Option p.den
 | .sc s, .c s' x=>if h:s' = s then some (Cj h x) else none
 | .ar n s, .ar n' s' x=>if h:s' = s∧n' = n then some (zs h.1 x) else none
 | .xt n, .xt m x=>if h:m=n then some (acX h x) else none
 | .own t e _ _,l=>match gw t e 0 F l with | some (_,_,xs)=>some xs | none=>none
 | .rep t _ _,l=>match jj t F l with | some s=>some s.xs | none=>none
 | .ownk t e h, .sl h' => bif Nat.beq h h' && Nat.blt h 64 then (match gw t e 0 F (.sl h') with | some (_,_,xs)=>some xs | none=>none) else none
 | .mp k v, .mp h=>match uP k v h F with | some s=>some s.xs | none=>none
 | .pt t e _ _, .sl h=>match zI t h F with | some s=>bif Nat.beq e s.e then some (s.xs,s.m) else none | none=>none
 | .al _, .sl _=>some ()
 | _,_=>none
def mS (F:List AF):(ps:List Sp)→List Lf→Option (wM ps)
 | [],[]=>some ()
 | [p],[l]=>p.abs F l
 | p::q::r,l::ls=>match p.abs F l,mS F (q::r) ls with
  | some x,some y=>some (x,y)
  | _,_=>none
 | _,_=>none
def Sp.leaf (p:Sp) (x:p.den) (nm:Nat):Lf:=match p,x with
 | .sc s,x=>.c s x
 | .ar n s,x=>.ar n s x
 | .xt n,x=>.xt n x
 | .own _ _ _ _,_=>.sl nm
 | .rep _ _ _,_=>.sl nm
 | .ownk _ _ h,_=>.sl h
 | .mp _ _,_=>.mp nm
 | .pt _ _ _ _,_=>.sl nm
 | .al d,_=>.sl (nm+d)
def qB:(ps:List Sp)→wM ps→Nat→List Lf
 | [],_,_=>[]
 | [p],x,nm=>[p.leaf x nm]
 | p::q::r,x,nm=>p.leaf x.1 nm::qB (q::r) x.2 (nm+1)
def vE (KK:Nat→List Nat) (one:Bool) (src:List Nat) (_cb:Nat):List Nat:=(bif one then [1] else [])++src.flatMap KK++KK 4000000
def Sp.fact (KK:Nat→List Nat) (p:Sp) (x:p.den) (nm cb:Nat):List AF:=match p,x with
 | .own t e one src,xs=>[.own t e cb (bif t.ty.pureB||fG e then [] else vE KK one src cb) xs nm]
 | .rep t one src,xs=>[.rep t (vE KK one src cb) xs nm]
 | .ownk t e h,xs=>[.own t e cb [] xs h]
 | .mp k v,xs=>[.mp k v cb xs nm]
 | .pt t e one src,x=>[.pt t e cb (vE KK one src cb) x.1 nm x.2, .rep t (cb::vE KK one src cb) x.1 nm]
 | _,_=>[]
def Di (KK:Nat→List Nat):(ps:List Sp)→wM ps→Nat→Nat→List AF
 | [],_,_,_=>[]
 | [p],x,nm,cb=>p.fact KK x nm cb
 | p::q::r,x,nm,cb=>p.fact KK x.1 nm cb++Di KK (q::r) x.2 (nm+1) (cb+2)
def uq:List (Nat×ShV)→List Lf→SE
 | [],_=>[]
 | (t, .lf _)::r,l::ls=>(t, .lf l)::uq r ls
 | (t, .ag ps)::r,ls=>(t, .ag (ls.take ps.length))::uq r (ls.drop ps.length)
 | _,[]=>[]
def wL (E:SE):List (Nat×List Sp)→List Lf→Nat→List AF
 | [],_,_=>[]
 | (t,ps)::r,ls,cb=>match bg E t with
  | some (.lf (.bp b 0))=>.box cb b (ls.take ps.length)::wL E r (ls.drop ps.length) (cb+1)
  | some (.lf (.sl _))=>wL E r (ls.drop ps.length) (cb+1)
  | _=>[]
def Dl (F:List AF) (l:Lf):List Nat:=match l with
 | .sl h=>F.flatMap fun f=>match f with
  | .own _ _ i K _ h' => bif Nat.beq h h' then i::K else []
  | .rep _ K _ h' => bif Nat.beq h h' then K else []
  | .box _ _ _=>[]
  | .isn _ _=>[]
  | .prt _ _ _ _ _=>[]
  | .hol _ _ i _ h' _ _=>bif Nat.beq h h' then [i] else []
  | .mp _ _ _ _ _=>[]
  | .pt _ _ i K _ h' _=>bif Nat.beq h h' then i::K else []
 | .mp h=>F.flatMap fun f=>match f with
  | .mp _ _ i _ h' => bif Nat.beq h h' then [i] else []
  | _=>[]
 | .bp b _=>F.flatMap fun f=>match f with
  | .box i b' _=>bif Nat.beq b b' then [i] else []
  | _=>[]
 | _=>[]
def ag2 (F:List AF):AV→List Nat
 | .lf l=>Dl F l
 | .ag ls=>ls.flatMap (Dl F)
 | .tu _=>[]
def Zn (E:SE) (F:List AF) (t:Nat):List Nat:=match bg E t with
 | some v=>ag2 F v
 | none=>[]
def ajY (E:SE) (F:List AF) (t:Nat):List Nat:=match bg E t with
 | some (.lf (.bp b _))=>F.flatMap fun f=>match f with
  | .box _ b' cs=>bif Nat.beq b b' then cs.flatMap (Dl F) else []
  | _=>[]
 | _=>[]
def Xm (E:SE) (F:List AF) (cc t:Nat):List Nat:=bif Nat.beq t 4000000 then [cc] else bif Nat.ble 1000000 t then ajY E F (t - 1000000) else Zn E F t
def sj (sh:Shp) (KE:SE) (KF:List AF) (nb cb:Nat) (d:wM sh.ls):SS:=
 let ls:=qB sh.ls d nb
 ⟨uq sh.vs ls,Di (Xm KE KF (cb+255)) sh.ls d nb cb++wL KE sh.bx (ls.drop (sh.vs.flatMap (fun p=>p.2.ls)).length) (cb+2 * sh.ls.length),nb+64,cb+256,[]⟩
def qQ (F:List AF):List Sp→List Lf→Nat→List (Nat×Nat)
 | .own t e _ _::ps,l::ls,cb=>match gw t e 0 F l with
  | some (i,_,_)=>(i,cb)::qQ F ps ls (cb+2)
  | none=>qQ F ps ls (cb+2)
 | .ownk t e _::ps,l::ls,cb=>match gw t e 0 F l with
  | some (i,_,_)=>(i,cb)::qQ F ps ls (cb+2)
  | none=>qQ F ps ls (cb+2)
 | .mp k v::ps, .mp h::ls,cb=>match uP k v h F with
  | some s=>(s.i,cb)::qQ F ps ls (cb+2)
  | none=>qQ F ps ls (cb+2)
 | .pt t _ _ _::ps, .sl h::ls,cb=>match zI t h F with
  | some s=>(s.i,cb)::qQ F ps ls (cb+2)
  | none=>qQ F ps ls (cb+2)
 | _::ps,_::ls,cb=>qQ F ps ls (cb+2)
 | _,_,_=>[]
def GS (E:SE) (F:List AF):List (Nat×List Sp)→Nat→List (Nat×Nat)
 | [],_=>[]
 | (t,_)::r,cb=>match bg E t with
  | some (.lf (.bp b 0))=>match kZ b F with
   | some (i,_)=>(i,cb)::GS E F r (cb+1)
   | none=>[]
  | some (.lf (.sl _))=>GS E F r (cb+1)
  | _=>[]
def zS (F:List AF) (cc:Nat):List Sp→List Lf→List (Nat×Nat)
 | .own t e _ _::ps,l::ls=>(match gw t e 0 F l with
  | some (_,K,_)=>K.map fun k=>(k,cc)
  | none=>[])++zS F cc ps ls
 | .rep t _ _::ps,l::ls=>(match jj t F l with
  | some s=>s.all.map fun k=>(k,cc)
  | none=>[])++zS F cc ps ls
 | .pt t _ _ _::ps, .sl h::ls=>(match zI t h F with
  | some s=>s.K.map fun k=>(k,cc)
  | none=>[])++zS F cc ps ls
 | _::ps,_::ls=>zS F cc ps ls
 | _,_=>[]
def sub (a b:List Nat):Bool:=a.all fun k=>b.any fun j=>Nat.beq k j
def Bw (KK:Nat→List Nat) (g:Nat→Nat) (F:List AF) (cb:Nat):Sp→Lf→Bool
 | .own t e one src, .sl h=>match gw t e 0 F (.sl h) with
  | some (i,K,_)=>Nat.beq (g i) cb&&(t.ty.pureB||fG e||sub (K.map g) (vE KK one src cb))
  | none=>false
 | .rep t one src, .sl h=>match jj t F (.sl h) with
  | some s=>sub (s.all.map g) (vE KK one src cb)
  | none=>false
 | .ownk t e _, .sl h=>match gw t e 0 F (.sl h) with
  | some (i,_,_)=>Nat.beq (g i) cb&&(t.ty.pureB||fG e)
  | none=>false
 | .mp k v, .mp h=>match uP k v h F with
  | some s=>Nat.beq (g s.i) cb
  | none=>false
 | .pt t _ one src, .sl h=>match zI t h F with
  | some s=>Nat.beq (g s.i) cb&&sub (s.K.map g) (vE KK one src cb)
  | none=>false
 | _,_=>true
def DZ (KK:Nat→List Nat) (g:Nat→Nat) (F:List AF):Nat→List Sp→List Lf→Bool
 | cb,p::ps,l::ls=>Bw KK g F cb p l&&DZ KK g F (cb+2) ps ls
 | _,_,_=>true
def Bg (g:Nat→Nat) (E:SE) (F:List AF):List (Nat×List Sp)→Nat→Bool
 | [],_=>true
 | (t,_)::r,cb=>match bg E t with
  | some (.lf (.bp b 0))=>match kZ b F with
   | some (i,_)=>Nat.beq (g i) cb&&Bg g E F r (cb+1)
   | none=>false
  | some (.lf (.sl _))=>Bg g E F r (cb+1)
  | _=>false
def alB (p:Sp) (l:Lf) (ls:List Lf):Bool:=match p,l with
 | .al d, .sl h=>(match (l::ls)[d]? with | some (.sl h')=>Nat.beq h h' | _=>false)
 | _,_=>true
def N4:List Sp→List Lf→Bool
 | p::ps,l::ls=>alB p l ls&&N4 ps ls
 | _,_=>true
def Ar (B:Nat) (sh:Shp) (KE:SE) (KF:List AF) (nb cb:Nat) (S:SS):Option (wM sh.ls):=match sa S.E sh.vs,CH KE (S.F++KF) sh.bx with
 | some l1,some l2=>match mS (S.F++KF) sh.ls (l1++l2) with
  | some d=>
   let kc:=KF.flatMap AF.uses
   let cm:=kc.map (fun k=>(k,k))++qQ (S.F++KF) sh.ls (l1++l2) cb++GS KE (S.F++KF) sh.bx (cb+2 * sh.ls.length)++zS (S.F++KF) (cb+255) sh.ls (l1++l2)
   let cm:=cm.filter fun p=>Nat.ble 2 p.1&&Nat.ble 2 p.2
   let g:=qE cm 2
   bif KF.all (fun f=>!(ky S.d f))&&kc.all (fun k=>Nat.beq (g k) k)&&DZ (Xm KE KF (cb+255)) g (S.F++KF) cb sh.ls (l1++l2)&&Bg g KE (S.F++KF) sh.bx (cb+2 * sh.ls.length)&&KE.all (fun p=>p.2.free nb)&&KF.all (AF.free nb)&&Nat.ble sh.ls.length 64&&KE.all (fun p=>(bg S.E p.1).isNone)&&Nat.ble 64 nb&&Nat.ble B nb&&N4 sh.ls (l1++l2) then some d else none
  | none=>none
 | _,_=>none
theorem ER {F:List AF} {η η' : Vn} {p:Sp} {l:Lf} {x:p.den} (hlow : ∀ m,m<64→η'.h m=η.h m) (h:p.abs F l=some x) (hn:η'.h nm=l.hd η) (hal : ∀ d,p = .al d→η'.h (nm+d)=l.hd η):(p.leaf x nm).cells η' = l.cells η∧(p.leaf x nm).val η' = l.val η:=by
 cases p with
 | sc s=>
  cases l <;> simp only [Sp.abs] at h <;> try cases h
  split at h
  ·rename_i he; subst he
   simp only [Wn] at h; subst h
   exact ⟨rfl,rfl⟩
  ·cases h
 | ar n s=>
  cases l <;> simp only [Sp.abs] at h <;> try cases h
  split at h
  ·rename_i he; obtain ⟨rfl,rfl⟩:=he
   simp only [Wn] at h; subst h
   exact ⟨rfl,rfl⟩
  ·cases h
 | xt n=>
  cases l <;> simp only [Sp.abs] at h <;> try cases h
  split at h
  ·rename_i he; subst he
   simp only [Wn] at h; subst h
   exact ⟨rfl,rfl⟩
  ·cases h
 | own t e one src=>
  simp only [Sp.abs] at h
  split at h
  ·rename_i i K xs ho
   refine ⟨?_,?_⟩
   ·simp only [Sp.leaf,Lf.cells,hn]
    cases l <;> simp [gw] at ho <;> rfl
   ·simp only [Sp.leaf,Lf.val,hn]
    exact (qo ho η).symm
  ·cases h
 | rep t one src=>
  simp only [Sp.abs] at h
  split at h
  ·rename_i s hs
   refine ⟨?_,?_⟩
   ·simp only [Sp.leaf,Lf.cells,hn]
    exact (oi hs η).2.symm
   ·simp only [Sp.leaf,Lf.val,hn]
    exact (oi hs η).1.symm
  ·cases h
 | ownk t e h0=>
  cases l with
  | sl h' =>
   simp only [Sp.abs] at h
   cases hb:(Nat.beq h0 h' && Nat.blt h0 64)
   ·grind
   ·simp only [Wp] at hb
    have h1:=Wo hb.1
    have h2:h0+1≤64:=Wt hb.2
    subst h1
    simp only [Sp.leaf,Lf.cells,Lf.val,hlow h0 (by omega),ai8]
  | _=>cases h
 | mp k v=>
  cases l with
  | mp h' => exact ⟨by simp only [Sp.leaf,Lf.cells,hn]; rfl,by simp only [Sp.leaf,Lf.val,hn]; rfl⟩
  | _=>cases h
 | pt t e one src=>
  cases l with
  | sl h' => exact ⟨by simp only [Sp.leaf,Lf.cells,hn]; rfl,by simp only [Sp.leaf,Lf.val,hn]; rfl⟩
  | _=>cases h
 | al d=>
  cases l with
  | sl h' => exact ⟨by simp only [Sp.leaf,Lf.cells,hal d rfl]; rfl,by simp only [Sp.leaf,Lf.val,hal d rfl]; rfl⟩
  | _=>cases h
theorem VZ {F:List AF} {η η' : Vn} {p:Sp} {l:Lf} {ls:List Lf} {x:p.den} (h:p.abs F l=some x) (ha:alB p l ls=true) (hn : ∀ (j:Nat) (l' : Lf),(l::ls)[j]? = some l' → η'.h (nm+j)=l'.hd η) (d:Nat) (hp:p = .al d):η'.h (nm+d)=l.hd η:=by
 subst hp
 cases l with
 | sl h' =>
  simp only [alB] at ha
  split at ha
  ·simp_all
  ·cases ha
 | _=>cases h
theorem CD {F:List AF} {η η' : Vn} (hlow : ∀ m,m<64→η'.h m=η.h m) : ∀ {ps:List Sp} {ls:List Lf} {d:wM ps} {nm:Nat},mS F ps ls=some d→N4 ps ls=true→(∀ (j:Nat) (l:Lf),ls[j]? = some l→η'.h (nm+j)=l.hd η) →
  (qB ps d nm).length=ls.length∧∀ (j:Nat) (l l' : Lf),ls[j]? = some l→(qB ps d nm)[j]? = some l' → l'.cells η' = l.cells η∧l'.val η' = l.val η
 | [],[],d,nm,h,_,hn=>⟨rfl,fun j l l' h=>by simp at h⟩
 | [p],[l],d,nm,h,ha,hn=>⟨rfl,fun j l1 l' h1 h2=>by
  cases j with
  | zero=>
   simp only [qB,aaR,Wn] at h1 h2
   subst h1 h2
   simp only [N4,Wp] at ha
   exact ER hlow h (hn 0 _ rfl) (VZ h ha.1 hn)
  | succ j=>simp at h1⟩
 | p::q::r,l::ls,d,nm,h,ha,hn=>by
  rw [N4,Wp] at ha
  simp only [mS] at h
  split at h
  ·rename_i x y hx hy
   simp only [Wn] at h
   subst h
   obtain ⟨i1,i2⟩:=CD (η:=η) (η' := η') hlow (nm:=nm+1) hy ha.2 fun j l' hj=>by
    have:=hn (j+1) l' (by simpa using hj)
    grind
   refine ⟨by simp only [qB,XM,i1],fun j l1 l' h1 h2=>?_⟩
   cases j with
   | zero=>
    simp only [qB,aaR,Wn] at h1 h2
    subst h1 h2
    exact ER hlow hx (hn 0 _ rfl) (VZ hx ha.1 hn)
   | succ j=>
    simp only [qB,ajp] at h1 h2
    grind
  ·cases h
 | [],_::_,_,_,h,_,_=>by simp [mS] at h
 | [_],[],_,_,h,_,_=>by simp [mS] at h
 | [_],_::_::_,_,_,h,_,_=>by simp [mS] at h
 | _::_::_,[],_,_,h,_,_=>by simp [mS] at h
theorem xA {η η' : Vn} : ∀ {as bs:List Lf},as.length=bs.length→(∀ (j:Nat) (l l' : Lf),bs[j]? = some l→as[j]? = some l' → l'.cells η' = l.cells η)→aw η' as=aw η bs
 | [],[],_,_=>rfl
 | a::as,b::bs,hl,h=>by
  simp only [aw]
  rw [h 0 b a rfl rfl,xA (by simpa using hl) fun j l l' h1 h2=>h (j+1) l l' (by simpa using h1) (by simpa using h2)]
 | [],_::_,hl,_=>by simp at hl
 | _::_,[],hl,_=>by simp at hl
theorem BT {E:SE} {η η' : Vn} : ∀ {vs:List (Nat×ShV)} {ls as rest:List Lf},sa E vs=some ls→as.length=(ls++rest).length→(∀ (j:Nat) (l l' : Lf),(ls++rest)[j]? = some l→as[j]? = some l' → l'.cells η' = l.cells η∧l'.val η' = l.val η) →
  ∀ t v,bg (uq vs as) t=some v→∃ v0,bg E t=some v0∧v.val η' = v0.val η
 | [],ls,as,rest,_,_,_,t,v,h=>by simp [uq,bg] at h
 | (t0, .lf p)::r,ls,as,rest,hg,hl,hc,t,v,h=>by
  simp only [sa] at hg
  split at hg
  ·rename_i l ls' h1 h2
   simp only [Wn] at hg
   subst hg
   cases as with
   | nil=>simp at hl
   | cons a as=>
    simp only [uq,bg] at h
    cases hb:Nat.beq t t0
    ·rw [hb] at h
     exact BT h2 (by simpa using hl) (fun j l l' k1 k2=>hc (j+1) l l' (by simpa using k1) (by simpa using k2)) t v h
    ·rw [hb] at h
     simp only [f9,Wn] at h
     subst h
     obtain rfl:=Wo hb
     exact ⟨_,h1,(hc 0 l a rfl rfl).2⟩
  ·cases hg
 | (t0, .ag ps)::r,ls,as,rest,hg,hl,hc,t,v,h=>by
  simp only [sa] at hg
  split at hg
  ·rename_i l ls' h1 h2
   cases hb0:Nat.beq l.length ps.length
   ·grind
   ·rw [hb0] at hg
    simp only [f9,Wn] at hg
    subst hg
    have hlen:=Wo hb0
    simp only [Wu] at hl
    simp only [uq,bg] at h
    cases hb:Nat.beq t t0
    ·rw [hb] at h
     refine BT (rest:=rest) h2 (by simp; omega) (fun j l1 l' k1 k2=>?_) t v h
     rw [ZT] at k2
     exact hc (ps.length+j) l1 l' (by grind) k2
    ·rw [hb] at h
     simp only [f9,Wn] at h
     subst h
     obtain rfl:=Wo hb
     refine ⟨_,h1,?_⟩
     simp only [AV.val]
     rw [xA (bs:=l) (by simp; omega) fun j l1 l' k1 k2=>?_]
     grind
  ·cases hg
end
section
variable [X:XTab] [G:GTab]
theorem D8 {a b:List Nat} (h:sub a b=true) : ∀ k∈a,k∈b:=fun _ hk=>als h hk
theorem Cw {g:Nat→Nat} (hg:Gd g) {c:bD} {t:TC} {e:TypeId} {i cb:Nat} {K':List Nat} {xs:List t.den} {v:Hd} (h:HA.holds w c (eh t.ty e i K xs v)) (hi:g i=cb) (hK:(t.ty.pureB=true∨fG e=true)∨sub (K.map g) K' = true) :
  HA.holds w (fun b=>g (c b)) (eh t.ty e cb K' xs v):=by
 cases htr:fG e
 rotate_left
 ·rw [jE htr] at h ⊢
  subst hi
  exact HA.ren_holds hg (.tr t.ty e i K xs v) h
 rw [eD htr] at h ⊢
 have h1:=HA.ren_holds hg (.own t.ty e i K xs v) h
 subst hi
 rcases hK with (hK | hK) | hK
 ·exact zj hK _ _ h1
 ·grind
 ·obtain ⟨ys,a1,a2,a3⟩:=h1
  exact ⟨ys,a1.mono (bT.keep (fun _ _ hb=>⟨D8 hK _ hb,rfl⟩) t.ty),a2,a3⟩
theorem U3 {g:Nat→Nat} (hg:Gd g) {c:bD} {t:TC} {K':List Nat} {xs:List t.den} {v:Hd} (h:HA.holds w c (.rep t.ty K xs v)) (hK:sub (K.map g) K' = true):HA.holds w (fun b=>g (c b)) (.rep t.ty K' xs v):=
 bT.keep (fun _ _ hb=>⟨D8 hK _ hb,rfl⟩) (.slice t.ty) xs v (HA.ren_holds hg (.rep t.ty K xs v) h)
theorem Oz {KK:Nat→List Nat} {g:Nat→Nat} (hg:Gd g) {F:List AF} {η η' : Vn} {c:bD} (hF:am w c (F.map (AF.ha η))) {p:Sp} {l:Lf} {x:p.den} {cb:Nat} (hlow : ∀ m,m<64→η'.h m=η.h m) (ha:p.abs F l=some x) (hc:Bw KK g F cb p l=true) (hn:η'.h nm=l.hd η) :
  am w (fun b=>g (c b)) ((p.fact KK x nm cb).map (AF.ha η')):=by
 cases p with
 | sc s=>exact am.nil _ _
 | ar n s=>exact am.nil _ _
 | xt n=>exact am.nil _ _
 | own t e one src=>
  simp only [Sp.abs] at ha
  split at ha
  ·rename_i i K xs ho
   simp only [Wn] at ha
   subst ha
   refine am.cons ?_ (am.nil _ _)
   simp only [AF.ha,hn]
   cases l with
   | sl h=>
    simp only [Bw,ho,Wp,Ze] at hc
    exact Cw hg (gb ho hF) (Wo hc.1) (by
     grind)
   | nl=>
    simp only [gw,Wn,W5] at ho
    obtain ⟨_,_,rfl⟩:=ho
    exact sB _ _
   | _=>simp [gw] at ho
  ·cases ha
 | rep t one src=>
  simp only [Sp.abs] at ha
  split at ha
  ·rename_i s hs
   simp only [Wn] at ha
   subst ha
   refine am.cons ?_ (am.nil _ _)
   simp only [AF.ha,hn]
   cases l with
   | sl h=>
    simp only [Bw,hs] at hc
    exact U3 hg (kS hs hF) hc
   | nl=>
    simp only [jj,Wn] at hs
    subst hs
    exact rO _ _
   | _=>simp [jj] at hs
  ·cases ha
 | ownk t e h0=>
  cases l with
  | sl h' =>
   simp only [Sp.abs] at ha
   cases hb:(Nat.beq h0 h' && Nat.blt h0 64)
   ·grind
   ·rw [hb] at ha
    simp only [Wp] at hb
    have h1:=Wo hb.1
    have h2:h0+1≤64:=Wt hb.2
    subst h1
    simp only [f9] at ha
    split at ha
    ·rename_i i K xs ho
     simp only [Wn] at ha
     subst ha
     simp only [Bw,ho,Wp,Ze] at hc
     refine am.cons ?_ (am.nil _ _)
     simp only [AF.ha,hlow h0 (by omega)]
     exact Cw hg (gb ho hF) (Wo hc.1) (.inl hc.2)
    ·cases ha
  | _=>cases ha
 | mp k v=>
  cases l with
  | mp h' =>
   simp only [Sp.abs] at ha
   split at ha
   ·rename_i s hs
    simp only [Wn] at ha
    subst ha
    simp only [Bw,hs] at hc
    refine am.cons ?_ (am.nil _ _)
    have h3:=HA.ren_holds hg _ (hF _ (W6.2 ⟨_,jT hs,rfl⟩))
    simp only [AF.ha,HA.ren] at h3 ⊢
    rw [Wo hc] at h3
    rw [hn]
    exact h3
   ·cases ha
  | _=>cases ha
 | al d=>exact am.nil _ _
 | pt t e one src=>
  cases l with
  | sl h' =>
   simp only [Sp.abs] at ha
   split at ha
   ·rename_i s hs
    cases he:Nat.beq e s.e
    ·grind
    rw [he] at ha
    simp only [f9,Wn] at ha
    subst ha
    simp only [Bw,hs,Wp] at hc
    have h3:=HA.ren_holds hg _ (hF _ (W6.2 ⟨_,oj hs,rfl⟩))
    simp only [AF.ha,HA.ren] at h3
    rw [Wo hc.1,← Wo he] at h3
    have h4:HA.holds w (fun b=>g (c b)) (.pt t.ty e cb (vE KK one src cb) s.xs (η.h h') s.m):=wy.keep (fun b _ hb=>⟨hb,rfl⟩) (fun b _ hb=>⟨D8 hc.2 _ hb,rfl⟩) h3
    have hn' : η'.h nm=η.h h' := hn
    refine am.cons ?_ (am.cons ?_ (am.nil _ _))
    ·simp only [AF.ha,hn']; exact h4
    ·simp only [AF.ha,hn']; exact KA h4
   ·cases ha
  | _=>cases ha
theorem Lo {KK:Nat→List Nat} {g:Nat→Nat} (hg:Gd g) {F:List AF} {η η' : Vn} {w:World} {c:bD} (hF:am w c (F.map (AF.ha η))) (hlow : ∀ m,m<64→η'.h m=η.h m) : ∀ {ps:List Sp} {ls:List Lf} {d:wM ps} {nm cb:Nat},mS F ps ls=some d→DZ KK g F cb ps ls=true →
  (∀ (j:Nat) (l:Lf),ls[j]? = some l→η'.h (nm+j)=l.hd η)→am w (fun b=>g (c b)) ((Di KK ps d nm cb).map (AF.ha η'))
 | [],[],_,_,_,_,_,_=>am.nil _ _
 | [p],[l],d,nm,cb,ha,hc,hn=>by
  simp only [DZ,Wp] at hc
  exact Oz hg hF hlow ha hc.1 (hn 0 l rfl)
 | p::q::r,l::ls,d,nm,cb,ha,hc,hn=>by
  simp only [mS] at ha
  split at ha
  ·rename_i x y hx hy
   simp only [Wn] at ha
   subst ha
   rw [DZ,Wp] at hc
   simp only [Di,Zy]
   refine (Oz hg hF hlow hx hc.1 (hn 0 l rfl)).append (Lo hg hF hlow hy hc.2 fun j l' hj=>?_)
   have:=hn (j+1) l' (by simpa using hj)
   grind
  ·cases ha
 | [],_::_,_,_,_,h,_,_=>by simp [mS] at h
 | [_],[],_,_,_,h,_,_=>by simp [mS] at h
 | [_],_::_::_,_,_,_,h,_,_=>by simp [mS] at h
 | _::_::_,[],_,_,_,h,_,_=>by simp [mS] at h
theorem Bn {g:Nat→Nat} (hg:Gd g) {KE:SE} {F:List AF} {η η' : Vn} {w:World} {c:bD} (hF:am w c (F.map (AF.ha η))) (hb:η'.b=η.b) : ∀ {bx:List (Nat×List Sp)} {ls as:List Lf} {cb:Nat},CH KE F bx=some ls→Bg g KE F bx cb=true→as.length=ls.length →
  (∀ (j:Nat) (l l' : Lf),ls[j]? = some l→as[j]? = some l' → l'.cells η' = l.cells η)→am w (fun b=>g (c b)) ((wL KE bx as cb).map (AF.ha η'))
 | [],_,_,_,_,_,_,_=>am.nil _ _
 | (t,ps)::r,ls,as,cb,hgb,hc,hl,hcell=>by
  simp only [CH] at hgb
  split at hgb
  ·rename_i b hlk
   split at hgb
   ·rename_i i cs ls' h1 h2
    cases hb0:Nat.beq cs.length ps.length
    ·grind
    ·rw [hb0] at hgb
     simp only [f9,Wn] at hgb
     subst hgb
     have hlen:=Wo hb0
     simp only [Bg,hlk,h1,Wp] at hc
     simp only [Wu] at hl
     simp only [wL,hlk,XH]
     refine am.cons ?_ (Bn hg hF hb h2 hc.2 (by simp; omega) fun j l l' k1 k2=>?_)
     ·have h3:=HA.ren_holds hg _ (hF _ (W6.2 ⟨_,gc h1,rfl⟩))
      simp only [AF.ha,HA.ren] at h3 ⊢
      rw [Wo hc.1] at h3
      rw [hb,xA (bs:=cs) (by simp; omega) fun j l l' k1 k2=>?_]
      ·exact h3
      grind
     grind
   ·cases hgb
  ·rename_i h hlk
   split at hgb
   ·rename_i h0 _ _ _ ls' h1 h2
    cases hb0:Nat.beq 1 ps.length
    ·grind
    ·rw [hb0] at hgb
     simp only [f9,Wn] at hgb
     subst hgb
     have hlen:=Wo hb0
     simp only [Bg,hlk] at hc
     simp only [XM] at hl
     simp only [wL,hlk]
     refine Bn hg hF hb h2 hc (by simp; omega) fun j l l' k1 k2=>?_
     grind
   ·cases hgb
  ·cases hgb
theorem Ok {g:Nat→Nat}:(A:HA)→(∀ k∈A.uses,g k=k)→True→A.ren g=A
 | .tr t e i K xs v,h,_=>by
  have:K.map g=K:=by
   conv=>rhs; rw [← agS K]
   exact aa3 fun k hk=>h k (Wq _ hk)
  simp only [HA.ren,this,h i W7]
 | .hol t e i xs v k cs,h,_=>by simp only [HA.ren,h i (by simp [HA.uses])]
 | .pt t e i K xs v m,h,_=>by
  have:K.map g=K:=by
   conv=>rhs; rw [← agS K]
   exact aa3 fun k hk=>h k (Wq _ hk)
  simp only [HA.ren,this,h i W7]
 | .rep t K xs v,h,_=>by
  have:K.map g=K:=by
   conv=>rhs; rw [← agS K]
   exact aa3 fun k hk=>h k hk
  simp only [HA.ren,this]
 | .own t e i K xs v,h,_=>by
  have:K.map g=K:=by
   conv=>rhs; rw [← agS K]
   exact aa3 fun k hk=>h k (Wq _ hk)
  simp only [HA.ren,this,h i W7]
 | .box i b cs,h,_=>by simp only [HA.ren,h i (by simp [HA.uses])]
 | .mp i b es,h,_=>by simp only [HA.ren,h i (by simp [HA.uses])]
 | .elem t K x p,h,_=>by
  have:K.map g=K:=by
   conv=>rhs; rw [← agS K]
   exact aa3 fun k hk=>h k hk
  simp only [HA.ren,this]
 | .old _ _,_,_=>rfl
 | .pure _,_,_=>rfl
 | .gl _ _ _,_,_=>rfl
theorem E9 {E:SE} : ∀ {vs:List (Nat×ShV)} {ls:List Lf},sa E vs=some ls→ls.length=(vs.flatMap (fun p=>p.2.ls)).length:=by
 intro vs
 induction vs with
 | nil=>intro ls h; simp [sa] at h; subst h; rfl
 | cons p r ih=>
  intro ls h
  obtain ⟨t0,v0⟩:=p
  cases v0 with
  | lf p=>
   simp only [sa] at h
   split at h
   ·rename_i l ls' _ h2
    simp only [Wn] at h
    subst h
    simp [ih h2,ShV.ls]
   ·cases h
  | ag ps=>
   simp only [sa] at h
   split at h
   ·rename_i l ls' _ h2
    cases hb0:Nat.beq l.length ps.length
    ·grind
    ·rw [hb0] at h
     simp only [f9,Wn] at h
     subst h
     have:=Wo hb0
     simp [ih h2,ShV.ls]; omega
   ·cases h
theorem Cy {E E' : SE} {t:Nat} (h:bg E t=none):bg (E++E') t=bg E' t:=by
 induction E with
 | nil=>rfl
 | cons p r ih=>
  simp only [Zr,bg] at h ⊢
  grind
theorem ua {B nt:Nat} {L0:List HA} {β:Vn} (hL0:L0ok L0) {sh:Shp} {KE:SE} {KF:List AF} {nb cb:Nat} {S:SS} {d:wM sh.ls} (h:Ar B sh KE KF nb cb S=some d) {a:Act} (hI:jH B nt L0 β KE KF S a w) :
  jH B nt L0 β KE KF (sj sh KE KF nb cb d) a w:=by
 unfold Ar at h
 split at h
 ·rename_i l1 l2 g1 g2
  split at h
  ·rename_i d' hd
   simp only at h
   generalize hcm:((KF.flatMap AF.uses).map (fun k=>(k,k))++qQ (S.F++KF) sh.ls (l1++l2) cb++GS KE (S.F++KF) sh.bx (cb+2 * sh.ls.length)++zS (S.F++KF) (cb+255) sh.ls (l1++l2)).filter (fun p=>Nat.ble 2 p.1&&Nat.ble 2 p.2)=cm at h
   generalize hgg:qE cm 2=g at h
   cases hb:(KF.all (fun f=>!(ky S.d f))&&(KF.flatMap AF.uses).all (fun k=>Nat.beq (g k) k)&&DZ (Xm KE KF (cb+255)) g (S.F++KF) cb sh.ls (l1++l2)&&Bg g KE (S.F++KF) sh.bx (cb+2 * sh.ls.length)&&KE.all (fun p=>p.2.free nb)&&KF.all (AF.free nb)&&Nat.ble sh.ls.length 64&&KE.all (fun p=>(bg S.E p.1).isNone)&&Nat.ble 64 nb&&Nat.ble B nb&&N4 sh.ls (l1++l2))
   ·grind
   ·rw [hb] at h
    simp only [f9,Wn] at h
    subst h
    simp only [Wp] at hb
    obtain ⟨⟨⟨⟨⟨⟨⟨⟨⟨⟨hdead,hfix⟩,hchk⟩,hchb⟩,hfE⟩,hfF⟩,h64⟩,hno⟩,hnb⟩,hnB⟩,hal⟩:=hb
    have hg:Gd g:=by
     subst hgg
     refine Lv ?_
     simp only [aas,Wp]
     refine ⟨rfl,W3.2 fun x hx=>?_⟩
     grind
    obtain ⟨η,c,ρ,ha,hE,hH,hL⟩:=hI
    have hls:(l1++l2).length=sh.ls.length:=by
     have gen : ∀ {ps:List Sp} {ls:List Lf} {d:wM ps},mS (S.F++KF) ps ls=some d→ls.length=ps.length:=by
      intro ps
      induction ps with
      | nil=>intro ls d h; cases ls <;> simp [mS] at h ⊢
      | cons p r ih=>
       intro ls d h
       cases r with
       | nil=>
        cases ls with
        | nil=>simp [mS] at h
        | cons l ls=>
         cases ls with
         | nil=>rfl
         | cons _ _=>simp [mS] at h
       | cons q r=>
        cases ls with
        | nil=>simp [mS] at h
        | cons l ls=>
         simp only [mS] at h
         grind
     exact gen hd
    have h64:=Wt h64
    let η' : Vn:=η.set nb (aS η (l1++l2))
    have hagr:η.agr nb η' := Vn.set_agr (by simp only [aS,ade]; omega)
    have hnm : ∀ (j:Nat) (l:Lf),(l1++l2)[j]? = some l→η'.h (nb+j)=l.hd η:=fun j l hj=>Vn.set_at (by rw [aS,aa1,hj]; rfl)
    have hlv:live S.d KF=KF:=List.filter_eq_self.2 fun f hf=>W3.1 hdead f hf
    rw [hlv] at hH
    have hF:am w c ((S.F++KF).map (AF.ha η)):=hH
    have hlow : ∀ m,m<64→η'.h m=η.h m:=fun m hm=>(hagr m (by simp only [bw,Ze]; exact .inl (Yb (by have:=Wt hnb; omega)))).1
    obtain ⟨k1,k2⟩:=CD (η:=η) (η' := η') hlow (nm:=nb) hd hal hnm
    refine ⟨η',fun b=>g (c b),ρ,ha,?_,?_,?_,fun m hm=>?_⟩
    ·intro t v hl
     rcases pQ hl with hl | hl
     ·obtain ⟨v0,e1,e2⟩:=BT (η:=η) (η' := η') (rest:=l2) g1 k1 k2 t v hl
      rw [e2]
      refine hE t v0 ?_
      have app : ∀ {E E' : SE},bg E t=some v0→bg (E++E') t=some v0:=by
       intro E E' h
       induction E with
       | nil=>simp [bg] at h
       | cons p r ih=>
        simp only [Zr,bg] at h ⊢
        grind
      exact app e1
     ·rw [AV.val_agr hagr v (W3.1 hfE _ (ql hl))]
      refine hE t v ?_
      have:=W3.1 hno _ (ql hl)
      rw [Cy (by simp_all)]
      exact hl
    ·rw [show live (sj sh KE KF nb cb d').d KF=KF from B0 KF,Zy]
     refine am.append ?_ ?_
     ·simp only [sj,Zy]
      refine am.append (Lo hg hF hlow hd hchk hnm) (Bn (η:=η) (η' := η') hg hF rfl g2 hchb ?_ fun j l l' e1 e2=>?_)
      ·have:=E9 g1
       grind
      ·have hl1:=E9 g1
       rw [ZT] at e2
       grind
     ·intro A hA
      obtain ⟨f,hf,rfl⟩:=W6.1 hA
      have hold:=hH _ (W6.2 ⟨f,X5 _ hf,rfl⟩)
      have hfr:=W3.1 hfF f hf
      rw [AF.ha_agr hagr f hfr]
      have:=HA.ren_holds hg _ hold
      rwa [Ok _ (fun k hk=>by
       rw [AF.ha_uses] at hk
       exact Wo (W3.1 hfix k (ai9.2 ⟨f,hf,hk⟩))) trivial] at this
    ·intro A hA
     have:=HA.ren_holds hg _ (hL.1 A hA)
     rwa [Ok A (fun k hk=>by
      have:=hL0.old A hA k hk
      match k,this with
      | 0,_=>exact hg.z
      | 1,_=>exact hg.o) (by grind)] at this
    ·have:=Wt hnB
     have hz:=hagr m (by simp only [bw,Ze]; exact .inl (Yb (by omega)))
     grind
  ·cases h
 ·cases h
end
section
variable [X:XTab] [G:GTab]
def rc:(t:TC)→EI→t.den→List TypeId→Nat→Nat→Option (List AF)
 | .pair a b,ε,x,os,q,n=>match rc a ε.fst x.1 os q n,rc b ε.snd x.2 (os.drop a.nh) (q+a.nh) (n+a.nh) with
  | some f,some g=>some (f++g)
  | _,_=>none
 | .slice t,ε,x,os,q,n=>match os with
  | e::_=>bif Fl t e ε then some [.own t e q [] x n] else none
  | []=>none
 | .st t,ε,x,os,q,n=>rc t ε x os q n
 | .node,_,_,_,_,_=>none
 | .mp _ _,_,_,_,_,_=>none
 | .sc _,_,_,_,_,_=>some []
 | .arr _ _,_,_,_,_,_=>some []
 | .unit,_,_,_,_,_=>some []
 | .ext _,_,_,_,_,_=>some []
theorem aeM {t:TC} {e:TypeId} {ε:EI} (h:Fl t e ε=true) {c:bD} {i:Nat}  {S:Nat→Prop} {xs:List t.den} {v:Hd} (hS : ∀ b,S b→c b=i) (hF:cM w S (.slice t.ty) ε xs v):HA.holds w c (eh t.ty e i K xs v):=by
 have hF' : cM w (fun b=>c b=i) (.slice t.ty) ε xs v:=hF.mono hS
 unfold Fl at h
 cases htr:fG e
 ·rw [htr] at h
  rw [eD htr]
  simp only [no,Wp] at h
  obtain ⟨⟨h1,h2⟩,h3⟩:=h
  cases ε with
  | row e' s=>
   obtain rfl:=Wo h3
   exact cM.plain h2 hF'
  | leaf=>cases h3
  | pair _ _=>cases h3
 ·rw [htr] at h
  rw [jE htr]
  simp only [f9] at h
  rw [← EI.eqb_eq h] at hF'
  exact hF'
open Classical in
theorem Ae {η:Vn} {w:World} : ∀ (t:TC) {ε:EI} {x:t.den} {y:t.ty.Refs} {os:List TypeId} {q n:Nat} {f:List AF} {S:Nat→Prop},rc t ε x os q n=some f→fF η n (cI t y)→cM w S t.ty ε x y →
  ∃ cl:Nat→Nat,(∀ b,S b→q≤cl b)∧∀ c' : bD,(∀ b,S b→c' b=cl b)→am w c' (f.map (AF.ha η))
 | .sc _,ε,x,y,os,q,n,f,S,h,hn,hF=>by
  simp only [rc,Wn] at h
  subst h
  exact ⟨fun _=>q,fun _ _=>Xw _,fun _ _=>am.nil _ _⟩
 | .arr _ _,ε,x,y,os,q,n,f,S,h,hn,hF=>by
  simp only [rc,Wn] at h
  subst h
  exact ⟨fun _=>q,fun _ _=>Xw _,fun _ _=>am.nil _ _⟩
 | .unit,ε,x,y,os,q,n,f,S,h,hn,hF=>by
  simp only [rc,Wn] at h
  subst h
  exact ⟨fun _=>q,fun _ _=>Xw _,fun _ _=>am.nil _ _⟩
 | .ext _,ε,x,y,os,q,n,f,S,h,hn,hF=>by
  simp only [rc,Wn] at h
  subst h
  exact ⟨fun _=>q,fun _ _=>Xw _,fun _ _=>am.nil _ _⟩
 | .node,ε,x,y,os,q,n,f,S,h,hn,hF=>by simp [rc] at h
 | .mp _ _,ε,x,y,os,q,n,f,S,h,hn,hF=>by simp [rc] at h
 | .st t,ε,x,y,os,q,n,f,S,h,hn,hF=>Ae t h hn hF
 | .slice t,ε,x,y,os,q,n,f,S,h,hn,hF=>by
  cases os with
  | nil=>simp [rc] at h
  | cons e os=>
   simp only [rc] at h
   cases hg:Fl t e ε
   ·rw [hg] at h; cases h
   rw [hg] at h
   simp only [f9,Wn] at h
   subst h
   refine ⟨fun _=>q,fun _ _=>Xw _,fun c' hc=>am.cons ?_ (am.nil _ _)⟩
   have hy:=hn 0 y rfl
   rw [Yk] at hy
   simp only [AF.ha,hy]
   exact aeM hg hc hF
 | .pair a b,ε,x,y,os,q,n,f,S,h,hn,hF=>by
  simp only [rc] at h
  split at h
  ·rename_i fa fb ha hb
   simp only [Wn] at h
   subst h
   obtain ⟨Sa,h1,h2,h3⟩:=cM.fst hF
   obtain ⟨ca,a1,a2⟩:=Ae a ha (fF.left hn) h2
   obtain ⟨cb,b1,b2⟩:=Ae b hb (fF.right hn (dg a y.1)) h3
   refine ⟨fun g=>if Sa g then ca g else cb g,fun g hg=>?_,fun c' hc=>?_⟩
   ·show q≤if Sa g then ca g else cb g
    split
    ·exact a1 g (by assumption)
    ·have:=b1 g ⟨hg,by assumption⟩
     omega
   ·rw [Zy]
    refine am.append (a2 c' fun g hg=>?_) (b2 c' fun g hg=>?_)
    ·rw [hc g (h1 g hg)]; simp [hg]
    ·rw [hc g hg.1]; simp [hg.2]
  ·cases h
inductive Gh
 | up (t:Nat) (os:List TypeId)
 | pk (t:Nat)
 | p0 (t:Nat) (j:Option Nat) (e:TypeId)
 | pf (t:Nat) (j:Option Nat)
 | ug (t:Nat) (j:Option Nat) (q:Option Nat) (te:TC) (os:List TypeId)
 | pa
 | pr (t:Nat) (j:Option Nat)
 | uh (t j j2:Nat) (te:TC) (os:List TypeId)
def HF (κ:List Nat) (F:List AF):List AF:=F.filter fun f=>!(ky κ f)
def Vj {R:Type} (B:Nat) (os:List TypeId) (h:Nat) (te:TC) (i:Int) (KE:SE) (KF:List AF) (S:SS) (K:SS→Option R):Option R:=match mY te h (S.F++live S.d KF) with
 | some ⟨some (e,ci),_,xs⟩=>match fG e,gz e with
  | true, .row _ s=>(ac xs i).bind fun x=>match rc te s x os S.nc S.nn with
   | some f=>bif Nat.ble 2 ci&&Nat.ble 2 S.nc&&Nat.ble te.nh 64&&oD S.nn (S.E++KE) (S.F++live S.d KF)&&Nat.ble B S.nn then K ⟨S.E,(.hol te e ci xs h i (jL te x S.nn)::f)++HF [ci] S.F,S.nn+64,S.nc+256,[ci]++S.d⟩ else none
   | none=>none
  | _,_=>K S
 | _=>K S
def sPk {R:Type} (B:Nat) (h:Nat) (te:TC) (KE:SE) (KF:List AF) (S:SS) (K:SS→Option R):Option R:=match oI te h (S.F++live S.d KF) with
 | some s=>match fG s.e,gz s.e with
  | true, .row _ ε=>match mW (S.F++live S.d KF) te ε s.cs with
   | some (x,_,Kl,[])=>bif Nat.ble 2 s.i&&Kl.all (fun k=>Nat.ble 2 k && !(Nat.beq k s.i))&&oD S.nn (S.E++KE) (S.F++live S.d KF)&&Nat.ble B S.nn then
     K ⟨S.E,[.own te s.e s.i [] (s.xs.set s.k.toNat x) h]++HF (s.i::Kl) S.F,S.nn,S.nc,(s.i::Kl)++S.d⟩ else none
   | _=>none
  | _,_=>none
 | none=>K S
def Ud (E:SE) (F:List AF) (t:Nat) (j:Option Nat):Option Nat:=match bg E t,j with
 | some (.lf (.sl h)),none=>some h
 | some (.lf (.bp b 0)),some j=>match kZ b F with
  | some (_,cs)=>match cs[j]? with
   | some (.sl h)=>some h
   | _=>none
  | none=>none
 | some (.lf (.rp h te _ _ _)),some j=>match oI te h F with
  | some s=>match s.cs[j]? with
   | some (.sl h)=>some h
   | _=>none
  | none=>none
 | _,_=>none
def Pm (code:TypeId) (h:Nat):List AF→Option (List AF×Nat×Bool)
 | []=>none
 | .own te e ci K xs h' :: r=>bif Nat.beq h h' then (match gz code with
  | .row e0 _=>bif Nat.beq e e0&&Nat.blt e 1048576 then some ([.pt te code ci K xs h 0, .rep te (ci::K) xs h],ci,true) else none
  | _=>none) else Pm code h r
 | _::r=>Pm code h r
def Pf (h:Nat):List AF→Option (List AF×Nat×Bool)
 | []=>none
 | .pt te e ci _ xs h' m::r=>bif Nat.beq h h' then (bif fG e then some ([.own te e ci [] xs h],ci,decide ((xs.length:Int)≤m)) else none) else Pf h r
 | _::r=>Pf h r
def O8 (h:Nat) (all:List AF):List AF→Option (List AF×Nat×Bool)
 | []=>none
 | .hol te _ ci xs h' k cs::r=>bif Nat.beq h h' then (match bZ all te cs with
  | some (x,_,Kl,[])=>some ([.rep te (ci::Kl) (xs.set k.toNat x) h],ci,true)
  | _=>none) else O8 h all r
 | _::r=>O8 h all r
def VQ {R:Type} (B:Nat) (KE:SE) (KF:List AF) (S:SS) (m:Option (List AF×Nat×Bool)) (K:SS→Option R):Option R:=match m with
 | some (f,ci,b)=>bif Nat.ble 2 ci&&oD S.nn (S.E++KE) (S.F++live S.d KF)&&Nat.ble B S.nn then (bif b then K ⟨S.E,f++HF [ci] S.F,S.nn,S.nc,[ci]++S.d⟩ else none) else none
 | none=>none
def ghI (E:SE) (F:List AF) (te:TC) (h:Nat) (q:Option Nat):Option Int:=match q with
 | some t=>match bg E t with
  | some (.lf (.c (.int _) i))=>some i
  | _=>none
 | none=>match mY te h F with
  | some s=>some (ad ((s.xs.length:Int) - 1))
  | none=>none
def K8 (all:List AF):List AF→Option (Nat×TC)
 | []=>none
 | .hol te e _ _ h _ cs::r=>match gz e with
  | .row _ ε=>match mW all te ε cs with
   | some _=>some (h,te)
   | none=>K8 all r
  | _=>K8 all r
 | _::r=>K8 all r
def Xq (h j2:Nat):List AF→Option Nat
 | []=>none
 | .hol _ _ _ _ h' _ cs::r=>bif Nat.beq h h' then (match cs[j2]? with
  | some (.sl h2)=>some h2
  | _=>none) else Xq h j2 r
 | _::r=>Xq h j2 r
def PB {R:Type} (B:Nat) (KE:SE) (KF:List AF) (g:Gh) (S:SS) (K:SS→Option R):Option R:=match g with
 | .up t os=>match bg (S.E++KE) t with
  | some (.lf (.rp h te i _ _))=>match oI te h (S.F++live S.d KF) with
   | some _=>K S
   | none=>Vj B os h te i KE KF S K
  | _=>K S
 | .pk t=>match bg (S.E++KE) t with
  | some (.lf (.rp h te _ _ _))=>sPk B h te KE KF S K
  | _=>K S
 | .p0 t j e=>match Ud (S.E++KE) (S.F++live S.d KF) t j with
  | some h=>VQ B KE KF S (Pm e h (S.F++live S.d KF)) K
  | none=>none
 | .pf t j=>match Ud (S.E++KE) (S.F++live S.d KF) t j with
  | some h=>VQ B KE KF S (Pf h (S.F++live S.d KF)) K
  | none=>none
 | .ug t j q te os=>match Ud (S.E++KE) (S.F++live S.d KF) t j with
  | some h=>match oI te h (S.F++live S.d KF) with
   | some _=>K S
   | none=>match ghI (S.E++KE) (S.F++live S.d KF) te h q with
    | some i=>Vj B os h te i KE KF S K
    | none=>none
  | none=>none
 | .uh t j j2 te os=>match Ud (S.E++KE) (S.F++live S.d KF) t (some j) with
  | some h0=>match Xq h0 j2 (S.F++live S.d KF) with
   | some h=>match oI te h (S.F++live S.d KF) with
    | some _=>K S
    | none=>match ghI (S.E++KE) (S.F++live S.d KF) te h none with
     | some i=>Vj B os h te i KE KF S K
     | none=>none
   | none=>none
  | none=>none
 | .pr t j=>match Ud (S.E++KE) (S.F++live S.d KF) t j with
  | some h=>VQ B KE KF S (O8 h (S.F++live S.d KF) (S.F++live S.d KF)) K
  | none=>none
 | .pa=>match K8 (S.F++live S.d KF) (S.F++live S.d KF) with
  | some (h,te)=>sPk B h te KE KF S K
  | none=>K S
def zJ {R:Type} (B:Nat) (KE:SE) (KF:List AF):List Gh→SS→(SS→Option R)→Option R
 | [],S,K=>K S
 | g::r,S,K=>PB B KE KF g S fun S' => zJ B KE KF r S' K
theorem D9 {B nt:Nat} {L0:List HA} {β:Vn} (hL0:L0ok L0) {KE:SE} {KF:List AF} {S:SS} {κ:List Nat} {new:List AF} {nn nc:Nat} (hnn:S.nn≤nn) (hfree:oD S.nn (S.E++KE) (S.F++live S.d KF)=true) (hB:B≤S.nn) (h2 : ∀ k∈κ,2≤k) {a:Act} (hI:jH B nt L0 β KE KF S a w)
  (hstep : ∀ (η:Vn) (c:bD),am w c ((S.F++live S.d KF).map (AF.ha η))→∃ (η' : Vn) (c' : bD),η.agr S.nn η' ∧ Stp κ w c w c' ∧ am w c' (new.map (AF.ha η'))) :
  jH B nt L0 β KE KF ⟨S.E,new++HF κ S.F,nn,nc,κ++S.d⟩ a w:=by
 obtain ⟨η,c,ρ,ha,hE,hF,hL,hβ⟩:=hI
 obtain ⟨η',c',hag,hst,hnew⟩:=hstep η c hF
 simp only [oD,Wp] at hfree
 have lowN : ∀ m,Nat.blt m S.nn=true→bw S.nn m=true:=fun m hm=>by simp [bw,hm]
 have okN0 : ∀ m,okN S.nn [] m=true→bw S.nn m=true:=fun m hm=>by
  simp only [okN,List.any_nil,ag1] at hm
  grind
 have hfr : ∀ f∈S.F++live S.d KF,f.free S.nn=true:=fun f hf=>by
  have:=AF.okN_free (n:=S.nn) (cl:=[]) (i:=0) (by simp) f (W3.1 hfree.2 f hf)
  grind
 refine ⟨η',c',ρ,ha,fun t v hl=>?_,?_,?_,fun m hm=>?_⟩
 ·have hv:=AV.okN_free (n:=S.nn) (cl:=[]) (i:=0) (by simp) v (W3.1 hfree.1 _ (ql hl))
  rw [AV.val_agr hag v (by simpa using hv)]
  exact hE t v hl
 ·intro A hA
  obtain ⟨f,hf,rfl⟩:=W6.1 hA
  rcases Xd.1 hf with hf | hf
  ·rcases Xd.1 hf with hf | hf
   ·exact hnew _ (W6.2 ⟨f,hf,rfl⟩)
   ·obtain ⟨hf,hh⟩:=ZP.1 hf
    rw [AF.ha_agr hag f (hfr f (XP _ hf))]
    exact HA.stp hst _ (fun k hk=>tT (by simpa using hh) k (by rwa [AF.ha_uses] at hk)) (hF _ (W6.2 ⟨f,XP _ hf,rfl⟩))
  ·obtain ⟨hf,hh⟩:=ZP.1 hf
   simp only [YW] at hh
   rw [wj,Zp] at hh
   have hm:f∈S.F++live S.d KF:=X5 _ (ZP.2 ⟨hf,by simp [hh.2]⟩)
   rw [AF.ha_agr hag f (hfr f hm)]
   exact HA.stp hst _ (fun k hk=>tT hh.1 k (by rwa [AF.ha_uses] at hk)) (hF _ (W6.2 ⟨f,hm,rfl⟩))
 ·intro A hA
  refine HA.stp hst A (fun k hk hκ=>?_) (hL A hA)
  have h3:=hL0.old A hA k hk
  grind
 ·have:=hag m (lowN m (Yb (by omega)))
  grind
theorem Bf {κ:List Nat} {c c' : bD} (h1 : ∀ b,c b∉κ→c' b=c b) (h2 : ∀ b,c b∈κ→2≤c' b):Stp κ w c w c' :=
 ⟨Xw _,fun b _ h=>h1 b h,fun _ _ _=>rfl,fun b hb h=>h2 b (h hb).1,nP.refl w⟩
section
variable {R:Type} {B nt:Nat} {L0:List HA} {β:Vn} {KE:SE} {KF:List AF} {S:SS} {K:SS→Option R} {r:R}
def Iw (B nt:Nat) (KE:SE) (KF:List AF) (S:SS) (K:SS→Option R) (r:R):Prop:=∃ S',K S' = some r∧∀ {L0:List HA} {β:Vn},L0ok L0→∀ a w,jH B nt L0 β KE KF S a w→jH B nt L0 β KE KF S' a w
theorem IJ {os:List TypeId} {h:Nat} {te:TC} {i:Int} (hr:Vj B os h te i KE KF S K=some r):Iw B nt KE KF S K r:=by
 classical
 unfold Vj at hr
 split at hr
 ·rename_i e ci K0 xs hs
  split at hr
  ·rename_i e0 s htr hei
   obtain ⟨x,hx,hr⟩:=bind_some hr
   split at hr
   ·rename_i f hf
    cases hc:(Nat.ble 2 ci&&Nat.ble 2 S.nc&&Nat.ble te.nh 64&&oD S.nn (S.E++KE) (S.F++live S.d KF)&&Nat.ble B S.nn)
    ·grind
    rw [hc] at hr
    simp only [f9] at hr
    simp only [Wp] at hc
    obtain ⟨⟨⟨⟨h2,hN⟩,hnh⟩,hbase⟩,hB⟩:=hc
    have h2:=Wt h2
    have hN:=Wt hN
    have hnh:=Wt hnh
    refine ⟨_,hr,fun {L0 β} hL0 a w hI=>D9 hL0 (by omega) hbase (Wt hB) (by simpa using h2) hI fun η c hH=>?_⟩
    have hm:HA.holds w c (eh te.ty e ci K0 xs (η.h h)):=hH _ (W6.2 ⟨_,gK hs,rfl⟩)
    rw [jE htr] at hm
    obtain ⟨_,hget,_⟩:=nN hx
    obtain ⟨y,S2,q1,q2,q3⟩:=cM.open hei hget (show cM w (fun b=>c b=ci) (.slice te.ty) (gz e) xs (η.h h) from hm)
    have hnm:fF (η.set S.nn (cI te y)) S.nn (cI te y):=fF.set
    obtain ⟨cl,p1,p2⟩:=Ae te hf hnm q3
    have hag:η.agr S.nn (η.set S.nn (cI te y)):=Vn.set_agr (by rw [dg]; exact hnh)
    let c' : bD:=fun b=>if S2 b then cl b else c b
    have hcS : ∀ b,S2 b→c' b=cl b:=fun b hb=>by simp [c',hb]
    have hhn:(η.set S.nn (cI te y)).h h=η.h h:=by
     have:=hbase
     simp only [oD,Wp] at this
     have h3:=AF.okN_free (n:=S.nn) (cl:=[]) (i:=0) (by simp) _ (W3.1 this.2 _ (gK hs))
     have h4:bw S.nn h=true:=by simpa [SI.fact,AF.free] using h3
     exact (hag h h4).1
    refine ⟨η.set S.nn (cI te y),c',hag,Bf (fun b hb=>?_) (fun b hb=>?_),?_⟩
    ·grind
    ·grind
    ·rw [XH]
     refine am.cons ?_ (p2 c' hcS)
     show kG w (fun b=>c' b=ci) te.ty e xs ((η.set S.nn (cI te y)).h h) i.toNat (aw (η.set S.nn (cI te y)) (jL te x S.nn))
     rw [hhn,oE te x y S.nn hnm]
     refine q2.keep (jG.of fun b hb=>?_)
     grind
   ·cases hr
  ·exact ⟨S,hr,fun _ _ _ h=>h⟩
 ·exact ⟨S,hr,fun _ _ _ h=>h⟩
theorem Uu {h:Nat} {te:TC} (hr:sPk B h te KE KF S K=some r):Iw B nt KE KF S K r:=by
 classical
 unfold sPk at hr
 split at hr
 ·rename_i s hs
  split at hr
  ·rename_i e0 ε htr hei
   split at hr
   ·rename_i x l Kl hd
    cases hc:(Nat.ble 2 s.i&&Kl.all (fun k=>Nat.ble 2 k && !(Nat.beq k s.i))&&oD S.nn (S.E++KE) (S.F++live S.d KF)&&Nat.ble B S.nn)
    ·grind
    rw [hc] at hr
    simp only [f9] at hr
    simp only [Wp] at hc
    obtain ⟨⟨⟨h2,hk⟩,hbase⟩,hB⟩:=hc
    have h2:=Wt h2
    have hk2 : ∀ k∈Kl,2≤k∧k≠s.i:=fun k hm=>by
     have:=W3.1 hk k hm
     simp only [Wp] at this
     exact ⟨Wt this.1,fun e=>by simp_all⟩
    refine ⟨_,hr,fun {L0 β} hL0 a w hI=>D9 hL0 (Xw _) hbase (Wt hB) (fun k hm=>by
     grind) hI fun η c hH=>?_⟩
    have hm:=xC hs hH
    obtain ⟨d1,d2,d3⟩:=rK (η:=η) te hd
    have d3:=d3 w c hH
    simp only [aw,XE] at d1
    have hm:kG w (fun b=>c b=s.i) te.ty s.e s.xs (η.h h) s.k.toNat (aw η s.cs):=hm
    rw [d1] at hm
    let c' : bD:=fun b=>if c b∈Kl then s.i else c b
    refine ⟨η,c',Vn.agr_refl _ η,Bf (fun b hb=>?_) (fun b hb=>?_),?_⟩
    ·grind
    ·grind
    ·refine am.cons ?_ (am.nil _ _)
     show HA.holds w c' (eh te.ty s.e s.i [] (s.xs.set s.k.toNat x) (η.h h))
     rw [jE htr]
     show cM w (fun b=>c' b=s.i) (.slice te.ty) (gz s.e) (s.xs.set s.k.toNat x) (η.h h)
     refine kG.close (S1:=fun b=>c b=s.i) (S2:=fun b=>c b∈Kl) hei (fun b h1 h3=>(hk2 _ h3).2 h1) (fun b hb=>?_) (fun b hb=>?_) hm d3
     ·grind
     grind
   ·cases hr
  ·cases hr
 ·exact ⟨S,hr,fun _ _ _ h=>h⟩
theorem gU {c:bD} {A:HA} {L:List HA} (h:am w c (A::L)):am w c L:=fun B hB=>h B (Wq _ hB)
theorem qV {code:TypeId} {h:Nat} {η:Vn} {w:World} {c:bD} : ∀ {F:List AF} {f:List AF} {ci:Nat} {b:Bool},Pm code h F=some (f,ci,b)→b=true→am w c (F.map (AF.ha η))→am w c (f.map (AF.ha η))
 | [],_,_,_,hs,_,_=>by simp [Pm] at hs
 | .own te e i K xs h' :: r,f,ci,b,hs,ht,hH=>by
  simp only [Pm] at hs
  cases hb:Nat.beq h h'
  ·rw [hb] at hs
   exact qV hs ht (gU hH)
  ·rw [hb] at hs
   simp only [f9] at hs
   split at hs
   ·rename_i e0 s hei
    cases hc:(Nat.beq e e0&&Nat.blt e 1048576)
    ·grind
    rw [hc] at hs
    simp only [f9,Wn,W5] at hs
    obtain ⟨rfl,rfl,rfl⟩:=hs
    simp only [Wp] at hc
    obtain rfl:=Wo hc.1
    obtain rfl:=Wo hb
    have h0:HA.holds w c (eh te.ty e i K xs (η.h h)):=hH _ (W7)
    rw [eD (gq hc.2)] at h0
    have h1:=ags hei hc.2 h0
    exact am.cons h1 (am.cons (KA h1) (am.nil _ _))
   ·cases hs
 | .rep _ _ _ _::r,_,_,_,hs,ht,hH=>qV (F:=r) hs ht (gU hH)
 | .box _ _ _::r,_,_,_,hs,ht,hH=>qV (F:=r) hs ht (gU hH)
 | .isn _ _::r,_,_,_,hs,ht,hH=>qV (F:=r) hs ht (gU hH)
 | .prt _ _ _ _ _::r,_,_,_,hs,ht,hH=>qV (F:=r) hs ht (gU hH)
 | .hol _ _ _ _ _ _ _::r,_,_,_,hs,ht,hH=>qV (F:=r) hs ht (gU hH)
 | .mp _ _ _ _ _::r,_,_,_,hs,ht,hH=>qV (F:=r) hs ht (gU hH)
 | .pt _ _ _ _ _ _ _::r,_,_,_,hs,ht,hH=>qV (F:=r) hs ht (gU hH)
theorem rv {h:Nat} {η:Vn} {w:World} {c:bD} : ∀ {F:List AF} {f:List AF} {ci:Nat} {b:Bool},Pf h F=some (f,ci,b)→b=true→am w c (F.map (AF.ha η))→am w c (f.map (AF.ha η))
 | [],_,_,_,hs,_,_=>by simp [Pf] at hs
 | .pt te e i K xs h' m::r,f,ci,b,hs,ht,hH=>by
  simp only [Pf] at hs
  cases hb:Nat.beq h h'
  ·rw [hb] at hs
   exact rv hs ht (gU hH)
  ·rw [hb] at hs
   simp only [f9] at hs
   cases hc:fG e
   ·grind
   rw [hc] at hs
   simp only [f9,Wn,W5] at hs
   obtain ⟨rfl,rfl,rfl⟩:=hs
   obtain rfl:=Wo hb
   have h0:HA.holds w c (.pt te.ty e i K xs (η.h h) m):=hH _ (W7)
   refine am.cons ?_ (am.nil _ _)
   show HA.holds w c (eh te.ty e i [] xs (η.h h))
   rw [jE hc]
   exact aep (Yd ht) h0
 | .own _ _ _ _ _ _::r,_,_,_,hs,ht,hH=>rv (F:=r) hs ht (gU hH)
 | .rep _ _ _ _::r,_,_,_,hs,ht,hH=>rv (F:=r) hs ht (gU hH)
 | .box _ _ _::r,_,_,_,hs,ht,hH=>rv (F:=r) hs ht (gU hH)
 | .isn _ _::r,_,_,_,hs,ht,hH=>rv (F:=r) hs ht (gU hH)
 | .prt _ _ _ _ _::r,_,_,_,hs,ht,hH=>rv (F:=r) hs ht (gU hH)
 | .hol _ _ _ _ _ _ _::r,_,_,_,hs,ht,hH=>rv (F:=r) hs ht (gU hH)
 | .mp _ _ _ _ _::r,_,_,_,hs,ht,hH=>rv (F:=r) hs ht (gU hH)
theorem ry {h:Nat} {all:List AF} {η:Vn} {w:World} {c:bD} (hA:am w c (all.map (AF.ha η))) : ∀ {F:List AF} {f:List AF} {ci:Nat} {b:Bool},O8 h all F=some (f,ci,b)→am w c (F.map (AF.ha η))→am w c (f.map (AF.ha η))
 | [],_,_,_,hs,_=>by simp [O8] at hs
 | .hol te e i xs h' k cs::r,f,ci,b,hs,hH=>by
  simp only [O8] at hs
  cases hb:Nat.beq h h'
  ·rw [hb] at hs
   exact ry hA hs (gU hH)
  ·rw [hb] at hs
   simp only [f9] at hs
   split at hs
   ·rename_i x l Kl hd
    simp only [Wn,W5] at hs
    obtain ⟨rfl,rfl,rfl⟩:=hs
    obtain rfl:=Wo hb
    have h0:HA.holds w c (.hol te.ty e i xs (η.h h) k.toNat (aw η cs)):=hH _ (W7)
    obtain ⟨d,e0,s,ys,he,hlen,hk,hcs,⟨g,cap,cur,hv,g2,g3,g4,g5,g6,g7,g8⟩,h3⟩:=(show kG w (fun b=>c b=i) te.ty e xs (η.h h) k.toNat (aw η cs) from h0)
    obtain ⟨d1,d2⟩:=dY (η:=η) te hd
    simp only [aw,XE] at d1
    have d2:=d2 w c (i::Kl) hA (fun k hk=>Wq _ hk)
    refine am.cons ?_ (am.nil _ _)
    show bT w (fun b=>c b∈i::Kl) (.slice te.ty) (xs.set k.toNat x) (η.h h)
    rw [hv]
    refine ⟨ys.set k.toNat (aO te (aS η l)),kP (by grind) fun j x' y' hx' hy' => ?_,?_⟩
    ·by_cases hj:j=k.toNat
     ·grind
     ·rw [Zd (by omega)] at hx' hy'
      exact bK.rep (fun b (hb:c b=i)=>by grind) te.ty s [j] x' y' (h3 j x' y' hj hx' hy')
    ·refine ⟨by simp,by simpa using g3,g4, .inr ⟨g,0,cur,e0,(0,0),rfl,by grind,g2,by grind,?_⟩⟩
     rw [sq hlen hk,← d1,← g6]
     simp
   ·cases hs
 | .own _ _ _ _ _ _::r,_,_,_,hs,hH=>ry hA (F:=r) hs (gU hH)
 | .rep _ _ _ _::r,_,_,_,hs,hH=>ry hA (F:=r) hs (gU hH)
 | .box _ _ _::r,_,_,_,hs,hH=>ry hA (F:=r) hs (gU hH)
 | .isn _ _::r,_,_,_,hs,hH=>ry hA (F:=r) hs (gU hH)
 | .prt _ _ _ _ _::r,_,_,_,hs,hH=>ry hA (F:=r) hs (gU hH)
 | .pt _ _ _ _ _ _ _::r,_,_,_,hs,hH=>ry hA (F:=r) hs (gU hH)
 | .mp _ _ _ _ _::r,_,_,_,hs,hH=>ry hA (F:=r) hs (gU hH)
theorem IF {m:Option (List AF×Nat×Bool)} (hm : ∀ {f:List AF} {ci:Nat} {b:Bool},m=some (f,ci,b)→b=true→∀ (η:Vn) (w:World) (c:bD),am w c ((S.F++live S.d KF).map (AF.ha η))→am w c (f.map (AF.ha η))) (hr:VQ B KE KF S m K=some r):Iw B nt KE KF S K r:=by
 unfold VQ at hr
 split at hr
 ·rename_i f ci b
  cases hc:(Nat.ble 2 ci&&oD S.nn (S.E++KE) (S.F++live S.d KF)&&Nat.ble B S.nn)
  ·grind
  rw [hc] at hr
  simp only [f9] at hr
  cases b
  ·cases hr
  simp only [f9] at hr
  simp only [Wp] at hc
  obtain ⟨⟨h2,hbase⟩,hB⟩:=hc
  have h2:=Wt h2
  exact ⟨_,hr,fun {L0 β} hL0 a w hI=>D9 hL0 (Xw _) hbase (Wt hB) (by simpa using h2) hI fun η c hH=>
   ⟨η,c,Vn.agr_refl _ η,Bf (fun _ _=>rfl) (fun b hb=>by grind),hm rfl rfl η w c hH⟩⟩
 ·cases hr
theorem agD {g:Gh} (hr:PB B KE KF g S K=some r):Iw B nt KE KF S K r:=by
 unfold PB at hr
 split at hr
 ·split at hr
  ·split at hr
   ·exact ⟨S,hr,fun _ _ _ h=>h⟩
   ·exact IJ hr
  ·exact ⟨S,hr,fun _ _ _ h=>h⟩
 ·split at hr
  ·exact Uu hr
  ·exact ⟨S,hr,fun _ _ _ h=>h⟩
 ·split at hr
  ·exact IF (fun hm hb η w c hH=>qV hm hb hH) hr
  ·cases hr
 ·split at hr
  ·exact IF (fun hm hb η w c hH=>rv hm hb hH) hr
  ·cases hr
 ·split at hr
  ·split at hr
   ·exact ⟨S,hr,fun _ _ _ h=>h⟩
   ·split at hr
    ·exact IJ hr
    ·cases hr
  ·cases hr
 ·split at hr
  ·split at hr
   ·split at hr
    ·exact ⟨S,hr,fun _ _ _ h=>h⟩
    ·split at hr
     ·exact IJ hr
     ·cases hr
   ·cases hr
  ·cases hr
 ·split at hr
  ·exact IF (fun hm _ η w c hH=>ry hH hm hH) hr
  ·cases hr
 ·split at hr
  ·exact Uu hr
  ·exact ⟨S,hr,fun _ _ _ h=>h⟩
theorem zM : ∀ {gs:List Gh} {S:SS} {K:SS→Option R},zJ B KE KF gs S K=some r→Iw B nt KE KF S K r
 | [],S,K,h=>⟨S,h,fun _ _ _ h=>h⟩
 | g::gs,S,K,h=>by
  obtain ⟨S',h1,h2⟩:=agD (nt:=nt) (show PB B KE KF g S (fun S' => zJ B KE KF gs S' K)=some r from h)
  obtain ⟨S2,h3,h4⟩:=zM (gs:=gs) h1
  exact ⟨S2,h3,fun {L0 β} hL0 a w hI=>h4 hL0 a w (h2 hL0 a w hI)⟩
end
end
end Go.Sm
