/-
  The symbolic evaluator: what is told where ways meet. Nothing of a program is named here; no condition.
-/
import Derived.Test.YtknnphhepnbaoaaGreatDoorRfM
namespace Go.Sm
set_option linter.unusedSectionVars false
section
variable [X:XTab] [G:GTab]
inductive Sp
 | sc (s:SC)
 | ar (n:Nat) (s:SC)
 | xt (n:Nat)
 | own (t:TC) (e:TypeId) (one:Bool) (src:List Nat)
 | rep (t:TC) (one:Bool) (src:List Nat)
 | ownk (t:TC) (e:TypeId) (h:Nat)
abbrev Sp.den:Sp→Type
 | .sc s=>s.den
 | .ar _ s=>List s.den
 | .xt n=>X.den n
 | .own t _ _ _=>List t.den
 | .rep t _ _=>List t.den
 | .ownk t _ _=>List t.den
abbrev DSp:List Sp→Type
 | []=>Unit
 | [a]=>a.den
 | a::b::r=>a.den×DSp (b::r)
inductive ShV
 | lf (l:Sp)
 | ag (ls:List Sp)
def ShV.ls:ShV→List Sp
 | .lf l=>[l]
 | .ag ls=>ls
structure Shp where
 keep:List Nat
 vs:List (Nat×ShV)
 bx:List (Nat×List Sp)
 dead:List Nat
def Shp.ls (sh:Shp):List Sp:=sh.vs.flatMap (fun p=>p.2.ls)++sh.bx.flatMap (fun p=>p.2)
def gathV (E:SE):List (Nat×ShV)→Option (List Lf)
 | []=>some []
 | (t, .lf _)::r=>match look E t,gathV E r with
  | some (.lf l),some ls=>some (l::ls)
  | _,_=>none
 | (t, .ag ps)::r=>match look E t,gathV E r with
  | some (.ag l),some ls=>bif Nat.beq l.length ps.length then some (l++ls) else none
  | _,_=>none
def gathB (E:SE) (F:List AF):List (Nat×List Sp)→Option (List Lf)
 | []=>some []
 | (t,ps)::r=>match look E t with
  | some (.lf (.bp b 0))=>match boxI b F,gathB E F r with
   | some (_,cs),some ls=>bif Nat.beq cs.length ps.length then some (cs++ls) else none
   | _,_=>none
  | some (.lf (.sl h))=>match prtI h F,gathB E F r with
   | some (h0,_,_,_),some ls=>bif Nat.beq 1 ps.length then some (.sl h0::ls) else none
   | _,_=>none
  | _=>none
def Sp.abs (F:List AF):(p:Sp)→Lf→Option p.den
 | .sc s, .c s' x=>if h:s' = s then some (castD h x) else none
 | .ar n s, .ar n' s' x=>if h:s' = s∧n' = n then some (castDL h.1 x) else none
 | .xt n, .xt m x=>if h:m=n then some (castX h x) else none
 | .own t e _ _,l=>match ownI t e 0 F l with | some (_,_,xs)=>some xs | none=>none
 | .rep t _ _,l=>match lfI t F l with | some s=>some s.xs | none=>none
 | .ownk t e h, .sl h' => bif Nat.beq h h' && Nat.blt h 64 then (match ownI t e 0 F (.sl h') with | some (_,_,xs)=>some xs | none=>none) else none
 | _,_=>none
def absL (F:List AF):(ps:List Sp)→List Lf→Option (DSp ps)
 | [],[]=>some ()
 | [p],[l]=>p.abs F l
 | p::q::r,l::ls=>match p.abs F l,absL F (q::r) ls with
  | some x,some y=>some (x,y)
  | _,_=>none
 | _,_=>none
def Sp.leaf (p:Sp) (x:p.den) (nm:Nat):Lf:=match p,x with
 | .sc s,x=>.c s x
 | .ar n s,x=>.ar n s x
 | .xt n,x=>.xt n x
 | .own _ _ _ _,_=>.sl nm
 | .rep _ _ _,_=>.sl nm
 | .ownk _ _ h,_=>.sl h
def leavesS:(ps:List Sp)→DSp ps→Nat→List Lf
 | [],_,_=>[]
 | [p],x,nm=>[p.leaf x nm]
 | p::q::r,x,nm=>p.leaf x.1 nm::leavesS (q::r) x.2 (nm+1)
def specK (KK:Nat→List Nat) (one:Bool) (src:List Nat) (_cb:Nat):List Nat:=(bif one then [1] else [])++src.flatMap KK++KK 4000000
def Sp.fact (KK:Nat→List Nat) (p:Sp) (x:p.den) (nm cb:Nat):List AF:=match p,x with
 | .own t e one src,xs=>[.own t e cb (specK KK one src cb) xs nm]
 | .rep t one src,xs=>[.rep t (specK KK one src cb) xs nm]
 | .ownk t e h,xs=>[.own t e cb [] xs h]
 | _,_=>[]
def factsS (KK:Nat→List Nat):(ps:List Sp)→DSp ps→Nat→Nat→List AF
 | [],_,_,_=>[]
 | [p],x,nm,cb=>p.fact KK x nm cb
 | p::q::r,x,nm,cb=>p.fact KK x.1 nm cb++factsS KK (q::r) x.2 (nm+1) (cb+2)
def slotsS:List (Nat×ShV)→List Lf→SE
 | [],_=>[]
 | (t, .lf _)::r,l::ls=>(t, .lf l)::slotsS r ls
 | (t, .ag ps)::r,ls=>(t, .ag (ls.take ps.length))::slotsS r (ls.drop ps.length)
 | _,[]=>[]
def boxesS (E:SE):List (Nat×List Sp)→List Lf→Nat→List AF
 | [],_,_=>[]
 | (t,ps)::r,ls,cb=>match look E t with
  | some (.lf (.bp b 0))=>.box cb b (ls.take ps.length)::boxesS E r (ls.drop ps.length) (cb+1)
  | some (.lf (.sl _))=>boxesS E r (ls.drop ps.length) (cb+1)
  | _=>[]
def colsLf (F:List AF) (l:Lf):List Nat:=match l with
 | .sl h=>F.flatMap fun f=>match f with
  | .own _ _ i K _ h' => bif Nat.beq h h' then i::K else []
  | .rep _ K _ h' => bif Nat.beq h h' then K else []
  | .box _ _ _=>[]
  | .isn _ _=>[]
  | .prt _ _ _ _ _=>[]
 | .bp b _=>F.flatMap fun f=>match f with
  | .box i b' _=>bif Nat.beq b b' then [i] else []
  | _=>[]
 | _=>[]
def colsAV (F:List AF):AV→List Nat
 | .lf l=>colsLf F l
 | .ag ls=>ls.flatMap (colsLf F)
 | .tu _=>[]
def colsSlot (E:SE) (F:List AF) (t:Nat):List Nat:=match look E t with
 | some v=>colsAV F v
 | none=>[]
def colsIn (E:SE) (F:List AF) (t:Nat):List Nat:=match look E t with
 | some (.lf (.bp b _))=>F.flatMap fun f=>match f with
  | .box _ b' cs=>bif Nat.beq b b' then cs.flatMap (colsLf F) else []
  | _=>[]
 | _=>[]
def clsS (E:SE) (F:List AF) (cc t:Nat):List Nat:=bif Nat.beq t 4000000 then [cc] else bif Nat.ble 1000000 t then colsIn E F (t - 1000000) else colsSlot E F t
def concS (sh:Shp) (KE:SE) (KF:List AF) (nb cb:Nat) (d:DSp sh.ls):SS:=
 let ls:=leavesS sh.ls d nb
 ⟨slotsS sh.vs ls,factsS (clsS KE KF (cb+255)) sh.ls d nb cb++boxesS KE sh.bx (ls.drop (sh.vs.flatMap (fun p=>p.2.ls)).length) (cb+2 * sh.ls.length),nb+64,cb+256,[]⟩
def cmOwn (F:List AF):List Sp→List Lf→Nat→List (Nat×Nat)
 | .own t e _ _::ps,l::ls,cb=>match ownI t e 0 F l with
  | some (i,_,_)=>(i,cb)::cmOwn F ps ls (cb+2)
  | none=>cmOwn F ps ls (cb+2)
 | .ownk t e _::ps,l::ls,cb=>match ownI t e 0 F l with
  | some (i,_,_)=>(i,cb)::cmOwn F ps ls (cb+2)
  | none=>cmOwn F ps ls (cb+2)
 | _::ps,_::ls,cb=>cmOwn F ps ls (cb+2)
 | _,_,_=>[]
def cmBox (E:SE) (F:List AF):List (Nat×List Sp)→Nat→List (Nat×Nat)
 | [],_=>[]
 | (t,_)::r,cb=>match look E t with
  | some (.lf (.bp b 0))=>match boxI b F with
   | some (i,_)=>(i,cb)::cmBox E F r (cb+1)
   | none=>[]
  | some (.lf (.sl _))=>cmBox E F r (cb+1)
  | _=>[]
def cmCls (F:List AF) (cc:Nat):List Sp→List Lf→List (Nat×Nat)
 | .own t e _ _::ps,l::ls=>(match ownI t e 0 F l with
  | some (_,K,_)=>K.map fun k=>(k,cc)
  | none=>[])++cmCls F cc ps ls
 | .rep t _ _::ps,l::ls=>(match lfI t F l with
  | some s=>s.all.map fun k=>(k,cc)
  | none=>[])++cmCls F cc ps ls
 | _::ps,_::ls=>cmCls F cc ps ls
 | _,_=>[]
def sub (a b:List Nat):Bool:=a.all fun k=>b.any fun j=>Nat.beq k j
def chkP (KK:Nat→List Nat) (g:Nat→Nat) (F:List AF) (cb:Nat):Sp→Lf→Bool
 | .own t e one src, .sl h=>match ownI t e 0 F (.sl h) with
  | some (i,K,_)=>Nat.beq (g i) cb&&(t.ty.pureB||sub (K.map g) (specK KK one src cb))
  | none=>false
 | .rep t one src, .sl h=>match lfI t F (.sl h) with
  | some s=>sub (s.all.map g) (specK KK one src cb)
  | none=>false
 | .ownk t e _, .sl h=>match ownI t e 0 F (.sl h) with
  | some (i,_,_)=>Nat.beq (g i) cb&&t.ty.pureB
  | none=>false
 | _,_=>true
def chkL (KK:Nat→List Nat) (g:Nat→Nat) (F:List AF):Nat→List Sp→List Lf→Bool
 | cb,p::ps,l::ls=>chkP KK g F cb p l&&chkL KK g F (cb+2) ps ls
 | _,_,_=>true
def chkB (g:Nat→Nat) (E:SE) (F:List AF):List (Nat×List Sp)→Nat→Bool
 | [],_=>true
 | (t,_)::r,cb=>match look E t with
  | some (.lf (.bp b 0))=>match boxI b F with
   | some (i,_)=>Nat.beq (g i) cb&&chkB g E F r (cb+1)
   | none=>false
  | some (.lf (.sl _))=>chkB g E F r (cb+1)
  | _=>false
def meetS (sh:Shp) (KE:SE) (KF:List AF) (nb cb:Nat) (S:SS):Option (DSp sh.ls):=match gathV S.E sh.vs,gathB KE (S.F++KF) sh.bx with
 | some l1,some l2=>match absL (S.F++KF) sh.ls (l1++l2) with
  | some d=>
   let kc:=KF.flatMap AF.uses
   let cm:=kc.map (fun k=>(k,k))++cmOwn (S.F++KF) sh.ls (l1++l2) cb++cmBox KE (S.F++KF) sh.bx (cb+2 * sh.ls.length)++cmCls (S.F++KF) (cb+255) sh.ls (l1++l2)
   let cm:=cm.filter fun p=>Nat.ble 2 p.1&&Nat.ble 2 p.2
   let g:=mkg cm 2
   bif KF.all (fun f=>!(hits S.d f))&&kc.all (fun k=>Nat.beq (g k) k)&&chkL (clsS KE KF (cb+255)) g (S.F++KF) cb sh.ls (l1++l2)&&chkB g KE (S.F++KF) sh.bx (cb+2 * sh.ls.length)&&KE.all (fun p=>p.2.free nb)&&KF.all (AF.free nb)&&Nat.ble sh.ls.length 64&&KE.all (fun p=>(look S.E p.1).isNone)&&Nat.ble 64 nb then some d else none
  | none=>none
 | _,_=>none
theorem abs_cells {F:List AF} {η η' : Vn} {p:Sp} {l:Lf} {x:p.den} {nm:Nat} (hlow : ∀ m,m<64→η'.h m=η.h m) (h:p.abs F l=some x) (hn:η'.h nm=l.hd η):(p.leaf x nm).cells η' = l.cells η∧(p.leaf x nm).val η' = l.val η:=by
 cases p with
 | sc s=>
  cases l <;> simp only [Sp.abs] at h <;> try cases h
  split at h
  ·rename_i he; subst he
   simp only [Option.some.injEq] at h; subst h
   exact ⟨rfl,rfl⟩
  ·cases h
 | ar n s=>
  cases l <;> simp only [Sp.abs] at h <;> try cases h
  split at h
  ·rename_i he; obtain ⟨rfl,rfl⟩:=he
   simp only [Option.some.injEq] at h; subst h
   exact ⟨rfl,rfl⟩
  ·cases h
 | xt n=>
  cases l <;> simp only [Sp.abs] at h <;> try cases h
  split at h
  ·rename_i he; subst he
   simp only [Option.some.injEq] at h; subst h
   exact ⟨rfl,rfl⟩
  ·cases h
 | own t e one src=>
  simp only [Sp.abs] at h
  split at h
  ·rename_i i K xs ho
   refine ⟨?_,?_⟩
   ·simp only [Sp.leaf,Lf.cells,hn]
    cases l <;> simp [ownI] at ho <;> rfl
   ·simp only [Sp.leaf,Lf.val,hn]
    exact (ownI_val ho η).symm
  ·cases h
 | rep t one src=>
  simp only [Sp.abs] at h
  split at h
  ·rename_i s hs
   refine ⟨?_,?_⟩
   ·simp only [Sp.leaf,Lf.cells,hn]
    exact (lfI_val hs η).2.symm
   ·simp only [Sp.leaf,Lf.val,hn]
    exact (lfI_val hs η).1.symm
  ·cases h
 | ownk t e h0=>
  cases l with
  | sl h' =>
   simp only [Sp.abs] at h
   cases hb:(Nat.beq h0 h' && Nat.blt h0 64)
   ·rw [hb] at h; cases h
   ·simp only [Bool.and_eq_true] at hb
    have h1:=Nat.eq_of_beq_eq_true hb.1
    have h2:h0+1≤64:=Nat.le_of_ble_eq_true hb.2
    subst h1
    simp only [Sp.leaf,Lf.cells,Lf.val,hlow h0 (by omega),and_self]
  | _=>cases h
theorem absL_cells {F:List AF} {η η' : Vn} (hlow : ∀ m,m<64→η'.h m=η.h m) : ∀ {ps:List Sp} {ls:List Lf} {d:DSp ps} {nm:Nat},absL F ps ls=some d→(∀ (j:Nat) (l:Lf),ls[j]? = some l→η'.h (nm+j)=l.hd η) →
  (leavesS ps d nm).length=ls.length∧∀ (j:Nat) (l l' : Lf),ls[j]? = some l→(leavesS ps d nm)[j]? = some l' → l'.cells η' = l.cells η∧l'.val η' = l.val η
 | [],[],d,nm,h,hn=>⟨rfl,fun j l l' h=>by simp at h⟩
 | [p],[l],d,nm,h,hn=>⟨rfl,fun j l1 l' h1 h2=>by
  cases j with
  | zero=>
   simp only [leavesS,List.getElem?_cons_zero,Option.some.injEq] at h1 h2
   subst h1 h2
   exact abs_cells hlow h (hn 0 l rfl)
  | succ j=>simp at h1⟩
 | p::q::r,l::ls,d,nm,h,hn=>by
  simp only [absL] at h
  split at h
  ·rename_i x y hx hy
   simp only [Option.some.injEq] at h
   subst h
   obtain ⟨i1,i2⟩:=absL_cells (η:=η) (η' := η') hlow (nm:=nm+1) hy fun j l' hj=>by
    have:=hn (j+1) l' (by simpa using hj)
    rwa [show nm+1+j=nm+(j+1) by omega]
   refine ⟨by simp only [leavesS,List.length_cons,i1],fun j l1 l' h1 h2=>?_⟩
   cases j with
   | zero=>
    simp only [leavesS,List.getElem?_cons_zero,Option.some.injEq] at h1 h2
    subst h1 h2
    exact abs_cells hlow hx (hn 0 l rfl)
   | succ j=>
    simp only [leavesS,List.getElem?_cons_succ] at h1 h2
    exact i2 j l1 l' h1 h2
  ·cases h
 | [],_::_,_,_,h,_=>by simp [absL] at h
 | [_],[],_,_,h,_=>by simp [absL] at h
 | [_],_::_::_,_,_,h,_=>by simp [absL] at h
 | _::_::_,[],_,_,h,_=>by simp [absL] at h
theorem cells_same {η η' : Vn} : ∀ {as bs:List Lf},as.length=bs.length→(∀ (j:Nat) (l l' : Lf),bs[j]? = some l→as[j]? = some l' → l'.cells η' = l.cells η)→cellsL η' as=cellsL η bs
 | [],[],_,_=>rfl
 | a::as,b::bs,hl,h=>by
  simp only [cellsL]
  rw [h 0 b a rfl rfl,cells_same (by simpa using hl) fun j l l' h1 h2=>h (j+1) l l' (by simpa using h1) (by simpa using h2)]
 | [],_::_,hl,_=>by simp at hl
 | _::_,[],hl,_=>by simp at hl
theorem slots_ok {E:SE} {η η' : Vn} : ∀ {vs:List (Nat×ShV)} {ls as rest:List Lf},gathV E vs=some ls→as.length=(ls++rest).length→(∀ (j:Nat) (l l' : Lf),(ls++rest)[j]? = some l→as[j]? = some l' → l'.cells η' = l.cells η∧l'.val η' = l.val η) →
  ∀ t v,look (slotsS vs as) t=some v→∃ v0,look E t=some v0∧v.val η' = v0.val η
 | [],ls,as,rest,_,_,_,t,v,h=>by simp [slotsS,look] at h
 | (t0, .lf p)::r,ls,as,rest,hg,hl,hc,t,v,h=>by
  simp only [gathV] at hg
  split at hg
  ·rename_i l ls' h1 h2
   simp only [Option.some.injEq] at hg
   subst hg
   cases as with
   | nil=>simp at hl
   | cons a as=>
    simp only [slotsS,look] at h
    cases hb:Nat.beq t t0
    ·rw [hb] at h
     exact slots_ok h2 (by simpa using hl) (fun j l l' k1 k2=>hc (j+1) l l' (by simpa using k1) (by simpa using k2)) t v h
    ·rw [hb] at h
     simp only [cond_true,Option.some.injEq] at h
     subst h
     obtain rfl:=Nat.eq_of_beq_eq_true hb
     exact ⟨_,h1,(hc 0 l a rfl rfl).2⟩
  ·cases hg
 | (t0, .ag ps)::r,ls,as,rest,hg,hl,hc,t,v,h=>by
  simp only [gathV] at hg
  split at hg
  ·rename_i l ls' h1 h2
   cases hb0:Nat.beq l.length ps.length
   ·rw [hb0] at hg; cases hg
   ·rw [hb0] at hg
    simp only [cond_true,Option.some.injEq] at hg
    subst hg
    have hlen:=Nat.eq_of_beq_eq_true hb0
    simp only [List.length_append] at hl
    simp only [slotsS,look] at h
    cases hb:Nat.beq t t0
    ·rw [hb] at h
     refine slots_ok (rest:=rest) h2 (by simp; omega) (fun j l1 l' k1 k2=>?_) t v h
     rw [List.getElem?_drop] at k2
     exact hc (ps.length+j) l1 l' (by rw [List.append_assoc,List.getElem?_append_right (by omega)]; rw [show ps.length+j - l.length=j by omega]; exact k1) k2
    ·rw [hb] at h
     simp only [cond_true,Option.some.injEq] at h
     subst h
     obtain rfl:=Nat.eq_of_beq_eq_true hb
     refine ⟨_,h1,?_⟩
     simp only [AV.val]
     rw [cells_same (bs:=l) (by simp; omega) fun j l1 l' k1 k2=>?_]
     have hj:=(List.getElem?_eq_some_iff.1 k1).1
     rw [List.getElem?_take] at k2
     split at k2
     ·exact (hc j l1 l' (by rw [List.append_assoc,List.getElem?_append_left hj]; exact k1) k2).1
     ·cases k2
  ·cases hg
end
end Go.Sm
