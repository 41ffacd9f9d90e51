/-
  The symbolic evaluator: data out of leaves, leaves out of data. Nothing of a program is named here; no condition.
-/
import Derived.Test.YtknnphhepnbaoaaGreatDoorRfB
namespace Go.Sm
set_option linter.unusedSectionVars false
section
variable [X:XTab] [G:GTab]
def TC.nh:TC→Nat
 | .sc _=>0
 | .arr _ _=>0
 | .unit=>0
 | .pair a b=>a.nh+b.nh
 | .slice _=>1
 | .st t=>t.nh
 | .ext _=>0
def hdsOf:(t:TC)→t.ty.Refs→List Hd
 | .sc _,_=>[]
 | .arr _ _,_=>[]
 | .unit,_=>[]
 | .pair a b,y=>hdsOf a y.1++hdsOf b y.2
 | .slice _,h=>[h]
 | .st t,y=>hdsOf t y
 | .ext _,_=>[]
def refsOf:(t:TC)→List Hd→t.ty.Refs
 | .sc _,_=>()
 | .arr _ _,_=>()
 | .unit,_=>()
 | .pair a b,l=>(refsOf a l,refsOf b (l.drop a.nh))
 | .slice _,l=>l.headD nilHd
 | .st t,l=>refsOf t l
 | .ext _,_=>()
theorem hdsOf_len:(t:TC)→(y:t.ty.Refs)→(hdsOf t y).length=t.nh
 | .sc _,_=>rfl
 | .arr _ _,_=>rfl
 | .unit,_=>rfl
 | .pair a b,y=>by simp [hdsOf,TC.nh,hdsOf_len a y.1,hdsOf_len b y.2]
 | .slice _,_=>rfl
 | .st t,y=>hdsOf_len t y
 | .ext _,_=>rfl
def Vn.set (η:Vn) (n:Nat) (l:List Hd):Vn:=⟨fun m=>bif Nat.ble n m&&Nat.blt m (n+l.length) then l.getD (m - n) nilHd else η.h m,η.b⟩
theorem Vn.set_at {η:Vn} {n:Nat} {l:List Hd} {j:Nat} {h:Hd} (hj:l[j]? = some h):(η.set n l).h (n+j)=h:=by
 have hlt:=(List.getElem?_eq_some_iff.1 hj).1
 have h1:(Nat.ble n (n+j)&&Nat.blt (n+j) (n+l.length))=true:=by
  rw [Bool.and_eq_true]; exact ⟨Nat.ble_eq_true_of_le (by omega),Nat.ble_eq_true_of_le (by omega)⟩
 simp only [Vn.set,h1,cond_true,show n+j - n=j by omega]
 rw [List.getD_eq_getElem?_getD,hj]; rfl
theorem Vn.set_agr {η:Vn} {n:Nat} {l:List Hd} (hl:l.length≤64):η.agr n (η.set n l):=by
 intro m hm
 refine ⟨?_,rfl⟩
 have:(Nat.ble n m&&Nat.blt m (n+l.length))=false:=by
  cases hb:(Nat.ble n m&&Nat.blt m (n+l.length))
  ·rfl
  ·simp only [Bool.and_eq_true] at hb
   have h1:=Nat.le_of_ble_eq_true hb.1
   have h2:m+1≤n+l.length:=Nat.le_of_ble_eq_true hb.2
   simp only [out,Bool.or_eq_true] at hm
   rcases hm with hm | hm
   ·have:m+1≤n:=Nat.le_of_ble_eq_true hm; omega
   ·have:=Nat.le_of_ble_eq_true hm; omega
 simp only [Vn.set,this,cond_false]
def mkL:(t:TC)→t.den→Nat→List Lf
 | .sc s,x,_=>[.c s x]
 | .arr n s,x,_=>[.ar n s x]
 | .unit,_,_=>[]
 | .pair a b,x,n=>mkL a x.1 n++mkL b x.2 (n+a.nh)
 | .slice _,_,n=>[.sl n]
 | .st t,x,n=>mkL t x n
 | .ext k,x,_=>[.xt k x]
def mkF:(t:TC)→t.den→List Nat→Nat→List AF
 | .sc _,_,_,_=>[]
 | .arr _ _,_,_,_=>[]
 | .unit,_,_,_=>[]
 | .pair a b,x,K,n=>mkF a x.1 K n++mkF b x.2 K (n+a.nh)
 | .slice t,x,K,n=>[.rep t K x n]
 | .st t,x,K,n=>mkF t x K n
 | .ext _,_,_,_=>[]
theorem cellsL_append (η:Vn):(a b:List Lf)→cellsL η (a++b)=cellsL η a++cellsL η b
 | [],_=>rfl
 | l::r,b=>by simp [cellsL,cellsL_append η r b]
def Named (η:Vn) (n:Nat) (l:List Hd):Prop:=∀ j h,l[j]? = some h→η.h (n+j)=h
theorem Named.left {η:Vn} {n:Nat} {a b:List Hd} (h:Named η n (a++b)):Named η n a:=fun j x hj=>h j x (by
 rw [List.getElem?_append_left (List.getElem?_eq_some_iff.1 hj).1]; exact hj)
theorem Named.right {η:Vn} {n k:Nat} {a b:List Hd} (h:Named η n (a++b)) (hk:a.length=k):Named η (n+k) b:=fun j x hj=>by
 have:=h (k+j) x (by rw [List.getElem?_append_right (by omega)]; rw [show k+j - a.length=j by omega]; exact hj)
 rw [show n+k+j=n+(k+j) by omega]; exact this
theorem mkL_cells {η:Vn}:(t:TC)→(x:t.den)→(y:t.ty.Refs)→(n:Nat)→Named η n (hdsOf t y)→cellsL η (mkL t x n)=t.ty.fill x y
 | .sc _,_,_,_,_=>rfl
 | .arr _ _,_,_,_,_=>by simp [mkL,cellsL,Lf.cells,Ty.fill]
 | .unit,_,_,_,_=>rfl
 | .pair a b,x,y,n,h=>by
  simp only [mkL,cellsL_append,Ty.fill]
  rw [mkL_cells a x.1 y.1 n h.left,mkL_cells b x.2 y.2 (n+a.nh) (h.right (hdsOf_len a y.1))]
 | .slice _,x,y,n,h=>by
  have:=h 0 y rfl
  simp only [Nat.add_zero] at this
  simp [mkL,cellsL,Lf.cells,Ty.fill,this]
 | .st t,x,y,n,h=>mkL_cells t x y n h
 | .ext _,_,_,_,_=>rfl
theorem mkF_ha {η:Vn} {K:List Nat}:(t:TC)→(x:t.den)→(y:t.ty.Refs)→(n:Nat)→Named η n (hdsOf t y)→(mkF t x K n).map (AF.ha η)=facts t.ty K x y
 | .sc _,_,_,_,_=>rfl
 | .arr _ _,_,_,_,_=>rfl
 | .unit,_,_,_,_=>rfl
 | .pair a b,x,y,n,h=>by
  simp only [mkF,List.map_append,facts]
  rw [mkF_ha a x.1 y.1 n h.left,mkF_ha b x.2 y.2 (n+a.nh) (h.right (hdsOf_len a y.1))]
 | .slice _,x,y,n,h=>by
  have:=h 0 y rfl
  simp only [Nat.add_zero] at this
  simp [mkF,AF.ha,facts,this]
 | .st t,x,y,n,h=>mkF_ha t x y n h
 | .ext _,_,_,_,_=>rfl
structure SI (t:TC) where
 own:Option (TypeId×Nat)
 K:List Nat
 xs:List t.den
def SI.all {t:TC} (s:SI t):List Nat:=match s.own with
 | none=>s.K
 | some p=>p.2::s.K
def castL {t t' : TC} (h:t' = t) (xs:List t'.den):List t.den:=h ▸ xs
def slI (t:TC) (h:Nat):List AF→Option (SI t)
 | []=>none
 | .own t' e i K xs h' :: r=>bif Nat.beq h h' then (if he:t' = t then some ⟨some (e,i),K,castL he xs⟩ else none) else slI t h r
 | .rep t' K xs h' :: r=>bif Nat.beq h h' then (if he:t' = t then some ⟨none,K,castL he xs⟩ else none) else slI t h r
 | .box _ _ _::r=>slI t h r
 | .isn _ _::r=>slI t h r
 | .prt _ _ _ _ _::r=>slI t h r
def SI.fact {t:TC} (s:SI t) (h:Nat):AF:=match s.own with
 | none=>.rep t s.K s.xs h
 | some p=>.own t p.1 p.2 s.K s.xs h
theorem slI_mem {t:TC} {h:Nat} : ∀ {F:List AF} {s:SI t},slI t h F=some s→s.fact h∈F
 | [],s,hs=>by simp [slI] at hs
 | .own t' e i K xs h' :: r,s,hs=>by
  simp only [slI] at hs
  cases hb:Nat.beq h h'
  ·rw [hb] at hs; exact List.mem_cons_of_mem _ (slI_mem hs)
  ·rw [hb] at hs
   simp only [cond_true] at hs
   split at hs
   ·rename_i he
    subst he
    simp only [Option.some.injEq] at hs
    subst hs
    rw [Nat.eq_of_beq_eq_true hb]
    exact List.mem_cons_self
   ·cases hs
 | .rep t' K xs h' :: r,s,hs=>by
  simp only [slI] at hs
  cases hb:Nat.beq h h'
  ·rw [hb] at hs; exact List.mem_cons_of_mem _ (slI_mem hs)
  ·rw [hb] at hs
   simp only [cond_true] at hs
   split at hs
   ·rename_i he
    subst he
    simp only [Option.some.injEq] at hs
    subst hs
    rw [Nat.eq_of_beq_eq_true hb]
    exact List.mem_cons_self
   ·cases hs
 | .box _ _ _::r,s,hs=>List.mem_cons_of_mem _ (slI_mem (F:=r) hs)
 | .isn _ _::r,s,hs=>List.mem_cons_of_mem _ (slI_mem (F:=r) hs)
 | .prt _ _ _ _ _::r,s,hs=>List.mem_cons_of_mem _ (slI_mem (F:=r) hs)
def prtI (h:Nat):List AF→Option (Nat×Nat×Int×Int)
 | []=>none
 | .prt h' h0 sz lo hi::r=>bif Nat.beq h h' then some (h0,sz,lo,hi) else prtI h r
 | .own _ _ _ _ _ _::r=>prtI h r
 | .rep _ _ _ _::r=>prtI h r
 | .box _ _ _::r=>prtI h r
 | .isn _ _::r=>prtI h r
theorem prtI_mem {h:Nat} : ∀ {F:List AF} {h0 sz:Nat} {lo hi:Int},prtI h F=some (h0,sz,lo,hi)→.prt h h0 sz lo hi∈F
 | [],_,_,_,_,hs=>by simp [prtI] at hs
 | .prt h' h1 sz' lo' hi' :: r,h0,sz,lo,hi,hs=>by
  simp only [prtI] at hs
  cases hb:Nat.beq h h'
  ·rw [hb] at hs; exact List.mem_cons_of_mem _ (prtI_mem hs)
  ·rw [hb] at hs
   simp only [cond_true,Option.some.injEq,Prod.mk.injEq] at hs
   obtain ⟨rfl,rfl,rfl,rfl⟩:=hs
   rw [Nat.eq_of_beq_eq_true hb]
   exact List.mem_cons_self
 | .own _ _ _ _ _ _::r,_,_,_,_,hs=>List.mem_cons_of_mem _ (prtI_mem (F:=r) hs)
 | .rep _ _ _ _::r,_,_,_,_,hs=>List.mem_cons_of_mem _ (prtI_mem (F:=r) hs)
 | .box _ _ _::r,_,_,_,_,hs=>List.mem_cons_of_mem _ (prtI_mem (F:=r) hs)
 | .isn _ _::r,_,_,_,_,hs=>List.mem_cons_of_mem _ (prtI_mem (F:=r) hs)
def lfI (t:TC) (F:List AF):Lf→Option (SI t)
 | .sl h=>slI t h F
 | .nl=>some ⟨none,[],[]⟩
 | _=>none
def Lf.hd (η:Vn):Lf→Hd
 | .sl h=>η.h h
 | .bp b _=>⟨some ⟨η.b b,0,none⟩,0,0⟩
 | .clo _ b=>⟨some ⟨η.b b,0,none⟩,0,0⟩
 | _=>nilHd
theorem lfI_val {t:TC} {F:List AF} {l:Lf} {s:SI t} (h:lfI t F l=some s) (η:Vn):l.val η=(l.hd η).val∧l.cells η=[(l.hd η).val]:=by
 cases l <;> simp [lfI] at h <;> exact ⟨rfl,rfl⟩
theorem lfI_rep {t:TC} {F:List AF} {l:Lf} {s:SI t} (h:lfI t F l=some s) {η:Vn} {w:World} {c:Col} (hF:Heap w c (F.map (AF.ha η))):HA.holds w c (.rep t.ty s.all s.xs (l.hd η)):=by
 cases l with
 | sl n=>
  have hm:=hF _ (List.mem_map.2 ⟨_,slI_mem h,rfl⟩)
  obtain ⟨own,K,xs⟩:=s
  cases own with
  | none=>exact hm
  | some p=>exact own_rep hm
 | nl=>
  simp only [lfI,Option.some.injEq] at h
  subst h
  exact free_rep w c
 | _=>simp [lfI] at h
def ownI (t:TC) (e:TypeId) (N:Nat) (F:List AF):Lf→Option (Nat×List Nat×List t.den)
 | .sl h=>match slI t h F with
  | some ⟨some (e',i),K,xs⟩=>bif Nat.beq e e' then some (i,K,xs) else none
  | _=>none
 | .nl=>some (N,[],[])
 | _=>none
theorem ownI_own {t:TC} {e:TypeId} {N:Nat} {F:List AF} {l:Lf} {i:Nat} {K:List Nat} {xs:List t.den} (h:ownI t e N F l=some (i,K,xs)) {η:Vn} {w:World} {c:Col} (hF:Heap w c (F.map (AF.ha η))) :
  HA.holds w c (.own t.ty e i K xs (l.hd η)):=by
 cases l with
 | sl n=>
  simp only [ownI] at h
  split at h
  ·rename_i e' i' K' xs' hs
   cases hb:Nat.beq e e'
   ·rw [hb] at h; cases h
   ·rw [hb] at h
    simp only [cond_true,Option.some.injEq,Prod.mk.injEq] at h
    obtain ⟨rfl,rfl,rfl⟩:=h
    rw [Nat.eq_of_beq_eq_true hb]
    exact hF _ (List.mem_map.2 ⟨_,slI_mem hs,rfl⟩)
  ·cases h
 | nl=>
  simp only [ownI,Option.some.injEq,Prod.mk.injEq] at h
  obtain ⟨rfl,rfl,rfl⟩:=h
  exact free_own w c
 | _=>simp [ownI] at h
theorem ownI_val {t:TC} {e:TypeId} {N:Nat} {F:List AF} {l:Lf} {r:Nat×List Nat×List t.den} (h:ownI t e N F l=some r) (η:Vn):l.val η=(l.hd η).val:=by
 cases l <;> simp [ownI] at h <;> rfl
def castD {t t' : SC} (h:t' = t) (x:t'.den):t.den:=h ▸ x
def castDL {t t' : SC} (h:t' = t) (x:List t'.den):List t.den:=h ▸ x
def castX {n m:Nat} (h:m=n) (x:X.den m):X.den n:=h ▸ x
def datL (F:List AF):(t:TC)→List Lf→Option (t.den×List Lf×List Nat×List Lf)
 | .sc s, .c s' x::r=>if h:s' = s then some (castD h x,[],[],r) else none
 | .sc s, .fn f::r=>if h:SC.fnc=s then some (castD h f,[],[],r) else none
 | .arr n s, .ar n' s' x::r=>if h:s' = s∧n' = n then some (castDL h.1 x,[],[],r) else none
 | .unit,r=>some ((),[],[],r)
 | .pair a b,r=>match datL F a r with
  | some (x,l1,K1,r1)=>match datL F b r1 with
   | some (y,l2,K2,r2)=>some ((x,y),l1++l2,K1++K2,r2)
   | none=>none
  | none=>none
 | .slice t,l::r=>match lfI t F l with
  | some s=>some (s.xs,[l],s.all,r)
  | none=>none
 | .st t,r=>datL F t r
 | .ext n, .xt m x::r=>if h:m=n then some (castX h x,[],[],r) else none
 | _,_=>none
def hdsL (η:Vn) (ls:List Lf):List Hd:=ls.map (Lf.hd η)
theorem datL_nh {F:List AF} : ∀ (t:TC) {ls:List Lf} {x:t.den} {l:List Lf} {K:List Nat} {r:List Lf},datL F t ls=some (x,l,K,r)→l.length=t.nh
 | .sc s,ls,x,l,K,r,h=>by
  cases ls with
  | nil=>simp [datL] at h
  | cons a ls=>
   cases a <;> simp only [datL] at h <;> try cases h
   all_goals split at h
   all_goals first | (simp only [Option.some.injEq,Prod.mk.injEq] at h; obtain ⟨_,rfl,_,_⟩:=h; rfl) | cases h
 | .arr n s,ls,x,l,K,r,h=>by
  cases ls with
  | nil=>simp [datL] at h
  | cons a ls=>
   cases a <;> simp only [datL] at h <;> try cases h
   split at h
   ·simp only [Option.some.injEq,Prod.mk.injEq] at h
    obtain ⟨_,rfl,_,_⟩:=h
    rfl
   ·cases h
 | .unit,ls,x,l,K,r,h=>by simp [datL] at h; rw [h.1]; rfl
 | .pair a b,ls,x,l,K,r,h=>by
  simp only [datL] at h
  split at h
  ·rename_i x1 l1 K1 r1 h1
   split at h
   ·rename_i x2 l2 K2 r2 h2
    simp only [Option.some.injEq,Prod.mk.injEq] at h
    rw [← h.2.1,List.length_append,datL_nh a h1,datL_nh b h2]; rfl
   ·cases h
  ·cases h
 | .st t,ls,x,l,K,r,h=>datL_nh t h
 | .slice t,ls,x,l,K,r,h=>by
  cases ls with
  | nil=>simp [datL] at h
  | cons a ls=>
   simp only [datL] at h
   split at h
   ·simp only [Option.some.injEq,Prod.mk.injEq] at h
    rw [← h.2.1]; rfl
   ·cases h
 | .ext n,ls,x,l,K,r,h=>by
  cases ls with
  | nil=>simp [datL] at h
  | cons a ls=>
   cases a <;> simp only [datL] at h <;> try cases h
   split at h
   ·simp only [Option.some.injEq,Prod.mk.injEq] at h
    obtain ⟨_,rfl,_,_⟩:=h
    rfl
   ·cases h
theorem refsOf_left:(t:TC)→(l1 l2:List Hd)→l1.length=t.nh→refsOf t (l1++l2)=refsOf t l1
 | .sc _,_,_,_=>rfl
 | .arr _ _,_,_,_=>rfl
 | .unit,_,_,_=>rfl
 | .pair a b,l1,l2,h=>by
  simp only [TC.nh] at h
  have e:l1=l1.take a.nh++l1.drop a.nh:=(List.take_append_drop _ _).symm
  have hl:(l1.take a.nh).length=a.nh:=by simp; omega
  simp only [refsOf]
  have e1:refsOf a (l1++l2)=refsOf a (l1.take a.nh):=by
   rw [e,List.append_assoc,refsOf_left a _ _ hl,← e]
  have e2:refsOf a l1=refsOf a (l1.take a.nh):=by
   have:=refsOf_left a (l1.take a.nh) (l1.drop a.nh) hl
   rwa [← e] at this
  rw [e1,e2,List.drop_append,show a.nh - l1.length=0 by omega,List.drop_zero,refsOf_left b _ _ (by simp; omega)]
 | .slice _,[],_,h=>by simp [TC.nh] at h
 | .slice _,_::_,_,_=>rfl
 | .st t,l1,l2,h=>refsOf_left t l1 l2 h
 | .ext _,_,_,_=>rfl
theorem datL_ok {F:List AF} {η:Vn} : ∀ (t:TC) {ls:List Lf} {x:t.den} {l:List Lf} {K:List Nat} {r:List Lf},datL F t ls=some (x,l,K,r) →
  cellsL η ls=t.ty.fill x (refsOf t (hdsL η l))++cellsL η r ∧
  ∀ (w:World) (c:Col) (K' : List Nat),Heap w c (F.map (AF.ha η))→(∀ k∈K,k∈K')→RepR w (fun b=>c b∈K') t.ty x (refsOf t (hdsL η l))
 | .sc s,ls,x,l,K,r,h=>by
  cases ls with
  | nil=>simp [datL] at h
  | cons a ls=>
   cases a <;> simp only [datL] at h <;> try cases h
   all_goals split at h
   all_goals first | cases h; done | skip
   all_goals
    rename_i he
    subst he
    simp only [Option.some.injEq,Prod.mk.injEq] at h
    obtain ⟨rfl,rfl,rfl,rfl⟩:=h
    exact ⟨rfl,fun _ _ _ _ _=>trivial⟩
 | .arr n s,ls,x,l,K,r,h=>by
  cases ls with
  | nil=>simp [datL] at h
  | cons a ls=>
   cases a <;> simp only [datL] at h <;> try cases h
   split at h
   ·rename_i he
    obtain ⟨rfl,rfl⟩:=he
    simp only [Option.some.injEq,Prod.mk.injEq] at h
    obtain ⟨rfl,rfl,rfl,rfl⟩:=h
    exact ⟨rfl,fun _ _ _ _ _=>trivial⟩
   ·cases h
 | .unit,ls,x,l,K,r,h=>by
  simp only [datL,Option.some.injEq,Prod.mk.injEq] at h
  obtain ⟨_,rfl,rfl,rfl⟩:=h
  exact ⟨rfl,fun _ _ _ _ _=>trivial⟩
 | .pair a b,ls,x,l,K,r,h=>by
  simp only [datL] at h
  split at h
  ·rename_i x1 l1 K1 r1 h1
   split at h
   ·rename_i x2 l2 K2 r2 h2
    simp only [Option.some.injEq,Prod.mk.injEq] at h
    obtain ⟨rfl,rfl,rfl,rfl⟩:=h
    obtain ⟨c1,f1⟩:=datL_ok (η:=η) a h1
    obtain ⟨c2,f2⟩:=datL_ok (η:=η) b h2
    have hn:(hdsL η l1).length=a.nh:=by simp [hdsL,datL_nh a h1]
    have e1:refsOf a (hdsL η (l1++l2))=refsOf a (hdsL η l1):=by
     rw [show hdsL η (l1++l2)=hdsL η l1++hdsL η l2 by simp [hdsL],refsOf_left a _ _ hn]
    have e2:refsOf b ((hdsL η (l1++l2)).drop a.nh)=refsOf b (hdsL η l2):=by
     rw [show hdsL η (l1++l2)=hdsL η l1++hdsL η l2 by simp [hdsL],List.drop_append,List.drop_eq_nil_of_le (by omega),show a.nh - (hdsL η l1).length=0 by omega]
     rfl
    refine ⟨?_,fun w c K' hF hK=>⟨?_,?_⟩⟩
    ·simp only [refsOf,Ty.fill]
     rw [e1,e2,c1,c2,List.append_assoc]
    ·show RepR w _ a.ty x1 (refsOf a _)
     rw [e1]; exact f1 w c K' hF fun k hk=>hK k (List.mem_append_left _ hk)
    ·show RepR w _ b.ty x2 (refsOf b _)
     rw [e2]; exact f2 w c K' hF fun k hk=>hK k (List.mem_append_right _ hk)
   ·cases h
  ·cases h
 | .slice t,ls,x,l,K,r,h=>by
  cases ls with
  | nil=>simp [datL] at h
  | cons a ls=>
   simp only [datL] at h
   split at h
   ·rename_i s hs
    simp only [Option.some.injEq,Prod.mk.injEq] at h
    obtain ⟨rfl,rfl,rfl,rfl⟩:=h
    refine ⟨?_,fun w c K' hF hK=>?_⟩
    ·simp only [cellsL,(lfI_val hs η).2]; rfl
    ·exact RepR.keep (S:=fun b=>c b∈s.all) (fun b _ hb=>⟨hK _ hb,rfl⟩) (.slice t.ty) s.xs (a.hd η) (lfI_rep hs hF)
   ·cases h
 | .st t,ls,x,l,K,r,h=>datL_ok t h
 | .ext n,ls,x,l,K,r,h=>by
  cases ls with
  | nil=>simp [datL] at h
  | cons a ls=>
   cases a <;> simp only [datL] at h <;> try cases h
   split at h
   ·rename_i he
    subst he
    simp only [Option.some.injEq,Prod.mk.injEq] at h
    obtain ⟨rfl,rfl,rfl,rfl⟩:=h
    exact ⟨rfl,fun _ _ _ _ _=>trivial⟩
   ·cases h
end
end Go.Sm
