/-
  The symbolic evaluator: codes of types, leaves of values, symbolic facts. Nothing of a program is named here; no condition.
-/
import Derived.Test.YtknnphhepnbaoaaGreatDoorSimI
namespace Go.Sm
inductive SC
 | int (k:IntKind)
 | bool
 | str
 | fnc
 deriving DecidableEq
inductive TC
 | sc (s:SC)
 | arr (n:Nat) (s:SC)
 | unit
 | pair (a b:TC)
 | slice (t:TC)
 | st (t:TC)
 | ext (n:Nat)
 deriving DecidableEq
class XTab where
 den:Nat→Type
 val:(n:Nat)→den n→Value
 one:(n:Nat)→(x:den n)→(val n x).oneCell' = true
 dft:(n:Nat)→den n
abbrev SC.den:SC→Type
 | .int _=>Int
 | .bool=>Bool
 | .str=>List UInt8
 | .fnc=>Nat
abbrev SC.val:(s:SC)→s.den→Value
 | .int k,n=>.int k n
 | .bool,x=>.bool x
 | .str,x=>.string ⟨x.toArray⟩
 | .fnc,f=>.func (.func f) #[] #[]
theorem SC.one:(s:SC)→(x:s.den)→(s.val x).oneCell' = true
 | .int _,_=>rfl
 | .bool,_=>rfl
 | .str,_=>rfl
 | .fnc,_=>rfl
abbrev SC.dft:(s:SC)→s.den
 | .int _=>(0:Int)
 | .bool=>false
 | .str=>([]:List UInt8)
 | .fnc=>(0:Nat)
section
variable [X:XTab]
abbrev TC.ty:TC→Ty
 | .sc s=>.one s.den s.val s.one
 | .arr n s=>.arr n s.den s.dft s.val s.one
 | .unit=>.unit
 | .pair a b=>.pair a.ty b.ty
 | .slice t=>.slice t.ty
 | .st t=>t.ty
 | .ext n=>.one (X.den n) (X.val n) (X.one n)
abbrev TC.den (t:TC):Type:=t.ty.den
abbrev TC.dft:(t:TC)→t.den
 | .sc s=>s.dft
 | .arr _ _=>[]
 | .unit=>()
 | .pair a b=>(a.dft,b.dft)
 | .slice _=>[]
 | .st t=>t.dft
 | .ext n=>X.dft n
def TC.ref0:(t:TC)→t.ty.Refs
 | .sc _=>()
 | .arr _ _=>()
 | .unit=>()
 | .pair a b=>(a.ref0,b.ref0)
 | .slice _=>(⟨none,0,0⟩:Hd)
 | .st t=>t.ref0
 | .ext _=>()
inductive Pa:TC→TC→Type
 | here {t:TC}:Pa t t
 | fst {a b u:TC} (p:Pa a u):Pa (.pair a b) u
 | snd {a b u:TC} (p:Pa b u):Pa (.pair a b) u
 | inn {a u:TC} (p:Pa a u):Pa (.st a) u
 | el {n:Nat} {s:SC} (j:Int):Pa (.arr n s) (.sc s)
inductive Lf:Type
 | c (s:SC) (x:s.den)
 | ar (n:Nat) (s:SC) (x:List s.den)
 | sl (h:Nat)
 | nl
 | bp (b off:Nat)
 | bq (b off n:Nat) (s:SC) (j:Int)
 | rp (h:Nat) (t:TC) (i:Int) (u:TC) (p:Pa t u)
 | xt (n:Nat) (x:X.den n)
 | fn (f:FuncId)
 | clo (f:FuncId) (b:Nat)
 | gp (g:Nat) (t:TC) (i:Int) (u:TC) (p:Pa t u)
 | ars (t:TC) (xs:List t.den)
 | v (x:Value)
def Lf.sz:Lf→Nat
 | .ar n _ _=>n
 | .ars t xs=>xs.length * t.ty.sz
 | _=>1
inductive AV:Type
 | lf (l:Lf)
 | ag (ls:List Lf)
 | tu (vs:List AV)
structure Vn where
 h:Nat→Hd
 b:Nat→Nat
def Pa.off : {t u:TC}→Pa t u→Nat
 | _,_, .here=>0
 | _,_, .fst p=>p.off
 | _,_,@Pa.snd a _ _ p=>a.ty.sz+p.off
 | _,_, .inn p=>p.off
 | _,_, .el j=>j.toNat
def nilHd:Hd:=⟨none,0,0⟩
def Lf.cells (η:Vn):Lf→List Value
 | .c s x=>[s.val x]
 | .ar n s x=>(TC.arr n s).ty.fill x ()
 | .sl h=>[(η.h h).val]
 | .nl=>[nilHd.val]
 | .bp b off=>[.pointer (some ⟨η.b b,off,none⟩)]
 | .bq b off _ _ j=>[.pointer (some ⟨η.b b,off+j.toNat,none⟩)]
 | .rp h t i _ p=>[.pointer (some (pat (η.h h) (i.toNat * t.ty.sz+p.off)))]
 | .xt n x=>[X.val n x]
 | .fn f=>[.func (.func f) #[] #[]]
 | .clo f b=>[.func (.func f) #[] #[.pointer (some ⟨η.b b,0,none⟩)]]
 | .gp g t i _ p=>[.pointer (some ⟨g,i.toNat * t.ty.sz+p.off,none⟩)]
 | .ars t xs=>cellsOf t.ty xs (List.replicate xs.length t.ref0)
 | .v x=>[x]
def Lf.val (η:Vn) (l:Lf):Value:=match l with
 | .c s x=>s.val x
 | .ar n s x=>.agg ((TC.arr n s).ty.fill x ()).toArray
 | .sl h=>(η.h h).val
 | .nl=>nilHd.val
 | .bp b off=>.pointer (some ⟨η.b b,off,none⟩)
 | .bq b off _ _ j=>.pointer (some ⟨η.b b,off+j.toNat,none⟩)
 | .rp h t i _ p=>.pointer (some (pat (η.h h) (i.toNat * t.ty.sz+p.off)))
 | .xt n x=>X.val n x
 | .fn f=>.func (.func f) #[] #[]
 | .clo f b=>.func (.func f) #[] #[.pointer (some ⟨η.b b,0,none⟩)]
 | .gp g t i _ p=>.pointer (some ⟨g,i.toNat * t.ty.sz+p.off,none⟩)
 | .ars t xs=>.agg (cellsOf t.ty xs (List.replicate xs.length t.ref0)).toArray
 | .v x=>x
def cellsL (η:Vn):List Lf→List Value
 | []=>[]
 | l::r=>l.cells η++cellsL η r
mutual
def AV.val (η:Vn):AV→Value
 | .lf l=>l.val η
 | .ag ls=>.agg (cellsL η ls).toArray
 | .tu vs=>.tuple (AV.vals η vs).toArray
def AV.vals (η:Vn):List AV→List Value
 | []=>[]
 | v::r=>v.val η::AV.vals η r
end
inductive AF:Type
 | rep (t:TC) (K:List Nat) (xs:List t.den) (h:Nat)
 | own (t:TC) (e:TypeId) (i:Nat) (K:List Nat) (xs:List t.den) (h:Nat)
 | box (i b:Nat) (cs:List Lf)
 | isn (h:Nat) (b:Bool)
 | prt (h' h sz:Nat) (lo hi:Int)
def AF.ha (η:Vn):AF→HA
 | .rep t K xs h=>.rep t.ty K xs (η.h h)
 | .own t e i K xs h=>.own t.ty e i K xs (η.h h)
 | .box i b cs=>.box i (η.b b) (cellsL η cs)
 | .isn h b=>.pure ((η.h h).isNil=b)
 | .prt h' h sz lo hi=>.pure (PrtOf (η.h h') (η.h h) sz lo hi)
def AF.uses:AF→List Nat
 | .rep _ K _ _=>K
 | .own _ _ i K _ _=>i::K
 | .box i _ _=>[i]
 | .isn _ _=>[]
 | .prt _ _ _ _ _=>[]
def Lf.hs:Lf→List Nat
 | .sl h=>[h]
 | .rp h _ _ _ _=>[h]
 | _=>[]
def Lf.bs:Lf→List Nat
 | .bp b _=>[b]
 | .bq b _ _ _ _=>[b]
 | .clo _ b=>[b]
 | _=>[]
def out (n m:Nat):Bool:=Nat.blt m n||Nat.ble (n+64) m
def Lf.free (n:Nat) (l:Lf):Bool:=match l with
 | .sl h=>out n h
 | .rp h _ _ _ _=>out n h
 | .bp b _=>out n b
 | .bq b _ _ _ _=>out n b
 | .clo _ b=>out n b
 | _=>true
def freeL (n:Nat):List Lf→Bool
 | []=>true
 | l::r=>l.free n&&freeL n r
mutual
def AV.free (n:Nat):AV→Bool
 | .lf l=>l.free n
 | .ag ls=>freeL n ls
 | .tu vs=>AV.frees n vs
def AV.frees (n:Nat):List AV→Bool
 | []=>true
 | v::r=>v.free n&&AV.frees n r
end
def AF.free (n:Nat):AF→Bool
 | .rep _ _ _ h=>out n h
 | .own _ _ _ _ _ h=>out n h
 | .box _ b cs=>out n b&&freeL n cs
 | .isn h _=>out n h
 | .prt h' h _ _ _=>out n h' && out n h
def Vn.agr (n:Nat) (η η' : Vn):Prop:=∀ m,out n m=true→η'.h m=η.h m∧η'.b m=η.b m
theorem Lf.cells_agr {n:Nat} {η η' : Vn} (h:η.agr n η'):(l:Lf)→l.free n=true→l.cells η' = l.cells η
 | .sl m,hf=>by simp only [Lf.cells,(h m hf).1]
 | .rp m _ _ _ _,hf=>by simp only [Lf.cells,(h m hf).1]
 | .bp m _,hf=>by simp only [Lf.cells,(h m hf).2]
 | .bq m _ _ _ _,hf=>by simp only [Lf.cells,(h m hf).2]
 | .clo _ m,hf=>by simp only [Lf.cells,(h m hf).2]
 | .gp _ _ _ _ _,_=>rfl
 | .ars _ _,_=>rfl
 | .c _ _,_=>rfl
 | .ar _ _ _,_=>rfl
 | .nl,_=>rfl
 | .xt _ _,_=>rfl
 | .fn _,_=>rfl
 | .v _,_=>rfl
theorem Lf.val_agr {n:Nat} {η η' : Vn} (h:η.agr n η'):(l:Lf)→l.free n=true→l.val η' = l.val η
 | .sl m,hf=>by simp only [Lf.val,(h m hf).1]
 | .rp m _ _ _ _,hf=>by simp only [Lf.val,(h m hf).1]
 | .bp m _,hf=>by simp only [Lf.val,(h m hf).2]
 | .bq m _ _ _ _,hf=>by simp only [Lf.val,(h m hf).2]
 | .clo _ m,hf=>by simp only [Lf.val,(h m hf).2]
 | .gp _ _ _ _ _,_=>rfl
 | .ars _ _,_=>rfl
 | .c _ _,_=>rfl
 | .ar _ _ _,_=>rfl
 | .nl,_=>rfl
 | .xt _ _,_=>rfl
 | .fn _,_=>rfl
 | .v _,_=>rfl
theorem cellsL_agr {n:Nat} {η η' : Vn} (h:η.agr n η'):(ls:List Lf)→freeL n ls=true→cellsL η' ls=cellsL η ls
 | [],_=>rfl
 | l::r,hf=>by
  simp only [freeL,Bool.and_eq_true] at hf
  simp only [cellsL,l.cells_agr h hf.1,cellsL_agr h r hf.2]
mutual
theorem AV.val_agr {n:Nat} {η η' : Vn} (h:η.agr n η'):(v:AV)→v.free n=true→v.val η' = v.val η
 | .lf l,hf=>by simp only [AV.val]; exact l.val_agr h hf
 | .ag ls,hf=>by simp only [AV.val]; rw [cellsL_agr h ls hf]
 | .tu vs,hf=>by simp only [AV.val]; rw [AV.vals_agr h vs hf]
theorem AV.vals_agr {n:Nat} {η η' : Vn} (h:η.agr n η'):(vs:List AV)→AV.frees n vs=true→AV.vals η' vs=AV.vals η vs
 | [],_=>rfl
 | v::r,hf=>by
  simp only [AV.frees,Bool.and_eq_true] at hf
  simp only [AV.vals,AV.val_agr h v hf.1,AV.vals_agr h r hf.2]
end
theorem AF.ha_agr {n:Nat} {η η' : Vn} (h:η.agr n η'):(f:AF)→f.free n=true→f.ha η' = f.ha η
 | .rep _ _ _ m,hf=>by simp only [AF.ha,(h m hf).1]
 | .own _ _ _ _ _ m,hf=>by simp only [AF.ha,(h m hf).1]
 | .box _ m cs,hf=>by
  simp only [AF.free,Bool.and_eq_true] at hf
  simp only [AF.ha,(h m hf.1).2,cellsL_agr h cs hf.2]
 | .isn m _,hf=>by simp only [AF.ha,(h m hf).1]
 | .prt m m' _ _ _,hf=>by
  simp only [AF.free,Bool.and_eq_true] at hf
  simp only [AF.ha,(h m hf.1).1,(h m' hf.2).1]
theorem AF.ha_uses (η:Vn):(f:AF)→(f.ha η).uses=f.uses
 | .rep _ _ _ _=>rfl
 | .own _ _ _ _ _ _=>rfl
 | .box _ _ _=>rfl
 | .isn _ _=>rfl
 | .prt _ _ _ _ _=>rfl
theorem Lf.cells_sz (η:Vn):(l:Lf)→(l.cells η).length=l.sz
 | .ar n s x=>Ty.fill_length _ _ _
 | .sl _=>rfl
 | .rp _ _ _ _ _=>rfl
 | .bp _ _=>rfl
 | .bq _ _ _ _ _=>rfl
 | .c _ _=>rfl
 | .nl=>rfl
 | .xt _ _=>rfl
 | .fn _=>rfl
 | .clo _ _=>rfl
 | .gp _ _ _ _ _=>rfl
 | .ars t xs=>by simp only [Lf.cells,Lf.sz]; rw [cellsOf_length]; simp
 | .v _=>rfl
end
end Go.Sm
