/-
  The symbolic evaluator: codes of types, leaves of values, symbolic facts. Nothing of a program is named here; no condition.
-/
import Derived.Test.YtfhhiajfciblbaaGreatDoorSimQ
namespace Go.Sm
inductive SC
 | int (k:IntKind)
 | bool
 | str
 | fnc
 deriving DecidableEq
inductive TC
 | sc (s:SC)
 | arr (n:Nat) (s:SC)
 | unit
 | pair (a b:TC)
 | slice (t:TC)
 | st (t:TC)
 | ext (n:Nat)
 | node
 | mp (k v:TC)
 deriving DecidableEq
abbrev TC.nodeC:TC:=.pair (.sc (.int .i64)) (.pair (.sc .str) (.pair (.sc (.int .i64)) (.slice .node)))
class XTab where
 den:Nat→Type
 val:(n:Nat)→den n→Value
 one:(n:Nat)→(x:den n)→(val n x).oneCell' = true
 dft:(n:Nat)→den n
 tr:Nat→Nat
abbrev SC.den:SC→Type
 | .int _=>Int
 | .bool=>Bool
 | .str=>List UInt8
 | .fnc=>Nat
abbrev SC.val:(s:SC)→s.den→Value
 | .int k,n=>.int k n
 | .bool,x=>.bool x
 | .str,x=>.string ⟨x.toArray⟩
 | .fnc,f=>.func (.func f) #[] #[]
theorem SC.one:(s:SC)→(x:s.den)→(s.val x).oneCell' = true
 | .int _,_=>rfl
 | .bool,_=>rfl
 | .str,_=>rfl
 | .fnc,_=>rfl
abbrev SC.dft:(s:SC)→s.den
 | .int _=>(0:Int)
 | .bool=>false
 | .str=>([]:List UInt8)
 | .fnc=>(0:Nat)
section
variable [X:XTab]
abbrev TC.ty:TC→Ty
 | .sc s=>.one s.den s.val s.one
 | .arr n s=>.arr n s.den s.dft s.val s.one
 | .unit=>.unit
 | .pair a b=>.pair a.ty b.ty
 | .slice t=>.slice t.ty
 | .st t=>t.ty
 | .ext n=>.one (X.den n) (X.val n) (X.one n)
 | .node=>.node
 | .mp k v=>.mp k.ty v.ty
abbrev TC.den (t:TC):Type:=t.ty.den
abbrev TC.dft:(t:TC)→t.den
 | .sc s=>s.dft
 | .arr _ _=>[]
 | .unit=>()
 | .pair a b=>(a.dft,b.dft)
 | .slice _=>[]
 | .st t=>t.dft
 | .ext n=>X.dft n
 | .node=>Nd.of (0,[],0,[])
 | .mp _ _=>[]
def TC.ref0:(t:TC)→t.ty.Refs
 | .sc _=>()
 | .arr _ _=>()
 | .unit=>()
 | .pair a b=>(a.ref0,b.ref0)
 | .slice _=>(⟨none,0,0⟩:Hd)
 | .st t=>t.ref0
 | .ext _=>()
 | .node=>(⟨none,0,0⟩:Hd)
 | .mp _ _=>(⟨none,0,0⟩:Hd)
inductive Pa:TC→TC→Type
 | here {t:TC}:Pa t t
 | fst {a b u:TC} (p:Pa a u):Pa (.pair a b) u
 | snd {a b u:TC} (p:Pa b u):Pa (.pair a b) u
 | inn {a u:TC} (p:Pa a u):Pa (.st a) u
 | el {n:Nat} {s:SC} (j:Int):Pa (.arr n s) (.sc s)
 | nd {u:TC} (p:Pa TC.nodeC u):Pa .node u
inductive Lf:Type
 | c (s:SC) (x:s.den)
 | ar (n:Nat) (s:SC) (x:List s.den)
 | sl (h:Nat)
 | nl
 | bp (b off:Nat)
 | bq (b off n:Nat) (s:SC) (j:Int)
 | rp (h:Nat) (t:TC) (i:Int) (u:TC) (p:Pa t u)
 | xt (n:Nat) (x:X.den n)
 | fn (f:FuncId)
 | clo (f:FuncId) (b:Nat)
 | gp (g:Nat) (t:TC) (i:Int) (u:TC) (p:Pa t u)
 | ars (t:TC) (xs:List t.den)
 | mp (h:Nat)
 | v (x:Value)
def Lf.sz:Lf→Nat
 | .ar n _ _=>n
 | .ars t xs=>xs.length * t.ty.sz
 | _=>1
inductive AV:Type
 | lf (l:Lf)
 | ag (ls:List Lf)
 | tu (vs:List AV)
structure Vn where
 h:Nat→Hd
 b:Nat→Nat
def Pa.off : {t u:TC}→Pa t u→Nat
 | _,_, .here=>0
 | _,_, .fst p=>p.off
 | _,_,@Pa.snd a _ _ p=>a.ty.sz+p.off
 | _,_, .inn p=>p.off
 | _,_, .el j=>j.toNat
 | _,_, .nd p=>p.off
def dU:Hd:=⟨none,0,0⟩
def Lf.cells (η:Vn):Lf→List Value
 | .c s x=>[s.val x]
 | .ar n s x=>(TC.arr n s).ty.fill x ()
 | .sl h=>[(η.h h).val]
 | .nl=>[dU.val]
 | .bp b off=>[.pointer (some ⟨η.b b,off,none⟩)]
 | .bq b off _ _ j=>[.pointer (some ⟨η.b b,off+j.toNat,none⟩)]
 | .rp h t i _ p=>[.pointer (some (dP (η.h h) (i.toNat * t.ty.sz+p.off)))]
 | .xt n x=>[X.val n x]
 | .fn f=>[.func (.func f) #[] #[]]
 | .clo f b=>[.func (.func f) #[] #[.pointer (some ⟨η.b b,0,none⟩)]]
 | .gp g t i _ p=>[.pointer (some ⟨g,i.toNat * t.ty.sz+p.off,none⟩)]
 | .ars t xs=>cellsOf t.ty xs (List.replicate xs.length t.ref0)
 | .mp h=>[.map (some (η.h h).blk)]
 | .v x=>[x]
def Lf.val (η:Vn) (l:Lf):Value:=match l with
 | .c s x=>s.val x
 | .ar n s x=>.agg ((TC.arr n s).ty.fill x ()).toArray
 | .sl h=>(η.h h).val
 | .nl=>dU.val
 | .bp b off=>.pointer (some ⟨η.b b,off,none⟩)
 | .bq b off _ _ j=>.pointer (some ⟨η.b b,off+j.toNat,none⟩)
 | .rp h t i _ p=>.pointer (some (dP (η.h h) (i.toNat * t.ty.sz+p.off)))
 | .xt n x=>X.val n x
 | .fn f=>.func (.func f) #[] #[]
 | .clo f b=>.func (.func f) #[] #[.pointer (some ⟨η.b b,0,none⟩)]
 | .gp g t i _ p=>.pointer (some ⟨g,i.toNat * t.ty.sz+p.off,none⟩)
 | .ars t xs=>.agg (cellsOf t.ty xs (List.replicate xs.length t.ref0)).toArray
 | .mp h=>.map (some (η.h h).blk)
 | .v x=>x
def aq (η:Vn):List Lf→List Value
 | []=>[]
 | l::r=>l.cells η++aq η r
mutual
def AV.val (η:Vn):AV→Value
 | .lf l=>l.val η
 | .ag ls=>.agg (aq η ls).toArray
 | .tu vs=>.tuple (AV.vals η vs).toArray
def AV.vals (η:Vn):List AV→List Value
 | []=>[]
 | v::r=>v.val η::AV.vals η r
end
inductive AF:Type
 | rep (t:TC) (K:List Nat) (xs:List t.den) (h:Nat)
 | own (t:TC) (e:TypeId) (i:Nat) (K:List Nat) (xs:List t.den) (h:Nat)
 | box (i b:Nat) (cs:List Lf)
 | isn (h:Nat) (b:Bool)
 | prt (h' h sz:Nat) (lo hi:Int)
 | hol (t:TC) (e:TypeId) (i:Nat) (xs:List t.den) (h:Nat) (k:Int) (cs:List Lf)
 | mp (k v:TC) (i:Nat) (xs:List (k.den×v.den)) (h:Nat)
 | pt (t:TC) (e:TypeId) (i:Nat) (K:List Nat) (xs:List t.den) (h:Nat) (m:Int)
def lx (t:TC) (x:t.den):Value:=match t,x with
 | .sc s,x=>s.val x
 | .arr n s,x=>.agg ((TC.arr n s).ty.fill x ()).toArray
 | .unit,_=>.agg #[]
 | .pair a b,x=>.agg ((TC.pair a b).ty.fill x (TC.pair a b).ref0).toArray
 | .st a,x=>.agg (a.ty.fill x a.ref0).toArray
 | .slice _,_=>dU.val
 | .ext k,x=>X.val k x
 | .node,x=>.agg (Ty.node.fill x dU).toArray
 | .mp _ _,_=>.map none
def vL (k v:TC) (xs:List (k.den×v.den)):List (Value×Value):=xs.map fun p=>(lx k p.1,lx v p.2)
def AF.ha (η:Vn):AF→HA
 | .rep t K xs h=>.rep t.ty K xs (η.h h)
 | .own t e i K xs h=>dx t.ty e i K xs (η.h h)
 | .box i b cs=>.box i (η.b b) (aq η cs)
 | .isn h b=>.pure ((η.h h).isNil=b)
 | .prt h' h sz lo hi=>.pure (mV (η.h h') (η.h h) sz lo hi)
 | .hol t e i xs h k cs=>.hol t.ty e i xs (η.h h) k.toNat (aq η cs)
 | .mp k v i xs h=>.mp i (η.h h).blk (vL k v xs)
 | .pt t e i K xs h m=>.pt t.ty e i K xs (η.h h) m
def AF.uses:AF→List Nat
 | .rep _ K _ _=>K
 | .own _ _ i K _ _=>i::K
 | .box i _ _=>[i]
 | .isn _ _=>[]
 | .prt _ _ _ _ _=>[]
 | .hol _ _ i _ _ _ _=>[i]
 | .mp _ _ i _ _=>[i]
 | .pt _ _ i K _ _ _=>i::K
def Lf.hs:Lf→List Nat
 | .sl h=>[h]
 | .rp h _ _ _ _=>[h]
 | .mp h=>[h]
 | _=>[]
def Lf.bs:Lf→List Nat
 | .bp b _=>[b]
 | .bq b _ _ _ _=>[b]
 | .clo _ b=>[b]
 | _=>[]
def cq (n m:Nat):Bool:=Nat.blt m n||Nat.ble (n+64) m
def Lf.free (n:Nat) (l:Lf):Bool:=match l with
 | .sl h=>cq n h
 | .rp h _ _ _ _=>cq n h
 | .bp b _=>cq n b
 | .bq b _ _ _ _=>cq n b
 | .clo _ b=>cq n b
 | .mp h=>cq n h
 | _=>true
def qH (n:Nat):List Lf→Bool
 | []=>true
 | l::r=>l.free n&&qH n r
mutual
def AV.free (n:Nat):AV→Bool
 | .lf l=>l.free n
 | .ag ls=>qH n ls
 | .tu vs=>AV.frees n vs
def AV.frees (n:Nat):List AV→Bool
 | []=>true
 | v::r=>v.free n&&AV.frees n r
end
def AF.free (n:Nat):AF→Bool
 | .rep _ _ _ h=>cq n h
 | .own _ _ _ _ _ h=>cq n h
 | .box _ b cs=>cq n b&&qH n cs
 | .isn h _=>cq n h
 | .prt h' h _ _ _=>cq n h' && cq n h
 | .hol _ _ _ _ h _ cs=>cq n h&&qH n cs
 | .mp _ _ _ _ h=>cq n h
 | .pt _ _ _ _ _ h _=>cq n h
def Vn.agr (n:Nat) (η η' : Vn):Prop:=∀ m,cq n m=true→η'.h m=η.h m∧η'.b m=η.b m
theorem Lf.cells_agr {n:Nat} {η η' : Vn} (h:η.agr n η'):(l:Lf)→l.free n=true→l.cells η' = l.cells η
 | .sl m,hf=>by simp only [Lf.cells,(h m hf).1]
 | .rp m _ _ _ _,hf=>by simp only [Lf.cells,(h m hf).1]
 | .mp m,hf=>by simp only [Lf.cells,(h m hf).1]
 | .bp m _,hf=>by simp only [Lf.cells,(h m hf).2]
 | .bq m _ _ _ _,hf=>by simp only [Lf.cells,(h m hf).2]
 | .clo _ m,hf=>by simp only [Lf.cells,(h m hf).2]
 | .gp _ _ _ _ _,_=>rfl
 | .ars _ _,_=>rfl
 | .c _ _,_=>rfl
 | .ar _ _ _,_=>rfl
 | .nl,_=>rfl
 | .xt _ _,_=>rfl
 | .fn _,_=>rfl
 | .v _,_=>rfl
theorem Lf.val_agr {n:Nat} {η η' : Vn} (h:η.agr n η'):(l:Lf)→l.free n=true→l.val η' = l.val η
 | .sl m,hf=>by simp only [Lf.val,(h m hf).1]
 | .rp m _ _ _ _,hf=>by simp only [Lf.val,(h m hf).1]
 | .mp m,hf=>by simp only [Lf.val,(h m hf).1]
 | .bp m _,hf=>by simp only [Lf.val,(h m hf).2]
 | .bq m _ _ _ _,hf=>by simp only [Lf.val,(h m hf).2]
 | .clo _ m,hf=>by simp only [Lf.val,(h m hf).2]
 | .gp _ _ _ _ _,_=>rfl
 | .ars _ _,_=>rfl
 | .c _ _,_=>rfl
 | .ar _ _ _,_=>rfl
 | .nl,_=>rfl
 | .xt _ _,_=>rfl
 | .fn _,_=>rfl
 | .v _,_=>rfl
theorem oi {n:Nat} {η η' : Vn} (h:η.agr n η'):(ls:List Lf)→qH n ls=true→aq η' ls=aq η ls
 | [],_=>rfl
 | l::r,hf=>by
  simp only [qH,Bool.and_eq_true] at hf
  simp only [aq,l.cells_agr h hf.1,oi h r hf.2]
mutual
theorem AV.val_agr {n:Nat} {η η' : Vn} (h:η.agr n η'):(v:AV)→v.free n=true→v.val η' = v.val η
 | .lf l,hf=>by simp only [AV.val]; exact l.val_agr h hf
 | .ag ls,hf=>by simp only [AV.val]; rw [oi h ls hf]
 | .tu vs,hf=>by simp only [AV.val]; rw [AV.vals_agr h vs hf]
theorem AV.vals_agr {n:Nat} {η η' : Vn} (h:η.agr n η'):(vs:List AV)→AV.frees n vs=true→AV.vals η' vs=AV.vals η vs
 | [],_=>rfl
 | v::r,hf=>by
  simp only [AV.frees,Bool.and_eq_true] at hf
  simp only [AV.vals,AV.val_agr h v hf.1,AV.vals_agr h r hf.2]
end
theorem AF.ha_agr {n:Nat} {η η' : Vn} (h:η.agr n η'):(f:AF)→f.free n=true→f.ha η' = f.ha η
 | .rep _ _ _ m,hf=>by simp only [AF.ha,(h m hf).1]
 | .own _ _ _ _ _ m,hf=>by simp only [AF.ha,(h m hf).1]
 | .box _ m cs,hf=>by
  simp only [AF.free,Bool.and_eq_true] at hf
  simp only [AF.ha,(h m hf.1).2,oi h cs hf.2]
 | .isn m _,hf=>by simp only [AF.ha,(h m hf).1]
 | .prt m m' _ _ _,hf=>by
  simp only [AF.free,Bool.and_eq_true] at hf
  simp only [AF.ha,(h m hf.1).1,(h m' hf.2).1]
 | .mp _ _ _ _ m,hf=>by simp only [AF.ha,(h m hf).1]
 | .pt _ _ _ _ _ m _,hf=>by simp only [AF.ha,(h m hf).1]
 | .hol _ _ _ _ m _ cs,hf=>by
  simp only [AF.free,Bool.and_eq_true] at hf
  simp only [AF.ha,(h m hf.1).1,oi h cs hf.2]
theorem AF.ha_uses (η:Vn):(f:AF)→(f.ha η).uses=f.uses
 | .rep _ _ _ _=>rfl
 | .own _ _ _ _ _ _=>P4
 | .box _ _ _=>rfl
 | .isn _ _=>rfl
 | .prt _ _ _ _ _=>rfl
 | .hol _ _ _ _ _ _ _=>rfl
 | .mp _ _ _ _ _=>rfl
 | .pt _ _ _ _ _ _ _=>rfl
theorem Lf.cells_sz (η:Vn):(l:Lf)→(l.cells η).length=l.sz
 | .ar n s x=>Ty.fill_length _ _ _
 | .sl _=>rfl
 | .rp _ _ _ _ _=>rfl
 | .bp _ _=>rfl
 | .bq _ _ _ _ _=>rfl
 | .c _ _=>rfl
 | .nl=>rfl
 | .xt _ _=>rfl
 | .fn _=>rfl
 | .clo _ _=>rfl
 | .gp _ _ _ _ _=>rfl
 | .mp _=>rfl
 | .ars t xs=>by simp only [Lf.cells,Lf.sz]; rw [bU]; simp
 | .v _=>rfl
end
end Go.Sm
namespace Go.Sm
inductive TD
  | int (k:IntKind)
  | bool
  | str
  | slice (e:TypeId)
  | arr (n:Nat) (e:TypeId)
  | st (fs:List (TypeId×Nat))
  | ptr (e:TypeId)
  | map (k e:TypeId)
  | other
set_option linter.unusedSectionVars false
section
variable [X:XTab]
structure GEnt where
  g:Nat
  t:TC
  xs:List t.den
class GTab where
  gl:List GEnt
def GEnt.ha (e:GEnt):HA:=.gl e.g e.xs.length (cellsOf e.t.ty e.xs (List.replicate e.xs.length e.t.ref0))
variable [G:GTab]
def lJ:List HA:=G.gl.map GEnt.ha
structure TInf where
  d:TD
  sz:Nat
  by_:Nat
  zl:List Lf
  tc:TC
def TD.agg:TD→Bool
  | .arr _ _=>true
  | .st _=>true
  | _=>false
def B7:Vn:=⟨fun _=>dU,fun _=>0⟩
def TInf.zv (i:TInf):Value:=bif i.d.agg then .agg (aq B7 i.zl).toArray else (aq B7 i.zl).headD undef
def TInf.fits (P:Program) (t:TypeId):TD→Prop
  | .int k=>P.underlying t=some (.int k)
  | .bool=>P.underlying t=some .bool
  | .str=>P.underlying t=some .string
  | .slice e=>P.underlying t=some (.slice e)
  | .arr n e=>P.underlying t=some (.array n e)
  | .st fs=>∃ F,P.underlying t=some (.struct F)∧F.toList.map (fun f=>(f.type,f.offset))=fs
  | .ptr e=>P.underlying t=some (.pointer e)
  | .map k e=>P.underlying t=some (.map k e)
  | .other=>∃ d,P.underlying t=some d∧jx d=false
def TInf.ok (P:Program) (t:TypeId) (i:TInf):Prop:=TI P t i.sz i.by_ i.zv∧TInf.fits P t i.d∧i.zv.cells=(aq B7 i.zl).toArray∧∀ η,aq η i.zl=aq B7 i.zl
abbrev Tb:=TypeId→Option TInf
def Tb.ok (Θ:Tb) (P:Program):Prop:=∀ t i,Θ t=some i→i.ok P t
def Ch:List (TypeId×TInf)→Tb
  | [],_=>none
  | (a,i)::r,t=>bif Nat.beq t a then some i else Ch r t
def We (P:Program):List (TypeId×TInf)→Prop
  | []=>True
  | (a,i)::r=>i.ok P a∧We P r
theorem Gl {P:Program} : ∀ {l:List (TypeId×TInf)},We P l→Tb.ok (Ch l) P
  | [],_,t,i,h=>by simp [Ch] at h
  | (a,j)::r,hl,t,i,h=>by
    simp only [Ch] at h
    cases hb:Nat.beq t a
    · rw [hb] at h; exact Gl hl.2 t i h
    · rw [hb] at h
      simp only [cond_true,Option.some.injEq] at h
      subst h
      rw [Nat.eq_of_beq_eq_true hb]
      exact hl.1
structure Out where
  av:AV
  fs:List AF
  κ:List Nat
abbrev SE:=List (Nat×AV)
def bL (E:SE) (t:Nat):Option AV:=match E with
  | []=>none
  | (d,v)::r=>bif Nat.beq t d then some v else bL r t
def kH (η:Vn) (ρ:cF) (E:SE):Prop:=∀ t v,bL E t=some v→ρ t=v.val η
def Br:Value→AV
  | .int k n=>.lf (.c (.int k) n)
  | .bool b=>.lf (.c .bool b)
  | .string s=>.lf (.c .str s.data.toList)
  | .slice none 0 0=>.lf .nl
  | v=>.lf (.v v)
theorem IE (η:Vn) (v:Value):(Br v).val η=v:=by
  unfold Br
  split <;> simp [AV.val,Lf.val,dU,Hd.val]
def ev (E:SE):Operand→Option AV
  | .tmp t=>bL E t
  | .const v=>some (Br v)
  | .func f=>some (.lf (.fn f))
  | .global _=>none
theorem aF {η:Vn} {ρ:cF} {E:SE} (h:kH η ρ E) {x:Operand} {v:AV} (hx:ev E x=some v):aK ρ x=v.val η:=by
  cases x with
  | tmp t=>exact h t v hx
  | const c=>simp only [ev,Option.some.injEq] at hx; subst hx; exact (IE η c).symm
  | func f=>simp only [ev,Option.some.injEq] at hx; subst hx; rfl
  | global g=>simp [ev] at hx
def Hg (P:Program) (o:Oper) (E:SE) (F:List AF) (n:Nat) (u:Out):Prop:=∀ (η:Vn) (ρ:cF),kH η ρ E →
  cz P ρ o (F.map (AF.ha η)) u.κ (fun y : { η' : Vn // η.agr n η' }=>u.av.val y.1) (fun y=>u.fs.map (AF.ha y.1))
def cS (P:Program) (o:Oper) (E:SE) (F:List AF) (n:Nat) (u:Out):Prop:=∀ (η:Vn) (ρ:cF),kH η ρ E →
  cz P ρ o (F.map (AF.ha η)++lJ) u.κ (fun y : { η' : Vn // η.agr n η' }=>u.av.val y.1) (fun y=>u.fs.map (AF.ha y.1))
theorem Vn.agr_refl (n:Nat) (η:Vn):η.agr n η:=fun _ _=>⟨rfl,rfl⟩
theorem Hg.up {P:Program} {o:Oper} {E:SE} {F:List AF} {n:Nat} {u:Out} (h:Hg P o E F n u):cS P o E F n u:=
  fun η ρ hE a ev w c next Q ha hL hk=>h η ρ hE a ev w c next Q ha (fun A hA=>hL A (List.mem_append_left _ hA)) hk
theorem cS.pure {P:Program} {o:Oper} {E:SE} {F:List AF} {n:Nat} {av:AV} (h : ∀ η ρ,kH η ρ E→aY P ρ o (F.map (AF.ha η)) (av.val η)):Hg P o E F n ⟨av,[],[]⟩:=by
  intro η ρ hE a ev w c next Q ha hL hk
  rw [h η ρ hE ev w c ha hL]
  exact hk ⟨η,Vn.agr_refl n η⟩ w c (Stp.refl w c) (ai.nil _ _)
def eI:Option Bool→Prop
  | none=>True
  | some b=>b=true
def aj {R:Type} (ex:Option Bool) (P:Program) (o:Oper) (E:SE) (F:List AF) (n:Nat) (m:Option R) (k:Out→Option R):Prop:=∀ r,m=some r→∃ u,k u=some r∧(eI ex→cS P o E F n u)
section
variable {R:Type} {P:Program} {o:Oper} {E:SE} {F:List AF} {n:Nat} {k:Out→Option R} {ex:Option Bool}
theorem aj.none:aj ex P o E F n none k:=fun _ h=>by cases h
theorem aj.of {u:Out} (h:eI ex→Hg P o E F n u):aj ex P o E F n (k u) k:=fun _ h' => ⟨u,h',fun hx=>(h hx).up⟩
theorem aj.ofG {u:Out} (h:eI ex→cS P o E F n u):aj ex P o E F n (k u) k:=fun _ h' => ⟨u,h',h⟩
theorem aj.bif {b:Bool} {m:Option R} (h:b=true→aj ex P o E F n m k):aj ex P o E F n (bif b then m else .none) k:=fun r hr=>by
  cases b
  · cases hr
  · exact h rfl r hr
end
def gbind {α R:Type} (ex:Option Bool) (d:α) (m:Option α) (f:α→Option R):Option R:=match ex with
  | none=>m.bind f
  | some b=>(bif b then m else some d).bind f
def gchk {R:Type} (ex:Option Bool) (b:Bool) (m:Option R):Option R:=match ex with
  | none=>ah b m
  | some e=>ah (!e||b) m
theorem aj.gbind {R α:Type} {P:Program} {o:Oper} {E:SE} {F:List AF} {n:Nat} {k:Out→Option R} {ex:Option Bool} {d:α} {m:Option α} {f:α→Option R} (h : ∀ x,(eI ex→m=some x)→aj ex P o E F n (f x) k):aj ex P o E F n (gbind ex d m f) k:=by
  intro r hr
  cases ex with
  | none=>
    obtain ⟨x,hx,hf⟩:=bind_some hr
    exact h x (fun _=>hx) r hf
  | some b=>
    obtain ⟨x,hx,hf⟩:=bind_some hr
    refine h x (fun hb=>?_) r hf
    cases hb
    exact hx
theorem aj.gchk {R:Type} {P:Program} {o:Oper} {E:SE} {F:List AF} {n:Nat} {k:Out→Option R} {ex:Option Bool} {b:Bool} {m:Option R} (h:(eI ex→b=true)→aj ex P o E F n m k):aj ex P o E F n (gchk ex b m) k:=by
  intro r hr
  cases ex with
  | none=>
    obtain ⟨hb,hm⟩:=HW hr
    exact h (fun _=>hb) r hm
  | some e=>
    obtain ⟨hb,hm⟩:=HW hr
    refine h (fun he=>?_) r hm
    cases he
    simpa using hb
abbrev bc (v:AV):Out:=⟨v,[],[]⟩
abbrev eZ (k:IntKind) (x:Int):AV:=.lf (.c (.int k) x)
abbrev dI (x:Bool):AV:=.lf (.c .bool x)
abbrev uP (x:List UInt8):AV:=.lf (.c .str x)
def w_ (k:IntKind) (x:Int):Int:=match k with
  | .i64=>ad x
  | k=>k.wrap x
theorem LQ (k:IntKind) (x:Int):w_ k x=k.wrap x:=by cases k <;> rfl
def RU {R:Type} (ex:Option Bool) (op:BinOp) (k:IntKind) (a b:Int) (kk:Out→Option R):Option R:=match op with
  | .add=>kk (bc (eZ k (w_ k (a+b))))
  | .sub=>kk (bc (eZ k (w_ k (a - b))))
  | .mul=>kk (bc (eZ k (w_ k (a * b))))
  | .quo=>gchk ex (!(b==0)) (kk (bc (eZ k (w_ k (Int.tdiv a b)))))
  | .rem=>gchk ex (!(b==0)) (kk (bc (eZ k (Int.tmod a b))))
  | .lss=>kk (bc (dI (decide (a<b))))
  | .leq=>kk (bc (dI (decide (a≤b))))
  | .gtr=>kk (bc (dI (decide (b<a))))
  | .geq=>kk (bc (dI (decide (b≤a))))
  | .eql=>kk (bc (dI (a==b)))
  | .neq=>kk (bc (dI (a != b)))
  | .and=>kk (bc (eZ k (mH .and k a b)))
  | .or=>kk (bc (eZ k (mH .or k a b)))
  | .xor=>kk (bc (eZ k (mH .xor k a b)))
  | .andNot=>kk (bc (eZ k (mH .andNot k a b)))
  | _=>none
theorem pH {b:Bool} (h:(!b)=true):b=false:=by cases b <;> simp_all
theorem ZD {R:Type} {P:Program} {o:Oper} {E:SE} {F:List AF} {n:Nat} {ex:Option Bool} {op:BinOp} {t t' : TypeId} {x y:Operand} {k:IntKind} {a b:Int} (ho:o.op = .binOp op t x y t')
    (h1:ev E x=some (eZ k a)) (h2:ev E y=some (eZ k b)) (kk:Out→Option R):aj ex P o E F n (RU ex op k a b kk) kk:=by
  have hev : ∀ η ρ,kH η ρ E→aK ρ x = .int k a∧aK ρ y = .int k b:=fun η ρ hE=>⟨aF hE h1,aF hE h2⟩
  cases op <;> simp only [RU] <;> first
    | exact aj.none
    | (refine aj.of fun hx=>(cS.pure fun η ρ hE=>?_); obtain ⟨e1,e2⟩:=hev η ρ hE; simp only [AV.val,Lf.val,LQ]
       first | exact ad6 ho e1 e2 | exact ad9 ho e1 e2 | exact aey ho e1 e2 | exact adN ho e1 e2 | exact aef ho e1 e2 | exact aei ho e1 e2 | exact ad4 ho e1 e2 | exact ad3 ho e1 e2 | exact adR ho e1 e2 | exact aec ho (by simp) e1 e2)
    | (refine aj.gchk fun hb=>aj.of fun hx=>(cS.pure fun η ρ hE=>?_); obtain ⟨e1,e2⟩:=hev η ρ hE; simp only [AV.val,Lf.val,LQ]
       first | exact ael ho e1 e2 (pH (hb hx)) | exact ad7 ho e1 e2 (pH (hb hx)))
def NW {R:Type} (ex:Option Bool) (op:BinOp) (k:IntKind) (a b:Int) (kk:Out→Option R):Option R:=match op with
  | .shl=>gchk ex (decide (0≤b)) (kk (bc (eZ k (abZ k a b))))
  | .shr=>gchk ex (decide (0≤b)) (kk (bc (eZ k (kJ k a b))))
  | _=>none
theorem Jb {R:Type} {P:Program} {o:Oper} {E:SE} {F:List AF} {n:Nat} {ex:Option Bool} {op:BinOp} {t t' : TypeId} {x y:Operand} {k k' : IntKind} {a b:Int} (ho:o.op = .binOp op t x y t')
    (h1:ev E x=some (eZ k a)) (h2:ev E y=some (eZ k' b)) (kk:Out→Option R):aj ex P o E F n (NW ex op k a b kk) kk:=by
  have hev : ∀ η ρ,kH η ρ E→aK ρ x = .int k a∧aK ρ y = .int k' b:=fun η ρ hE=>⟨aF hE h1,aF hE h2⟩
  cases op <;> simp only [NW] <;> first
    | exact aj.none
    | (refine aj.gchk fun hb=>aj.of fun hx=>(cS.pure fun η ρ hE=>?_); obtain ⟨e1,e2⟩:=hev η ρ hE; simp only [AV.val,Lf.val]
       first | exact aeg ho e1 e2 (hb hx) | exact aep ho e1 e2 (hb hx))
end
end Go.Sm
namespace Go.Sm
set_option linter.unusedSectionVars false
section
variable [X:XTab] [G:GTab]
def TC.nh:TC→Nat
 | .sc _=>0
 | .arr _ _=>0
 | .unit=>0
 | .pair a b=>a.nh+b.nh
 | .slice _=>1
 | .st t=>t.nh
 | .ext _=>0
 | .node=>1
 | .mp _ _=>1
def cg:(t:TC)→t.ty.Refs→List Hd
 | .sc _,_=>[]
 | .arr _ _,_=>[]
 | .unit,_=>[]
 | .pair a b,y=>cg a y.1++cg b y.2
 | .slice _,h=>[h]
 | .st t,y=>cg t y
 | .ext _,_=>[]
 | .node,h=>[h]
 | .mp _ _,h=>[h]
def aI:(t:TC)→List Hd→t.ty.Refs
 | .sc _,_=>()
 | .arr _ _,_=>()
 | .unit,_=>()
 | .pair a b,l=>(aI a l,aI b (l.drop a.nh))
 | .slice _,l=>l.headD dU
 | .st t,l=>aI t l
 | .ext _,_=>()
 | .node,l=>l.headD dU
 | .mp _ _,l=>l.headD dU
theorem cE:(t:TC)→(y:t.ty.Refs)→(cg t y).length=t.nh
 | .sc _,_=>rfl
 | .arr _ _,_=>rfl
 | .unit,_=>rfl
 | .pair a b,y=>by simp [cg,TC.nh,cE a y.1,cE b y.2]
 | .slice _,_=>rfl
 | .st t,y=>cE t y
 | .ext _,_=>rfl
 | .node,_=>rfl
 | .mp _ _,_=>rfl
def Vn.set (η:Vn) (n:Nat) (l:List Hd):Vn:=⟨fun m=>bif Nat.ble n m&&Nat.blt m (n+l.length) then l.getD (m - n) dU else η.h m,η.b⟩
theorem Vn.set_at {η:Vn} {n:Nat} {l:List Hd} {j:Nat} {h:Hd} (hj:l[j]? = some h):(η.set n l).h (n+j)=h:=by
 have hlt:=(List.getElem?_eq_some_iff.1 hj).1
 have h1:(Nat.ble n (n+j)&&Nat.blt (n+j) (n+l.length))=true:=by
  rw [Bool.and_eq_true]; exact ⟨Nat.ble_eq_true_of_le (by omega),Nat.ble_eq_true_of_le (by omega)⟩
 simp only [Vn.set,h1,cond_true,show n+j - n=j by omega]
 rw [List.getD_eq_getElem?_getD,hj]; rfl
theorem Vn.set_agr {η:Vn} {n:Nat} {l:List Hd} (hl:l.length≤64):η.agr n (η.set n l):=by
 intro m hm
 refine ⟨?_,rfl⟩
 have:(Nat.ble n m&&Nat.blt m (n+l.length))=false:=by
  cases hb:(Nat.ble n m&&Nat.blt m (n+l.length))
  ·rfl
  ·simp only [Bool.and_eq_true] at hb
   have h1:=Nat.le_of_ble_eq_true hb.1
   have h2:m+1≤n+l.length:=Nat.le_of_ble_eq_true hb.2
   simp only [cq,Bool.or_eq_true] at hm
   rcases hm with hm | hm
   ·have:m+1≤n:=Nat.le_of_ble_eq_true hm; omega
   ·have:=Nat.le_of_ble_eq_true hm; omega
 simp only [Vn.set,this,cond_false]
def gS:(t:TC)→t.den→Nat→List Lf
 | .sc s,x,_=>[.c s x]
 | .arr n s,x,_=>[.ar n s x]
 | .unit,_,_=>[]
 | .pair a b,x,n=>gS a x.1 n++gS b x.2 (n+a.nh)
 | .slice _,_,n=>[.sl n]
 | .st t,x,n=>gS t x n
 | .ext k,x,_=>[.xt k x]
 | .node,x,n=>[.c (.int .i64) x.tup.1, .c .str x.tup.2.1, .c (.int .i64) x.tup.2.2.1, .sl n]
 | .mp _ _,_,n=>[.mp n]
def qu:(t:TC)→t.den→List Nat→Nat→List AF
 | .sc _,_,_,_=>[]
 | .arr _ _,_,_,_=>[]
 | .unit,_,_,_=>[]
 | .pair a b,x,K,n=>qu a x.1 K n++qu b x.2 K (n+a.nh)
 | .slice t,x,K,n=>[.rep t K x n]
 | .st t,x,K,n=>qu t x K n
 | .ext _,_,_,_=>[]
 | .node,x,K,n=>[.rep .node K x.tup.2.2.2 n]
 | .mp _ _,_,_,_=>[]
theorem aR (η:Vn):(a b:List Lf)→aq η (a++b)=aq η a++aq η b
 | [],_=>rfl
 | l::r,b=>by simp [aq,aR η r b]
def cT (η:Vn) (n:Nat) (l:List Hd):Prop:=∀ j h,l[j]? = some h→η.h (n+j)=h
theorem cT.left {η:Vn} {n:Nat} {a b:List Hd} (h:cT η n (a++b)):cT η n a:=fun j x hj=>h j x (by
 rw [List.getElem?_append_left (List.getElem?_eq_some_iff.1 hj).1]; exact hj)
theorem cT.right {η:Vn} {n k:Nat} {a b:List Hd} (h:cT η n (a++b)) (hk:a.length=k):cT η (n+k) b:=fun j x hj=>by
 have:=h (k+j) x (by rw [List.getElem?_append_right (by omega)]; rw [show k+j - a.length=j by omega]; exact hj)
 rw [show n+k+j=n+(k+j) by omega]; exact this
theorem lT {η:Vn}:(t:TC)→(x:t.den)→(y:t.ty.Refs)→(n:Nat)→cT η n (cg t y)→aq η (gS t x n)=t.ty.fill x y
 | .sc _,_,_,_,_=>rfl
 | .arr _ _,_,_,_,_=>by simp [gS,aq,Lf.cells,Ty.fill]
 | .unit,_,_,_,_=>rfl
 | .pair a b,x,y,n,h=>by
  simp only [gS,aR,Ty.fill]
  rw [lT a x.1 y.1 n h.left,lT b x.2 y.2 (n+a.nh) (h.right (cE a y.1))]
 | .slice _,x,y,n,h=>by
  have:=h 0 y rfl
  simp only [Nat.add_zero] at this
  simp [gS,aq,Lf.cells,Ty.fill,this]
 | .st t,x,y,n,h=>lT t x y n h
 | .ext _,_,_,_,_=>rfl
 | .node,x,y,n,h=>by
  have:=h 0 y rfl
  simp only [Nat.add_zero] at this
  simp [gS,aq,Lf.cells,Ty.fill,Nd.fill,this]
 | .mp _ _,x,y,n,h=>by
  have:=h 0 y rfl
  simp only [Nat.add_zero] at this
  simp [gS,aq,Lf.cells,Ty.fill,this]
theorem kg {η:Vn} {K:List Nat}:(t:TC)→(x:t.den)→(y:t.ty.Refs)→(n:Nat)→cT η n (cg t y)→(qu t x K n).map (AF.ha η)=facts t.ty K x y
 | .sc _,_,_,_,_=>rfl
 | .arr _ _,_,_,_,_=>rfl
 | .unit,_,_,_,_=>rfl
 | .pair a b,x,y,n,h=>by
  simp only [qu,List.map_append,facts]
  rw [kg a x.1 y.1 n h.left,kg b x.2 y.2 (n+a.nh) (h.right (cE a y.1))]
 | .slice _,x,y,n,h=>by
  have:=h 0 y rfl
  simp only [Nat.add_zero] at this
  simp [qu,AF.ha,facts,this]
 | .st t,x,y,n,h=>kg t x y n h
 | .ext _,_,_,_,_=>rfl
 | .mp _ _,_,_,_,_=>rfl
 | .node,x,y,n,h=>by
  have:=h 0 y rfl
  simp only [Nat.add_zero] at this
  simp [qu,AF.ha,facts,this]
structure SI (t:TC) where
 own:Option (TypeId×Nat)
 K:List Nat
 xs:List t.den
def SI.all {t:TC} (s:SI t):List Nat:=match s.own with
 | none=>s.K
 | some p=>p.2::s.K
def SI.nk {t:TC} (s:SI t):List Nat:=match s.own with
 | none=>s.K
 | some p=>match ep p.1 with
  | true=>p.2::s.K
  | false=>s.K
def zf {t t' : TC} (h:t' = t) (xs:List t'.den):List t.den:=h ▸ xs
def kq (t:TC) (h:Nat):List AF→Option (SI t)
 | []=>none
 | .own t' e i K xs h' :: r=>bif Nat.beq h h' then (if he:t' = t then some ⟨some (e,i),K,zf he xs⟩ else none) else kq t h r
 | .rep t' K xs h' :: r=>bif Nat.beq h h' then (if he:t' = t then some ⟨none,K,zf he xs⟩ else none) else kq t h r
 | .box _ _ _::r=>kq t h r
 | .isn _ _::r=>kq t h r
 | .prt _ _ _ _ _::r=>kq t h r
 | .hol _ _ _ _ _ _ _::r=>kq t h r
 | .mp _ _ _ _ _::r=>kq t h r
 | .pt _ _ _ _ _ _ _::r=>kq t h r
def SI.fact {t:TC} (s:SI t) (h:Nat):AF:=match s.own with
 | none=>.rep t s.K s.xs h
 | some p=>.own t p.1 p.2 s.K s.xs h
theorem fm {t:TC} {h:Nat} : ∀ {F:List AF} {s:SI t},kq t h F=some s→s.fact h∈F
 | [],s,hs=>by simp [kq] at hs
 | .own t' e i K xs h' :: r,s,hs=>by
  simp only [kq] at hs
  cases hb:Nat.beq h h'
  ·rw [hb] at hs; exact List.mem_cons_of_mem _ (fm hs)
  ·rw [hb] at hs
   simp only [cond_true] at hs
   split at hs
   ·rename_i he
    subst he
    simp only [Option.some.injEq] at hs
    subst hs
    rw [Nat.eq_of_beq_eq_true hb]
    exact List.mem_cons_self
   ·cases hs
 | .rep t' K xs h' :: r,s,hs=>by
  simp only [kq] at hs
  cases hb:Nat.beq h h'
  ·rw [hb] at hs; exact List.mem_cons_of_mem _ (fm hs)
  ·rw [hb] at hs
   simp only [cond_true] at hs
   split at hs
   ·rename_i he
    subst he
    simp only [Option.some.injEq] at hs
    subst hs
    rw [Nat.eq_of_beq_eq_true hb]
    exact List.mem_cons_self
   ·cases hs
 | .box _ _ _::r,s,hs=>List.mem_cons_of_mem _ (fm (F:=r) hs)
 | .isn _ _::r,s,hs=>List.mem_cons_of_mem _ (fm (F:=r) hs)
 | .prt _ _ _ _ _::r,s,hs=>List.mem_cons_of_mem _ (fm (F:=r) hs)
 | .hol _ _ _ _ _ _ _::r,s,hs=>List.mem_cons_of_mem _ (fm (F:=r) hs)
 | .mp _ _ _ _ _::r,s,hs=>List.mem_cons_of_mem _ (fm (F:=r) hs)
 | .pt _ _ _ _ _ _ _::r,s,hs=>List.mem_cons_of_mem _ (fm (F:=r) hs)
def lA (h:Nat):List AF→Option (Nat×Nat×Int×Int)
 | []=>none
 | .prt h' h0 sz lo hi::r=>bif Nat.beq h h' then some (h0,sz,lo,hi) else lA h r
 | .own _ _ _ _ _ _::r=>lA h r
 | .rep _ _ _ _::r=>lA h r
 | .box _ _ _::r=>lA h r
 | .isn _ _::r=>lA h r
 | .hol _ _ _ _ _ _ _::r=>lA h r
 | .mp _ _ _ _ _::r=>lA h r
 | .pt _ _ _ _ _ _ _::r=>lA h r
theorem gy {h:Nat} : ∀ {F:List AF} {h0 sz:Nat} {lo hi:Int},lA h F=some (h0,sz,lo,hi)→.prt h h0 sz lo hi∈F
 | [],_,_,_,_,hs=>by simp [lA] at hs
 | .prt h' h1 sz' lo' hi' :: r,h0,sz,lo,hi,hs=>by
  simp only [lA] at hs
  cases hb:Nat.beq h h'
  ·rw [hb] at hs; exact List.mem_cons_of_mem _ (gy hs)
  ·rw [hb] at hs
   simp only [cond_true,Option.some.injEq,Prod.mk.injEq] at hs
   obtain ⟨rfl,rfl,rfl,rfl⟩:=hs
   rw [Nat.eq_of_beq_eq_true hb]
   exact List.mem_cons_self
 | .own _ _ _ _ _ _::r,_,_,_,_,hs=>List.mem_cons_of_mem _ (gy (F:=r) hs)
 | .rep _ _ _ _::r,_,_,_,_,hs=>List.mem_cons_of_mem _ (gy (F:=r) hs)
 | .box _ _ _::r,_,_,_,_,hs=>List.mem_cons_of_mem _ (gy (F:=r) hs)
 | .isn _ _::r,_,_,_,_,hs=>List.mem_cons_of_mem _ (gy (F:=r) hs)
 | .hol _ _ _ _ _ _ _::r,_,_,_,_,hs=>List.mem_cons_of_mem _ (gy (F:=r) hs)
 | .mp _ _ _ _ _::r,_,_,_,_,hs=>List.mem_cons_of_mem _ (gy (F:=r) hs)
 | .pt _ _ _ _ _ _ _::r,_,_,_,_,hs=>List.mem_cons_of_mem _ (gy (F:=r) hs)
structure MI (k v:TC) where
 i:Nat
 xs:List (k.den×v.den)
def aee {k v k' v' : TC} (h:k' = k∧v' = v) (xs:List (k'.den×v'.den)):List (k.den×v.den):=by
 obtain ⟨h1,h2⟩:=h
 subst h1 h2
 exact xs
def rd (k v:TC) (h:Nat):List AF→Option (MI k v)
 | []=>none
 | .mp k' v' i xs h' :: r=>bif Nat.beq h h' then (if he:k' = k∧v' = v then some ⟨i,aee he xs⟩ else none) else rd k v h r
 | _::r=>rd k v h r
theorem gT {k v:TC} {h:Nat} : ∀ {F:List AF} {s:MI k v},rd k v h F=some s→.mp k v s.i s.xs h∈F
 | [],s,hs=>by simp [rd] at hs
 | .mp k' v' i xs h' :: r,s,hs=>by
  simp only [rd] at hs
  cases hb:Nat.beq h h'
  ·rw [hb] at hs; exact List.mem_cons_of_mem _ (gT hs)
  ·rw [hb] at hs
   simp only [cond_true] at hs
   split at hs
   ·rename_i he
    obtain ⟨rfl,rfl⟩:=he
    simp only [Option.some.injEq] at hs
    subst hs
    rw [Nat.eq_of_beq_eq_true hb]
    exact List.mem_cons_self
   ·cases hs
 | .own _ _ _ _ _ _::r,s,hs=>List.mem_cons_of_mem _ (gT (F:=r) hs)
 | .rep _ _ _ _::r,s,hs=>List.mem_cons_of_mem _ (gT (F:=r) hs)
 | .box _ _ _::r,s,hs=>List.mem_cons_of_mem _ (gT (F:=r) hs)
 | .isn _ _::r,s,hs=>List.mem_cons_of_mem _ (gT (F:=r) hs)
 | .prt _ _ _ _ _::r,s,hs=>List.mem_cons_of_mem _ (gT (F:=r) hs)
 | .hol _ _ _ _ _ _ _::r,s,hs=>List.mem_cons_of_mem _ (gT (F:=r) hs)
 | .pt _ _ _ _ _ _ _::r,s,hs=>List.mem_cons_of_mem _ (gT (F:=r) hs)
structure PI (t:TC) where
 e:TypeId
 i:Nat
 K:List Nat
 xs:List t.den
 m:Int
def vY (t:TC) (h:Nat):List AF→Option (PI t)
 | []=>none
 | .pt t' e i K xs h' m::r=>bif Nat.beq h h' then (if he:t' = t then some ⟨e,i,K,zf he xs,m⟩ else none) else vY t h r
 | _::r=>vY t h r
theorem lq {t:TC} {h:Nat} : ∀ {F:List AF} {s:PI t},vY t h F=some s→.pt t s.e s.i s.K s.xs h s.m∈F
 | [],s,hs=>by simp [vY] at hs
 | .pt t' e i K xs h' m::r,s,hs=>by
  simp only [vY] at hs
  cases hb:Nat.beq h h'
  ·rw [hb] at hs; exact List.mem_cons_of_mem _ (lq hs)
  ·rw [hb] at hs
   simp only [cond_true] at hs
   split at hs
   ·rename_i he
    subst he
    simp only [Option.some.injEq] at hs
    subst hs
    rw [Nat.eq_of_beq_eq_true hb]
    exact List.mem_cons_self
   ·cases hs
 | .own _ _ _ _ _ _::r,s,hs=>List.mem_cons_of_mem _ (lq (F:=r) hs)
 | .rep _ _ _ _::r,s,hs=>List.mem_cons_of_mem _ (lq (F:=r) hs)
 | .box _ _ _::r,s,hs=>List.mem_cons_of_mem _ (lq (F:=r) hs)
 | .isn _ _::r,s,hs=>List.mem_cons_of_mem _ (lq (F:=r) hs)
 | .prt _ _ _ _ _::r,s,hs=>List.mem_cons_of_mem _ (lq (F:=r) hs)
 | .hol _ _ _ _ _ _ _::r,s,hs=>List.mem_cons_of_mem _ (lq (F:=r) hs)
 | .mp _ _ _ _ _::r,s,hs=>List.mem_cons_of_mem _ (lq (F:=r) hs)
def gb (t:TC) (F:List AF):Lf→Option (SI t)
 | .sl h=>kq t h F
 | .nl=>some ⟨none,[],[]⟩
 | _=>none
def Lf.hd (η:Vn):Lf→Hd
 | .sl h=>η.h h
 | .bp b _=>⟨some ⟨η.b b,0,none⟩,0,0⟩
 | .clo _ b=>⟨some ⟨η.b b,0,none⟩,0,0⟩
 | .mp h=>η.h h
 | _=>dU
theorem ln {t:TC} {F:List AF} {l:Lf} {s:SI t} (h:gb t F l=some s) (η:Vn):l.val η=(l.hd η).val∧l.cells η=[(l.hd η).val]:=by
 cases l <;> simp [gb] at h <;> exact ⟨rfl,rfl⟩
theorem iN {t:TC} {F:List AF} {l:Lf} {s:SI t} (h:gb t F l=some s) {η:Vn} {w:World} {c:bd} (hF:ai w c (F.map (AF.ha η))):HA.holds w c (.rep t.ty s.all s.xs (l.hd η)):=by
 cases l with
 | sl n=>
  have hm:=hF _ (List.mem_map.2 ⟨_,fm h,rfl⟩)
  obtain ⟨own,K,xs⟩:=s
  cases own with
  | none=>exact hm
  | some p=>exact HC hm
 | nl=>
  simp only [gb,Option.some.injEq] at h
  subst h
  exact oW w c
 | _=>simp [gb] at h
def eN (t:TC) (e:TypeId) (N:Nat) (F:List AF):Lf→Option (Nat×List Nat×List t.den)
 | .sl h=>match kq t h F with
  | some ⟨some (e',i),K,xs⟩=>bif Nat.beq e e' then some (i,K,xs) else none
  | _=>none
 | .nl=>some (N,[],[])
 | _=>none
theorem eC {t:TC} {e:TypeId} {N:Nat} {F:List AF} {l:Lf} {i:Nat} {K:List Nat} {xs:List t.den} (h:eN t e N F l=some (i,K,xs)) {η:Vn} {w:World} {c:bd} (hF:ai w c (F.map (AF.ha η))) :
  HA.holds w c (dx t.ty e i K xs (l.hd η)):=by
 cases l with
 | sl n=>
  simp only [eN] at h
  split at h
  ·rename_i e' i' K' xs' hs
   cases hb:Nat.beq e e'
   ·rw [hb] at h; cases h
   ·rw [hb] at h
    simp only [cond_true,Option.some.injEq,Prod.mk.injEq] at h
    obtain ⟨rfl,rfl,rfl⟩:=h
    rw [Nat.eq_of_beq_eq_true hb]
    exact hF _ (List.mem_map.2 ⟨_,fm hs,rfl⟩)
  ·cases h
 | nl=>
  simp only [eN,Option.some.injEq,Prod.mk.injEq] at h
  obtain ⟨rfl,rfl,rfl⟩:=h
  exact pE w c
 | _=>simp [eN] at h
theorem lS {t:TC} {e:TypeId} {N:Nat} {F:List AF} {l:Lf} {r:Nat×List Nat×List t.den} (h:eN t e N F l=some r) (η:Vn):l.val η=(l.hd η).val:=by
 cases l <;> simp [eN] at h <;> rfl
def zE {t t' : SC} (h:t' = t) (x:t'.den):t.den:=h ▸ x
def wz {t t' : SC} (h:t' = t) (x:List t'.den):List t.den:=h ▸ x
def Yq {n m:Nat} (h:m=n) (x:X.den m):X.den n:=h ▸ x
def By (F:List AF):List Lf→Option (Nd×List Lf×List Nat×List Lf)
 | .c (.int .i64) k :: .c .str tx :: .c (.int .i64) m::l::r=>match gb .node F l with
  | some s=>some (Nd.of (k,tx,m,s.xs),[l],s.all,r)
  | none=>none
 | _=>none
theorem wb {F:List AF} {ls:List Lf} {x:Nd} {l:List Lf} {K:List Nat} {r:List Lf} (h:By F ls=some (x,l,K,r)) : ∃ k tx m a s,ls = .c (.int .i64) k :: .c .str tx :: .c (.int .i64) m::a::r∧gb .node F a=some s∧x=Nd.of (k,tx,m,s.xs)∧l=[a]∧K=s.all:=by
 unfold By at h
 split at h
 ·split at h
  ·rename_i s hs
   simp only [Option.some.injEq,Prod.mk.injEq] at h
   obtain ⟨rfl,rfl,rfl,rfl⟩:=h
   exact ⟨_,_,_,_,s,rfl,hs,rfl,rfl,rfl⟩
  ·cases h
 ·cases h
def bH (F:List AF):(t:TC)→List Lf→Option (t.den×List Lf×List Nat×List Lf)
 | .sc s, .c s' x::r=>if h:s' = s then some (zE h x,[],[],r) else none
 | .sc s, .fn f::r=>if h:SC.fnc=s then some (zE h f,[],[],r) else none
 | .arr n s, .ar n' s' x::r=>if h:s' = s∧n' = n then some (wz h.1 x,[],[],r) else none
 | .unit,r=>some ((),[],[],r)
 | .pair a b,r=>match bH F a r with
  | some (x,l1,K1,r1)=>match bH F b r1 with
   | some (y,l2,K2,r2)=>some ((x,y),l1++l2,K1++K2,r2)
   | none=>none
  | none=>none
 | .slice t,l::r=>match gb t F l with
  | some s=>some (s.xs,[l],s.all,r)
  | none=>none
 | .st t,r=>bH F t r
 | .ext n, .xt m x::r=>if h:m=n then some (Yq h x,[],[],r) else none
 | .node,r=>By F r
 | .mp k v, .mp h::r=>some ((match rd k v h F with | some s=>s.xs | none=>[]),[.mp h],[],r)
 | _,_=>none
def aL (η:Vn) (ls:List Lf):List Hd:=ls.map (Lf.hd η)
theorem dM {F:List AF} : ∀ (t:TC) {ls:List Lf} {x:t.den} {l:List Lf} {K:List Nat} {r:List Lf},bH F t ls=some (x,l,K,r)→l.length=t.nh
 | .sc s,ls,x,l,K,r,h=>by
  cases ls with
  | nil=>simp [bH] at h
  | cons a ls=>
   cases a <;> simp only [bH] at h <;> try cases h
   all_goals split at h
   all_goals first | (simp only [Option.some.injEq,Prod.mk.injEq] at h; obtain ⟨_,rfl,_,_⟩:=h; rfl) | cases h
 | .arr n s,ls,x,l,K,r,h=>by
  cases ls with
  | nil=>simp [bH] at h
  | cons a ls=>
   cases a <;> simp only [bH] at h <;> try cases h
   split at h
   ·simp only [Option.some.injEq,Prod.mk.injEq] at h
    obtain ⟨_,rfl,_,_⟩:=h
    rfl
   ·cases h
 | .unit,ls,x,l,K,r,h=>by simp [bH] at h; rw [h.1]; rfl
 | .pair a b,ls,x,l,K,r,h=>by
  simp only [bH] at h
  split at h
  ·rename_i x1 l1 K1 r1 h1
   split at h
   ·rename_i x2 l2 K2 r2 h2
    simp only [Option.some.injEq,Prod.mk.injEq] at h
    rw [← h.2.1,List.length_append,dM a h1,dM b h2]; rfl
   ·cases h
  ·cases h
 | .st t,ls,x,l,K,r,h=>dM t h
 | .slice t,ls,x,l,K,r,h=>by
  cases ls with
  | nil=>simp [bH] at h
  | cons a ls=>
   simp only [bH] at h
   split at h
   ·simp only [Option.some.injEq,Prod.mk.injEq] at h
    rw [← h.2.1]; rfl
   ·cases h
 | .ext n,ls,x,l,K,r,h=>by
  cases ls with
  | nil=>simp [bH] at h
  | cons a ls=>
   cases a <;> simp only [bH] at h <;> try cases h
   split at h
   ·simp only [Option.some.injEq,Prod.mk.injEq] at h
    obtain ⟨_,rfl,_,_⟩:=h
    rfl
   ·cases h
 | .node,ls,x,l,K,r,h=>by
  obtain ⟨k,tx,m,a,s,_,_,_,rfl,_⟩:=wb (show By F ls=_ from h)
  rfl
 | .mp k v,ls,x,l,K,r,h=>by
  cases ls with
  | nil=>simp [bH] at h
  | cons a ls=>
   cases a with
   | mp hh=>
    simp only [bH,Option.some.injEq,Prod.mk.injEq] at h
    rw [← h.2.1]; rfl
   | _=>simp [bH] at h
theorem dl:(t:TC)→(l1 l2:List Hd)→l1.length=t.nh→aI t (l1++l2)=aI t l1
 | .sc _,_,_,_=>rfl
 | .arr _ _,_,_,_=>rfl
 | .unit,_,_,_=>rfl
 | .pair a b,l1,l2,h=>by
  simp only [TC.nh] at h
  have e:l1=l1.take a.nh++l1.drop a.nh:=(List.take_append_drop _ _).symm
  have hl:(l1.take a.nh).length=a.nh:=by simp; omega
  simp only [aI]
  have e1:aI a (l1++l2)=aI a (l1.take a.nh):=by
   rw [e,List.append_assoc,dl a _ _ hl,← e]
  have e2:aI a l1=aI a (l1.take a.nh):=by
   have:=dl a (l1.take a.nh) (l1.drop a.nh) hl
   rwa [← e] at this
  rw [e1,e2,List.drop_append,show a.nh - l1.length=0 by omega,List.drop_zero,dl b _ _ (by simp; omega)]
 | .slice _,[],_,h=>by simp [TC.nh] at h
 | .slice _,_::_,_,_=>rfl
 | .st t,l1,l2,h=>dl t l1 l2 h
 | .ext _,_,_,_=>rfl
 | .node,[],_,h=>by simp [TC.nh] at h
 | .node,_::_,_,_=>rfl
 | .mp _ _,[],_,h=>by simp [TC.nh] at h
 | .mp _ _,_::_,_,_=>rfl
theorem cY {F:List AF} {η:Vn} : ∀ (t:TC) {ls:List Lf} {x:t.den} {l:List Lf} {K:List Nat} {r:List Lf},bH F t ls=some (x,l,K,r) →
  aq η ls=t.ty.fill x (aI t (aL η l))++aq η r ∧
  ∀ (w:World) (c:bd) (K' : List Nat),ai w c (F.map (AF.ha η))→(∀ k∈K,k∈K')→bA w (fun b=>c b∈K') t.ty x (aI t (aL η l))
 | .sc s,ls,x,l,K,r,h=>by
  cases ls with
  | nil=>simp [bH] at h
  | cons a ls=>
   cases a <;> simp only [bH] at h <;> try cases h
   all_goals split at h
   all_goals first | cases h; done | skip
   all_goals
    rename_i he
    subst he
    simp only [Option.some.injEq,Prod.mk.injEq] at h
    obtain ⟨rfl,rfl,rfl,rfl⟩:=h
    exact ⟨rfl,fun _ _ _ _ _=>trivial⟩
 | .arr n s,ls,x,l,K,r,h=>by
  cases ls with
  | nil=>simp [bH] at h
  | cons a ls=>
   cases a <;> simp only [bH] at h <;> try cases h
   split at h
   ·rename_i he
    obtain ⟨rfl,rfl⟩:=he
    simp only [Option.some.injEq,Prod.mk.injEq] at h
    obtain ⟨rfl,rfl,rfl,rfl⟩:=h
    exact ⟨rfl,fun _ _ _ _ _=>trivial⟩
   ·cases h
 | .unit,ls,x,l,K,r,h=>by
  simp only [bH,Option.some.injEq,Prod.mk.injEq] at h
  obtain ⟨_,rfl,rfl,rfl⟩:=h
  exact ⟨rfl,fun _ _ _ _ _=>trivial⟩
 | .pair a b,ls,x,l,K,r,h=>by
  simp only [bH] at h
  split at h
  ·rename_i x1 l1 K1 r1 h1
   split at h
   ·rename_i x2 l2 K2 r2 h2
    simp only [Option.some.injEq,Prod.mk.injEq] at h
    obtain ⟨rfl,rfl,rfl,rfl⟩:=h
    obtain ⟨c1,f1⟩:=cY (η:=η) a h1
    obtain ⟨c2,f2⟩:=cY (η:=η) b h2
    have hn:(aL η l1).length=a.nh:=by simp [aL,dM a h1]
    have e1:aI a (aL η (l1++l2))=aI a (aL η l1):=by
     rw [show aL η (l1++l2)=aL η l1++aL η l2 by simp [aL],dl a _ _ hn]
    have e2:aI b ((aL η (l1++l2)).drop a.nh)=aI b (aL η l2):=by
     rw [show aL η (l1++l2)=aL η l1++aL η l2 by simp [aL],List.drop_append,List.drop_eq_nil_of_le (by omega),show a.nh - (aL η l1).length=0 by omega]
     rfl
    refine ⟨?_,fun w c K' hF hK=>⟨?_,?_⟩⟩
    ·simp only [aI,Ty.fill]
     rw [e1,e2,c1,c2,List.append_assoc]
    ·show bA w _ a.ty x1 (aI a _)
     rw [e1]; exact f1 w c K' hF fun k hk=>hK k (List.mem_append_left _ hk)
    ·show bA w _ b.ty x2 (aI b _)
     rw [e2]; exact f2 w c K' hF fun k hk=>hK k (List.mem_append_right _ hk)
   ·cases h
  ·cases h
 | .slice t,ls,x,l,K,r,h=>by
  cases ls with
  | nil=>simp [bH] at h
  | cons a ls=>
   simp only [bH] at h
   split at h
   ·rename_i s hs
    simp only [Option.some.injEq,Prod.mk.injEq] at h
    obtain ⟨rfl,rfl,rfl,rfl⟩:=h
    refine ⟨?_,fun w c K' hF hK=>?_⟩
    ·simp only [aq,(ln hs η).2]; rfl
    ·exact bA.keep (S:=fun b=>c b∈s.all) (fun b _ hb=>⟨hK _ hb,rfl⟩) (.slice t.ty) s.xs (a.hd η) (iN hs hF)
   ·cases h
 | .st t,ls,x,l,K,r,h=>cY t h
 | .ext n,ls,x,l,K,r,h=>by
  cases ls with
  | nil=>simp [bH] at h
  | cons a ls=>
   cases a <;> simp only [bH] at h <;> try cases h
   split at h
   ·rename_i he
    subst he
    simp only [Option.some.injEq,Prod.mk.injEq] at h
    obtain ⟨rfl,rfl,rfl,rfl⟩:=h
    exact ⟨rfl,fun _ _ _ _ _=>trivial⟩
   ·cases h
 | .node,ls,x,l,K,r,h=>by
  obtain ⟨k,tx,m,a,s,rfl,hs,rfl,rfl,rfl⟩:=wb (show By F ls=_ from h)
  refine ⟨?_,fun w c K' hF hK=>?_⟩
  ·simp only [aq,(ln hs η).2]; rfl
  ·exact lQ.2 (bA.keep (S:=fun b=>c b∈s.all) (fun b _ hb=>⟨hK _ hb,rfl⟩) (.slice .node) s.xs (a.hd η) (iN hs hF))
 | .mp k v,ls,x,l,K,r,h=>by
  cases ls with
  | nil=>simp [bH] at h
  | cons a ls=>
   cases a with
   | mp hh=>
    simp only [bH,Option.some.injEq,Prod.mk.injEq] at h
    obtain ⟨rfl,rfl,rfl,rfl⟩:=h
    exact ⟨rfl,fun _ _ _ _ _=>trivial⟩
   | _=>simp [bH] at h
end
end Go.Sm
namespace Go.Sm
set_option linter.unusedSectionVars false
section
variable [X:XTab] [G:GTab]
theorem cz.map {P:Program} {ρ:cF} {o:Oper} {L:List HA} {κ:List Nat} {Y Y' : Type} {val:Y→Value} {Φ:Y→List HA} {val' : Y' → Value} {Φ' : Y' → List HA} (g:Y→Y')
  (h:cz P ρ o L κ val Φ) (hv : ∀ y,val y=val' (g y)) (hΦ : ∀ y,Φ y=Φ' (g y)):cz P ρ o L κ val' Φ' := by
 intro a ev w c next Q ha hL hk
 refine h a ev w c next Q ha hL fun y w' c' hs hF=>?_
 rw [hv y]
 exact hk (g y) w' c' hs (hΦ y ▸ hF)
theorem kz {F:List AF} {f:AF} (h:f∈F) (η:Vn) : ∃ k:Nat,(F.map (AF.ha η))[k]? = some (f.ha η):=by
 obtain ⟨k,hk⟩:=List.mem_iff_getElem?.1 h
 exact ⟨k,by simp [hk]⟩
def Vn.setB (η:Vn) (n b:Nat):Vn:=⟨η.h,fun m=>bif Nat.beq m n then b else η.b m⟩
theorem Vn.setB_agr (η:Vn) (n b:Nat):η.agr n (η.setB n b):=by
 intro m hm
 refine ⟨rfl,?_⟩
 have:Nat.beq m n=false:=by
  cases hb:Nat.beq m n
  ·rfl
  ·have:=Nat.eq_of_beq_eq_true hb
   subst this
   simp only [cq,Bool.or_eq_true] at hm
   rcases hm with hm | hm
   ·have:m+1≤m:=Nat.le_of_ble_eq_true hm; omega
   ·have:=Nat.le_of_ble_eq_true hm; omega
 simp only [Vn.setB,this,cond_false]
theorem Vn.setB_at (η:Vn) (n b:Nat):(η.setB n b).b n=b:=by simp [Vn.setB]
def Vn.setH (η:Vn) (n:Nat) (h:Hd):Vn:=⟨fun m=>bif Nat.beq m n then h else η.h m,η.b⟩
theorem Vn.setH_agr (η:Vn) (n:Nat) (h:Hd):η.agr n (η.setH n h):=by
 intro m hm
 refine ⟨?_,rfl⟩
 have:Nat.beq m n=false:=by
  cases hb:Nat.beq m n
  ·rfl
  ·have:=Nat.eq_of_beq_eq_true hb
   subst this
   simp only [cq,Bool.or_eq_true] at hm
   rcases hm with hm | hm
   ·have:m+1≤m:=Nat.le_of_ble_eq_true hm; omega
   ·have:=Nat.le_of_ble_eq_true hm; omega
 simp only [Vn.setH,this,cond_false]
theorem Vn.setH_at (η:Vn) (n:Nat) (h:Hd):(η.setH n h).h n=h:=by simp [Vn.setH]
def Lf.one1:Lf→Bool
 | .v x=>x.oneCell'
 | _=>true
def pe:List Lf→Bool
 | []=>true
 | l::r=>l.one1&&pe r
theorem LT {η:Vn} {l:Lf} (h:l.one1=true) : ∀ u∈l.cells η,u.oneCell' = true:=by
 cases l with
 | ar n s x=>exact sC (TC.arr n s).ty x ()
 | ars t xs=>exact gK t.ty
 | c s x=>intro u hu; simp [Lf.cells] at hu; subst hu; exact s.one x
 | xt n x=>intro u hu; simp [Lf.cells] at hu; subst hu; exact X.one n x
 | v x=>intro u hu; simp [Lf.cells] at hu; subst hu; exact h
 | _=>intro u hu; simp [Lf.cells] at hu; subst hu; rfl
theorem lr {η:Vn} : ∀ {ls:List Lf},pe ls=true→∀ u∈aq η ls,u.oneCell' = true
 | [],_,u,hu=>by simp [aq] at hu
 | l::r,h,u,hu=>by
  simp only [pe,Bool.and_eq_true] at h
  simp only [aq,List.mem_append] at hu
  rcases hu with hu | hu
  ·exact LT h.1 u hu
  ·exact lr h.2 u hu
def AV.lvs:AV→Option (List Lf)
 | .lf l=>bif l.one1 then some [l] else none
 | .ag ls=>bif pe ls then some ls else none
 | .tu _=>none
theorem AV.lvs_one {v:AV} {ls:List Lf} (h:v.lvs=some ls):pe ls=true:=by
 cases v with
 | lf l=>
  simp only [AV.lvs] at h
  cases hb:l.one1
  ·rw [hb] at h; cases h
  ·rw [hb] at h; simp at h; subst h; simp [pe,hb]
 | ag l=>
  simp only [AV.lvs] at h
  cases hb:pe l
  ·rw [hb] at h; cases h
  ·rw [hb] at h; simp at h; subst h; exact hb
 | tu _=>cases h
theorem qg {x:Value} (h:x.oneCell' = true):x.cells = #[x]:=by
 cases x <;> first | rfl | (simp [Value.oneCell'] at h)
theorem AV.lvs_cells {v:AV} {ls:List Lf} (h:v.lvs=some ls) (η:Vn):(v.val η).cells=(aq η ls).toArray:=by
 cases v with
 | lf l=>
  simp only [AV.lvs] at h
  cases hb:l.one1
  ·rw [hb] at h; cases h
  ·rw [hb] at h
   simp only [cond_true,Option.some.injEq] at h
   subst h
   cases l with
   | ar n s x=>simp [AV.val,Lf.val,aq,Lf.cells,Value.cells]
   | ars t xs=>simp [AV.val,Lf.val,aq,Lf.cells,Value.cells]
   | c s x=>exact qg (s.one x)
   | xt n x=>exact qg (X.one n x)
   | v x=>exact qg hb
   | _=>rfl
 | ag l=>
  simp only [AV.lvs] at h
  cases hb:pe l
  ·rw [hb] at h; cases h
  ·rw [hb] at h; simp at h; subst h; rfl
 | tu _=>cases h
def ja (b:Nat):List AF→Option (Nat×List Lf)
 | []=>none
 | .box i b' cs::r=>bif Nat.beq b b' then some (i,cs) else ja b r
 | _::r=>ja b r
theorem eP {b:Nat} : ∀ {F:List AF} {i:Nat} {cs:List Lf},ja b F=some (i,cs)→.box i b cs∈F
 | [],_,_,h=>by simp [ja] at h
 | .box i b' cs::r,i',cs',h=>by
  simp only [ja] at h
  cases hb:Nat.beq b b'
  ·rw [hb] at h; exact List.mem_cons_of_mem _ (eP h)
  ·rw [hb] at h
   simp only [cond_true,Option.some.injEq,Prod.mk.injEq] at h
   obtain ⟨rfl,rfl⟩:=h
   rw [Nat.eq_of_beq_eq_true hb]
   exact List.mem_cons_self
 | .own _ _ _ _ _ _::r,_,_,h=>List.mem_cons_of_mem _ (eP (F:=r) h)
 | .rep _ _ _ _::r,_,_,h=>List.mem_cons_of_mem _ (eP (F:=r) h)
 | .isn _ _::r,_,_,h=>List.mem_cons_of_mem _ (eP (F:=r) h)
 | .prt _ _ _ _ _::r,_,_,h=>List.mem_cons_of_mem _ (eP (F:=r) h)
 | .hol _ _ _ _ _ _ _::r,_,_,h=>List.mem_cons_of_mem _ (eP (F:=r) h)
 | .mp _ _ _ _ _::r,_,_,h=>List.mem_cons_of_mem _ (eP (F:=r) h)
 | .pt _ _ _ _ _ _ _::r,_,_,h=>List.mem_cons_of_mem _ (eP (F:=r) h)
def kU:List Lf→Nat→Option (List Lf×List Lf)
 | [],k=>bif Nat.beq k 0 then some ([],[]) else none
 | l::r,k=>bif Nat.beq k 0 then some ([],l::r) else bif Nat.ble 1 l.sz&&Nat.ble l.sz k then match kU r (k - l.sz) with | some (a,b)=>some (l::a,b) | none=>none else none
theorem il : ∀ {cs:List Lf} {k:Nat} {a b:List Lf},kU cs k=some (a,b)→cs=a++b∧∀ η,(aq η a).length=k
 | [],k,a,b,h=>by
  simp only [kU] at h
  cases hb:Nat.beq k 0
  ·rw [hb] at h; cases h
  ·rw [hb] at h
   simp only [cond_true,Option.some.injEq,Prod.mk.injEq] at h
   obtain ⟨rfl,rfl⟩:=h
   exact ⟨rfl,fun _=>(Nat.eq_of_beq_eq_true hb).symm⟩
 | l::r,k,a,b,h=>by
  simp only [kU] at h
  cases hk:Nat.beq k 0
  ·rw [hk] at h
   simp only [cond_false] at h
   cases hb:(Nat.ble 1 l.sz&&Nat.ble l.sz k)
   ·rw [hb] at h; cases h
   ·rw [hb] at h
    simp only [cond_true] at h
    simp only [Bool.and_eq_true] at hb
    have h2:=Nat.le_of_ble_eq_true hb.2
    split at h
    ·rename_i a' b' he
     simp only [Option.some.injEq,Prod.mk.injEq] at h
     obtain ⟨rfl,rfl⟩:=h
     obtain ⟨e,hl⟩:=il he
     refine ⟨by rw [e]; rfl,fun η=>?_⟩
     simp only [aq,List.length_append,l.cells_sz,hl η]
     omega
    ·cases h
  ·rw [hk] at h
   simp only [cond_true,Option.some.injEq,Prod.mk.injEq] at h
   obtain ⟨rfl,rfl⟩:=h
   exact ⟨rfl,fun _=>(Nat.eq_of_beq_eq_true hk).symm⟩
def cut (off sz:Nat) (cs:List Lf):Option (List Lf×List Lf×List Lf):=match kU cs off with
 | some (a,b)=>match kU b sz with
  | some (m,r)=>some (a,m,r)
  | none=>none
 | none=>none
theorem tY {off sz:Nat} {cs a m r:List Lf} (h:cut off sz cs=some (a,m,r)):cs=a++m++r∧∀ η,(aq η a).length=off∧(aq η m).length=sz:=by
 unfold cut at h
 split at h
 ·rename_i a' b' h1
  split at h
  ·rename_i m' r' h2
   simp only [Option.some.injEq,Prod.mk.injEq] at h
   obtain ⟨rfl,rfl,rfl⟩:=h
   obtain ⟨e1,l1⟩:=il h1
   obtain ⟨e2,l2⟩:=il h2
   exact ⟨by rw [e1,e2,List.append_assoc],fun η=>⟨l1 η,l2 η⟩⟩
  ·cases h
 ·cases h
def Ca (agg:Bool):List Lf→Option AV
 | [.ar n s x]=>bif agg then some (.lf (.ar n s x)) else none
 | [.ars t xs]=>bif agg then some (.lf (.ars t xs)) else none
 | [l]=>some (bif agg then .ag [l] else .lf l)
 | ls=>bif agg then some (.ag ls) else none
theorem w8 {ls:List Lf} {v:AV} (h:Ca true ls=some v) (η:Vn):v.val η = .agg (aq η ls).toArray:=by
 unfold Ca at h
 split at h
 ·simp at h; subst h; simp [AV.val,Lf.val,aq,Lf.cells]
 ·simp at h; subst h; simp [AV.val,Lf.val,aq,Lf.cells]
 ·simp at h; subst h; rfl
 ·simp at h; subst h; rfl
theorem wN {ls:List Lf} {v:AV} (h:Ca false ls=some v) (η:Vn) : ∃ l,ls=[l]∧v = .lf l∧l.cells η=[v.val η]:=by
 unfold Ca at h
 split at h
 ·simp at h
 ·simp at h
 ·rename_i l hne hne'
  simp at h; subst h
  refine ⟨l,rfl,rfl,?_⟩
  cases l <;> first | rfl | (exact absurd rfl (hne _ _ _)) | (exact absurd rfl (hne' _ _))
 ·simp at h
theorem kY {P:Program} {t:TypeId} {d:TD} (h:TInf.fits P t d) : ∃ td,P.underlying t=some td∧jx td=d.agg:=by
 cases d with
 | st fs=>obtain ⟨F,h1,_⟩:=h; exact ⟨_,h1,rfl⟩
 | other=>obtain ⟨d,h1,h2⟩:=h; exact ⟨d,h1,h2⟩
 | _=>exact ⟨_,h,rfl⟩
section
variable {R:Type} {P:Program} {o:Oper} {E:SE} {F:List AF} {n:Nat} {Θ:Tb} {ex:Option Bool}
def HM (Θ:Tb) (n N:Nat) (t:TypeId) (k:Out→Option R):Option R:=match Θ t with
 | some i=>bif Nat.ble 2 N then k ⟨.lf (.bp n 0),[.box N n i.zl],[]⟩ else none
 | none=>none
theorem Pg (hΘ:Θ.ok P) {N:Nat} {t:TypeId} (ho:o.op = .alloc t) (k:Out→Option R):aj ex P o E F n (HM Θ n N t k) k:=by
 unfold HM
 split
 ·rename_i i hi
  refine aj.bif fun hN=>aj.of fun _ η ρ hE=>?_
  obtain ⟨h1,_,h3,h4⟩:=hΘ t i hi
  refine (SO ho h1 h3 hN).map (fun b=>⟨η.setB n b,η.setB_agr n b⟩) (fun b=>?_) fun b=>?_
  ·simp [AV.val,Lf.val,Vn.setB_at]
  ·simp [AF.ha,Vn.setB_at,h4 (η.setB n b)]
 ·exact aj.none
def Ub (n N:Nat) (v:AV) (k:Out→Option R):Option R:=match v.lvs with
 | some ls=>bif Nat.ble 2 N&&qH n ls then k ⟨.lf (.bp n 0),[.box N n ls],[]⟩ else none
 | none=>none
theorem Zr {N:Nat} {t:TypeId} {x:Operand} {v:AV} (ho:o.op = .box t x) (hv:ev E x=some v) (k:Out→Option R):aj ex P o E F n (Ub n N v k) k:=by
 unfold Ub
 split
 ·rename_i ls hl
  refine aj.bif fun hN=>aj.of fun _ η ρ hE=>?_
  simp only [Bool.and_eq_true] at hN
  refine (adj ho (aF hE hv) (v.lvs_cells hl η) hN.1).map (fun b=>⟨η.setB n b,η.setB_agr n b⟩) (fun b=>?_) fun b=>?_
  ·simp [AV.val,Lf.val,Vn.setB_at]
  ·simp [AF.ha,Vn.setB_at,oi (η.setB_agr n b) ls hN.2]
 ·exact aj.none
def E7 (Θ:Tb) (t:TypeId) (b off:Nat) (F:List AF) (k:Out→Option R):Option R:=match Θ t,ja b F with
 | some i,some (_,cs)=>match cut off i.sz cs with
  | some (_,m,_)=>match Ca i.d.agg m with
   | some v=>k (bc v)
   | none=>none
  | none=>none
 | _,_=>none
theorem Qk (hΘ:Θ.ok P) {t:TypeId} {x:Operand} {b off:Nat} (ho:o.op = .load t x) (hx:ev E x=some (.lf (.bp b off))) (k:Out→Option R):aj ex P o E F n (E7 Θ t b off F k) k:=by
 unfold E7
 split
 ·rename_i i ci cs hi hb
  split
  ·rename_i a m r hc
   split
   ·rename_i v hv
    refine aj.of fun _=>(cS.pure fun η ρ hE=>?_)
    obtain ⟨h1,h2,_,_⟩:=hΘ t i hi
    obtain ⟨td,ht,hd⟩:=kY h2
    obtain ⟨j,hj⟩:=kz (eP hb) η
    obtain ⟨e,hl⟩:=tY hc
    obtain ⟨l1,l2⟩:=hl η
    have hcell:((aq η cs).drop off).take i.sz=aq η m:=by
     rw [e,aR,aR,List.append_assoc,List.drop_append,List.drop_eq_nil_of_le (by omega),show off - (aq η a).length=0 by omega,List.drop_zero,List.nil_append,List.take_append,List.take_of_length_le (by omega),
      show i.sz - (aq η m).length=0 by omega,List.take_zero,List.append_nil]
    cases hag:i.d.agg
    ·rw [hag] at hv hd
     obtain ⟨l,rfl,rfl,hl1⟩:=wN hv η
     refine yY j hj ho ht hd (aF hE hx) ?_
     have h5:aq η [l]=[(AV.lf l).val η]:=by simp [aq,hl1]
     rw [h5] at hcell l2
     have:=congrArg (·[0]?) hcell
     simp only [List.getElem?_take,List.getElem?_drop,Nat.add_zero,List.length_singleton] at this l2
     simpa [← l2] using this
    ·rw [hag] at hv hd
     rw [w8 hv η]
     exact ID j hj ho ht hd h1 (aF hE hx) hcell (by simp [l2])
   ·exact aj.none
  ·exact aj.none
 ·exact aj.none
def Bk (Θ:Tb) (t:TypeId) (b off:Nat) (v:AV) (F:List AF) (k:Out→Option R):Option R:=match Θ t,ja b F,v.lvs with
 | some i,some (ci,cs),some ls=>match cut off i.sz cs,kU ls i.sz with
  | some (a,_,r),some (_,[])=>k ⟨.lf (.v undef),[.box ci b (a++ls++r)],[ci]⟩
  | _,_=>none
 | _,_,_=>none
theorem Ow (hΘ:Θ.ok P) {t:TypeId} {x y:Operand} {b off:Nat} {v:AV} (ho:o.op = .store t x y) (hx:ev E x=some (.lf (.bp b off))) (hy:ev E y=some v) (k:Out→Option R):aj ex P o E F n (Bk Θ t b off v F k) k:=by
 unfold Bk
 split
 ·rename_i i ci cs ls hi hb hl
  split
  ·rename_i a m r q hc hs
   refine aj.of fun _ η ρ hE=>?_
   obtain ⟨h1,h2,_,_⟩:=hΘ t i hi
   obtain ⟨j,hj⟩:=kz (eP hb) η
   obtain ⟨e,hll⟩:=tY hc
   obtain ⟨l1,l2⟩:=hll η
   obtain ⟨e2,l3⟩:=il hs
   rw [List.append_nil] at e2
   subst e2
   have l3:=l3 η
   have hval : ∀ y : { η' : Vn // η.agr n η' },undef=(AV.lf (.v undef)).val y.1:=fun _=>rfl
   refine (wt (cs' := aq η (a++ls++r)) j hj ho h1 (aF hE hx) (aF hE hy) (v.lvs_cells hl η) (by simp [l3]) (List.all_eq_true.2 (lr (AV.lvs_one hl))) ?_ ?_).map (fun _=>⟨η,Vn.agr_refl n η⟩) (fun _=>rfl) (fun _=>rfl)
   ·rw [e,aR,aR]
    refine Nat.ble_eq_true_of_le ?_
    simp only [List.length_append]
    omega
   ·rw [e,aR,aR,aR,aR]
    congr 1
    ·congr 1
     rw [List.append_assoc,List.take_append,List.take_of_length_le (by omega),show off - (aq η a).length=0 by omega]
     simp
    ·rw [List.append_assoc,List.drop_append,List.drop_eq_nil_of_le (by omega),List.nil_append,List.drop_append,List.drop_eq_nil_of_le (by omega),List.nil_append,
      show off+(aq η ls).length - (aq η a).length - (aq η m).length=0 by omega,List.drop_zero]
  ·exact aj.none
 ·exact aj.none
end
end
end Go.Sm
