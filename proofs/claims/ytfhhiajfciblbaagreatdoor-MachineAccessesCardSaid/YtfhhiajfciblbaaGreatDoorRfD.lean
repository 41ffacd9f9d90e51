/- Laws for the row. No condition. -/
import Derived.Test.YtfhhiajfciblbaaGreatDoorSimR
namespace Go.Sm
variable {n N:Nat} {P:Program} {o:Oper} {t:TypeId} {x y:Operand} {R:Type} {ex:Option Bool} {b:Bool}
inductive SC
 | int (k:IntKind)
 | bool
 | str
 | fnc
 deriving DecidableEq
inductive TC
 | sc (s:SC)
 | arr (n:Nat) (s:SC)
 | unit
 | pair (a b:TC)
 | slice (t:TC)
 | st (t:TC)
 | ext (n:Nat)
 | node
 | mp (k v:TC)
 deriving DecidableEq
abbrev TC.nodeC:TC:=.pair (.sc (.int .i64)) (.pair (.sc .str) (.pair (.sc (.int .i64)) (.slice .node)))
class XTab where
 den:Nat→Type
 val:(n:Nat)→den n→Value
 one:(n:Nat)→(x:den n)→(val n x).oneCell' = true
 dft:(n:Nat)→den n
 tr:Nat→Nat
abbrev SC.den:SC→Type
 | .int _=>Int
 | .bool=>Bool
 | .str=>List UInt8
 | .fnc=>Nat
abbrev SC.val:(s:SC)→s.den→Value
 | .int k,n=>.int k n
 | .bool,x=>.bool x
 | .str,x=>.string ⟨x.toArray⟩
 | .fnc,f=>.func (.func f) #[] #[]
theorem SC.one:(s:SC)→(x:s.den)→(s.val x).oneCell' = true
 | .int _,_=>rfl
 | .bool,_=>rfl
 | .str,_=>rfl
 | .fnc,_=>rfl
abbrev SC.dft:(s:SC)→s.den
 | .int _=>(0:Int)
 | .bool=>false
 | .str=>([]:List UInt8)
 | .fnc=>(0:Nat)
section
variable [X:XTab]
abbrev TC.ty:TC→Ty
 | .sc s=>.one s.den s.val s.one
 | .arr n s=>.arr n s.den s.dft s.val s.one
 | .unit=>.unit
 | .pair a b=>.pair a.ty b.ty
 | .slice t=>.slice t.ty
 | .st t=>t.ty
 | .ext n=>.one (X.den n) (X.val n) (X.one n)
 | .node=>.node
 | .mp k v=>.mp k.ty v.ty
abbrev TC.den (t:TC):Type:=t.ty.den
abbrev TC.dft:(t:TC)→t.den
 | .sc s=>s.dft
 | .arr _ _=>[]
 | .unit=>()
 | .pair a b=>(a.dft,b.dft)
 | .slice _=>[]
 | .st t=>t.dft
 | .ext n=>X.dft n
 | .node=>Nd.of (0,[],0,[])
 | .mp _ _=>[]
def TC.ref0:(t:TC)→t.ty.Refs
 | .sc _=>()
 | .arr _ _=>()
 | .unit=>()
 | .pair a b=>(a.ref0,b.ref0)
 | .slice _=>(⟨none,0,0⟩:Hd)
 | .st t=>t.ref0
 | .ext _=>()
 | .node=>(⟨none,0,0⟩:Hd)
 | .mp _ _=>(⟨none,0,0⟩:Hd)
inductive Pa:TC→TC→Type
 | here {t:TC}:Pa t t
 | fst {a b u:TC} (p:Pa a u):Pa (.pair a b) u
 | snd {a b u:TC} (p:Pa b u):Pa (.pair a b) u
 | inn {a u:TC} (p:Pa a u):Pa (.st a) u
 | el {n:Nat} {s:SC} (j:Int):Pa (.arr n s) (.sc s)
 | nd {u:TC} (p:Pa TC.nodeC u):Pa .node u
inductive Lf:Type
 | c (s:SC) (x:s.den)
 | ar (n:Nat) (s:SC) (x:List s.den)
 | sl (h:Nat)
 | nl
 | bp (b off:Nat)
 | bq (b off n:Nat) (s:SC) (j:Int)
 | rp (h:Nat) (t:TC) (i:Int) (u:TC) (p:Pa t u)
 | xt (n:Nat) (x:X.den n)
 | fn (f:FuncId)
 | clo (f:FuncId) (b:Nat)
 | gp (g:Nat) (t:TC) (i:Int) (u:TC) (p:Pa t u)
 | ars (t:TC) (xs:List t.den)
 | mp (h:Nat)
 | v (x:Value)
def Lf.sz:Lf→Nat
 | .ar n _ _=>n
 | .ars t xs=>xs.length * t.ty.sz
 | _=>1
inductive AV:Type
 | lf (l:Lf)
 | ag (ls:List Lf)
 | tu (vs:List AV)
structure Vn where
 h:Nat→Hd
 b:Nat→Nat
def Pa.off : {t u:TC}→Pa t u→Nat
 | _,_, .here=>0
 | _,_, .fst p=>p.off
 | _,_,@Pa.snd a _ _ p=>a.ty.sz+p.off
 | _,_, .inn p=>p.off
 | _,_, .el j=>j.toNat
 | _,_, .nd p=>p.off
def eR:Hd:=⟨none,0,0⟩
def Lf.cells (η:Vn):Lf→List Value
 | .c s x=>[s.val x]
 | .ar n s x=>(TC.arr n s).ty.fill x ()
 | .sl h=>[(η.h h).val]
 | .nl=>[eR.val]
 | .bp b off=>[.pointer (some ⟨η.b b,off,none⟩)]
 | .bq b off _ _ j=>[.pointer (some ⟨η.b b,off+j.toNat,none⟩)]
 | .rp h t i _ p=>[.pointer (some (eQ (η.h h) (i.toNat * t.ty.sz+p.off)))]
 | .xt n x=>[X.val n x]
 | .fn f=>[.func (.func f) #[] #[]]
 | .clo f b=>[.func (.func f) #[] #[.pointer (some ⟨η.b b,0,none⟩)]]
 | .gp g t i _ p=>[.pointer (some ⟨g,i.toNat * t.ty.sz+p.off,none⟩)]
 | .ars t xs=>cellsOf t.ty xs (List.replicate xs.length t.ref0)
 | .mp h=>[.map (some (η.h h).blk)]
 | .v x=>[x]
def Lf.val (η:Vn) (l:Lf):Value:=match l with
 | .c s x=>s.val x
 | .ar n s x=>.agg ((TC.arr n s).ty.fill x ()).toArray
 | .sl h=>(η.h h).val
 | .nl=>eR.val
 | .bp b off=>.pointer (some ⟨η.b b,off,none⟩)
 | .bq b off _ _ j=>.pointer (some ⟨η.b b,off+j.toNat,none⟩)
 | .rp h t i _ p=>.pointer (some (eQ (η.h h) (i.toNat * t.ty.sz+p.off)))
 | .xt n x=>X.val n x
 | .fn f=>.func (.func f) #[] #[]
 | .clo f b=>.func (.func f) #[] #[.pointer (some ⟨η.b b,0,none⟩)]
 | .gp g t i _ p=>.pointer (some ⟨g,i.toNat * t.ty.sz+p.off,none⟩)
 | .ars t xs=>.agg (cellsOf t.ty xs (List.replicate xs.length t.ref0)).toArray
 | .mp h=>.map (some (η.h h).blk)
 | .v x=>x
def aw (η:Vn):List Lf→List Value
 | []=>[]
 | l::r=>l.cells η++aw η r
mutual
def AV.val (η:Vn):AV→Value
 | .lf l=>l.val η
 | .ag ls=>.agg (aw η ls).toArray
 | .tu vs=>.tuple (AV.vals η vs).toArray
def AV.vals (η:Vn):List AV→List Value
 | []=>[]
 | v::r=>v.val η::AV.vals η r
end
inductive AF:Type
 | rep (t:TC) (K:List Nat) (xs:List t.den) (h:Nat)
 | own (t:TC) (e:TypeId) (i:Nat) (K:List Nat) (xs:List t.den) (h:Nat)
 | box (i b:Nat) (cs:List Lf)
 | isn (h:Nat) (b:Bool)
 | prt (h' h sz:Nat) (lo hi:Int)
 | hol (t:TC) (e:TypeId) (i:Nat) (xs:List t.den) (h:Nat) (k:Int) (cs:List Lf)
 | mp (k v:TC) (i:Nat) (xs:List (k.den×v.den)) (h:Nat)
 | pt (t:TC) (e:TypeId) (i:Nat) (K:List Nat) (xs:List t.den) (h:Nat) (m:Int)
def om (t:TC) (x:t.den):Value:=match t,x with
 | .sc s,x=>s.val x
 | .arr n s,x=>.agg ((TC.arr n s).ty.fill x ()).toArray
 | .unit,_=>.agg #[]
 | .pair a b,x=>.agg ((TC.pair a b).ty.fill x (TC.pair a b).ref0).toArray
 | .st a,x=>.agg (a.ty.fill x a.ref0).toArray
 | .slice _,_=>eR.val
 | .ext k,x=>X.val k x
 | .node,x=>.agg (Ty.node.fill x eR).toArray
 | .mp _ _,_=>.map none
def yI (k v:TC) (xs:List (k.den×v.den)):List (Value×Value):=xs.map fun p=>(om k p.1,om v p.2)
def AF.ha (η:Vn):AF→HA
 | .rep t K xs h=>.rep t.ty K xs (η.h h)
 | .own t e i K xs h=>eh t.ty e i K xs (η.h h)
 | .box i b cs=>.box i (η.b b) (aw η cs)
 | .isn h b=>.pure ((η.h h).isNil=b)
 | .prt h' h sz lo hi=>.pure (pX (η.h h') (η.h h) sz lo hi)
 | .hol t e i xs h k cs=>.hol t.ty e i xs (η.h h) k.toNat (aw η cs)
 | .mp k v i xs h=>.mp i (η.h h).blk (yI k v xs)
 | .pt t e i K xs h m=>.pt t.ty e i K xs (η.h h) m
def AF.uses:AF→List Nat
 | .rep _ K _ _=>K
 | .own _ _ i K _ _=>i::K
 | .box i _ _=>[i]
 | .isn _ _=>[]
 | .prt _ _ _ _ _=>[]
 | .hol _ _ i _ _ _ _=>[i]
 | .mp _ _ i _ _=>[i]
 | .pt _ _ i K _ _ _=>i::K
def Lf.hs:Lf→List Nat
 | .sl h=>[h]
 | .rp h _ _ _ _=>[h]
 | .mp h=>[h]
 | _=>[]
def Lf.bs:Lf→List Nat
 | .bp b _=>[b]
 | .bq b _ _ _ _=>[b]
 | .clo _ b=>[b]
 | _=>[]
def bw (n m:Nat):Bool:=Nat.blt m n||Nat.ble (n+64) m
def Lf.free (n:Nat) (l:Lf):Bool:=match l with
 | .sl h=>bw n h
 | .rp h _ _ _ _=>bw n h
 | .bp b _=>bw n b
 | .bq b _ _ _ _=>bw n b
 | .clo _ b=>bw n b
 | .mp h=>bw n h
 | _=>true
def tK (n:Nat):List Lf→Bool
 | []=>true
 | l::r=>l.free n&&tK n r
mutual
def AV.free (n:Nat):AV→Bool
 | .lf l=>l.free n
 | .ag ls=>tK n ls
 | .tu vs=>AV.frees n vs
def AV.frees (n:Nat):List AV→Bool
 | []=>true
 | v::r=>v.free n&&AV.frees n r
end
def AF.free (n:Nat):AF→Bool
 | .rep _ _ _ h=>bw n h
 | .own _ _ _ _ _ h=>bw n h
 | .box _ b cs=>bw n b&&tK n cs
 | .isn h _=>bw n h
 | .prt h' h _ _ _=>bw n h' && bw n h
 | .hol _ _ _ _ h _ cs=>bw n h&&tK n cs
 | .mp _ _ _ _ h=>bw n h
 | .pt _ _ _ _ _ h _=>bw n h
def Vn.agr (n:Nat) (η η' : Vn):Prop:=∀ m,bw n m=true→η'.h m=η.h m∧η'.b m=η.b m
theorem Lf.cells_agr {η η' : Vn} (h:η.agr n η'):(l:Lf)→l.free n=true→l.cells η' = l.cells η
 | .sl m,hf=>by simp only [Lf.cells,(h m hf).1]
 | .rp m _ _ _ _,hf=>by simp only [Lf.cells,(h m hf).1]
 | .mp m,hf=>by simp only [Lf.cells,(h m hf).1]
 | .bp m _,hf=>by simp only [Lf.cells,(h m hf).2]
 | .bq m _ _ _ _,hf=>by simp only [Lf.cells,(h m hf).2]
 | .clo _ m,hf=>by simp only [Lf.cells,(h m hf).2]
 | .gp _ _ _ _ _,_=>rfl
 | .ars _ _,_=>rfl
 | .c _ _,_=>rfl
 | .ar _ _ _,_=>rfl
 | .nl,_=>rfl
 | .xt _ _,_=>rfl
 | .fn _,_=>rfl
 | .v _,_=>rfl
theorem Lf.val_agr {η η' : Vn} (h:η.agr n η'):(l:Lf)→l.free n=true→l.val η' = l.val η
 | .sl m,hf=>by simp only [Lf.val,(h m hf).1]
 | .rp m _ _ _ _,hf=>by simp only [Lf.val,(h m hf).1]
 | .mp m,hf=>by simp only [Lf.val,(h m hf).1]
 | .bp m _,hf=>by simp only [Lf.val,(h m hf).2]
 | .bq m _ _ _ _,hf=>by simp only [Lf.val,(h m hf).2]
 | .clo _ m,hf=>by simp only [Lf.val,(h m hf).2]
 | .gp _ _ _ _ _,_=>rfl
 | .ars _ _,_=>rfl
 | .c _ _,_=>rfl
 | .ar _ _ _,_=>rfl
 | .nl,_=>rfl
 | .xt _ _,_=>rfl
 | .fn _,_=>rfl
 | .v _,_=>rfl
theorem rf {n:Nat} {η η' : Vn} (h:η.agr n η'):(ls:List Lf)→tK n ls=true→aw η' ls=aw η ls
 | [],_=>rfl
 | l::r,hf=>by
  simp only [tK,Wp] at hf
  simp only [aw,l.cells_agr h hf.1,rf h r hf.2]
mutual
theorem AV.val_agr {n:Nat} {η η' : Vn} (h:η.agr n η'):(v:AV)→v.free n=true→v.val η' = v.val η
 | .lf l,hf=>by simp only [AV.val]; exact l.val_agr h hf
 | .ag ls,hf=>by simp only [AV.val]; rw [rf h ls hf]
 | .tu vs,hf=>by simp only [AV.val]; rw [AV.vals_agr h vs hf]
theorem AV.vals_agr {n:Nat} {η η' : Vn} (h:η.agr n η'):(vs:List AV)→AV.frees n vs=true→AV.vals η' vs=AV.vals η vs
 | [],_=>rfl
 | v::r,hf=>by
  simp only [AV.frees,Wp] at hf
  simp only [AV.vals,AV.val_agr h v hf.1,AV.vals_agr h r hf.2]
end
theorem AF.ha_agr {η η' : Vn} (h:η.agr n η'):(f:AF)→f.free n=true→f.ha η' = f.ha η
 | .rep _ _ _ m,hf=>by simp only [AF.ha,(h m hf).1]
 | .own _ _ _ _ _ m,hf=>by simp only [AF.ha,(h m hf).1]
 | .box _ m cs,hf=>by
  simp only [AF.free,Wp] at hf
  simp only [AF.ha,(h m hf.1).2,rf h cs hf.2]
 | .isn m _,hf=>by simp only [AF.ha,(h m hf).1]
 | .prt m m' _ _ _,hf=>by
  simp only [AF.free,Wp] at hf
  simp only [AF.ha,(h m hf.1).1,(h m' hf.2).1]
 | .mp _ _ _ _ m,hf=>by simp only [AF.ha,(h m hf).1]
 | .pt _ _ _ _ _ m _,hf=>by simp only [AF.ha,(h m hf).1]
 | .hol _ _ _ _ m _ cs,hf=>by
  simp only [AF.free,Wp] at hf
  simp only [AF.ha,(h m hf.1).1,rf h cs hf.2]
theorem AF.ha_uses (η:Vn):(f:AF)→(f.ha η).uses=f.uses
 | .rep _ _ _ _=>rfl
 | .own _ _ _ _ _ _=>UR
 | .box _ _ _=>rfl
 | .isn _ _=>rfl
 | .prt _ _ _ _ _=>rfl
 | .hol _ _ _ _ _ _ _=>rfl
 | .mp _ _ _ _ _=>rfl
 | .pt _ _ _ _ _ _ _=>rfl
theorem Lf.cells_sz (η:Vn):(l:Lf)→(l.cells η).length=l.sz
 | .ar n s x=>Ty.fill_length _ _ _
 | .sl _=>rfl
 | .rp _ _ _ _ _=>rfl
 | .bp _ _=>rfl
 | .bq _ _ _ _ _=>rfl
 | .c _ _=>rfl
 | .nl=>rfl
 | .xt _ _=>rfl
 | .fn _=>rfl
 | .clo _ _=>rfl
 | .gp _ _ _ _ _=>rfl
 | .mp _=>rfl
 | .ars t xs=>by simp only [Lf.cells,Lf.sz]; rw [cT]; simp
 | .v _=>rfl
end
inductive TD
  | int (k:IntKind)
  | bool
  | str
  | slice (e:TypeId)
  | arr (n:Nat) (e:TypeId)
  | st (fs:List (TypeId×Nat))
  | ptr (e:TypeId)
  | map (k e:TypeId)
  | other
set_option linter.unusedSectionVars false
section
variable [X:XTab]
structure GEnt where
  g:Nat
  t:TC
  xs:List t.den
class GTab where
  gl:List GEnt
def GEnt.ha (e:GEnt):HA:=.gl e.g e.xs.length (cellsOf e.t.ty e.xs (List.replicate e.xs.length e.t.ref0))
variable [G:GTab]
def ov:List HA:=G.gl.map GEnt.ha
structure TInf where
  d:TD
  sz:Nat
  by_:Nat
  zl:List Lf
  tc:TC
def TD.agg:TD→Bool
  | .arr _ _=>true
  | .st _=>true
  | _=>false
def Fs:Vn:=⟨fun _=>eR,fun _=>0⟩
def TInf.zv (i:TInf):Value:=bif i.d.agg then .agg (aw Fs i.zl).toArray else (aw Fs i.zl).headD undef
def TInf.fits (P:Program) (t:TypeId):TD→Prop
  | .int k=>P.underlying t=some (.int k)
  | .bool=>P.underlying t=some .bool
  | .str=>P.underlying t=some .string
  | .slice e=>P.underlying t=some (.slice e)
  | .arr n e=>P.underlying t=some (.array n e)
  | .st fs=>∃ F,P.underlying t=some (.struct F)∧F.toList.map (fun f=>(f.type,f.offset))=fs
  | .ptr e=>P.underlying t=some (.pointer e)
  | .map k e=>P.underlying t=some (.map k e)
  | .other=>∃ d,P.underlying t=some d∧lP d=false
def TInf.ok (P:Program) (t:TypeId) (i:TInf):Prop:=TI P t i.sz i.by_ i.zv∧TInf.fits P t i.d∧i.zv.cells=(aw Fs i.zl).toArray∧∀ η,aw η i.zl=aw Fs i.zl
abbrev Tb:=TypeId→Option TInf
def Tb.ok (Θ:Tb) (P:Program):Prop:=∀ t i,Θ t=some i→i.ok P t
def FN:List (TypeId×TInf)→Tb
  | [],_=>none
  | (a,i)::r,t=>bif Nat.beq t a then some i else FN r t
def acB (P:Program):List (TypeId×TInf)→Prop
  | []=>True
  | (a,i)::r=>i.ok P a∧acB P r
theorem Kj {P:Program} : ∀ {l:List (TypeId×TInf)},acB P l→Tb.ok (FN l) P
  | [],_,t,i,h=>by simp [FN] at h
  | (a,j)::r,hl,t,i,h=>by
    simp only [FN] at h
    cases hb:Nat.beq t a
    · rw [hb] at h; exact Kj hl.2 t i h
    · rw [hb] at h
      simp only [f9,Wn] at h
      subst h
      rw [Wo hb]
      exact hl.1
structure Out where
  av:AV
  fs:List AF
  κ:List Nat
abbrev SE:=List (Nat×AV)
def bg (E:SE) (t:Nat):Option AV:=match E with
  | []=>none
  | (d,v)::r=>bif Nat.beq t d then some v else bg r t
def nA (η:Vn) (ρ:dm) (E:SE):Prop:=∀ t v,bg E t=some v→ρ t=v.val η
def Dz:Value→AV
  | .int k n=>.lf (.c (.int k) n)
  | .bool b=>.lf (.c .bool b)
  | .string s=>.lf (.c .str s.data.toList)
  | .slice none 0 0=>.lf .nl
  | v=>.lf (.v v)
theorem MZ (η:Vn) (v:Value):(Dz v).val η=v:=by
  unfold Dz
  split <;> simp [AV.val,Lf.val,eR,Hd.val]
def ev (E:SE):Operand→Option AV
  | .tmp t=>bg E t
  | .const v=>some (Dz v)
  | .func f=>some (.lf (.fn f))
  | .global _=>none
theorem aN {η:Vn} {ρ:dm} {E:SE} (h:nA η ρ E) {v:AV} (hx:ev E x=some v):aR ρ x=v.val η:=by
  cases x with
  | tmp t=>exact h t v hx
  | const c=>simp only [ev,Wn] at hx; subst hx; exact (MZ η c).symm
  | func f=>simp only [ev,Wn] at hx; subst hx; rfl
  | global g=>simp [ev] at hx
def Mz (P:Program) (o:Oper) (E:SE) (F:List AF) (n:Nat) (u:Out):Prop:=∀ (η:Vn) (ρ:dm),nA η ρ E →
  c9 P ρ o (F.map (AF.ha η)) u.κ (fun y : { η' : Vn // η.agr n η' }=>u.av.val y.1) (fun y=>u.fs.map (AF.ha y.1))
def dJ (P:Program) (o:Oper) (E:SE) (F:List AF) (n:Nat) (u:Out):Prop:=∀ (η:Vn) (ρ:dm),nA η ρ E →
  c9 P ρ o (F.map (AF.ha η)++ov) u.κ (fun y : { η' : Vn // η.agr n η' }=>u.av.val y.1) (fun y=>u.fs.map (AF.ha y.1))
theorem Vn.agr_refl (n:Nat) (η:Vn):η.agr n η:=fun _ _=>⟨rfl,rfl⟩
theorem Mz.up {E:SE} {F:List AF}  {u:Out} (h:Mz P o E F n u):dJ P o E F n u:=
  fun η ρ hE a ev w c next Q ha hL hk=>h η ρ hE a ev w c next Q ha (fun A hA=>hL A (XP _ hA)) hk
theorem dJ.pure {E:SE} {F:List AF}  {av:AV} (h : ∀ η ρ,nA η ρ E→br P ρ o (F.map (AF.ha η)) (av.val η)):Mz P o E F n ⟨av,[],[]⟩:=by
  intro η ρ hE a ev w c next Q ha hL hk
  rw [h η ρ hE ev w c ha hL]
  exact hk ⟨η,Vn.agr_refl n η⟩ w c (Stp.refl w c) (am.nil _ _)
def gi:Option Bool→Prop
  | none=>True
  | some b=>b=true
def ao {R:Type} (ex:Option Bool) (P:Program) (o:Oper) (E:SE) (F:List AF) (n:Nat) (m:Option R) (k:Out→Option R):Prop:=∀ r,m=some r→∃ u,k u=some r∧(gi ex→dJ P o E F n u)
section
variable {R:Type} {P:Program} {o:Oper} {E:SE} {F:List AF} {n:Nat} {k:Out→Option R} {ex:Option Bool}
theorem ao.none:ao ex P o E F n none k:=fun _ h=>by cases h
theorem ao.of {u:Out} (h:gi ex→Mz P o E F n u):ao ex P o E F n (k u) k:=fun _ h' => ⟨u,h',fun hx=>(h hx).up⟩
theorem ao.ofG {u:Out} (h:gi ex→dJ P o E F n u):ao ex P o E F n (k u) k:=fun _ h' => ⟨u,h',h⟩
theorem ao.bif {m:Option R} (h:b=true→ao ex P o E F n m k):ao ex P o E F n (bif b then m else .none) k:=fun r hr=>by
  cases b
  · cases hr
  · exact h rfl r hr
end
def gbind {α R:Type} (ex:Option Bool) (d:α) (m:Option α) (f:α→Option R):Option R:=match ex with
  | none=>m.bind f
  | some b=>(bif b then m else some d).bind f
def gchk {R:Type} (ex:Option Bool) (b:Bool) (m:Option R):Option R:=match ex with
  | none=>af b m
  | some e=>af (!e||b) m
theorem ao.gbind {α:Type} {E:SE} {F:List AF}  {k:Out→Option R}  {d:α} {m:Option α} {f:α→Option R} (h : ∀ x,(gi ex→m=some x)→ao ex P o E F n (f x) k):ao ex P o E F n (gbind ex d m f) k:=by
  intro r hr
  cases ex with
  | none=>
    obtain ⟨x,hx,hf⟩:=bind_some hr
    exact h x (fun _=>hx) r hf
  | some b=>
    obtain ⟨x,hx,hf⟩:=bind_some hr
    refine h x (fun hb=>?_) r hf
    cases hb
    exact hx
theorem ao.gchk {E:SE} {F:List AF}  {k:Out→Option R}   {m:Option R} (h:(gi ex→b=true)→ao ex P o E F n m k):ao ex P o E F n (gchk ex b m) k:=by
  intro r hr
  cases ex with
  | none=>
    obtain ⟨hb,hm⟩:=JG hr
    exact h (fun _=>hb) r hm
  | some e=>
    obtain ⟨hb,hm⟩:=JG hr
    refine h (fun he=>?_) r hm
    cases he
    simpa using hb
abbrev bC (v:AV):Out:=⟨v,[],[]⟩
abbrev gt (k:IntKind) (x:Int):AV:=.lf (.c (.int k) x)
abbrev eI (x:Bool):AV:=.lf (.c .bool x)
abbrev xY (x:List UInt8):AV:=.lf (.c .str x)
def w_ (k:IntKind) (x:Int):Int:=match k with
  | .i64=>ad x
  | k=>k.wrap x
theorem Rh (k:IntKind) (x:Int):w_ k x=k.wrap x:=by cases k <;> rfl
def Ya {R:Type} (ex:Option Bool) (op:BinOp) (k:IntKind) (a b:Int) (kk:Out→Option R):Option R:=match op with
  | .add=>kk (bC (gt k (w_ k (a+b))))
  | .sub=>kk (bC (gt k (w_ k (a - b))))
  | .mul=>kk (bC (gt k (w_ k (a * b))))
  | .quo=>gchk ex (!(b==0)) (kk (bC (gt k (w_ k (Int.tdiv a b)))))
  | .rem=>gchk ex (!(b==0)) (kk (bC (gt k (Int.tmod a b))))
  | .lss=>kk (bC (eI (decide (a<b))))
  | .leq=>kk (bC (eI (decide (a≤b))))
  | .gtr=>kk (bC (eI (decide (b<a))))
  | .geq=>kk (bC (eI (decide (b≤a))))
  | .eql=>kk (bC (eI (a==b)))
  | .neq=>kk (bC (eI (a != b)))
  | .and=>kk (bC (gt k (pH .and k a b)))
  | .or=>kk (bC (gt k (pH .or k a b)))
  | .xor=>kk (bC (gt k (pH .xor k a b)))
  | .andNot=>kk (bC (gt k (pH .andNot k a b)))
  | _=>none
theorem sN (h:(!b)=true):b=false:=by grind
theorem aex {E:SE} {F:List AF}   {op:BinOp} {t':TypeId}  {k:IntKind} {a b:Int} (ho:o.op = .binOp op t x y t')
    (h1:ev E x=some (gt k a)) (h2:ev E y=some (gt k b)) (kk:Out→Option R):ao ex P o E F n (Ya ex op k a b kk) kk:=by
  have hev : ∀ η ρ,nA η ρ E→aR ρ x = .int k a∧aR ρ y = .int k b:=fun η ρ hE=>⟨aN hE h1,aN hE h2⟩
  cases op <;> simp only [Ya] <;> first
    | exact ao.none
    | (refine ao.of fun hx=>(dJ.pure fun η ρ hE=>?_); obtain ⟨e1,e2⟩:=hev η ρ hE; simp only [AV.val,Lf.val,Rh]
       first | exact ako ho e1 e2 | exact akn ho e1 e2 | exact akF ho e1 e2 | exact akD ho e1 e2 | exact akE ho e1 e2 | exact akv ho e1 e2 | exact akg ho e1 e2 | exact akK ho e1 e2 | exact aj5 ho e1 e2 | exact akQ ho (by simp) e1 e2)
    | (refine ao.gchk fun hb=>ao.of fun hx=>(dJ.pure fun η ρ hE=>?_); obtain ⟨e1,e2⟩:=hev η ρ hE; simp only [AV.val,Lf.val,Rh]
       first | exact akW ho e1 e2 (sN (hb hx)) | exact akf ho e1 e2 (sN (hb hx)))
def TX {R:Type} (ex:Option Bool) (op:BinOp) (k:IntKind) (a b:Int) (kk:Out→Option R):Option R:=match op with
  | .shl=>gchk ex (decide (0≤b)) (kk (bC (gt k (aiT k a b))))
  | .shr=>gchk ex (decide (0≤b)) (kk (bC (gt k (nF k a b))))
  | _=>none
theorem Ou {E:SE} {F:List AF}   {op:BinOp} {t':TypeId}  {k k' : IntKind} {a b:Int} (ho:o.op = .binOp op t x y t')
    (h1:ev E x=some (gt k a)) (h2:ev E y=some (gt k' b)) (kk:Out→Option R):ao ex P o E F n (TX ex op k a b kk) kk:=by
  have hev : ∀ η ρ,nA η ρ E→aR ρ x = .int k a∧aR ρ y = .int k' b:=fun η ρ hE=>⟨aN hE h1,aN hE h2⟩
  cases op <;> simp only [TX] <;> first
    | exact ao.none
    | (refine ao.gchk fun hb=>ao.of fun hx=>(dJ.pure fun η ρ hE=>?_); obtain ⟨e1,e2⟩:=hev η ρ hE; simp only [AV.val,Lf.val]
       first | exact akw ho e1 e2 (hb hx) | exact akd ho e1 e2 (hb hx))
end
section
variable [X:XTab] [G:GTab]
def TC.nh:TC→Nat
 | .sc _=>0
 | .arr _ _=>0
 | .unit=>0
 | .pair a b=>a.nh+b.nh
 | .slice _=>1
 | .st t=>t.nh
 | .ext _=>0
 | .node=>1
 | .mp _ _=>1
def cI:(t:TC)→t.ty.Refs→List Hd
 | .sc _,_=>[]
 | .arr _ _,_=>[]
 | .unit,_=>[]
 | .pair a b,y=>cI a y.1++cI b y.2
 | .slice _,h=>[h]
 | .st t,y=>cI t y
 | .ext _,_=>[]
 | .node,h=>[h]
 | .mp _ _,h=>[h]
def aO:(t:TC)→List Hd→t.ty.Refs
 | .sc _,_=>()
 | .arr _ _,_=>()
 | .unit,_=>()
 | .pair a b,l=>(aO a l,aO b (l.drop a.nh))
 | .slice _,l=>l.headD eR
 | .st t,l=>aO t l
 | .ext _,_=>()
 | .node,l=>l.headD eR
 | .mp _ _,l=>l.headD eR
theorem dg:(t:TC)→(y:t.ty.Refs)→(cI t y).length=t.nh
 | .sc _,_=>rfl
 | .arr _ _,_=>rfl
 | .unit,_=>rfl
 | .pair a b,y=>by simp [cI,TC.nh,dg a y.1,dg b y.2]
 | .slice _,_=>rfl
 | .st t,y=>dg t y
 | .ext _,_=>rfl
 | .node,_=>rfl
 | .mp _ _,_=>rfl
def Vn.set (η:Vn) (n:Nat) (l:List Hd):Vn:=⟨fun m=>bif Nat.ble n m&&Nat.blt m (n+l.length) then l.getD (m - n) eR else η.h m,η.b⟩
theorem Vn.set_at {η:Vn} {l:List Hd} {j:Nat} {h:Hd} (hj:l[j]? = some h):(η.set n l).h (n+j)=h:=by
 have hlt:=(XW.1 hj).1
 have h1:(Nat.ble n (n+j)&&Nat.blt (n+j) (n+l.length))=true:=by
  simp_all
 simp only [Vn.set,h1,f9,show n+j - n=j by omega]
 grind
theorem Vn.set_agr {η:Vn} {l:List Hd} (hl:l.length≤64):η.agr n (η.set n l):=by
 intro m hm
 refine ⟨?_,rfl⟩
 have:(Nat.ble n m&&Nat.blt m (n+l.length))=false:=by
  cases hb:(Nat.ble n m&&Nat.blt m (n+l.length))
  ·rfl
  ·simp only [Wp] at hb
   have h1:=Wt hb.1
   have h2:m+1≤n+l.length:=Wt hb.2
   simp only [bw,Ze] at hm
   rcases hm with hm | hm
   ·have:m+1≤n:=Wt hm; omega
   ·have:=Wt hm; omega
 simp only [Vn.set,this,no]
def jL:(t:TC)→t.den→Nat→List Lf
 | .sc s,x,_=>[.c s x]
 | .arr n s,x,_=>[.ar n s x]
 | .unit,_,_=>[]
 | .pair a b,x,n=>jL a x.1 n++jL b x.2 (n+a.nh)
 | .slice _,_,n=>[.sl n]
 | .st t,x,n=>jL t x n
 | .ext k,x,_=>[.xt k x]
 | .node,x,n=>[.c (.int .i64) x.tup.1, .c .str x.tup.2.1, .c (.int .i64) x.tup.2.2.1, .sl n]
 | .mp _ _,_,n=>[.mp n]
def tD:(t:TC)→t.den→List Nat→Nat→List AF
 | .sc _,_,_,_=>[]
 | .arr _ _,_,_,_=>[]
 | .unit,_,_,_=>[]
 | .pair a b,x,K,n=>tD a x.1 K n++tD b x.2 K (n+a.nh)
 | .slice t,x,K,n=>[.rep t K x n]
 | .st t,x,K,n=>tD t x K n
 | .ext _,_,_,_=>[]
 | .node,x,K,n=>[.rep .node K x.tup.2.2.2 n]
 | .mp _ _,_,_,_=>[]
theorem bd (η:Vn):(a b:List Lf)→aw η (a++b)=aw η a++aw η b
 | [],_=>rfl
 | l::r,b=>by simp [aw,bd η r b]
def fF (η:Vn) (n:Nat) (l:List Hd):Prop:=∀ j h,l[j]? = some h→η.h (n+j)=h
theorem fF.left {η:Vn} {a b:List Hd} (h:fF η n (a++b)):fF η n a:=fun j x hj=>h j x (by
 grind)
theorem fF.right {η:Vn} {k:Nat} {a b:List Hd} (h:fF η n (a++b)) (hk:a.length=k):fF η (n+k) b:=fun j x hj=>by
 have:=h (k+j) x (by grind)
 grind
theorem oE {η:Vn}:(t:TC)→(x:t.den)→(y:t.ty.Refs)→(n:Nat)→fF η n (cI t y)→aw η (jL t x n)=t.ty.fill x y
 | .sc _,_,_,_,_=>rfl
 | .arr _ _,_,_,_,_=>by simp [jL,aw,Lf.cells,Ty.fill]
 | .unit,_,_,_,_=>rfl
 | .pair a b,x,y,n,h=>by
  simp only [jL,bd,Ty.fill]
  rw [oE a x.1 y.1 n h.left,oE b x.2 y.2 (n+a.nh) (h.right (dg a y.1))]
 | .slice _,x,y,n,h=>by
  have:=h 0 y rfl
  simp only [Yk] at this
  simp [jL,aw,Lf.cells,Ty.fill,this]
 | .st t,x,y,n,h=>oE t x y n h
 | .ext _,_,_,_,_=>rfl
 | .node,x,y,n,h=>by
  have:=h 0 y rfl
  simp only [Yk] at this
  simp [jL,aw,Lf.cells,Ty.fill,Nd.fill,this]
 | .mp _ _,x,y,n,h=>by
  have:=h 0 y rfl
  simp only [Yk] at this
  simp [jL,aw,Lf.cells,Ty.fill,this]
theorem rm {η:Vn} {K:List Nat}:(t:TC)→(x:t.den)→(y:t.ty.Refs)→(n:Nat)→fF η n (cI t y)→(tD t x K n).map (AF.ha η)=facts t.ty K x y
 | .sc _,_,_,_,_=>rfl
 | .arr _ _,_,_,_,_=>rfl
 | .unit,_,_,_,_=>rfl
 | .pair a b,x,y,n,h=>by
  simp only [tD,Zy,facts]
  rw [rm a x.1 y.1 n h.left,rm b x.2 y.2 (n+a.nh) (h.right (dg a y.1))]
 | .slice _,x,y,n,h=>by
  have:=h 0 y rfl
  simp only [Yk] at this
  simp [tD,AF.ha,facts,this]
 | .st t,x,y,n,h=>rm t x y n h
 | .ext _,_,_,_,_=>rfl
 | .mp _ _,_,_,_,_=>rfl
 | .node,x,y,n,h=>by
  have:=h 0 y rfl
  simp only [Yk] at this
  simp [tD,AF.ha,facts,this]
structure SI (t:TC) where
 own:Option (TypeId×Nat)
 K:List Nat
 xs:List t.den
def SI.all {t:TC} (s:SI t):List Nat:=match s.own with
 | none=>s.K
 | some p=>p.2::s.K
def SI.nk {t:TC} (s:SI t):List Nat:=match s.own with
 | none=>s.K
 | some p=>match fG p.1 with
  | true=>p.2::s.K
  | false=>s.K
def Dk {t t' : TC} (h:t' = t) (xs:List t'.den):List t.den:=h ▸ xs
def mY (t:TC) (h:Nat):List AF→Option (SI t)
 | []=>none
 | .own t' e i K xs h' :: r=>bif Nat.beq h h' then (if he:t' = t then some ⟨some (e,i),K,Dk he xs⟩ else none) else mY t h r
 | .rep t' K xs h' :: r=>bif Nat.beq h h' then (if he:t' = t then some ⟨none,K,Dk he xs⟩ else none) else mY t h r
 | .box _ _ _::r=>mY t h r
 | .isn _ _::r=>mY t h r
 | .prt _ _ _ _ _::r=>mY t h r
 | .hol _ _ _ _ _ _ _::r=>mY t h r
 | .mp _ _ _ _ _::r=>mY t h r
 | .pt _ _ _ _ _ _ _::r=>mY t h r
def SI.fact {t:TC} (s:SI t) (h:Nat):AF:=match s.own with
 | none=>.rep t s.K s.xs h
 | some p=>.own t p.1 p.2 s.K s.xs h
theorem gK {t:TC} {h:Nat} : ∀ {F:List AF} {s:SI t},mY t h F=some s→s.fact h∈F
 | [],s,hs=>by simp [mY] at hs
 | .own t' e i K xs h' :: r,s,hs=>by
  simp only [mY] at hs
  cases hb:Nat.beq h h'
  ·rw [hb] at hs; exact Wq _ (gK hs)
  ·rw [hb] at hs
   simp only [f9] at hs
   split at hs
   ·rename_i he
    subst he
    simp only [Wn] at hs
    subst hs
    rw [Wo hb]
    exact W7
   ·cases hs
 | .rep t' K xs h' :: r,s,hs=>by
  simp only [mY] at hs
  cases hb:Nat.beq h h'
  ·rw [hb] at hs; exact Wq _ (gK hs)
  ·rw [hb] at hs
   simp only [f9] at hs
   split at hs
   ·rename_i he
    subst he
    simp only [Wn] at hs
    subst hs
    rw [Wo hb]
    exact W7
   ·cases hs
 | .box _ _ _::r,s,hs=>Wq _ (gK (F:=r) hs)
 | .isn _ _::r,s,hs=>Wq _ (gK (F:=r) hs)
 | .prt _ _ _ _ _::r,s,hs=>Wq _ (gK (F:=r) hs)
 | .hol _ _ _ _ _ _ _::r,s,hs=>Wq _ (gK (F:=r) hs)
 | .mp _ _ _ _ _::r,s,hs=>Wq _ (gK (F:=r) hs)
 | .pt _ _ _ _ _ _ _::r,s,hs=>Wq _ (gK (F:=r) hs)
def ot (h:Nat):List AF→Option (Nat×Nat×Int×Int)
 | []=>none
 | .prt h' h0 sz lo hi::r=>bif Nat.beq h h' then some (h0,sz,lo,hi) else ot h r
 | .own _ _ _ _ _ _::r=>ot h r
 | .rep _ _ _ _::r=>ot h r
 | .box _ _ _::r=>ot h r
 | .isn _ _::r=>ot h r
 | .hol _ _ _ _ _ _ _::r=>ot h r
 | .mp _ _ _ _ _::r=>ot h r
 | .pt _ _ _ _ _ _ _::r=>ot h r
theorem jf {h:Nat} : ∀ {F:List AF} {h0 sz:Nat} {lo hi:Int},ot h F=some (h0,sz,lo,hi)→.prt h h0 sz lo hi∈F
 | [],_,_,_,_,hs=>by simp [ot] at hs
 | .prt h' h1 sz' lo' hi' :: r,h0,sz,lo,hi,hs=>by
  simp only [ot] at hs
  cases hb:Nat.beq h h'
  ·rw [hb] at hs; exact Wq _ (jf hs)
  simp_all
 | .own _ _ _ _ _ _::r,_,_,_,_,hs=>Wq _ (jf (F:=r) hs)
 | .rep _ _ _ _::r,_,_,_,_,hs=>Wq _ (jf (F:=r) hs)
 | .box _ _ _::r,_,_,_,_,hs=>Wq _ (jf (F:=r) hs)
 | .isn _ _::r,_,_,_,_,hs=>Wq _ (jf (F:=r) hs)
 | .hol _ _ _ _ _ _ _::r,_,_,_,_,hs=>Wq _ (jf (F:=r) hs)
 | .mp _ _ _ _ _::r,_,_,_,_,hs=>Wq _ (jf (F:=r) hs)
 | .pt _ _ _ _ _ _ _::r,_,_,_,_,hs=>Wq _ (jf (F:=r) hs)
structure MI (k v:TC) where
 i:Nat
 xs:List (k.den×v.den)
def akP {k v k' v' : TC} (h:k' = k∧v' = v) (xs:List (k'.den×v'.den)):List (k.den×v.den):=by
 obtain ⟨h1,h2⟩:=h
 subst h1 h2
 exact xs
def uP (k v:TC) (h:Nat):List AF→Option (MI k v)
 | []=>none
 | .mp k' v' i xs h' :: r=>bif Nat.beq h h' then (if he:k' = k∧v' = v then some ⟨i,akP he xs⟩ else none) else uP k v h r
 | _::r=>uP k v h r
theorem jT {k v:TC} {h:Nat} : ∀ {F:List AF} {s:MI k v},uP k v h F=some s→.mp k v s.i s.xs h∈F
 | [],s,hs=>by simp [uP] at hs
 | .mp k' v' i xs h' :: r,s,hs=>by
  simp only [uP] at hs
  cases hb:Nat.beq h h'
  ·rw [hb] at hs; exact Wq _ (jT hs)
  ·rw [hb] at hs
   simp only [f9] at hs
   split at hs
   ·rename_i he
    obtain ⟨rfl,rfl⟩:=he
    simp only [Wn] at hs
    subst hs
    rw [Wo hb]
    exact W7
   ·cases hs
 | .own _ _ _ _ _ _::r,s,hs=>Wq _ (jT (F:=r) hs)
 | .rep _ _ _ _::r,s,hs=>Wq _ (jT (F:=r) hs)
 | .box _ _ _::r,s,hs=>Wq _ (jT (F:=r) hs)
 | .isn _ _::r,s,hs=>Wq _ (jT (F:=r) hs)
 | .prt _ _ _ _ _::r,s,hs=>Wq _ (jT (F:=r) hs)
 | .hol _ _ _ _ _ _ _::r,s,hs=>Wq _ (jT (F:=r) hs)
 | .pt _ _ _ _ _ _ _::r,s,hs=>Wq _ (jT (F:=r) hs)
structure PI (t:TC) where
 e:TypeId
 i:Nat
 K:List Nat
 xs:List t.den
 m:Int
def zI (t:TC) (h:Nat):List AF→Option (PI t)
 | []=>none
 | .pt t' e i K xs h' m::r=>bif Nat.beq h h' then (if he:t' = t then some ⟨e,i,K,Dk he xs,m⟩ else none) else zI t h r
 | _::r=>zI t h r
theorem oj {t:TC} {h:Nat} : ∀ {F:List AF} {s:PI t},zI t h F=some s→.pt t s.e s.i s.K s.xs h s.m∈F
 | [],s,hs=>by simp [zI] at hs
 | .pt t' e i K xs h' m::r,s,hs=>by
  simp only [zI] at hs
  cases hb:Nat.beq h h'
  ·rw [hb] at hs; exact Wq _ (oj hs)
  ·rw [hb] at hs
   simp only [f9] at hs
   split at hs
   ·rename_i he
    subst he
    simp only [Wn] at hs
    subst hs
    rw [Wo hb]
    exact W7
   ·cases hs
 | .own _ _ _ _ _ _::r,s,hs=>Wq _ (oj (F:=r) hs)
 | .rep _ _ _ _::r,s,hs=>Wq _ (oj (F:=r) hs)
 | .box _ _ _::r,s,hs=>Wq _ (oj (F:=r) hs)
 | .isn _ _::r,s,hs=>Wq _ (oj (F:=r) hs)
 | .prt _ _ _ _ _::r,s,hs=>Wq _ (oj (F:=r) hs)
 | .hol _ _ _ _ _ _ _::r,s,hs=>Wq _ (oj (F:=r) hs)
 | .mp _ _ _ _ _::r,s,hs=>Wq _ (oj (F:=r) hs)
def jj (t:TC) (F:List AF):Lf→Option (SI t)
 | .sl h=>mY t h F
 | .nl=>some ⟨none,[],[]⟩
 | _=>none
def Lf.hd (η:Vn):Lf→Hd
 | .sl h=>η.h h
 | .bp b _=>⟨some ⟨η.b b,0,none⟩,0,0⟩
 | .clo _ b=>⟨some ⟨η.b b,0,none⟩,0,0⟩
 | .mp h=>η.h h
 | _=>eR
theorem oi {t:TC} {F:List AF} {l:Lf} {s:SI t} (h:jj t F l=some s) (η:Vn):l.val η=(l.hd η).val∧l.cells η=[(l.hd η).val]:=by
 cases l <;> simp [jj] at h <;> exact ⟨rfl,rfl⟩
theorem kS {t:TC} {F:List AF} {l:Lf} {s:SI t} (h:jj t F l=some s) {η:Vn} {w:World} {c:bD} (hF:am w c (F.map (AF.ha η))):HA.holds w c (.rep t.ty s.all s.xs (l.hd η)):=by
 cases l with
 | sl n=>
  have hm:=hF _ (W6.2 ⟨_,gK h,rfl⟩)
  obtain ⟨own,K,xs⟩:=s
  cases own with
  | none=>exact hm
  | some p=>exact Iqw hm
 | nl=>
  simp only [jj,Wn] at h
  subst h
  exact rO w c
 | _=>simp [jj] at h
def gw (t:TC) (e:TypeId) (N:Nat) (F:List AF):Lf→Option (Nat×List Nat×List t.den)
 | .sl h=>match mY t h F with
  | some ⟨some (e',i),K,xs⟩=>bif Nat.beq e e' then some (i,K,xs) else none
  | _=>none
 | .nl=>some (N,[],[])
 | _=>none
theorem gb {t:TC} {e:TypeId} {F:List AF} {l:Lf} {i:Nat} {K:List Nat} {xs:List t.den} (h:gw t e N F l=some (i,K,xs)) {η:Vn} {w:World} {c:bD} (hF:am w c (F.map (AF.ha η))) :
  HA.holds w c (eh t.ty e i K xs (l.hd η)):=by
 cases l with
 | sl n=>
  simp only [gw] at h
  split at h
  ·rename_i e' i' K' xs' hs
   cases hb:Nat.beq e e'
   ·grind
   ·rw [hb] at h
    simp only [f9,Wn,W5] at h
    obtain ⟨rfl,rfl,rfl⟩:=h
    rw [Wo hb]
    exact hF _ (W6.2 ⟨_,gK hs,rfl⟩)
  ·cases h
 | nl=>
  simp only [gw,Wn,W5] at h
  obtain ⟨rfl,rfl,rfl⟩:=h
  exact sB w c
 | _=>simp [gw] at h
theorem qo {t:TC} {e:TypeId} {F:List AF} {l:Lf} {r:Nat×List Nat×List t.den} (h:gw t e N F l=some r) (η:Vn):l.val η=(l.hd η).val:=by
 cases l <;> simp [gw] at h <;> rfl
def Cj {t t' : SC} (h:t' = t) (x:t'.den):t.den:=h ▸ x
def zs {t t' : SC} (h:t' = t) (x:List t'.den):List t.den:=h ▸ x
def acX {n m:Nat} (h:m=n) (x:X.den m):X.den n:=h ▸ x
def Em (F:List AF):List Lf→Option (Nd×List Lf×List Nat×List Lf)
 | .c (.int .i64) k :: .c .str tx :: .c (.int .i64) m::l::r=>match jj .node F l with
  | some s=>some (Nd.of (k,tx,m,s.xs),[l],s.all,r)
  | none=>none
 | _=>none
theorem zc {F:List AF} {ls:List Lf} {x:Nd} {l:List Lf} {K:List Nat} {r:List Lf} (h:Em F ls=some (x,l,K,r)) : ∃ k tx m a s,ls = .c (.int .i64) k :: .c .str tx :: .c (.int .i64) m::a::r∧jj .node F a=some s∧x=Nd.of (k,tx,m,s.xs)∧l=[a]∧K=s.all:=by
 unfold Em at h
 grind
def bZ (F:List AF):(t:TC)→List Lf→Option (t.den×List Lf×List Nat×List Lf)
 | .sc s, .c s' x::r=>if h:s' = s then some (Cj h x,[],[],r) else none
 | .sc s, .fn f::r=>if h:SC.fnc=s then some (Cj h f,[],[],r) else none
 | .arr n s, .ar n' s' x::r=>if h:s' = s∧n' = n then some (zs h.1 x,[],[],r) else none
 | .unit,r=>some ((),[],[],r)
 | .pair a b,r=>match bZ F a r with
  | some (x,l1,K1,r1)=>match bZ F b r1 with
   | some (y,l2,K2,r2)=>some ((x,y),l1++l2,K1++K2,r2)
   | none=>none
  | none=>none
 | .slice t,l::r=>match jj t F l with
  | some s=>some (s.xs,[l],s.all,r)
  | none=>none
 | .st t,r=>bZ F t r
 | .ext n, .xt m x::r=>if h:m=n then some (acX h x,[],[],r) else none
 | .node,r=>Em F r
 | .mp k v, .mp h::r=>some ((match uP k v h F with | some s=>s.xs | none=>[]),[.mp h],[],r)
 | _,_=>none
def aS (η:Vn) (ls:List Lf):List Hd:=ls.map (Lf.hd η)
theorem eF {F:List AF} : ∀ (t:TC) {ls:List Lf} {x:t.den} {l:List Lf} {K:List Nat} {r:List Lf},bZ F t ls=some (x,l,K,r)→l.length=t.nh
 | .sc s,ls,x,l,K,r,h=>by
  cases ls with
  | nil=>simp [bZ] at h
  | cons a ls=>
   cases a <;> simp only [bZ] at h <;> try cases h
   all_goals split at h
   all_goals first | (simp only [Wn,W5] at h; obtain ⟨_,rfl,_,_⟩:=h; rfl) | cases h
 | .arr n s,ls,x,l,K,r,h=>by
  cases ls with
  | nil=>simp [bZ] at h
  | cons a ls=>
   cases a <;> simp only [bZ] at h <;> try cases h
   split at h
   ·simp only [Wn,W5] at h
    obtain ⟨_,rfl,_,_⟩:=h
    rfl
   ·cases h
 | .unit,ls,x,l,K,r,h=>by simp [bZ] at h; rw [h.1]; rfl
 | .pair a b,ls,x,l,K,r,h=>by
  simp only [bZ] at h
  split at h
  ·rename_i x1 l1 K1 r1 h1
   split at h
   ·rename_i x2 l2 K2 r2 h2
    simp only [Wn,W5] at h
    rw [← h.2.1,Wu,eF a h1,eF b h2]; rfl
   ·cases h
  ·cases h
 | .st t,ls,x,l,K,r,h=>eF t h
 | .slice t,ls,x,l,K,r,h=>by
  cases ls with
  | nil=>simp [bZ] at h
  | cons a ls=>
   simp only [bZ] at h
   split at h
   ·simp only [Wn,W5] at h
    rw [← h.2.1]; rfl
   ·cases h
 | .ext n,ls,x,l,K,r,h=>by
  cases ls with
  | nil=>simp [bZ] at h
  | cons a ls=>
   cases a <;> simp only [bZ] at h <;> try cases h
   split at h
   ·simp only [Wn,W5] at h
    obtain ⟨_,rfl,_,_⟩:=h
    rfl
   ·cases h
 | .node,ls,x,l,K,r,h=>by
  obtain ⟨k,tx,m,a,s,_,_,_,rfl,_⟩:=zc (show Em F ls=_ from h)
  rfl
 | .mp k v,ls,x,l,K,r,h=>by
  cases ls with
  | nil=>simp [bZ] at h
  | cons a ls=>
   cases a with
   | mp hh=>
    simp only [bZ,Wn,W5] at h
    rw [← h.2.1]; rfl
   | _=>simp [bZ] at h
theorem dW:(t:TC)→(l1 l2:List Hd)→l1.length=t.nh→aO t (l1++l2)=aO t l1
 | .sc _,_,_,_=>rfl
 | .arr _ _,_,_,_=>rfl
 | .unit,_,_,_=>rfl
 | .pair a b,l1,l2,h=>by
  simp only [TC.nh] at h
  have e:l1=l1.take a.nh++l1.drop a.nh:=(abo _ _).symm
  have hl:(l1.take a.nh).length=a.nh:=by simp; omega
  simp only [aO]
  have e1:aO a (l1++l2)=aO a (l1.take a.nh):=by
   rw [e,Yi,dW a _ _ hl,← e]
  have e2:aO a l1=aO a (l1.take a.nh):=by
   have:=dW a (l1.take a.nh) (l1.drop a.nh) hl
   grind
  rw [e1,e2,YB,show a.nh - l1.length=0 by omega,Z3,dW b _ _ (by simp; omega)]
 | .slice _,[],_,h=>by simp [TC.nh] at h
 | .slice _,_::_,_,_=>rfl
 | .st t,l1,l2,h=>dW t l1 l2 h
 | .ext _,_,_,_=>rfl
 | .node,[],_,h=>by simp [TC.nh] at h
 | .node,_::_,_,_=>rfl
 | .mp _ _,[],_,h=>by simp [TC.nh] at h
 | .mp _ _,_::_,_,_=>rfl
theorem dY {F:List AF} {η:Vn} : ∀ (t:TC) {ls:List Lf} {x:t.den} {l:List Lf} {K:List Nat} {r:List Lf},bZ F t ls=some (x,l,K,r) →
  aw η ls=t.ty.fill x (aO t (aS η l))++aw η r ∧
  ∀ (w:World) (c:bD) (K' : List Nat),am w c (F.map (AF.ha η))→(∀ k∈K,k∈K')→bT w (fun b=>c b∈K') t.ty x (aO t (aS η l))
 | .sc s,ls,x,l,K,r,h=>by
  cases ls with
  | nil=>simp [bZ] at h
  | cons a ls=>
   cases a <;> simp only [bZ] at h <;> try cases h
   all_goals split at h
   all_goals first | cases h; done | skip
   all_goals
    rename_i he
    subst he
    simp only [Wn,W5] at h
    obtain ⟨rfl,rfl,rfl,rfl⟩:=h
    exact ⟨rfl,fun _ _ _ _ _=>trivial⟩
 | .arr n s,ls,x,l,K,r,h=>by
  cases ls with
  | nil=>simp [bZ] at h
  | cons a ls=>
   cases a <;> simp only [bZ] at h <;> try cases h
   split at h
   ·rename_i he
    obtain ⟨rfl,rfl⟩:=he
    simp only [Wn,W5] at h
    obtain ⟨rfl,rfl,rfl,rfl⟩:=h
    exact ⟨rfl,fun _ _ _ _ _=>trivial⟩
   ·cases h
 | .unit,ls,x,l,K,r,h=>by
  simp only [bZ,Wn,W5] at h
  obtain ⟨_,rfl,rfl,rfl⟩:=h
  exact ⟨rfl,fun _ _ _ _ _=>trivial⟩
 | .pair a b,ls,x,l,K,r,h=>by
  simp only [bZ] at h
  split at h
  ·rename_i x1 l1 K1 r1 h1
   split at h
   ·rename_i x2 l2 K2 r2 h2
    simp only [Wn,W5] at h
    obtain ⟨rfl,rfl,rfl,rfl⟩:=h
    obtain ⟨c1,f1⟩:=dY (η:=η) a h1
    obtain ⟨c2,f2⟩:=dY (η:=η) b h2
    have hn:(aS η l1).length=a.nh:=by simp [aS,eF a h1]
    have e1:aO a (aS η (l1++l2))=aO a (aS η l1):=by
     rw [show aS η (l1++l2)=aS η l1++aS η l2 by simp [aS],dW a _ _ hn]
    have e2:aO b ((aS η (l1++l2)).drop a.nh)=aO b (aS η l2):=by
     rw [show aS η (l1++l2)=aS η l1++aS η l2 by simp [aS],YB,X2 (by omega),show a.nh - (aS η l1).length=0 by omega]
     rfl
    refine ⟨?_,fun w c K' hF hK=>⟨?_,?_⟩⟩
    ·simp only [aO,Ty.fill]
     grind
    ·show bT w _ a.ty x1 (aO a _)
     simp_all
    ·show bT w _ b.ty x2 (aO b _)
     simp_all
   ·cases h
  ·cases h
 | .slice t,ls,x,l,K,r,h=>by
  cases ls with
  | nil=>simp [bZ] at h
  | cons a ls=>
   simp only [bZ] at h
   split at h
   ·rename_i s hs
    simp only [Wn,W5] at h
    obtain ⟨rfl,rfl,rfl,rfl⟩:=h
    refine ⟨?_,fun w c K' hF hK=>?_⟩
    ·simp only [aw,(oi hs η).2]; rfl
    ·exact bT.keep (S:=fun b=>c b∈s.all) (fun b _ hb=>⟨hK _ hb,rfl⟩) (.slice t.ty) s.xs (a.hd η) (kS hs hF)
   ·cases h
 | .st t,ls,x,l,K,r,h=>dY t h
 | .ext n,ls,x,l,K,r,h=>by
  cases ls with
  | nil=>simp [bZ] at h
  | cons a ls=>
   cases a <;> simp only [bZ] at h <;> try cases h
   split at h
   ·rename_i he
    subst he
    simp only [Wn,W5] at h
    obtain ⟨rfl,rfl,rfl,rfl⟩:=h
    exact ⟨rfl,fun _ _ _ _ _=>trivial⟩
   ·cases h
 | .node,ls,x,l,K,r,h=>by
  obtain ⟨k,tx,m,a,s,rfl,hs,rfl,rfl,rfl⟩:=zc (show Em F ls=_ from h)
  refine ⟨?_,fun w c K' hF hK=>?_⟩
  ·simp only [aw,(oi hs η).2]; rfl
  ·exact oF.2 (bT.keep (S:=fun b=>c b∈s.all) (fun b _ hb=>⟨hK _ hb,rfl⟩) (.slice .node) s.xs (a.hd η) (kS hs hF))
 | .mp k v,ls,x,l,K,r,h=>by
  cases ls with
  | nil=>simp [bZ] at h
  | cons a ls=>
   cases a with
   | mp hh=>
    simp only [bZ,Wn,W5] at h
    obtain ⟨rfl,rfl,rfl,rfl⟩:=h
    exact ⟨rfl,fun _ _ _ _ _=>trivial⟩
   | _=>simp [bZ] at h
end
section
variable [X:XTab] [G:GTab]
theorem c9.map {ρ:dm}  {L:List HA} {κ:List Nat} {Y Y' : Type} {val:Y→Value} {Φ:Y→List HA} {val' : Y' → Value} {Φ' : Y' → List HA} (g:Y→Y')
  (h:c9 P ρ o L κ val Φ) (hv : ∀ y,val y=val' (g y)) (hΦ : ∀ y,Φ y=Φ' (g y)):c9 P ρ o L κ val' Φ' := by
 intro a ev w c next Q ha hL hk
 refine h a ev w c next Q ha hL fun y w' c' hs hF=>?_
 grind
theorem m9 {F:List AF} {f:AF} (h:f∈F) (η:Vn) : ∃ k:Nat,(F.map (AF.ha η))[k]? = some (f.ha η):=by
 obtain ⟨k,hk⟩:=agC.1 h
 exact ⟨k,by simp [hk]⟩
def Vn.setB (η:Vn) (n b:Nat):Vn:=⟨η.h,fun m=>bif Nat.beq m n then b else η.b m⟩
theorem Vn.setB_agr (η:Vn) (n b:Nat):η.agr n (η.setB n b):=by
 intro m hm
 refine ⟨rfl,?_⟩
 have:Nat.beq m n=false:=by
  cases hb:Nat.beq m n
  ·rfl
  ·have:=Wo hb
   subst this
   simp only [bw,Ze] at hm
   rcases hm with hm | hm
   ·simp_all
   ·have:=Wt hm; omega
 simp only [Vn.setB,this,no]
theorem Vn.setB_at (η:Vn) (n b:Nat):(η.setB n b).b n=b:=by simp [Vn.setB]
def Vn.setH (η:Vn) (n:Nat) (h:Hd):Vn:=⟨fun m=>bif Nat.beq m n then h else η.h m,η.b⟩
theorem Vn.setH_agr (η:Vn) (n:Nat) (h:Hd):η.agr n (η.setH n h):=by
 intro m hm
 refine ⟨?_,rfl⟩
 have:Nat.beq m n=false:=by
  cases hb:Nat.beq m n
  ·rfl
  ·have:=Wo hb
   subst this
   simp only [bw,Ze] at hm
   rcases hm with hm | hm
   ·simp_all
   ·have:=Wt hm; omega
 simp only [Vn.setH,this,no]
theorem Vn.setH_at (η:Vn) (n:Nat) (h:Hd):(η.setH n h).h n=h:=by simp [Vn.setH]
def Lf.one1:Lf→Bool
 | .v x=>x.oneCell'
 | _=>true
def tQ:List Lf→Bool
 | []=>true
 | l::r=>l.one1&&tQ r
theorem Rf {η:Vn} {l:Lf} (h:l.one1=true) : ∀ u∈l.cells η,u.oneCell' = true:=by
 cases l with
 | ar n s x=>exact vM (TC.arr n s).ty x ()
 | ars t xs=>exact lj t.ty
 | c s x=>intro u hu; simp [Lf.cells] at hu; subst hu; exact s.one x
 | xt n x=>intro u hu; simp [Lf.cells] at hu; subst hu; exact X.one n x
 | v x=>intro u hu; simp [Lf.cells] at hu; subst hu; exact h
 | _=>intro u hu; simp [Lf.cells] at hu; subst hu; rfl
theorem og {η:Vn} : ∀ {ls:List Lf},tQ ls=true→∀ u∈aw η ls,u.oneCell' = true
 | [],_,u,hu=>by simp [aw] at hu
 | l::r,h,u,hu=>by
  simp only [tQ,Wp] at h
  simp only [aw,Xd] at hu
  rcases hu with hu | hu
  ·exact Rf h.1 u hu
  ·exact og h.2 u hu
def AV.lvs:AV→Option (List Lf)
 | .lf l=>bif l.one1 then some [l] else none
 | .ag ls=>bif tQ ls then some ls else none
 | .tu _=>none
theorem AV.lvs_one {v:AV} {ls:List Lf} (h:v.lvs=some ls):tQ ls=true:=by
 cases v with
 | lf l=>
  simp only [AV.lvs] at h
  cases hb:l.one1
  ·grind
  ·rw [hb] at h; simp at h; subst h; simp [tQ,hb]
 | ag l=>
  simp only [AV.lvs] at h
  grind
 | tu _=>cases h
theorem sY {x:Value} (h:x.oneCell' = true):x.cells = #[x]:=by
 cases x <;> first | rfl | (simp [Value.oneCell'] at h)
theorem AV.lvs_cells {v:AV} {ls:List Lf} (h:v.lvs=some ls) (η:Vn):(v.val η).cells=(aw η ls).toArray:=by
 cases v with
 | lf l=>
  simp only [AV.lvs] at h
  cases hb:l.one1
  ·grind
  ·rw [hb] at h
   simp only [f9,Wn] at h
   subst h
   cases l with
   | ar n s x=>simp [AV.val,Lf.val,aw,Lf.cells,Value.cells]
   | ars t xs=>simp [AV.val,Lf.val,aw,Lf.cells,Value.cells]
   | c s x=>exact sY (s.one x)
   | xt n x=>exact sY (X.one n x)
   | v x=>exact sY hb
   | _=>rfl
 | ag l=>
  simp only [AV.lvs] at h
  cases hb:tQ l
  ·grind
  ·rw [hb] at h; simp at h; subst h; rfl
 | tu _=>cases h
def kZ (b:Nat):List AF→Option (Nat×List Lf)
 | []=>none
 | .box i b' cs::r=>bif Nat.beq b b' then some (i,cs) else kZ b r
 | _::r=>kZ b r
theorem gc {b:Nat} : ∀ {F:List AF} {i:Nat} {cs:List Lf},kZ b F=some (i,cs)→.box i b cs∈F
 | [],_,_,h=>by simp [kZ] at h
 | .box i b' cs::r,i',cs',h=>by
  simp only [kZ] at h
  cases hb:Nat.beq b b'
  ·rw [hb] at h; exact Wq _ (gc h)
  simp_all
 | .own _ _ _ _ _ _::r,_,_,h=>Wq _ (gc (F:=r) h)
 | .rep _ _ _ _::r,_,_,h=>Wq _ (gc (F:=r) h)
 | .isn _ _::r,_,_,h=>Wq _ (gc (F:=r) h)
 | .prt _ _ _ _ _::r,_,_,h=>Wq _ (gc (F:=r) h)
 | .hol _ _ _ _ _ _ _::r,_,_,h=>Wq _ (gc (F:=r) h)
 | .mp _ _ _ _ _::r,_,_,h=>Wq _ (gc (F:=r) h)
 | .pt _ _ _ _ _ _ _::r,_,_,h=>Wq _ (gc (F:=r) h)
def nq:List Lf→Nat→Option (List Lf×List Lf)
 | [],k=>bif Nat.beq k 0 then some ([],[]) else none
 | l::r,k=>bif Nat.beq k 0 then some ([],l::r) else bif Nat.ble 1 l.sz&&Nat.ble l.sz k then match nq r (k - l.sz) with | some (a,b)=>some (l::a,b) | none=>none else none
theorem jY : ∀ {cs:List Lf} {k:Nat} {a b:List Lf},nq cs k=some (a,b)→cs=a++b∧∀ η,(aw η a).length=k
 | [],k,a,b,h=>by
  simp only [nq] at h
  cases hb:Nat.beq k 0
  ·grind
  ·rw [hb] at h
   simp only [f9,Wn,W5] at h
   obtain ⟨rfl,rfl⟩:=h
   exact ⟨rfl,fun _=>(Wo hb).symm⟩
 | l::r,k,a,b,h=>by
  simp only [nq] at h
  cases hk:Nat.beq k 0
  ·rw [hk] at h
   simp only [no] at h
   cases hb:(Nat.ble 1 l.sz&&Nat.ble l.sz k)
   ·grind
   ·rw [hb] at h
    simp only [f9] at h
    simp only [Wp] at hb
    have h2:=Wt hb.2
    split at h
    ·rename_i a' b' he
     simp only [Wn,W5] at h
     obtain ⟨rfl,rfl⟩:=h
     obtain ⟨e,hl⟩:=jY he
     refine ⟨by rw [e]; rfl,fun η=>?_⟩
     simp only [aw,Wu,l.cells_sz,hl η]
     omega
    ·cases h
  ·rw [hk] at h
   simp only [f9,Wn,W5] at h
   obtain ⟨rfl,rfl⟩:=h
   exact ⟨rfl,fun _=>(Wo hk).symm⟩
def cut (off sz:Nat) (cs:List Lf):Option (List Lf×List Lf×List Lf):=match nq cs off with
 | some (a,b)=>match nq b sz with
  | some (m,r)=>some (a,m,r)
  | none=>none
 | none=>none
theorem wO {off sz:Nat} {cs a m r:List Lf} (h:cut off sz cs=some (a,m,r)):cs=a++m++r∧∀ η,(aw η a).length=off∧(aw η m).length=sz:=by
 unfold cut at h
 split at h
 ·rename_i a' b' h1
  split at h
  ·rename_i m' r' h2
   simp only [Wn,W5] at h
   obtain ⟨rfl,rfl,rfl⟩:=h
   obtain ⟨e1,l1⟩:=jY h1
   obtain ⟨e2,l2⟩:=jY h2
   grind
  ·cases h
 ·cases h
def ES (agg:Bool):List Lf→Option AV
 | [.ar n s x]=>bif agg then some (.lf (.ar n s x)) else none
 | [.ars t xs]=>bif agg then some (.lf (.ars t xs)) else none
 | [l]=>some (bif agg then .ag [l] else .lf l)
 | ls=>bif agg then some (.ag ls) else none
theorem Ao {ls:List Lf} {v:AV} (h:ES true ls=some v) (η:Vn):v.val η = .agg (aw η ls).toArray:=by
 unfold ES at h
 split at h
 ·simp at h; subst h; simp [AV.val,Lf.val,aw,Lf.cells]
 ·simp at h; subst h; simp [AV.val,Lf.val,aw,Lf.cells]
 ·simp at h; subst h; rfl
 ·simp at h; subst h; rfl
theorem zR {ls:List Lf} {v:AV} (h:ES false ls=some v) (η:Vn) : ∃ l,ls=[l]∧v = .lf l∧l.cells η=[v.val η]:=by
 unfold ES at h
 split at h
 ·simp at h
 ·simp at h
 ·rename_i l hne hne'
  simp at h; subst h
  refine ⟨l,rfl,rfl,?_⟩
  cases l <;> first | rfl | (exact absurd rfl (hne _ _ _)) | grind
 ·simp at h
theorem nW {d:TD} (h:TInf.fits P t d) : ∃ td,P.underlying t=some td∧lP td=d.agg:=by
 cases d with
 | st fs=>obtain ⟨F,h1,_⟩:=h; exact ⟨_,h1,rfl⟩
 | other=>obtain ⟨d,h1,h2⟩:=h; exact ⟨d,h1,h2⟩
 | _=>exact ⟨_,h,rfl⟩
section
variable {R:Type} {P:Program} {o:Oper} {E:SE} {F:List AF} {n:Nat} {Θ:Tb} {ex:Option Bool}
def Ld (Θ:Tb) (n N:Nat) (t:TypeId) (k:Out→Option R):Option R:=match Θ t with
 | some i=>bif Nat.ble 2 N then k ⟨.lf (.bp n 0),[.box N n i.zl],[]⟩ else none
 | none=>none
theorem US (hΘ:Θ.ok P) (ho:o.op = .alloc t) (k:Out→Option R):ao ex P o E F n (Ld Θ n N t k) k:=by
 unfold Ld
 split
 ·rename_i i hi
  refine ao.bif fun hN=>ao.of fun _ η ρ hE=>?_
  obtain ⟨h1,_,h3,h4⟩:=hΘ t i hi
  refine (Yx ho h1 h3 hN).map (fun b=>⟨η.setB n b,η.setB_agr n b⟩) (fun b=>?_) fun b=>?_
  ·simp [AV.val,Lf.val,Vn.setB_at]
  ·simp [AF.ha,Vn.setB_at,h4 (η.setB n b)]
 ·exact ao.none
def WT (n N:Nat) (v:AV) (k:Out→Option R):Option R:=match v.lvs with
 | some ls=>bif Nat.ble 2 N&&tK n ls then k ⟨.lf (.bp n 0),[.box N n ls],[]⟩ else none
 | none=>none
theorem agW {v:AV} (ho:o.op = .box t x) (hv:ev E x=some v) (k:Out→Option R):ao ex P o E F n (WT n N v k) k:=by
 unfold WT
 split
 ·rename_i ls hl
  refine ao.bif fun hN=>ao.of fun _ η ρ hE=>?_
  simp only [Wp] at hN
  refine (ajN ho (aN hE hv) (v.lvs_cells hl η) hN.1).map (fun b=>⟨η.setB n b,η.setB_agr n b⟩) (fun b=>?_) fun b=>?_
  ·simp [AV.val,Lf.val,Vn.setB_at]
  ·simp [AF.ha,Vn.setB_at,rf (η.setB_agr n b) ls hN.2]
 ·exact ao.none
def KN (Θ:Tb) (t:TypeId) (b off:Nat) (F:List AF) (k:Out→Option R):Option R:=match Θ t,kZ b F with
 | some i,some (_,cs)=>match cut off i.sz cs with
  | some (_,m,_)=>match ES i.d.agg m with
   | some v=>k (bC v)
   | none=>none
  | none=>none
 | _,_=>none
theorem VC (hΘ:Θ.ok P) {b off:Nat} (ho:o.op = .load t x) (hx:ev E x=some (.lf (.bp b off))) (k:Out→Option R):ao ex P o E F n (KN Θ t b off F k) k:=by
 unfold KN
 split
 ·rename_i i ci cs hi hb
  split
  ·rename_i a m r hc
   split
   ·rename_i v hv
    refine ao.of fun _=>(dJ.pure fun η ρ hE=>?_)
    obtain ⟨h1,h2,_,_⟩:=hΘ t i hi
    obtain ⟨td,ht,hd⟩:=nW h2
    obtain ⟨j,hj⟩:=m9 (gc hb) η
    obtain ⟨e,hl⟩:=wO hc
    obtain ⟨l1,l2⟩:=hl η
    have hcell:((aw η cs).drop off).take i.sz=aw η m:=by
     rw [e,bd,bd,Yi,YB,X2 (by omega),show off - (aw η a).length=0 by omega,Z3,Yv,Z9,Yr (by omega),
      show i.sz - (aw η m).length=0 by omega,aeO,XE]
    cases hag:i.d.agg
    ·rw [hag] at hv hd
     obtain ⟨l,rfl,rfl,hl1⟩:=zR hv η
     refine CI j hj ho ht hd (aN hE hx) ?_
     have h5:aw η [l]=[(AV.lf l).val η]:=by simp [aw,hl1]
     rw [h5] at hcell l2
     have:=XZ (·[0]?) hcell
     grind
    ·rw [hag] at hv hd
     rw [Ao hv η]
     exact MF j hj ho ht hd h1 (aN hE hx) hcell (by simp [l2])
   ·exact ao.none
  ·exact ao.none
 ·exact ao.none
def Es (Θ:Tb) (t:TypeId) (b off:Nat) (v:AV) (F:List AF) (k:Out→Option R):Option R:=match Θ t,kZ b F,v.lvs with
 | some i,some (ci,cs),some ls=>match cut off i.sz cs,nq ls i.sz with
  | some (a,_,r),some (_,[])=>k ⟨.lf (.v undef),[.box ci b (a++ls++r)],[ci]⟩
  | _,_=>none
 | _,_,_=>none
theorem Pr (hΘ:Θ.ok P) {b off:Nat} {v:AV} (ho:o.op = .store t x y) (hx:ev E x=some (.lf (.bp b off))) (hy:ev E y=some v) (k:Out→Option R):ao ex P o E F n (Es Θ t b off v F k) k:=by
 unfold Es
 split
 ·rename_i i ci cs ls hi hb hl
  split
  ·rename_i a m r q hc hs
   refine ao.of fun _ η ρ hE=>?_
   obtain ⟨h1,h2,_,_⟩:=hΘ t i hi
   obtain ⟨j,hj⟩:=m9 (gc hb) η
   obtain ⟨e,hll⟩:=wO hc
   obtain ⟨l1,l2⟩:=hll η
   obtain ⟨e2,l3⟩:=jY hs
   rw [XE] at e2
   subst e2
   have l3:=l3 η
   have hval : ∀ y : { η' : Vn // η.agr n η' },undef=(AV.lf (.v undef)).val y.1:=fun _=>rfl
   refine (zz (cs' := aw η (a++ls++r)) j hj ho h1 (aN hE hx) (aN hE hy) (v.lvs_cells hl η) (by simp [l3]) (W3.2 (og (AV.lvs_one hl))) ?_ ?_).map (fun _=>⟨η,Vn.agr_refl n η⟩) (fun _=>rfl) (fun _=>rfl)
   ·rw [e,bd,bd]
    simp_all
   ·rw [e,bd,bd,bd,bd]
    grind
  ·exact ao.none
 ·exact ao.none
end
end
end Go.Sm
