/- Laws for the row. No condition. -/
import Derived.Test.YtfhhiajfciblbaaGreatDoorSimR
namespace Go.Sm
variable {n N:Nat} {P:Program} {o:Oper} {t:TypeId} {x y:Operand} {R:Type} {ex:Option Bool} {b:Bool}
inductive SC
 | int (k:IntKind)
 | bool
 | str
 | fnc
 deriving DecidableEq
inductive TC
 | sc (s:SC)
 | arr (n:Nat) (s:SC)
 | unit
 | pair (a b:TC)
 | slice (t:TC)
 | st (t:TC)
 | ext (n:Nat)
 | node
 | mp (k v:TC)
 deriving DecidableEq
abbrev TC.nodeC:TC:=.pair (.sc (.int .i64)) (.pair (.sc .str) (.pair (.sc (.int .i64)) (.slice .node)))
class XTab where
 den:Nat→Type
 val:(n:Nat)→den n→Value
 one:(n:Nat)→(x:den n)→(val n x).oneCell' = true
 dft:(n:Nat)→den n
 tr:Nat→Nat
abbrev SC.den:SC→Type
 | .int _=>Int
 | .bool=>Bool
 | .str=>List UInt8
 | .fnc=>Nat
abbrev SC.val:(s:SC)→s.den→Value
 | .int k,n=>.int k n
 | .bool,x=>.bool x
 | .str,x=>.string ⟨x.toArray⟩
 | .fnc,f=>.func (.func f) #[] #[]
theorem SC.one:(s:SC)→(x:s.den)→(s.val x).oneCell' = true
 | .int _,_=>rfl
 | .bool,_=>rfl
 | .str,_=>rfl
 | .fnc,_=>rfl
abbrev SC.dft:(s:SC)→s.den
 | .int _=>(0:Int)
 | .bool=>false
 | .str=>([]:List UInt8)
 | .fnc=>(0:Nat)
section
variable [X:XTab]
abbrev TC.ty:TC→Ty
 | .sc s=>.one s.den s.val s.one
 | .arr n s=>.arr n s.den s.dft s.val s.one
 | .unit=>.unit
 | .pair a b=>.pair a.ty b.ty
 | .slice t=>.slice t.ty
 | .st t=>t.ty
 | .ext n=>.one (X.den n) (X.val n) (X.one n)
 | .node=>.node
 | .mp k v=>.mp k.ty v.ty
abbrev TC.den (t:TC):Type:=t.ty.den
abbrev TC.dft:(t:TC)→t.den
 | .sc s=>s.dft
 | .arr _ _=>[]
 | .unit=>()
 | .pair a b=>(a.dft,b.dft)
 | .slice _=>[]
 | .st t=>t.dft
 | .ext n=>X.dft n
 | .node=>Nd.of (0,[],0,[])
 | .mp _ _=>[]
def TC.ref0:(t:TC)→t.ty.Refs
 | .sc _=>()
 | .arr _ _=>()
 | .unit=>()
 | .pair a b=>(a.ref0,b.ref0)
 | .slice _=>(⟨none,0,0⟩:Hd)
 | .st t=>t.ref0
 | .ext _=>()
 | .node=>(⟨none,0,0⟩:Hd)
 | .mp _ _=>(⟨none,0,0⟩:Hd)
inductive Pa:TC→TC→Type
 | here {t:TC}:Pa t t
 | fst {a b u:TC} (p:Pa a u):Pa (.pair a b) u
 | snd {a b u:TC} (p:Pa b u):Pa (.pair a b) u
 | inn {a u:TC} (p:Pa a u):Pa (.st a) u
 | el {n:Nat} {s:SC} (j:Int):Pa (.arr n s) (.sc s)
 | nd {u:TC} (p:Pa TC.nodeC u):Pa .node u
inductive Lf:Type
 | c (s:SC) (x:s.den)
 | ar (n:Nat) (s:SC) (x:List s.den)
 | sl (h:Nat)
 | nl
 | bp (b off:Nat)
 | bq (b off n:Nat) (s:SC) (j:Int)
 | rp (h:Nat) (t:TC) (i:Int) (u:TC) (p:Pa t u)
 | xt (n:Nat) (x:X.den n)
 | fn (f:FuncId)
 | clo (f:FuncId) (b:Nat)
 | gp (g:Nat) (t:TC) (i:Int) (u:TC) (p:Pa t u)
 | ars (t:TC) (xs:List t.den)
 | mp (h:Nat)
 | v (x:Value)
def Lf.sz:Lf→Nat
 | .ar n _ _=>n
 | .ars t xs=>xs.length * t.ty.sz
 | _=>1
inductive AV:Type
 | lf (l:Lf)
 | ag (ls:List Lf)
 | tu (vs:List AV)
structure Vn where
 h:Nat→Hd
 b:Nat→Nat
def Pa.off : {t u:TC}→Pa t u→Nat
 | _,_, .here=>0
 | _,_, .fst p=>p.off
 | _,_,@Pa.snd a _ _ p=>a.ty.sz+p.off
 | _,_, .inn p=>p.off
 | _,_, .el j=>j.toNat
 | _,_, .nd p=>p.off
def eD:Hd:=⟨none,0,0⟩
def Lf.cells (η:Vn):Lf→List Value
 | .c s x=>[s.val x]
 | .ar n s x=>(TC.arr n s).ty.fill x ()
 | .sl h=>[(η.h h).val]
 | .nl=>[eD.val]
 | .bp b off=>[.pointer (some ⟨η.b b,off,none⟩)]
 | .bq b off _ _ j=>[.pointer (some ⟨η.b b,off+j.toNat,none⟩)]
 | .rp h t i _ p=>[.pointer (some (eu (η.h h) (i.toNat * t.ty.sz+p.off)))]
 | .xt n x=>[X.val n x]
 | .fn f=>[.func (.func f) #[] #[]]
 | .clo f b=>[.func (.func f) #[] #[.pointer (some ⟨η.b b,0,none⟩)]]
 | .gp g t i _ p=>[.pointer (some ⟨g,i.toNat * t.ty.sz+p.off,none⟩)]
 | .ars t xs=>cellsOf t.ty xs (List.replicate xs.length t.ref0)
 | .mp h=>[.map (some (η.h h).blk)]
 | .v x=>[x]
def Lf.val (η:Vn) (l:Lf):Value:=match l with
 | .c s x=>s.val x
 | .ar n s x=>.agg ((TC.arr n s).ty.fill x ()).toArray
 | .sl h=>(η.h h).val
 | .nl=>eD.val
 | .bp b off=>.pointer (some ⟨η.b b,off,none⟩)
 | .bq b off _ _ j=>.pointer (some ⟨η.b b,off+j.toNat,none⟩)
 | .rp h t i _ p=>.pointer (some (eu (η.h h) (i.toNat * t.ty.sz+p.off)))
 | .xt n x=>X.val n x
 | .fn f=>.func (.func f) #[] #[]
 | .clo f b=>.func (.func f) #[] #[.pointer (some ⟨η.b b,0,none⟩)]
 | .gp g t i _ p=>.pointer (some ⟨g,i.toNat * t.ty.sz+p.off,none⟩)
 | .ars t xs=>.agg (cellsOf t.ty xs (List.replicate xs.length t.ref0)).toArray
 | .mp h=>.map (some (η.h h).blk)
 | .v x=>x
def au (η:Vn):List Lf→List Value
 | []=>[]
 | l::r=>l.cells η++au η r
mutual
def AV.val (η:Vn):AV→Value
 | .lf l=>l.val η
 | .ag ls=>.agg (au η ls).toArray
 | .tu vs=>.tuple (AV.vals η vs).toArray
def AV.vals (η:Vn):List AV→List Value
 | []=>[]
 | v::r=>v.val η::AV.vals η r
end
inductive AF:Type
 | rep (t:TC) (K:List Nat) (xs:List t.den) (h:Nat)
 | own (t:TC) (e:TypeId) (i:Nat) (K:List Nat) (xs:List t.den) (h:Nat)
 | box (i b:Nat) (cs:List Lf)
 | isn (h:Nat) (b:Bool)
 | prt (h' h sz:Nat) (lo hi:Int)
 | hol (t:TC) (e:TypeId) (i:Nat) (xs:List t.den) (h:Nat) (k:Int) (cs:List Lf)
 | mp (k v:TC) (i:Nat) (xs:List (k.den×v.den)) (h:Nat)
 | pt (t:TC) (e:TypeId) (i:Nat) (K:List Nat) (xs:List t.den) (h:Nat) (m:Int)
def nL (t:TC) (x:t.den):Value:=match t,x with
 | .sc s,x=>s.val x
 | .arr n s,x=>.agg ((TC.arr n s).ty.fill x ()).toArray
 | .unit,_=>.agg #[]
 | .pair a b,x=>.agg ((TC.pair a b).ty.fill x (TC.pair a b).ref0).toArray
 | .st a,x=>.agg (a.ty.fill x a.ref0).toArray
 | .slice _,_=>eD.val
 | .ext k,x=>X.val k x
 | .node,x=>.agg (Ty.node.fill x eD).toArray
 | .mp _ _,_=>.map none
def yf (k v:TC) (xs:List (k.den×v.den)):List (Value×Value):=xs.map fun p=>(nL k p.1,nL v p.2)
def AF.ha (η:Vn):AF→HA
 | .rep t K xs h=>.rep t.ty K xs (η.h h)
 | .own t e i K xs h=>dR t.ty e i K xs (η.h h)
 | .box i b cs=>.box i (η.b b) (au η cs)
 | .isn h b=>.pure ((η.h h).isNil=b)
 | .prt h' h sz lo hi=>.pure (pz (η.h h') (η.h h) sz lo hi)
 | .hol t e i xs h k cs=>.hol t.ty e i xs (η.h h) k.toNat (au η cs)
 | .mp k v i xs h=>.mp i (η.h h).blk (yf k v xs)
 | .pt t e i K xs h m=>.pt t.ty e i K xs (η.h h) m
def AF.uses:AF→List Nat
 | .rep _ K _ _=>K
 | .own _ _ i K _ _=>i::K
 | .box i _ _=>[i]
 | .isn _ _=>[]
 | .prt _ _ _ _ _=>[]
 | .hol _ _ i _ _ _ _=>[i]
 | .mp _ _ i _ _=>[i]
 | .pt _ _ i K _ _ _=>i::K
def Lf.hs:Lf→List Nat
 | .sl h=>[h]
 | .rp h _ _ _ _=>[h]
 | .mp h=>[h]
 | _=>[]
def Lf.bs:Lf→List Nat
 | .bp b _=>[b]
 | .bq b _ _ _ _=>[b]
 | .clo _ b=>[b]
 | _=>[]
def bk (n m:Nat):Bool:=Nat.blt m n||Nat.ble (n+64) m
def Lf.free (n:Nat) (l:Lf):Bool:=match l with
 | .sl h=>bk n h
 | .rp h _ _ _ _=>bk n h
 | .bp b _=>bk n b
 | .bq b _ _ _ _=>bk n b
 | .clo _ b=>bk n b
 | .mp h=>bk n h
 | _=>true
def ta (n:Nat):List Lf→Bool
 | []=>true
 | l::r=>l.free n&&ta n r
mutual
def AV.free (n:Nat):AV→Bool
 | .lf l=>l.free n
 | .ag ls=>ta n ls
 | .tu vs=>AV.frees n vs
def AV.frees (n:Nat):List AV→Bool
 | []=>true
 | v::r=>v.free n&&AV.frees n r
end
def AF.free (n:Nat):AF→Bool
 | .rep _ _ _ h=>bk n h
 | .own _ _ _ _ _ h=>bk n h
 | .box _ b cs=>bk n b&&ta n cs
 | .isn h _=>bk n h
 | .prt h' h _ _ _=>bk n h' && bk n h
 | .hol _ _ _ _ h _ cs=>bk n h&&ta n cs
 | .mp _ _ _ _ h=>bk n h
 | .pt _ _ _ _ _ h _=>bk n h
def Vn.agr (n:Nat) (η η' : Vn):Prop:=∀ m,bk n m=true→η'.h m=η.h m∧η'.b m=η.b m
theorem Lf.cells_agr {η η' : Vn} (h:η.agr n η'):(l:Lf)→l.free n=true→l.cells η' = l.cells η
 | .sl m,hf=>by simp only [Lf.cells,(h m hf).1]
 | .rp m _ _ _ _,hf=>by simp only [Lf.cells,(h m hf).1]
 | .mp m,hf=>by simp only [Lf.cells,(h m hf).1]
 | .bp m _,hf=>by simp only [Lf.cells,(h m hf).2]
 | .bq m _ _ _ _,hf=>by simp only [Lf.cells,(h m hf).2]
 | .clo _ m,hf=>by simp only [Lf.cells,(h m hf).2]
 | .gp _ _ _ _ _,_=>rfl
 | .ars _ _,_=>rfl
 | .c _ _,_=>rfl
 | .ar _ _ _,_=>rfl
 | .nl,_=>rfl
 | .xt _ _,_=>rfl
 | .fn _,_=>rfl
 | .v _,_=>rfl
theorem Lf.val_agr {η η' : Vn} (h:η.agr n η'):(l:Lf)→l.free n=true→l.val η' = l.val η
 | .sl m,hf=>by simp only [Lf.val,(h m hf).1]
 | .rp m _ _ _ _,hf=>by simp only [Lf.val,(h m hf).1]
 | .mp m,hf=>by simp only [Lf.val,(h m hf).1]
 | .bp m _,hf=>by simp only [Lf.val,(h m hf).2]
 | .bq m _ _ _ _,hf=>by simp only [Lf.val,(h m hf).2]
 | .clo _ m,hf=>by simp only [Lf.val,(h m hf).2]
 | .gp _ _ _ _ _,_=>rfl
 | .ars _ _,_=>rfl
 | .c _ _,_=>rfl
 | .ar _ _ _,_=>rfl
 | .nl,_=>rfl
 | .xt _ _,_=>rfl
 | .fn _,_=>rfl
 | .v _,_=>rfl
theorem qD {n:Nat} {η η' : Vn} (h:η.agr n η'):(ls:List Lf)→ta n ls=true→au η' ls=au η ls
 | [],_=>rfl
 | l::r,hf=>by
  simp only [ta,Vf] at hf
  simp only [au,l.cells_agr h hf.1,qD h r hf.2]
mutual
theorem AV.val_agr {n:Nat} {η η' : Vn} (h:η.agr n η'):(v:AV)→v.free n=true→v.val η' = v.val η
 | .lf l,hf=>by simp only [AV.val]; exact l.val_agr h hf
 | .ag ls,hf=>by simp only [AV.val]; rw [qD h ls hf]
 | .tu vs,hf=>by simp only [AV.val]; rw [AV.vals_agr h vs hf]
theorem AV.vals_agr {n:Nat} {η η' : Vn} (h:η.agr n η'):(vs:List AV)→AV.frees n vs=true→AV.vals η' vs=AV.vals η vs
 | [],_=>rfl
 | v::r,hf=>by
  simp only [AV.frees,Vf] at hf
  simp only [AV.vals,AV.val_agr h v hf.1,AV.vals_agr h r hf.2]
end
theorem AF.ha_agr {η η' : Vn} (h:η.agr n η'):(f:AF)→f.free n=true→f.ha η' = f.ha η
 | .rep _ _ _ m,hf=>by simp only [AF.ha,(h m hf).1]
 | .own _ _ _ _ _ m,hf=>by simp only [AF.ha,(h m hf).1]
 | .box _ m cs,hf=>by
  simp only [AF.free,Vf] at hf
  simp only [AF.ha,(h m hf.1).2,qD h cs hf.2]
 | .isn m _,hf=>by simp only [AF.ha,(h m hf).1]
 | .prt m m' _ _ _,hf=>by
  simp only [AF.free,Vf] at hf
  simp only [AF.ha,(h m hf.1).1,(h m' hf.2).1]
 | .mp _ _ _ _ m,hf=>by simp only [AF.ha,(h m hf).1]
 | .pt _ _ _ _ _ m _,hf=>by simp only [AF.ha,(h m hf).1]
 | .hol _ _ _ _ m _ cs,hf=>by
  simp only [AF.free,Vf] at hf
  simp only [AF.ha,(h m hf.1).1,qD h cs hf.2]
theorem AF.ha_uses (η:Vn):(f:AF)→(f.ha η).uses=f.uses
 | .rep _ _ _ _=>rfl
 | .own _ _ _ _ _ _=>UH
 | .box _ _ _=>rfl
 | .isn _ _=>rfl
 | .prt _ _ _ _ _=>rfl
 | .hol _ _ _ _ _ _ _=>rfl
 | .mp _ _ _ _ _=>rfl
 | .pt _ _ _ _ _ _ _=>rfl
theorem Lf.cells_sz (η:Vn):(l:Lf)→(l.cells η).length=l.sz
 | .ar n s x=>Ty.fill_length _ _ _
 | .sl _=>rfl
 | .rp _ _ _ _ _=>rfl
 | .bp _ _=>rfl
 | .bq _ _ _ _ _=>rfl
 | .c _ _=>rfl
 | .nl=>rfl
 | .xt _ _=>rfl
 | .fn _=>rfl
 | .clo _ _=>rfl
 | .gp _ _ _ _ _=>rfl
 | .mp _=>rfl
 | .ars t xs=>by simp only [Lf.cells,Lf.sz]; rw [cx]; simp
 | .v _=>rfl
end
inductive TD
  | int (k:IntKind)
  | bool
  | str
  | slice (e:TypeId)
  | arr (n:Nat) (e:TypeId)
  | st (fs:List (TypeId×Nat))
  | ptr (e:TypeId)
  | map (k e:TypeId)
  | other
set_option linter.unusedSectionVars false
section
variable [X:XTab]
structure GEnt where
  g:Nat
  t:TC
  xs:List t.den
class GTab where
  gl:List GEnt
def GEnt.ha (e:GEnt):HA:=.gl e.g e.xs.length (cellsOf e.t.ty e.xs (List.replicate e.xs.length e.t.ref0))
variable [G:GTab]
def nR:List HA:=G.gl.map GEnt.ha
structure TInf where
  d:TD
  sz:Nat
  by_:Nat
  zl:List Lf
  tc:TC
def TD.agg:TD→Bool
  | .arr _ _=>true
  | .st _=>true
  | _=>false
def Ec:Vn:=⟨fun _=>eD,fun _=>0⟩
def TInf.zv (i:TInf):Value:=bif i.d.agg then .agg (au Ec i.zl).toArray else (au Ec i.zl).headD undef
def TInf.fits (P:Program) (t:TypeId):TD→Prop
  | .int k=>P.underlying t=some (.int k)
  | .bool=>P.underlying t=some .bool
  | .str=>P.underlying t=some .string
  | .slice e=>P.underlying t=some (.slice e)
  | .arr n e=>P.underlying t=some (.array n e)
  | .st fs=>∃ F,P.underlying t=some (.struct F)∧F.toList.map (fun f=>(f.type,f.offset))=fs
  | .ptr e=>P.underlying t=some (.pointer e)
  | .map k e=>P.underlying t=some (.map k e)
  | .other=>∃ d,P.underlying t=some d∧lk d=false
def TInf.ok (P:Program) (t:TypeId) (i:TInf):Prop:=TI P t i.sz i.by_ i.zv∧TInf.fits P t i.d∧i.zv.cells=(au Ec i.zl).toArray∧∀ η,au η i.zl=au Ec i.zl
abbrev Tb:=TypeId→Option TInf
def Tb.ok (Θ:Tb) (P:Program):Prop:=∀ t i,Θ t=some i→i.ok P t
def D5:List (TypeId×TInf)→Tb
  | [],_=>none
  | (a,i)::r,t=>bif Nat.beq t a then some i else D5 r t
def abL (P:Program):List (TypeId×TInf)→Prop
  | []=>True
  | (a,i)::r=>i.ok P a∧abL P r
theorem Jj {P:Program} : ∀ {l:List (TypeId×TInf)},abL P l→Tb.ok (D5 l) P
  | [],_,t,i,h=>by simp [D5] at h
  | (a,j)::r,hl,t,i,h=>by
    simp only [D5] at h
    cases hb:Nat.beq t a
    · rw [hb] at h; exact Jj hl.2 t i h
    · rw [hb] at h
      simp only [f9,Va] at h
      subst h
      rw [Vb hb]
      exact hl.1
structure Out where
  av:AV
  fs:List AF
  κ:List Nat
abbrev SE:=List (Nat×AV)
def bd (E:SE) (t:Nat):Option AV:=match E with
  | []=>none
  | (d,v)::r=>bif Nat.beq t d then some v else bd r t
def mL (η:Vn) (ρ:db) (E:SE):Prop:=∀ t v,bd E t=some v→ρ t=v.val η
def CW:Value→AV
  | .int k n=>.lf (.c (.int k) n)
  | .bool b=>.lf (.c .bool b)
  | .string s=>.lf (.c .str s.data.toList)
  | .slice none 0 0=>.lf .nl
  | v=>.lf (.v v)
theorem L2 (η:Vn) (v:Value):(CW v).val η=v:=by
  unfold CW
  split <;> simp [AV.val,Lf.val,eD,Hd.val]
def ev (E:SE):Operand→Option AV
  | .tmp t=>bd E t
  | .const v=>some (CW v)
  | .func f=>some (.lf (.fn f))
  | .global _=>none
theorem aM {η:Vn} {ρ:db} {E:SE} (h:mL η ρ E) {v:AV} (hx:ev E x=some v):aQ ρ x=v.val η:=by
  cases x with
  | tmp t=>exact h t v hx
  | const c=>simp only [ev,Va] at hx; subst hx; exact (L2 η c).symm
  | func f=>simp only [ev,Va] at hx; subst hx; rfl
  | global g=>simp [ev] at hx
def Kh (P:Program) (o:Oper) (E:SE) (F:List AF) (n:Nat) (u:Out):Prop:=∀ (η:Vn) (ρ:db),mL η ρ E →
  cU P ρ o (F.map (AF.ha η)) u.κ (fun y : { η' : Vn // η.agr n η' }=>u.av.val y.1) (fun y=>u.fs.map (AF.ha y.1))
def dw (P:Program) (o:Oper) (E:SE) (F:List AF) (n:Nat) (u:Out):Prop:=∀ (η:Vn) (ρ:db),mL η ρ E →
  cU P ρ o (F.map (AF.ha η)++nR) u.κ (fun y : { η' : Vn // η.agr n η' }=>u.av.val y.1) (fun y=>u.fs.map (AF.ha y.1))
theorem Vn.agr_refl (n:Nat) (η:Vn):η.agr n η:=fun _ _=>⟨rfl,rfl⟩
theorem Kh.up {E:SE} {F:List AF}  {u:Out} (h:Kh P o E F n u):dw P o E F n u:=
  fun η ρ hE a ev w c next Q ha hL hk=>h η ρ hE a ev w c next Q ha (fun A hA=>hL A (Ww _ hA)) hk
theorem dw.pure {E:SE} {F:List AF}  {av:AV} (h : ∀ η ρ,mL η ρ E→bi P ρ o (F.map (AF.ha η)) (av.val η)):Kh P o E F n ⟨av,[],[]⟩:=by
  intro η ρ hE a ev w c next Q ha hL hk
  rw [h η ρ hE ev w c ha hL]
  exact hk ⟨η,Vn.agr_refl n η⟩ w c (Stp.refl w c) (am.nil _ _)
def fD:Option Bool→Prop
  | none=>True
  | some b=>b=true
def ao {R:Type} (ex:Option Bool) (P:Program) (o:Oper) (E:SE) (F:List AF) (n:Nat) (m:Option R) (k:Out→Option R):Prop:=∀ r,m=some r→∃ u,k u=some r∧(fD ex→dw P o E F n u)
section
variable {R:Type} {P:Program} {o:Oper} {E:SE} {F:List AF} {n:Nat} {k:Out→Option R} {ex:Option Bool}
theorem ao.none:ao ex P o E F n none k:=fun _ h=>by cases h
theorem ao.of {u:Out} (h:fD ex→Kh P o E F n u):ao ex P o E F n (k u) k:=fun _ h' => ⟨u,h',fun hx=>(h hx).up⟩
theorem ao.ofG {u:Out} (h:fD ex→dw P o E F n u):ao ex P o E F n (k u) k:=fun _ h' => ⟨u,h',h⟩
theorem ao.bif {m:Option R} (h:b=true→ao ex P o E F n m k):ao ex P o E F n (bif b then m else .none) k:=fun r hr=>by
  cases b
  · cases hr
  · exact h rfl r hr
end
def gbind {α R:Type} (ex:Option Bool) (d:α) (m:Option α) (f:α→Option R):Option R:=match ex with
  | none=>m.bind f
  | some b=>(bif b then m else some d).bind f
def gchk {R:Type} (ex:Option Bool) (b:Bool) (m:Option R):Option R:=match ex with
  | none=>af b m
  | some e=>af (!e||b) m
theorem ao.gbind {α:Type} {E:SE} {F:List AF}  {k:Out→Option R}  {d:α} {m:Option α} {f:α→Option R} (h : ∀ x,(fD ex→m=some x)→ao ex P o E F n (f x) k):ao ex P o E F n (gbind ex d m f) k:=by
  intro r hr
  cases ex with
  | none=>
    obtain ⟨x,hx,hf⟩:=bind_some hr
    exact h x (fun _=>hx) r hf
  | some b=>
    obtain ⟨x,hx,hf⟩:=bind_some hr
    refine h x (fun hb=>?_) r hf
    cases hb
    exact hx
theorem ao.gchk {E:SE} {F:List AF}  {k:Out→Option R}   {m:Option R} (h:(fD ex→b=true)→ao ex P o E F n m k):ao ex P o E F n (gchk ex b m) k:=by
  intro r hr
  cases ex with
  | none=>
    obtain ⟨hb,hm⟩:=Jy hr
    exact h (fun _=>hb) r hm
  | some e=>
    obtain ⟨hb,hm⟩:=Jy hr
    refine h (fun he=>?_) r hm
    cases he
    simpa using hb
abbrev br (v:AV):Out:=⟨v,[],[]⟩
abbrev ge (k:IntKind) (x:Int):AV:=.lf (.c (.int k) x)
abbrev d5 (x:Bool):AV:=.lf (.c .bool x)
abbrev wE (x:List UInt8):AV:=.lf (.c .str x)
def w_ (k:IntKind) (x:Int):Int:=match k with
  | .i64=>ad x
  | k=>k.wrap x
theorem So (k:IntKind) (x:Int):w_ k x=k.wrap x:=by cases k <;> rfl
def XM {R:Type} (ex:Option Bool) (op:BinOp) (k:IntKind) (a b:Int) (kk:Out→Option R):Option R:=match op with
  | .add=>kk (br (ge k (w_ k (a+b))))
  | .sub=>kk (br (ge k (w_ k (a - b))))
  | .mul=>kk (br (ge k (w_ k (a * b))))
  | .quo=>gchk ex (!(b==0)) (kk (br (ge k (w_ k (Int.tdiv a b)))))
  | .rem=>gchk ex (!(b==0)) (kk (br (ge k (Int.tmod a b))))
  | .lss=>kk (br (d5 (decide (a<b))))
  | .leq=>kk (br (d5 (decide (a≤b))))
  | .gtr=>kk (br (d5 (decide (b<a))))
  | .geq=>kk (br (d5 (decide (b≤a))))
  | .eql=>kk (br (d5 (a==b)))
  | .neq=>kk (br (d5 (a != b)))
  | .and=>kk (br (ge k (oV .and k a b)))
  | .or=>kk (br (ge k (oV .or k a b)))
  | .xor=>kk (br (ge k (oV .xor k a b)))
  | .andNot=>kk (br (ge k (oV .andNot k a b)))
  | _=>none
theorem sf (h:(!b)=true):b=false:=by cases b <;> simp_all
theorem adR {E:SE} {F:List AF}   {op:BinOp} {t':TypeId}  {k:IntKind} {a b:Int} (ho:o.op = .binOp op t x y t')
    (h1:ev E x=some (ge k a)) (h2:ev E y=some (ge k b)) (kk:Out→Option R):ao ex P o E F n (XM ex op k a b kk) kk:=by
  have hev : ∀ η ρ,mL η ρ E→aQ ρ x = .int k a∧aQ ρ y = .int k b:=fun η ρ hE=>⟨aM hE h1,aM hE h2⟩
  cases op <;> simp only [XM] <;> first
    | exact ao.none
    | (refine ao.of fun hx=>(dw.pure fun η ρ hE=>?_); obtain ⟨e1,e2⟩:=hev η ρ hE; simp only [AV.val,Lf.val,So]
       first | exact aiW ho e1 e2 | exact aiK ho e1 e2 | exact aiJ ho e1 e2 | exact ai8 ho e1 e2 | exact aiQ ho e1 e2 | exact aiO ho e1 e2 | exact ai1 ho e1 e2 | exact ajo ho e1 e2 | exact ajg ho e1 e2 | exact ajj ho (by simp) e1 e2)
    | (refine ao.gchk fun hb=>ao.of fun hx=>(dw.pure fun η ρ hE=>?_); obtain ⟨e1,e2⟩:=hev η ρ hE; simp only [AV.val,Lf.val,So]
       first | exact ajh ho e1 e2 (sf (hb hx)) | exact aiZ ho e1 e2 (sf (hb hx)))
def OT {R:Type} (ex:Option Bool) (op:BinOp) (k:IntKind) (a b:Int) (kk:Out→Option R):Option R:=match op with
  | .shl=>gchk ex (decide (0≤b)) (kk (br (ge k (aig k a b))))
  | .shr=>gchk ex (decide (0≤b)) (kk (br (ge k (mV k a b))))
  | _=>none
theorem Mr {E:SE} {F:List AF}   {op:BinOp} {t':TypeId}  {k k' : IntKind} {a b:Int} (ho:o.op = .binOp op t x y t')
    (h1:ev E x=some (ge k a)) (h2:ev E y=some (ge k' b)) (kk:Out→Option R):ao ex P o E F n (OT ex op k a b kk) kk:=by
  have hev : ∀ η ρ,mL η ρ E→aQ ρ x = .int k a∧aQ ρ y = .int k' b:=fun η ρ hE=>⟨aM hE h1,aM hE h2⟩
  cases op <;> simp only [OT] <;> first
    | exact ao.none
    | (refine ao.gchk fun hb=>ao.of fun hx=>(dw.pure fun η ρ hE=>?_); obtain ⟨e1,e2⟩:=hev η ρ hE; simp only [AV.val,Lf.val]
       first | exact ajn ho e1 e2 (hb hx) | exact ai0 ho e1 e2 (hb hx))
end
section
variable [X:XTab] [G:GTab]
def TC.nh:TC→Nat
 | .sc _=>0
 | .arr _ _=>0
 | .unit=>0
 | .pair a b=>a.nh+b.nh
 | .slice _=>1
 | .st t=>t.nh
 | .ext _=>0
 | .node=>1
 | .mp _ _=>1
def cB:(t:TC)→t.ty.Refs→List Hd
 | .sc _,_=>[]
 | .arr _ _,_=>[]
 | .unit,_=>[]
 | .pair a b,y=>cB a y.1++cB b y.2
 | .slice _,h=>[h]
 | .st t,y=>cB t y
 | .ext _,_=>[]
 | .node,h=>[h]
 | .mp _ _,h=>[h]
def aN:(t:TC)→List Hd→t.ty.Refs
 | .sc _,_=>()
 | .arr _ _,_=>()
 | .unit,_=>()
 | .pair a b,l=>(aN a l,aN b (l.drop a.nh))
 | .slice _,l=>l.headD eD
 | .st t,l=>aN t l
 | .ext _,_=>()
 | .node,l=>l.headD eD
 | .mp _ _,l=>l.headD eD
theorem da:(t:TC)→(y:t.ty.Refs)→(cB t y).length=t.nh
 | .sc _,_=>rfl
 | .arr _ _,_=>rfl
 | .unit,_=>rfl
 | .pair a b,y=>by simp [cB,TC.nh,da a y.1,da b y.2]
 | .slice _,_=>rfl
 | .st t,y=>da t y
 | .ext _,_=>rfl
 | .node,_=>rfl
 | .mp _ _,_=>rfl
def Vn.set (η:Vn) (n:Nat) (l:List Hd):Vn:=⟨fun m=>bif Nat.ble n m&&Nat.blt m (n+l.length) then l.getD (m - n) eD else η.h m,η.b⟩
theorem Vn.set_at {η:Vn} {l:List Hd} {j:Nat} {h:Hd} (hj:l[j]? = some h):(η.set n l).h (n+j)=h:=by
 have hlt:=(VN.1 hj).1
 have h1:(Nat.ble n (n+j)&&Nat.blt (n+j) (n+l.length))=true:=by
  rw [Vf]; exact ⟨Wo (by omega),Wo (by omega)⟩
 simp only [Vn.set,h1,f9,show n+j - n=j by omega]
 rw [WT,hj]; rfl
theorem Vn.set_agr {η:Vn} {l:List Hd} (hl:l.length≤64):η.agr n (η.set n l):=by
 intro m hm
 refine ⟨?_,rfl⟩
 have:(Nat.ble n m&&Nat.blt m (n+l.length))=false:=by
  cases hb:(Nat.ble n m&&Nat.blt m (n+l.length))
  ·rfl
  ·simp only [Vf] at hb
   have h1:=Vg hb.1
   have h2:m+1≤n+l.length:=Vg hb.2
   simp only [bk,Yi] at hm
   rcases hm with hm | hm
   ·have:m+1≤n:=Vg hm; omega
   ·have:=Vg hm; omega
 simp only [Vn.set,this,no]
def jq:(t:TC)→t.den→Nat→List Lf
 | .sc s,x,_=>[.c s x]
 | .arr n s,x,_=>[.ar n s x]
 | .unit,_,_=>[]
 | .pair a b,x,n=>jq a x.1 n++jq b x.2 (n+a.nh)
 | .slice _,_,n=>[.sl n]
 | .st t,x,n=>jq t x n
 | .ext k,x,_=>[.xt k x]
 | .node,x,n=>[.c (.int .i64) x.tup.1, .c .str x.tup.2.1, .c (.int .i64) x.tup.2.2.1, .sl n]
 | .mp _ _,_,n=>[.mp n]
def sK:(t:TC)→t.den→List Nat→Nat→List AF
 | .sc _,_,_,_=>[]
 | .arr _ _,_,_,_=>[]
 | .unit,_,_,_=>[]
 | .pair a b,x,K,n=>sK a x.1 K n++sK b x.2 K (n+a.nh)
 | .slice t,x,K,n=>[.rep t K x n]
 | .st t,x,K,n=>sK t x K n
 | .ext _,_,_,_=>[]
 | .node,x,K,n=>[.rep .node K x.tup.2.2.2 n]
 | .mp _ _,_,_,_=>[]
theorem bc (η:Vn):(a b:List Lf)→au η (a++b)=au η a++au η b
 | [],_=>rfl
 | l::r,b=>by simp [au,bc η r b]
def dz (η:Vn) (n:Nat) (l:List Hd):Prop:=∀ j h,l[j]? = some h→η.h (n+j)=h
theorem dz.left {η:Vn} {a b:List Hd} (h:dz η n (a++b)):dz η n a:=fun j x hj=>h j x (by
 rw [Yq (VN.1 hj).1]; exact hj)
theorem dz.right {η:Vn} {k:Nat} {a b:List Hd} (h:dz η n (a++b)) (hk:a.length=k):dz η (n+k) b:=fun j x hj=>by
 have:=h (k+j) x (by rw [Yf (by omega)]; rw [show k+j - a.length=j by omega]; exact hj)
 rw [show n+k+j=n+(k+j) by omega]; exact this
theorem ov {η:Vn}:(t:TC)→(x:t.den)→(y:t.ty.Refs)→(n:Nat)→dz η n (cB t y)→au η (jq t x n)=t.ty.fill x y
 | .sc _,_,_,_,_=>rfl
 | .arr _ _,_,_,_,_=>by simp [jq,au,Lf.cells,Ty.fill]
 | .unit,_,_,_,_=>rfl
 | .pair a b,x,y,n,h=>by
  simp only [jq,bc,Ty.fill]
  rw [ov a x.1 y.1 n h.left,ov b x.2 y.2 (n+a.nh) (h.right (da a y.1))]
 | .slice _,x,y,n,h=>by
  have:=h 0 y rfl
  simp only [W4] at this
  simp [jq,au,Lf.cells,Ty.fill,this]
 | .st t,x,y,n,h=>ov t x y n h
 | .ext _,_,_,_,_=>rfl
 | .node,x,y,n,h=>by
  have:=h 0 y rfl
  simp only [W4] at this
  simp [jq,au,Lf.cells,Ty.fill,Nd.fill,this]
 | .mp _ _,x,y,n,h=>by
  have:=h 0 y rfl
  simp only [W4] at this
  simp [jq,au,Lf.cells,Ty.fill,this]
theorem mB {η:Vn} {K:List Nat}:(t:TC)→(x:t.den)→(y:t.ty.Refs)→(n:Nat)→dz η n (cB t y)→(sK t x K n).map (AF.ha η)=facts t.ty K x y
 | .sc _,_,_,_,_=>rfl
 | .arr _ _,_,_,_,_=>rfl
 | .unit,_,_,_,_=>rfl
 | .pair a b,x,y,n,h=>by
  simp only [sK,Ym,facts]
  rw [mB a x.1 y.1 n h.left,mB b x.2 y.2 (n+a.nh) (h.right (da a y.1))]
 | .slice _,x,y,n,h=>by
  have:=h 0 y rfl
  simp only [W4] at this
  simp [sK,AF.ha,facts,this]
 | .st t,x,y,n,h=>mB t x y n h
 | .ext _,_,_,_,_=>rfl
 | .mp _ _,_,_,_,_=>rfl
 | .node,x,y,n,h=>by
  have:=h 0 y rfl
  simp only [W4] at this
  simp [sK,AF.ha,facts,this]
structure SI (t:TC) where
 own:Option (TypeId×Nat)
 K:List Nat
 xs:List t.den
def SI.all {t:TC} (s:SI t):List Nat:=match s.own with
 | none=>s.K
 | some p=>p.2::s.K
def SI.nk {t:TC} (s:SI t):List Nat:=match s.own with
 | none=>s.K
 | some p=>match eW p.1 with
  | true=>p.2::s.K
  | false=>s.K
def BV {t t' : TC} (h:t' = t) (xs:List t'.den):List t.den:=h ▸ xs
def my (t:TC) (h:Nat):List AF→Option (SI t)
 | []=>none
 | .own t' e i K xs h' :: r=>bif Nat.beq h h' then (if he:t' = t then some ⟨some (e,i),K,BV he xs⟩ else none) else my t h r
 | .rep t' K xs h' :: r=>bif Nat.beq h h' then (if he:t' = t then some ⟨none,K,BV he xs⟩ else none) else my t h r
 | .box _ _ _::r=>my t h r
 | .isn _ _::r=>my t h r
 | .prt _ _ _ _ _::r=>my t h r
 | .hol _ _ _ _ _ _ _::r=>my t h r
 | .mp _ _ _ _ _::r=>my t h r
 | .pt _ _ _ _ _ _ _::r=>my t h r
def SI.fact {t:TC} (s:SI t) (h:Nat):AF:=match s.own with
 | none=>.rep t s.K s.xs h
 | some p=>.own t p.1 p.2 s.K s.xs h
theorem gt {t:TC} {h:Nat} : ∀ {F:List AF} {s:SI t},my t h F=some s→s.fact h∈F
 | [],s,hs=>by simp [my] at hs
 | .own t' e i K xs h' :: r,s,hs=>by
  simp only [my] at hs
  cases hb:Nat.beq h h'
  ·rw [hb] at hs; exact Vi _ (gt hs)
  ·rw [hb] at hs
   simp only [f9] at hs
   split at hs
   ·rename_i he
    subst he
    simp only [Va] at hs
    subst hs
    rw [Vb hb]
    exact VU
   ·cases hs
 | .rep t' K xs h' :: r,s,hs=>by
  simp only [my] at hs
  cases hb:Nat.beq h h'
  ·rw [hb] at hs; exact Vi _ (gt hs)
  ·rw [hb] at hs
   simp only [f9] at hs
   split at hs
   ·rename_i he
    subst he
    simp only [Va] at hs
    subst hs
    rw [Vb hb]
    exact VU
   ·cases hs
 | .box _ _ _::r,s,hs=>Vi _ (gt (F:=r) hs)
 | .isn _ _::r,s,hs=>Vi _ (gt (F:=r) hs)
 | .prt _ _ _ _ _::r,s,hs=>Vi _ (gt (F:=r) hs)
 | .hol _ _ _ _ _ _ _::r,s,hs=>Vi _ (gt (F:=r) hs)
 | .mp _ _ _ _ _::r,s,hs=>Vi _ (gt (F:=r) hs)
 | .pt _ _ _ _ _ _ _::r,s,hs=>Vi _ (gt (F:=r) hs)
def nJ (h:Nat):List AF→Option (Nat×Nat×Int×Int)
 | []=>none
 | .prt h' h0 sz lo hi::r=>bif Nat.beq h h' then some (h0,sz,lo,hi) else nJ h r
 | .own _ _ _ _ _ _::r=>nJ h r
 | .rep _ _ _ _::r=>nJ h r
 | .box _ _ _::r=>nJ h r
 | .isn _ _::r=>nJ h r
 | .hol _ _ _ _ _ _ _::r=>nJ h r
 | .mp _ _ _ _ _::r=>nJ h r
 | .pt _ _ _ _ _ _ _::r=>nJ h r
theorem iM {h:Nat} : ∀ {F:List AF} {h0 sz:Nat} {lo hi:Int},nJ h F=some (h0,sz,lo,hi)→.prt h h0 sz lo hi∈F
 | [],_,_,_,_,hs=>by simp [nJ] at hs
 | .prt h' h1 sz' lo' hi' :: r,h0,sz,lo,hi,hs=>by
  simp only [nJ] at hs
  cases hb:Nat.beq h h'
  ·rw [hb] at hs; exact Vi _ (iM hs)
  ·rw [hb] at hs
   simp only [f9,Va,VI] at hs
   obtain ⟨rfl,rfl,rfl,rfl⟩:=hs
   rw [Vb hb]
   exact VU
 | .own _ _ _ _ _ _::r,_,_,_,_,hs=>Vi _ (iM (F:=r) hs)
 | .rep _ _ _ _::r,_,_,_,_,hs=>Vi _ (iM (F:=r) hs)
 | .box _ _ _::r,_,_,_,_,hs=>Vi _ (iM (F:=r) hs)
 | .isn _ _::r,_,_,_,_,hs=>Vi _ (iM (F:=r) hs)
 | .hol _ _ _ _ _ _ _::r,_,_,_,_,hs=>Vi _ (iM (F:=r) hs)
 | .mp _ _ _ _ _::r,_,_,_,_,hs=>Vi _ (iM (F:=r) hs)
 | .pt _ _ _ _ _ _ _::r,_,_,_,_,hs=>Vi _ (iM (F:=r) hs)
structure MI (k v:TC) where
 i:Nat
 xs:List (k.den×v.den)
def aiT {k v k' v' : TC} (h:k' = k∧v' = v) (xs:List (k'.den×v'.den)):List (k.den×v.den):=by
 obtain ⟨h1,h2⟩:=h
 subst h1 h2
 exact xs
def tK (k v:TC) (h:Nat):List AF→Option (MI k v)
 | []=>none
 | .mp k' v' i xs h' :: r=>bif Nat.beq h h' then (if he:k' = k∧v' = v then some ⟨i,aiT he xs⟩ else none) else tK k v h r
 | _::r=>tK k v h r
theorem jl {k v:TC} {h:Nat} : ∀ {F:List AF} {s:MI k v},tK k v h F=some s→.mp k v s.i s.xs h∈F
 | [],s,hs=>by simp [tK] at hs
 | .mp k' v' i xs h' :: r,s,hs=>by
  simp only [tK] at hs
  cases hb:Nat.beq h h'
  ·rw [hb] at hs; exact Vi _ (jl hs)
  ·rw [hb] at hs
   simp only [f9] at hs
   split at hs
   ·rename_i he
    obtain ⟨rfl,rfl⟩:=he
    simp only [Va] at hs
    subst hs
    rw [Vb hb]
    exact VU
   ·cases hs
 | .own _ _ _ _ _ _::r,s,hs=>Vi _ (jl (F:=r) hs)
 | .rep _ _ _ _::r,s,hs=>Vi _ (jl (F:=r) hs)
 | .box _ _ _::r,s,hs=>Vi _ (jl (F:=r) hs)
 | .isn _ _::r,s,hs=>Vi _ (jl (F:=r) hs)
 | .prt _ _ _ _ _::r,s,hs=>Vi _ (jl (F:=r) hs)
 | .hol _ _ _ _ _ _ _::r,s,hs=>Vi _ (jl (F:=r) hs)
 | .pt _ _ _ _ _ _ _::r,s,hs=>Vi _ (jl (F:=r) hs)
structure PI (t:TC) where
 e:TypeId
 i:Nat
 K:List Nat
 xs:List t.den
 m:Int
def yU (t:TC) (h:Nat):List AF→Option (PI t)
 | []=>none
 | .pt t' e i K xs h' m::r=>bif Nat.beq h h' then (if he:t' = t then some ⟨e,i,K,BV he xs,m⟩ else none) else yU t h r
 | _::r=>yU t h r
theorem nD {t:TC} {h:Nat} : ∀ {F:List AF} {s:PI t},yU t h F=some s→.pt t s.e s.i s.K s.xs h s.m∈F
 | [],s,hs=>by simp [yU] at hs
 | .pt t' e i K xs h' m::r,s,hs=>by
  simp only [yU] at hs
  cases hb:Nat.beq h h'
  ·rw [hb] at hs; exact Vi _ (nD hs)
  ·rw [hb] at hs
   simp only [f9] at hs
   split at hs
   ·rename_i he
    subst he
    simp only [Va] at hs
    subst hs
    rw [Vb hb]
    exact VU
   ·cases hs
 | .own _ _ _ _ _ _::r,s,hs=>Vi _ (nD (F:=r) hs)
 | .rep _ _ _ _::r,s,hs=>Vi _ (nD (F:=r) hs)
 | .box _ _ _::r,s,hs=>Vi _ (nD (F:=r) hs)
 | .isn _ _::r,s,hs=>Vi _ (nD (F:=r) hs)
 | .prt _ _ _ _ _::r,s,hs=>Vi _ (nD (F:=r) hs)
 | .hol _ _ _ _ _ _ _::r,s,hs=>Vi _ (nD (F:=r) hs)
 | .mp _ _ _ _ _::r,s,hs=>Vi _ (nD (F:=r) hs)
def io (t:TC) (F:List AF):Lf→Option (SI t)
 | .sl h=>my t h F
 | .nl=>some ⟨none,[],[]⟩
 | _=>none
def Lf.hd (η:Vn):Lf→Hd
 | .sl h=>η.h h
 | .bp b _=>⟨some ⟨η.b b,0,none⟩,0,0⟩
 | .clo _ b=>⟨some ⟨η.b b,0,none⟩,0,0⟩
 | .mp h=>η.h h
 | _=>eD
theorem nE {t:TC} {F:List AF} {l:Lf} {s:SI t} (h:io t F l=some s) (η:Vn):l.val η=(l.hd η).val∧l.cells η=[(l.hd η).val]:=by
 cases l <;> simp [io] at h <;> exact ⟨rfl,rfl⟩
theorem kp {t:TC} {F:List AF} {l:Lf} {s:SI t} (h:io t F l=some s) {η:Vn} {w:World} {c:bu} (hF:am w c (F.map (AF.ha η))):HA.holds w c (.rep t.ty s.all s.xs (l.hd η)):=by
 cases l with
 | sl n=>
  have hm:=hF _ (VO.2 ⟨_,gt h,rfl⟩)
  obtain ⟨own,K,xs⟩:=s
  cases own with
  | none=>exact hm
  | some p=>exact H2 hm
 | nl=>
  simp only [io,Va] at h
  subst h
  exact ry w c
 | _=>simp [io] at h
def gf (t:TC) (e:TypeId) (N:Nat) (F:List AF):Lf→Option (Nat×List Nat×List t.den)
 | .sl h=>match my t h F with
  | some ⟨some (e',i),K,xs⟩=>bif Nat.beq e e' then some (i,K,xs) else none
  | _=>none
 | .nl=>some (N,[],[])
 | _=>none
theorem fR {t:TC} {e:TypeId} {F:List AF} {l:Lf} {i:Nat} {K:List Nat} {xs:List t.den} (h:gf t e N F l=some (i,K,xs)) {η:Vn} {w:World} {c:bu} (hF:am w c (F.map (AF.ha η))) :
  HA.holds w c (dR t.ty e i K xs (l.hd η)):=by
 cases l with
 | sl n=>
  simp only [gf] at h
  split at h
  ·rename_i e' i' K' xs' hs
   cases hb:Nat.beq e e'
   ·rw [hb] at h; cases h
   ·rw [hb] at h
    simp only [f9,Va,VI] at h
    obtain ⟨rfl,rfl,rfl⟩:=h
    rw [Vb hb]
    exact hF _ (VO.2 ⟨_,gt hs,rfl⟩)
  ·cases h
 | nl=>
  simp only [gf,Va,VI] at h
  obtain ⟨rfl,rfl,rfl⟩:=h
  exact rZ w c
 | _=>simp [gf] at h
theorem pK {t:TC} {e:TypeId} {F:List AF} {l:Lf} {r:Nat×List Nat×List t.den} (h:gf t e N F l=some r) (η:Vn):l.val η=(l.hd η).val:=by
 cases l <;> simp [gf] at h <;> rfl
def BA {t t' : SC} (h:t' = t) (x:t'.den):t.den:=h ▸ x
def yr {t t' : SC} (h:t' = t) (x:List t'.den):List t.den:=h ▸ x
def ac0 {n m:Nat} (h:m=n) (x:X.den m):X.den n:=h ▸ x
def C9 (F:List AF):List Lf→Option (Nd×List Lf×List Nat×List Lf)
 | .c (.int .i64) k :: .c .str tx :: .c (.int .i64) m::l::r=>match io .node F l with
  | some s=>some (Nd.of (k,tx,m,s.xs),[l],s.all,r)
  | none=>none
 | _=>none
theorem yW {F:List AF} {ls:List Lf} {x:Nd} {l:List Lf} {K:List Nat} {r:List Lf} (h:C9 F ls=some (x,l,K,r)) : ∃ k tx m a s,ls = .c (.int .i64) k :: .c .str tx :: .c (.int .i64) m::a::r∧io .node F a=some s∧x=Nd.of (k,tx,m,s.xs)∧l=[a]∧K=s.all:=by
 unfold C9 at h
 split at h
 ·split at h
  ·rename_i s hs
   simp only [Va,VI] at h
   obtain ⟨rfl,rfl,rfl,rfl⟩:=h
   exact ⟨_,_,_,_,s,rfl,hs,rfl,rfl,rfl⟩
  ·cases h
 ·cases h
def bW (F:List AF):(t:TC)→List Lf→Option (t.den×List Lf×List Nat×List Lf)
 | .sc s, .c s' x::r=>if h:s' = s then some (BA h x,[],[],r) else none
 | .sc s, .fn f::r=>if h:SC.fnc=s then some (BA h f,[],[],r) else none
 | .arr n s, .ar n' s' x::r=>if h:s' = s∧n' = n then some (yr h.1 x,[],[],r) else none
 | .unit,r=>some ((),[],[],r)
 | .pair a b,r=>match bW F a r with
  | some (x,l1,K1,r1)=>match bW F b r1 with
   | some (y,l2,K2,r2)=>some ((x,y),l1++l2,K1++K2,r2)
   | none=>none
  | none=>none
 | .slice t,l::r=>match io t F l with
  | some s=>some (s.xs,[l],s.all,r)
  | none=>none
 | .st t,r=>bW F t r
 | .ext n, .xt m x::r=>if h:m=n then some (ac0 h x,[],[],r) else none
 | .node,r=>C9 F r
 | .mp k v, .mp h::r=>some ((match tK k v h F with | some s=>s.xs | none=>[]),[.mp h],[],r)
 | _,_=>none
def aS (η:Vn) (ls:List Lf):List Hd:=ls.map (Lf.hd η)
theorem d9 {F:List AF} : ∀ (t:TC) {ls:List Lf} {x:t.den} {l:List Lf} {K:List Nat} {r:List Lf},bW F t ls=some (x,l,K,r)→l.length=t.nh
 | .sc s,ls,x,l,K,r,h=>by
  cases ls with
  | nil=>simp [bW] at h
  | cons a ls=>
   cases a <;> simp only [bW] at h <;> try cases h
   all_goals split at h
   all_goals first | (simp only [Va,VI] at h; obtain ⟨_,rfl,_,_⟩:=h; rfl) | cases h
 | .arr n s,ls,x,l,K,r,h=>by
  cases ls with
  | nil=>simp [bW] at h
  | cons a ls=>
   cases a <;> simp only [bW] at h <;> try cases h
   split at h
   ·simp only [Va,VI] at h
    obtain ⟨_,rfl,_,_⟩:=h
    rfl
   ·cases h
 | .unit,ls,x,l,K,r,h=>by simp [bW] at h; rw [h.1]; rfl
 | .pair a b,ls,x,l,K,r,h=>by
  simp only [bW] at h
  split at h
  ·rename_i x1 l1 K1 r1 h1
   split at h
   ·rename_i x2 l2 K2 r2 h2
    simp only [Va,VI] at h
    rw [← h.2.1,Vs,d9 a h1,d9 b h2]; rfl
   ·cases h
  ·cases h
 | .st t,ls,x,l,K,r,h=>d9 t h
 | .slice t,ls,x,l,K,r,h=>by
  cases ls with
  | nil=>simp [bW] at h
  | cons a ls=>
   simp only [bW] at h
   split at h
   ·simp only [Va,VI] at h
    rw [← h.2.1]; rfl
   ·cases h
 | .ext n,ls,x,l,K,r,h=>by
  cases ls with
  | nil=>simp [bW] at h
  | cons a ls=>
   cases a <;> simp only [bW] at h <;> try cases h
   split at h
   ·simp only [Va,VI] at h
    obtain ⟨_,rfl,_,_⟩:=h
    rfl
   ·cases h
 | .node,ls,x,l,K,r,h=>by
  obtain ⟨k,tx,m,a,s,_,_,_,rfl,_⟩:=yW (show C9 F ls=_ from h)
  rfl
 | .mp k v,ls,x,l,K,r,h=>by
  cases ls with
  | nil=>simp [bW] at h
  | cons a ls=>
   cases a with
   | mp hh=>
    simp only [bW,Va,VI] at h
    rw [← h.2.1]; rfl
   | _=>simp [bW] at h
theorem dK:(t:TC)→(l1 l2:List Hd)→l1.length=t.nh→aN t (l1++l2)=aN t l1
 | .sc _,_,_,_=>rfl
 | .arr _ _,_,_,_=>rfl
 | .unit,_,_,_=>rfl
 | .pair a b,l1,l2,h=>by
  simp only [TC.nh] at h
  have e:l1=l1.take a.nh++l1.drop a.nh:=(acG _ _).symm
  have hl:(l1.take a.nh).length=a.nh:=by simp; omega
  simp only [aN]
  have e1:aN a (l1++l2)=aN a (l1.take a.nh):=by
   rw [e,V8,dK a _ _ hl,← e]
  have e2:aN a l1=aN a (l1.take a.nh):=by
   have:=dK a (l1.take a.nh) (l1.drop a.nh) hl
   rwa [← e] at this
  rw [e1,e2,W6,show a.nh - l1.length=0 by omega,Yw,dK b _ _ (by simp; omega)]
 | .slice _,[],_,h=>by simp [TC.nh] at h
 | .slice _,_::_,_,_=>rfl
 | .st t,l1,l2,h=>dK t l1 l2 h
 | .ext _,_,_,_=>rfl
 | .node,[],_,h=>by simp [TC.nh] at h
 | .node,_::_,_,_=>rfl
 | .mp _ _,[],_,h=>by simp [TC.nh] at h
 | .mp _ _,_::_,_,_=>rfl
theorem dP {F:List AF} {η:Vn} : ∀ (t:TC) {ls:List Lf} {x:t.den} {l:List Lf} {K:List Nat} {r:List Lf},bW F t ls=some (x,l,K,r) →
  au η ls=t.ty.fill x (aN t (aS η l))++au η r ∧
  ∀ (w:World) (c:bu) (K' : List Nat),am w c (F.map (AF.ha η))→(∀ k∈K,k∈K')→bM w (fun b=>c b∈K') t.ty x (aN t (aS η l))
 | .sc s,ls,x,l,K,r,h=>by
  cases ls with
  | nil=>simp [bW] at h
  | cons a ls=>
   cases a <;> simp only [bW] at h <;> try cases h
   all_goals split at h
   all_goals first | cases h; done | skip
   all_goals
    rename_i he
    subst he
    simp only [Va,VI] at h
    obtain ⟨rfl,rfl,rfl,rfl⟩:=h
    exact ⟨rfl,fun _ _ _ _ _=>trivial⟩
 | .arr n s,ls,x,l,K,r,h=>by
  cases ls with
  | nil=>simp [bW] at h
  | cons a ls=>
   cases a <;> simp only [bW] at h <;> try cases h
   split at h
   ·rename_i he
    obtain ⟨rfl,rfl⟩:=he
    simp only [Va,VI] at h
    obtain ⟨rfl,rfl,rfl,rfl⟩:=h
    exact ⟨rfl,fun _ _ _ _ _=>trivial⟩
   ·cases h
 | .unit,ls,x,l,K,r,h=>by
  simp only [bW,Va,VI] at h
  obtain ⟨_,rfl,rfl,rfl⟩:=h
  exact ⟨rfl,fun _ _ _ _ _=>trivial⟩
 | .pair a b,ls,x,l,K,r,h=>by
  simp only [bW] at h
  split at h
  ·rename_i x1 l1 K1 r1 h1
   split at h
   ·rename_i x2 l2 K2 r2 h2
    simp only [Va,VI] at h
    obtain ⟨rfl,rfl,rfl,rfl⟩:=h
    obtain ⟨c1,f1⟩:=dP (η:=η) a h1
    obtain ⟨c2,f2⟩:=dP (η:=η) b h2
    have hn:(aS η l1).length=a.nh:=by simp [aS,d9 a h1]
    have e1:aN a (aS η (l1++l2))=aN a (aS η l1):=by
     rw [show aS η (l1++l2)=aS η l1++aS η l2 by simp [aS],dK a _ _ hn]
    have e2:aN b ((aS η (l1++l2)).drop a.nh)=aN b (aS η l2):=by
     rw [show aS η (l1++l2)=aS η l1++aS η l2 by simp [aS],W6,Wq (by omega),show a.nh - (aS η l1).length=0 by omega]
     rfl
    refine ⟨?_,fun w c K' hF hK=>⟨?_,?_⟩⟩
    ·simp only [aN,Ty.fill]
     rw [e1,e2,c1,c2,V8]
    ·show bM w _ a.ty x1 (aN a _)
     rw [e1]; exact f1 w c K' hF fun k hk=>hK k (Ww _ hk)
    ·show bM w _ b.ty x2 (aN b _)
     rw [e2]; exact f2 w c K' hF fun k hk=>hK k (WQ _ hk)
   ·cases h
  ·cases h
 | .slice t,ls,x,l,K,r,h=>by
  cases ls with
  | nil=>simp [bW] at h
  | cons a ls=>
   simp only [bW] at h
   split at h
   ·rename_i s hs
    simp only [Va,VI] at h
    obtain ⟨rfl,rfl,rfl,rfl⟩:=h
    refine ⟨?_,fun w c K' hF hK=>?_⟩
    ·simp only [au,(nE hs η).2]; rfl
    ·exact bM.keep (S:=fun b=>c b∈s.all) (fun b _ hb=>⟨hK _ hb,rfl⟩) (.slice t.ty) s.xs (a.hd η) (kp hs hF)
   ·cases h
 | .st t,ls,x,l,K,r,h=>dP t h
 | .ext n,ls,x,l,K,r,h=>by
  cases ls with
  | nil=>simp [bW] at h
  | cons a ls=>
   cases a <;> simp only [bW] at h <;> try cases h
   split at h
   ·rename_i he
    subst he
    simp only [Va,VI] at h
    obtain ⟨rfl,rfl,rfl,rfl⟩:=h
    exact ⟨rfl,fun _ _ _ _ _=>trivial⟩
   ·cases h
 | .node,ls,x,l,K,r,h=>by
  obtain ⟨k,tx,m,a,s,rfl,hs,rfl,rfl,rfl⟩:=yW (show C9 F ls=_ from h)
  refine ⟨?_,fun w c K' hF hK=>?_⟩
  ·simp only [au,(nE hs η).2]; rfl
  ·exact oo.2 (bM.keep (S:=fun b=>c b∈s.all) (fun b _ hb=>⟨hK _ hb,rfl⟩) (.slice .node) s.xs (a.hd η) (kp hs hF))
 | .mp k v,ls,x,l,K,r,h=>by
  cases ls with
  | nil=>simp [bW] at h
  | cons a ls=>
   cases a with
   | mp hh=>
    simp only [bW,Va,VI] at h
    obtain ⟨rfl,rfl,rfl,rfl⟩:=h
    exact ⟨rfl,fun _ _ _ _ _=>trivial⟩
   | _=>simp [bW] at h
end
section
variable [X:XTab] [G:GTab]
theorem cU.map {ρ:db}  {L:List HA} {κ:List Nat} {Y Y' : Type} {val:Y→Value} {Φ:Y→List HA} {val' : Y' → Value} {Φ' : Y' → List HA} (g:Y→Y')
  (h:cU P ρ o L κ val Φ) (hv : ∀ y,val y=val' (g y)) (hΦ : ∀ y,Φ y=Φ' (g y)):cU P ρ o L κ val' Φ' := by
 intro a ev w c next Q ha hL hk
 refine h a ev w c next Q ha hL fun y w' c' hs hF=>?_
 rw [hv y]
 exact hk (g y) w' c' hs (hΦ y ▸ hF)
theorem mj {F:List AF} {f:AF} (h:f∈F) (η:Vn) : ∃ k:Nat,(F.map (AF.ha η))[k]? = some (f.ha η):=by
 obtain ⟨k,hk⟩:=afd.1 h
 exact ⟨k,by simp [hk]⟩
def Vn.setB (η:Vn) (n b:Nat):Vn:=⟨η.h,fun m=>bif Nat.beq m n then b else η.b m⟩
theorem Vn.setB_agr (η:Vn) (n b:Nat):η.agr n (η.setB n b):=by
 intro m hm
 refine ⟨rfl,?_⟩
 have:Nat.beq m n=false:=by
  cases hb:Nat.beq m n
  ·rfl
  ·have:=Vb hb
   subst this
   simp only [bk,Yi] at hm
   rcases hm with hm | hm
   ·have:m+1≤m:=Vg hm; omega
   ·have:=Vg hm; omega
 simp only [Vn.setB,this,no]
theorem Vn.setB_at (η:Vn) (n b:Nat):(η.setB n b).b n=b:=by simp [Vn.setB]
def Vn.setH (η:Vn) (n:Nat) (h:Hd):Vn:=⟨fun m=>bif Nat.beq m n then h else η.h m,η.b⟩
theorem Vn.setH_agr (η:Vn) (n:Nat) (h:Hd):η.agr n (η.setH n h):=by
 intro m hm
 refine ⟨?_,rfl⟩
 have:Nat.beq m n=false:=by
  cases hb:Nat.beq m n
  ·rfl
  ·have:=Vb hb
   subst this
   simp only [bk,Yi] at hm
   rcases hm with hm | hm
   ·have:m+1≤m:=Vg hm; omega
   ·have:=Vg hm; omega
 simp only [Vn.setH,this,no]
theorem Vn.setH_at (η:Vn) (n:Nat) (h:Hd):(η.setH n h).h n=h:=by simp [Vn.setH]
def Lf.one1:Lf→Bool
 | .v x=>x.oneCell'
 | _=>true
def rM:List Lf→Bool
 | []=>true
 | l::r=>l.one1&&rM r
theorem QO {η:Vn} {l:Lf} (h:l.one1=true) : ∀ u∈l.cells η,u.oneCell' = true:=by
 cases l with
 | ar n s x=>exact uT (TC.arr n s).ty x ()
 | ars t xs=>exact kM t.ty
 | c s x=>intro u hu; simp [Lf.cells] at hu; subst hu; exact s.one x
 | xt n x=>intro u hu; simp [Lf.cells] at hu; subst hu; exact X.one n x
 | v x=>intro u hu; simp [Lf.cells] at hu; subst hu; exact h
 | _=>intro u hu; simp [Lf.cells] at hu; subst hu; rfl
theorem nF {η:Vn} : ∀ {ls:List Lf},rM ls=true→∀ u∈au η ls,u.oneCell' = true
 | [],_,u,hu=>by simp [au] at hu
 | l::r,h,u,hu=>by
  simp only [rM,Vf] at h
  simp only [au,Wc] at hu
  rcases hu with hu | hu
  ·exact QO h.1 u hu
  ·exact nF h.2 u hu
def AV.lvs:AV→Option (List Lf)
 | .lf l=>bif l.one1 then some [l] else none
 | .ag ls=>bif rM ls then some ls else none
 | .tu _=>none
theorem AV.lvs_one {v:AV} {ls:List Lf} (h:v.lvs=some ls):rM ls=true:=by
 cases v with
 | lf l=>
  simp only [AV.lvs] at h
  cases hb:l.one1
  ·rw [hb] at h; cases h
  ·rw [hb] at h; simp at h; subst h; simp [rM,hb]
 | ag l=>
  simp only [AV.lvs] at h
  cases hb:rM l
  ·rw [hb] at h; cases h
  ·rw [hb] at h; simp at h; subst h; exact hb
 | tu _=>cases h
theorem sv {x:Value} (h:x.oneCell' = true):x.cells = #[x]:=by
 cases x <;> first | rfl | (simp [Value.oneCell'] at h)
theorem AV.lvs_cells {v:AV} {ls:List Lf} (h:v.lvs=some ls) (η:Vn):(v.val η).cells=(au η ls).toArray:=by
 cases v with
 | lf l=>
  simp only [AV.lvs] at h
  cases hb:l.one1
  ·rw [hb] at h; cases h
  ·rw [hb] at h
   simp only [f9,Va] at h
   subst h
   cases l with
   | ar n s x=>simp [AV.val,Lf.val,au,Lf.cells,Value.cells]
   | ars t xs=>simp [AV.val,Lf.val,au,Lf.cells,Value.cells]
   | c s x=>exact sv (s.one x)
   | xt n x=>exact sv (X.one n x)
   | v x=>exact sv hb
   | _=>rfl
 | ag l=>
  simp only [AV.lvs] at h
  cases hb:rM l
  ·rw [hb] at h; cases h
  ·rw [hb] at h; simp at h; subst h; rfl
 | tu _=>cases h
def kN (b:Nat):List AF→Option (Nat×List Lf)
 | []=>none
 | .box i b' cs::r=>bif Nat.beq b b' then some (i,cs) else kN b r
 | _::r=>kN b r
theorem fU {b:Nat} : ∀ {F:List AF} {i:Nat} {cs:List Lf},kN b F=some (i,cs)→.box i b cs∈F
 | [],_,_,h=>by simp [kN] at h
 | .box i b' cs::r,i',cs',h=>by
  simp only [kN] at h
  cases hb:Nat.beq b b'
  ·rw [hb] at h; exact Vi _ (fU h)
  ·rw [hb] at h
   simp only [f9,Va,VI] at h
   obtain ⟨rfl,rfl⟩:=h
   rw [Vb hb]
   exact VU
 | .own _ _ _ _ _ _::r,_,_,h=>Vi _ (fU (F:=r) h)
 | .rep _ _ _ _::r,_,_,h=>Vi _ (fU (F:=r) h)
 | .isn _ _::r,_,_,h=>Vi _ (fU (F:=r) h)
 | .prt _ _ _ _ _::r,_,_,h=>Vi _ (fU (F:=r) h)
 | .hol _ _ _ _ _ _ _::r,_,_,h=>Vi _ (fU (F:=r) h)
 | .mp _ _ _ _ _::r,_,_,h=>Vi _ (fU (F:=r) h)
 | .pt _ _ _ _ _ _ _::r,_,_,h=>Vi _ (fU (F:=r) h)
def mI:List Lf→Nat→Option (List Lf×List Lf)
 | [],k=>bif Nat.beq k 0 then some ([],[]) else none
 | l::r,k=>bif Nat.beq k 0 then some ([],l::r) else bif Nat.ble 1 l.sz&&Nat.ble l.sz k then match mI r (k - l.sz) with | some (a,b)=>some (l::a,b) | none=>none else none
theorem jG : ∀ {cs:List Lf} {k:Nat} {a b:List Lf},mI cs k=some (a,b)→cs=a++b∧∀ η,(au η a).length=k
 | [],k,a,b,h=>by
  simp only [mI] at h
  cases hb:Nat.beq k 0
  ·rw [hb] at h; cases h
  ·rw [hb] at h
   simp only [f9,Va,VI] at h
   obtain ⟨rfl,rfl⟩:=h
   exact ⟨rfl,fun _=>(Vb hb).symm⟩
 | l::r,k,a,b,h=>by
  simp only [mI] at h
  cases hk:Nat.beq k 0
  ·rw [hk] at h
   simp only [no] at h
   cases hb:(Nat.ble 1 l.sz&&Nat.ble l.sz k)
   ·rw [hb] at h; cases h
   ·rw [hb] at h
    simp only [f9] at h
    simp only [Vf] at hb
    have h2:=Vg hb.2
    split at h
    ·rename_i a' b' he
     simp only [Va,VI] at h
     obtain ⟨rfl,rfl⟩:=h
     obtain ⟨e,hl⟩:=jG he
     refine ⟨by rw [e]; rfl,fun η=>?_⟩
     simp only [au,Vs,l.cells_sz,hl η]
     omega
    ·cases h
  ·rw [hk] at h
   simp only [f9,Va,VI] at h
   obtain ⟨rfl,rfl⟩:=h
   exact ⟨rfl,fun _=>(Vb hk).symm⟩
def cut (off sz:Nat) (cs:List Lf):Option (List Lf×List Lf×List Lf):=match mI cs off with
 | some (a,b)=>match mI b sz with
  | some (m,r)=>some (a,m,r)
  | none=>none
 | none=>none
theorem wb {off sz:Nat} {cs a m r:List Lf} (h:cut off sz cs=some (a,m,r)):cs=a++m++r∧∀ η,(au η a).length=off∧(au η m).length=sz:=by
 unfold cut at h
 split at h
 ·rename_i a' b' h1
  split at h
  ·rename_i m' r' h2
   simp only [Va,VI] at h
   obtain ⟨rfl,rfl,rfl⟩:=h
   obtain ⟨e1,l1⟩:=jG h1
   obtain ⟨e2,l2⟩:=jG h2
   exact ⟨by rw [e1,e2,V8],fun η=>⟨l1 η,l2 η⟩⟩
  ·cases h
 ·cases h
def EB (agg:Bool):List Lf→Option AV
 | [.ar n s x]=>bif agg then some (.lf (.ar n s x)) else none
 | [.ars t xs]=>bif agg then some (.lf (.ars t xs)) else none
 | [l]=>some (bif agg then .ag [l] else .lf l)
 | ls=>bif agg then some (.ag ls) else none
theorem zp {ls:List Lf} {v:AV} (h:EB true ls=some v) (η:Vn):v.val η = .agg (au η ls).toArray:=by
 unfold EB at h
 split at h
 ·simp at h; subst h; simp [AV.val,Lf.val,au,Lf.cells]
 ·simp at h; subst h; simp [AV.val,Lf.val,au,Lf.cells]
 ·simp at h; subst h; rfl
 ·simp at h; subst h; rfl
theorem y5 {ls:List Lf} {v:AV} (h:EB false ls=some v) (η:Vn) : ∃ l,ls=[l]∧v = .lf l∧l.cells η=[v.val η]:=by
 unfold EB at h
 split at h
 ·simp at h
 ·simp at h
 ·rename_i l hne hne'
  simp at h; subst h
  refine ⟨l,rfl,rfl,?_⟩
  cases l <;> first | rfl | (exact absurd rfl (hne _ _ _)) | (exact absurd rfl (hne' _ _))
 ·simp at h
theorem mN {d:TD} (h:TInf.fits P t d) : ∃ td,P.underlying t=some td∧lk td=d.agg:=by
 cases d with
 | st fs=>obtain ⟨F,h1,_⟩:=h; exact ⟨_,h1,rfl⟩
 | other=>obtain ⟨d,h1,h2⟩:=h; exact ⟨d,h1,h2⟩
 | _=>exact ⟨_,h,rfl⟩
section
variable {R:Type} {P:Program} {o:Oper} {E:SE} {F:List AF} {n:Nat} {Θ:Tb} {ex:Option Bool}
def I8 (Θ:Tb) (n N:Nat) (t:TypeId) (k:Out→Option R):Option R:=match Θ t with
 | some i=>bif Nat.ble 2 N then k ⟨.lf (.bp n 0),[.box N n i.zl],[]⟩ else none
 | none=>none
theorem Tx (hΘ:Θ.ok P) (ho:o.op = .alloc t) (k:Out→Option R):ao ex P o E F n (I8 Θ n N t k) k:=by
 unfold I8
 split
 ·rename_i i hi
  refine ao.bif fun hN=>ao.of fun _ η ρ hE=>?_
  obtain ⟨h1,_,h3,h4⟩:=hΘ t i hi
  refine (Xz ho h1 h3 hN).map (fun b=>⟨η.setB n b,η.setB_agr n b⟩) (fun b=>?_) fun b=>?_
  ·simp [AV.val,Lf.val,Vn.setB_at]
  ·simp [AF.ha,Vn.setB_at,h4 (η.setB n b)]
 ·exact ao.none
def Y3 (n N:Nat) (v:AV) (k:Out→Option R):Option R:=match v.lvs with
 | some ls=>bif Nat.ble 2 N&&ta n ls then k ⟨.lf (.bp n 0),[.box N n ls],[]⟩ else none
 | none=>none
theorem adJ {v:AV} (ho:o.op = .box t x) (hv:ev E x=some v) (k:Out→Option R):ao ex P o E F n (Y3 n N v k) k:=by
 unfold Y3
 split
 ·rename_i ls hl
  refine ao.bif fun hN=>ao.of fun _ η ρ hE=>?_
  simp only [Vf] at hN
  refine (ahS ho (aM hE hv) (v.lvs_cells hl η) hN.1).map (fun b=>⟨η.setB n b,η.setB_agr n b⟩) (fun b=>?_) fun b=>?_
  ·simp [AV.val,Lf.val,Vn.setB_at]
  ·simp [AF.ha,Vn.setB_at,qD (η.setB_agr n b) ls hN.2]
 ·exact ao.none
def Lt (Θ:Tb) (t:TypeId) (b off:Nat) (F:List AF) (k:Out→Option R):Option R:=match Θ t,kN b F with
 | some i,some (_,cs)=>match cut off i.sz cs with
  | some (_,m,_)=>match EB i.d.agg m with
   | some v=>k (br v)
   | none=>none
  | none=>none
 | _,_=>none
theorem S5 (hΘ:Θ.ok P) {b off:Nat} (ho:o.op = .load t x) (hx:ev E x=some (.lf (.bp b off))) (k:Out→Option R):ao ex P o E F n (Lt Θ t b off F k) k:=by
 unfold Lt
 split
 ·rename_i i ci cs hi hb
  split
  ·rename_i a m r hc
   split
   ·rename_i v hv
    refine ao.of fun _=>(dw.pure fun η ρ hE=>?_)
    obtain ⟨h1,h2,_,_⟩:=hΘ t i hi
    obtain ⟨td,ht,hd⟩:=mN h2
    obtain ⟨j,hj⟩:=mj (fU hb) η
    obtain ⟨e,hl⟩:=wb hc
    obtain ⟨l1,l2⟩:=hl η
    have hcell:((au η cs).drop off).take i.sz=au η m:=by
     rw [e,bc,bc,V8,W6,Wq (by omega),show off - (au η a).length=0 by omega,Yw,XI,X9,WF (by omega),
      show i.sz - (au η m).length=0 by omega,ZS,Wm]
    cases hag:i.d.agg
    ·rw [hag] at hv hd
     obtain ⟨l,rfl,rfl,hl1⟩:=y5 hv η
     refine Bv j hj ho ht hd (aM hE hx) ?_
     have h5:au η [l]=[(AV.lf l).val η]:=by simp [au,hl1]
     rw [h5] at hcell l2
     have:=Xw (·[0]?) hcell
     simp only [Xc,Xl,W4,Vp] at this l2
     simpa [← l2] using this
    ·rw [hag] at hv hd
     rw [zp hv η]
     exact LZ j hj ho ht hd h1 (aM hE hx) hcell (by simp [l2])
   ·exact ao.none
  ·exact ao.none
 ·exact ao.none
def CA (Θ:Tb) (t:TypeId) (b off:Nat) (v:AV) (F:List AF) (k:Out→Option R):Option R:=match Θ t,kN b F,v.lvs with
 | some i,some (ci,cs),some ls=>match cut off i.sz cs,mI ls i.sz with
  | some (a,_,r),some (_,[])=>k ⟨.lf (.v undef),[.box ci b (a++ls++r)],[ci]⟩
  | _,_=>none
 | _,_,_=>none
theorem Oi (hΘ:Θ.ok P) {b off:Nat} {v:AV} (ho:o.op = .store t x y) (hx:ev E x=some (.lf (.bp b off))) (hy:ev E y=some v) (k:Out→Option R):ao ex P o E F n (CA Θ t b off v F k) k:=by
 unfold CA
 split
 ·rename_i i ci cs ls hi hb hl
  split
  ·rename_i a m r q hc hs
   refine ao.of fun _ η ρ hE=>?_
   obtain ⟨h1,h2,_,_⟩:=hΘ t i hi
   obtain ⟨j,hj⟩:=mj (fU hb) η
   obtain ⟨e,hll⟩:=wb hc
   obtain ⟨l1,l2⟩:=hll η
   obtain ⟨e2,l3⟩:=jG hs
   rw [Wm] at e2
   subst e2
   have l3:=l3 η
   have hval : ∀ y : { η' : Vn // η.agr n η' },undef=(AV.lf (.v undef)).val y.1:=fun _=>rfl
   refine (yv (cs' := au η (a++ls++r)) j hj ho h1 (aM hE hx) (aM hE hy) (v.lvs_cells hl η) (by simp [l3]) (Vx.2 (nF (AV.lvs_one hl))) ?_ ?_).map (fun _=>⟨η,Vn.agr_refl n η⟩) (fun _=>rfl) (fun _=>rfl)
   ·rw [e,bc,bc]
    refine Wo ?_
    simp only [Vs]
    omega
   ·rw [e,bc,bc,bc,bc]
    congr 1
    ·congr 1
     rw [V8,X9,WF (by omega),show off - (au η a).length=0 by omega]
     simp
    ·rw [V8,W6,Wq (by omega),XI,W6,Wq (by omega),XI,
      show off+(au η ls).length - (au η a).length - (au η m).length=0 by omega,Yw]
  ·exact ao.none
 ·exact ao.none
end
end
end Go.Sm
