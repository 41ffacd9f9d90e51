/- Laws for the row. No condition. -/
import Derived.Test.YtfhhiajfciblbaaGreatDoorSimR
namespace Go.Sm
variable {n N:Nat} {P:Program} {o:Oper} {t:TypeId} {x y:Operand} {R:Type} {ex:Option Bool} {b:Bool}
inductive SC
 |int (k:IntKind)
 |bool
 |str
 |fnc
 deriving DecidableEq
inductive TC
 |sc (s:SC)
 |arr (n:Nat) (s:SC)
 |unit
 |pair (a b:TC)
 |slice (t:TC)
 |st (t:TC)
 |ext (n:Nat)
 |node
 |mp (k v:TC)
 deriving DecidableEq
abbrev TC.nodeC:TC:=.pair (.sc (.int .i64)) (.pair (.sc .str) (.pair (.sc (.int .i64)) (.slice .node)))
class XTab where
 den:Nat->Type
 val:(n:Nat)->den n->Value
 one:(n:Nat)->(x:den n)->(val n x).oneCell'=true
 dft:(n:Nat)->den n
 tr:Nat->Nat
abbrev SC.den:SC->Type
 |.int _=>Int
 |.bool=>Bool
 |.str=>List UInt8
 |.fnc=>Nat
abbrev SC.val:(s:SC)->s.den->Value
 |.int k,n=>.int k n
 |.bool,x=>.bool x
 |.str,x=>.string ⟨x.toArray⟩
 |.fnc,f=>.func (.func f) #[] #[]
theorem SC.one:(s:SC)->(x:s.den)->(s.val x).oneCell'=true
 |.int _,_=>rfl
 |.bool,_=>rfl
 |.str,_=>rfl
 |.fnc,_=>rfl
abbrev SC.dft:(s:SC)->s.den
 |.int _=>(0:Int)
 |.bool=>false
 |.str=>([]:List UInt8)
 |.fnc=>(0:Nat)
section
variable [X:XTab]
abbrev TC.ty:TC->Ty
 |.sc s=>.one s.den s.val s.one
 |.arr n s=>.arr n s.den s.dft s.val s.one
 |.unit=>.unit
 |.pair a b=>.pair a.ty b.ty
 |.slice t=>.slice t.ty
 |.st t=>t.ty
 |.ext n=>.one (X.den n) (X.val n) (X.one n)
 |.node=>.node
 |.mp k v=>.mp k.ty v.ty
abbrev TC.den(t:TC):Type:=t.ty.den
abbrev TC.dft:(t:TC)->t.den
 |.sc s=>s.dft
 |.arr _ _=>[]
 |.unit=>()
 |.pair a b=>(a.dft,b.dft)
 |.slice _=>[]
 |.st t=>t.dft
 |.ext n=>X.dft n
 |.node=>Nd.of (0,[],0,[])
 |.mp _ _=>[]
def TC.ref0:(t:TC)->t.ty.Refs
 |.sc _=>()
 |.arr _ _=>()
 |.unit=>()
 |.pair a b=>(a.ref0,b.ref0)
 |.slice _=>(⟨none,0,0⟩:Hd)
 |.st t=>t.ref0
 |.ext _=>()
 |.node=>(⟨none,0,0⟩:Hd)
 |.mp _ _=>(⟨none,0,0⟩:Hd)
inductive Pa:TC->TC->Type
 |here {t:TC}:Pa t t
 |fst {a b u:TC} (p:Pa a u):Pa (.pair a b) u
 |snd {a b u:TC} (p:Pa b u):Pa (.pair a b) u
 |inn {a u:TC} (p:Pa a u):Pa (.st a) u
 |el {n:Nat} {s:SC} (j:Int):Pa (.arr n s) (.sc s)
 |nd {u:TC} (p:Pa TC.nodeC u):Pa .node u
inductive Lf:Type
 |c (s:SC) (x:s.den)
 |ar (n:Nat) (s:SC) (x:List s.den)
 |sl (h:Nat)
 |nl
 |bp (b off:Nat)
 |bq (b off n:Nat) (s:SC) (j:Int)
 |rp (h:Nat) (t:TC) (i:Int) (u:TC) (p:Pa t u)
 |xt (n:Nat) (x:X.den n)
 |fn (f:FuncId)
 |clo (f:FuncId) (b:Nat)
 |gp (g:Nat) (t:TC) (i:Int) (u:TC) (p:Pa t u)
 |ars (t:TC) (xs:List t.den)
 |mp (h:Nat)
 |v (x:Value)
def Lf.sz:Lf->Nat
 |.ar n _ _=>n
 |.ars t xs=>xs.length*t.ty.sz
 |_=>1
inductive AV:Type
 |lf (l:Lf)
 |ag (ls:List Lf)
 |tu (vs:List AV)
structure Vn where
 h:Nat->Hd
 b:Nat->Nat
def Pa.off : {t u:TC}->Pa t u->Nat
 |_,_,.here=>0
 |_,_,.fst p=>p.off
 |_,_,@Pa.snd a _ _ p=>a.ty.sz+p.off
 |_,_,.inn p=>p.off
 |_,_,.el j=>j.toNat
 |_,_,.nd p=>p.off
def eT:Hd:=⟨none,0,0⟩
def Lf.cells(η:Vn):Lf->List Value
 |.c s x=>[s.val x]
 |.ar n s x=>(TC.arr n s).ty.fill x ()
 |.sl h=>[(η.h h).val]
 |.nl=>[eT.val]
 |.bp b off=>[.pointer (some ⟨η.b b,off,none⟩)]
 |.bq b off _ _ j=>[.pointer (some ⟨η.b b,off+j.toNat,none⟩)]
 |.rp h t i _ p=>[.pointer (some (ep (η.h h) (i.toNat*t.ty.sz+p.off)))]
 |.xt n x=>[X.val n x]
 |.fn f=>[.func (.func f) #[] #[]]
 |.clo f b=>[.func (.func f) #[] #[.pointer (some ⟨η.b b,0,none⟩)]]
 |.gp g t i _ p=>[.pointer (some ⟨g,i.toNat*t.ty.sz+p.off,none⟩)]
 |.ars t xs=>cellsOf t.ty xs (List.replicate xs.length t.ref0)
 |.mp h=>[.map (some (η.h h).blk)]
 |.v x=>[x]
def Lf.val(η:Vn)(l:Lf):Value:=match l with
 |.c s x=>s.val x
 |.ar n s x=>.agg ((TC.arr n s).ty.fill x ()).toArray
 |.sl h=>(η.h h).val
 |.nl=>eT.val
 |.bp b off=>.pointer (some ⟨η.b b,off,none⟩)
 |.bq b off _ _ j=>.pointer (some ⟨η.b b,off+j.toNat,none⟩)
 |.rp h t i _ p=>.pointer (some (ep (η.h h) (i.toNat*t.ty.sz+p.off)))
 |.xt n x=>X.val n x
 |.fn f=>.func (.func f) #[] #[]
 |.clo f b=>.func (.func f) #[] #[.pointer (some ⟨η.b b,0,none⟩)]
 |.gp g t i _ p=>.pointer (some ⟨g,i.toNat*t.ty.sz+p.off,none⟩)
 |.ars t xs=>.agg (cellsOf t.ty xs (List.replicate xs.length t.ref0)).toArray
 |.mp h=>.map (some (η.h h).blk)
 |.v x=>x
def ay(η:Vn):List Lf->List Value
 |[]=>[]
 |l::r=>l.cells η++ay η r
mutual
def AV.val(η:Vn):AV->Value
 |.lf l=>l.val η
 |.ag ls=>.agg (ay η ls).toArray
 |.tu vs=>.tuple (AV.vals η vs).toArray
def AV.vals(η:Vn):List AV->List Value
 |[]=>[]
 |v::r=>v.val η::AV.vals η r
end
inductive AF:Type
 |rep (t:TC) (K:List Nat) (xs:List t.den) (h:Nat)
 |own (t:TC) (e:TypeId) (i:Nat) (K:List Nat) (xs:List t.den) (h:Nat)
 |box (i b:Nat) (cs:List Lf)
 |isn (h:Nat) (b:Bool)
 |prt (h' h sz:Nat) (lo hi:Int)
 |pbx (h' b off:Nat) (lo hi:Int)
 |hol (t:TC) (e:TypeId) (i:Nat) (xs:List t.den) (h:Nat) (k:Int) (cs:List Lf)
 |mp (k v:TC) (i:Nat) (xs:List (k.den×v.den)) (h:Nat)
 |pt (t:TC) (e:TypeId) (i:Nat) (K:List Nat) (xs:List t.den) (h:Nat) (m:Int)
def oy(t:TC)(x:t.den):Value:=match t,x with
 |.sc s,x=>s.val x
 |.arr n s,x=>.agg ((TC.arr n s).ty.fill x ()).toArray
 |.unit,_=>.agg #[]
 |.pair a b,x=>.agg ((TC.pair a b).ty.fill x (TC.pair a b).ref0).toArray
 |.st a,x=>.agg (a.ty.fill x a.ref0).toArray
 |.slice _,_=>eT.val
 |.ext k,x=>X.val k x
 |.node,x=>.agg (Ty.node.fill x eT).toArray
 |.mp _ _,_=>.map none
def Ar(k v:TC)(xs:List (k.den×v.den)):List (Value×Value):=xs.map λp=>(oy k p.1,oy v p.2)
def AF.ha(η:Vn):AF->HA
 |.rep t K xs h=>.rep t.ty K xs (η.h h)
 |.own t e i K xs h=>ee t.ty e i K xs (η.h h)
 |.box i b cs=>.box i (η.b b) (ay η cs)
 |.isn h b=>.pure ((η.h h).isNil=b)
 |.prt h' h sz lo hi=>.pure (nM (η.h h') (η.h h) sz lo hi)
 |.pbx h' b off lo hi=>.pure (nM (η.h h') ⟨some ⟨η.b b,off,none⟩,0,0⟩ 1 lo hi)
 |.hol t e i xs h k cs=>.hol t.ty e i xs (η.h h) k.toNat (ay η cs)
 |.mp k v i xs h=>.mp i (η.h h).blk (Ar k v xs)
 |.pt t e i K xs h m=>.pt t.ty e i K xs (η.h h) m
def AF.uses:AF->List Nat
 |.rep _ K _ _=>K
 |.own _ _ i K _ _=>i::K
 |.box i _ _=>[i]
 |.isn _ _=>[]
 |.prt _ _ _ _ _=>[]
 |.pbx _ _ _ _ _=>[]
 |.hol _ _ i _ _ _ _=>[i]
 |.mp _ _ i _ _=>[i]
 |.pt _ _ i K _ _ _=>i::K
def Lf.hs:Lf->List Nat
 |.sl h=>[h]
 |.rp h _ _ _ _=>[h]
 |.mp h=>[h]
 |_=>[]
def Lf.bs:Lf->List Nat
 |.bp b _=>[b]
 |.bq b _ _ _ _=>[b]
 |.clo _ b=>[b]
 |_=>[]
def bE(n m:Nat):Bool:=Nat.blt m n||Nat.ble (n+64) m
def Lf.free(n:Nat)(l:Lf):Bool:=match l with
 |.sl h=>bE n h
 |.rp h _ _ _ _=>bE n h
 |.bp b _=>bE n b
 |.bq b _ _ _ _=>bE n b
 |.clo _ b=>bE n b
 |.mp h=>bE n h
 |_=>true
def uL(n:Nat):List Lf->Bool
 |[]=>true
 |l::r=>l.free n&&uL n r
mutual
def AV.free(n:Nat):AV->Bool
 |.lf l=>l.free n
 |.ag ls=>uL n ls
 |.tu vs=>AV.frees n vs
def AV.frees(n:Nat):List AV->Bool
 |[]=>true
 |v::r=>v.free n&&AV.frees n r
end
def AF.free(n:Nat):AF->Bool
 |.rep _ _ _ h=>bE n h
 |.own _ _ _ _ _ h=>bE n h
 |.box _ b cs=>bE n b&&uL n cs
 |.isn h _=>bE n h
 |.prt h' h _ _ _=>bE n h'&&bE n h
 |.pbx h' h _ _ _=>bE n h'&&bE n h
 |.hol _ _ _ _ h _ cs=>bE n h&&uL n cs
 |.mp _ _ _ _ h=>bE n h
 |.pt _ _ _ _ _ h _=>bE n h
def Vn.agr(n:Nat)(η η':Vn):Prop:=∀m,bE n m=true->η'.h m=η.h m/\η'.b m=η.b m
theorem Lf.cells_agr{η η':Vn}(h:η.agr n η'):(l:Lf)->l.free n=true->l.cells η'=l.cells η
 |.sl m,hf=>by simp only[Lf.cells,(h m hf).1]
 |.rp m _ _ _ _,hf=>by simp only[Lf.cells,(h m hf).1]
 |.mp m,hf=>by simp only[Lf.cells,(h m hf).1]
 |.bp m _,hf=>by simp only[Lf.cells,(h m hf).2]
 |.bq m _ _ _ _,hf=>by simp only[Lf.cells,(h m hf).2]
 |.clo _ m,hf=>by simp only[Lf.cells,(h m hf).2]
 |.gp _ _ _ _ _,_=>rfl
 |.ars _ _,_=>rfl
 |.c _ _,_=>rfl
 |.ar _ _ _,_=>rfl
 |.nl,_=>rfl
 |.xt _ _,_=>rfl
 |.fn _,_=>rfl
 |.v _,_=>rfl
theorem Lf.val_agr{η η':Vn}(h:η.agr n η'):(l:Lf)->l.free n=true->l.val η'=l.val η
 |.sl m,hf=>by simp only[Lf.val,(h m hf).1]
 |.rp m _ _ _ _,hf=>by simp only[Lf.val,(h m hf).1]
 |.mp m,hf=>by simp only[Lf.val,(h m hf).1]
 |.bp m _,hf=>by simp only[Lf.val,(h m hf).2]
 |.bq m _ _ _ _,hf=>by simp only[Lf.val,(h m hf).2]
 |.clo _ m,hf=>by simp only[Lf.val,(h m hf).2]
 |.gp _ _ _ _ _,_=>rfl
 |.ars _ _,_=>rfl
 |.c _ _,_=>rfl
 |.ar _ _ _,_=>rfl
 |.nl,_=>rfl
 |.xt _ _,_=>rfl
 |.fn _,_=>rfl
 |.v _,_=>rfl
theorem rQ{n:Nat}{η η':Vn}(h:η.agr n η'):(ls:List Lf)->uL n ls=true->ay η' ls=ay η ls
 |[],_=>rfl
 |l::r,hf=>by simp only[uL,aas]at hf;simp only[ay,l.cells_agr h hf.1,rQ h r hf.2]
mutual
theorem AV.val_agr{n:Nat}{η η':Vn}(h:η.agr n η'):(v:AV)->v.free n=true->v.val η'=v.val η
 |.lf l,hf=>by simp only[AV.val];exact l.val_agr h hf
 |.ag ls,hf=>by simp only[AV.val];rw[rQ h ls hf]
 |.tu vs,hf=>by simp only[AV.val];rw[AV.vals_agr h vs hf]
theorem AV.vals_agr{n:Nat}{η η':Vn}(h:η.agr n η'):(vs:List AV)->AV.frees n vs=true->AV.vals η' vs=AV.vals η vs
 |[],_=>rfl
 |v::r,hf=>by simp only[AV.frees,aas]at hf;simp only[AV.vals,AV.val_agr h v hf.1,AV.vals_agr h r hf.2]
end
theorem AF.ha_agr{η η':Vn}(h:η.agr n η'):(f:AF)->f.free n=true->f.ha η'=f.ha η
 |.rep _ _ _ m,hf=>by simp only[AF.ha,(h m hf).1]
 |.own _ _ _ _ _ m,hf=>by simp only[AF.ha,(h m hf).1]
 |.box _ m cs,hf=>by simp only[AF.free,aas]at hf;simp only[AF.ha,(h m hf.1).2,rQ h cs hf.2]
 |.isn m _,hf=>by simp only[AF.ha,(h m hf).1]
 |.prt m m' _ _ _,hf=>by simp only[AF.free,aas]at hf;simp only[AF.ha,(h m hf.1).1,(h m' hf.2).1]
 |.pbx m m' _ _ _,hf=>by simp only[AF.free,aas]at hf;simp only[AF.ha,(h m hf.1).1,(h m' hf.2).2]
 |.mp _ _ _ _ m,hf=>by simp only[AF.ha,(h m hf).1]
 |.pt _ _ _ _ _ m _,hf=>by simp only[AF.ha,(h m hf).1]
 |.hol _ _ _ _ m _ cs,hf=>by simp only[AF.free,aas]at hf;simp only[AF.ha,(h m hf.1).1,rQ h cs hf.2]
theorem AF.ha_uses(η:Vn):(f:AF)->(f.ha η).uses=f.uses
 |.rep _ _ _ _=>rfl
 |.own _ _ _ _ _ _=>ZD
 |.box _ _ _=>rfl
 |.isn _ _=>rfl
 |.prt _ _ _ _ _=>rfl
 |.pbx _ _ _ _ _=>rfl
 |.hol _ _ _ _ _ _ _=>rfl
 |.mp _ _ _ _ _=>rfl
 |.pt _ _ _ _ _ _ _=>rfl
theorem Lf.cells_sz(η:Vn):(l:Lf)->(l.cells η).length=l.sz
 |.ar n s x=>Ty.fill_length _ _ _
 |.sl _=>rfl
 |.rp _ _ _ _ _=>rfl
 |.bp _ _=>rfl
 |.bq _ _ _ _ _=>rfl
 |.c _ _=>rfl
 |.nl=>rfl
 |.xt _ _=>rfl
 |.fn _=>rfl
 |.clo _ _=>rfl
 |.gp _ _ _ _ _=>rfl
 |.mp _=>rfl
 |.ars t xs=>by simp only[Lf.cells,Lf.sz];rw[cZ];simp
 |.v _=>rfl
end
inductive TD
  |int (k:IntKind)
  |bool
  |str
  |slice (e:TypeId)
  |arr (n:Nat) (e:TypeId)
  |st (fs:List (TypeId×Nat))
  |ptr (e:TypeId)
  |map (k e:TypeId)
  |other
set_option linter.unusedSectionVars false
section
variable [X:XTab]
structure GEnt where
  g:Nat
  t:TC
  xs:List t.den
class GTab where
  gl:List GEnt
def GEnt.ha(e:GEnt):HA:=.gl e.g e.xs.length (cellsOf e.t.ty e.xs (List.replicate e.xs.length e.t.ref0))
variable [G:GTab]
def oL:List HA:=G.gl.map GEnt.ha
structure TInf where
  d:TD
  sz:Nat
  by_:Nat
  zl:List Lf
  tc:TC
def TD.agg:TD->Bool
  |.arr _ _=>true
  |.st _=>true
  |_=>false
def G0:Vn:=⟨λ_=>eT,λ_=>0⟩
def TInf.zv(i:TInf):Value:=bif i.d.agg then .agg (ay G0 i.zl).toArray else(ay G0 i.zl).headD undef
def TInf.fits(P:Program)(t:TypeId):TD->Prop
  |.int k=>P.underlying t=some (.int k)
  |.bool=>P.underlying t=some .bool
  |.str=>P.underlying t=some .string
  |.slice e=>P.underlying t=some (.slice e)
  |.arr n e=>P.underlying t=some (.array n e)
  |.st fs=>∃F,P.underlying t=some (.struct F)/\F.toList.map (λf=>(f.type,f.offset))=fs
  |.ptr e=>P.underlying t=some (.pointer e)
  |.map k e=>P.underlying t=some (.map k e)
  |.other=>∃d,P.underlying t=some d/\lR d=false
def TInf.ok(P:Program)(t:TypeId)(i:TInf):Prop:=TI P t i.sz i.by_ i.zv/\TInf.fits P t i.d/\i.zv.cells=(ay G0 i.zl).toArray/\∀η,ay η i.zl=ay G0 i.zl
abbrev Tb:=TypeId->Option TInf
def Tb.ok(Θ:Tb)(P:Program):Prop:=∀t i,Θ t=some i->i.ok P t
def G8:List (TypeId×TInf)->Tb
  |[],_=>none
  |(a,i)::r,t=>bif Nat.beq t a then some i else G8 r t
def ait(P:Program):List (TypeId×TInf)->Prop
  |[]=>True
  |(a,i)::r=>i.ok P a/\ait P r
theorem Lc{P:Program}:∀{l:List (TypeId×TInf)},ait P l->Tb.ok (G8 l) P
  |[],_,t,i,h=>by simp[G8]at h
  | (a,j)::r,hl,t,i,h=>by
    simp only[G8]at h;cases hb:Nat.beq t a
    ·rw[hb]at h;exact Lc hl.2 t i h
    · rw[hb]at h
      simp only[f9,no]at h
      subst h
      rw[amb hb]
      exact hl.1
structure Out where
  av:AV
  fs:List AF
  κ:List Nat
abbrev SE:=List (Nat×AV)
def bc(E:SE)(t:Nat):Option AV:=match E with
  |[]=>none
  |(d,v)::r=>bif Nat.beq t d then some v else bc r t
def nQ(η:Vn)(ρ:dr)(E:SE):Prop:=∀t v,bc E t=some v->ρ t=v.val η
def FE:Value->AV
  |.int k n=>.lf (.c (.int k) n)
  |.bool b=>.lf (.c .bool b)
  |.string s=>.lf (.c .str s.data.toList)
  |.slice none 0 0=>.lf .nl
  |v=>.lf (.v v)
theorem PL(η:Vn)(v:Value):(FE v).val η=v:=by unfold FE;split<;>simp[AV.val,Lf.val,eT,Hd.val]
def ev(E:SE):Operand->Option AV
  |.tmp t=>bc E t
  |.const v=>some (FE v)
  |.func f=>some (.lf (.fn f))
  |.global _=>none
theorem aN{η:Vn}{ρ:dr}{E:SE}(h:nQ η ρ E){v:AV}(hx:ev E x=some v):aS ρ x=v.val η:=by
  cases x with
  |tmp t=>exact h t v hx
  |const c=>simp only[ev,no]at hx;subst hx;exact(PL η c).symm
  |func f=>simp only[ev,no]at hx;subst hx;rfl
  |global g=>simp[ev]at hx
def Pc(P:Program)(o:Oper)(E:SE)(F:List AF)(n:Nat)(u:Out):Prop:=∀(η:Vn) (ρ:dr),nQ η ρ E ->
  di P ρ o (F.map (AF.ha η)) u.κ (λy : { η':Vn//η.agr n η'}=>u.av.val y.1) (λy=>u.fs.map (AF.ha y.1))
def dB(P:Program)(o:Oper)(E:SE)(F:List AF)(n:Nat)(u:Out):Prop:=∀(η:Vn) (ρ:dr),nQ η ρ E ->
  di P ρ o (F.map (AF.ha η)++oL) u.κ (λy : { η':Vn//η.agr n η'}=>u.av.val y.1) (λy=>u.fs.map (AF.ha y.1))
theorem Vn.agr_refl(n:Nat)(η:Vn):η.agr n η:=λ_ _=>⟨rfl,rfl⟩
theorem Pc.up{E:SE}{F:List AF}{u:Out}(h:Pc P o E F n u):dB P o E F n u:=
  λη ρ hE a ev w c next Q ha hL hk=>h η ρ hE a ev w c next Q ha (λA hA=>hL A (abm _ hA)) hk
theorem dB.pure{E:SE}{F:List AF}{av:AV}(h:∀η ρ,nQ η ρ E->bh P ρ o (F.map (AF.ha η)) (av.val η)):Pc P o E F n ⟨av,[],[]⟩:=by
  intro η ρ hE a ev w c next Q ha hL hk
  rw[h η ρ hE ev w c ha hL];exact hk ⟨η,Vn.agr_refl n η⟩ w c (Stp.refl w c) (aq.nil _ _)
def ge:Option Bool->Prop
  |none=>True
  |some b=>b=true
def au{R:Type}(ex:Option Bool)(P:Program)(o:Oper)(E:SE)(F:List AF)(n:Nat)(m:Option R)(k:Out->Option R):Prop:=∀r,m=some r->∃u,k u=some r/\(ge ex->dB P o E F n u)
section
variable {R:Type} {P:Program} {o:Oper} {E:SE} {F:List AF} {n:Nat} {k:Out->Option R} {ex:Option Bool}
theorem au.none:au ex P o E F n none k:=λ_ h=>by cases h
theorem au.of{u:Out}(h:ge ex->Pc P o E F n u):au ex P o E F n (k u) k:=λ_ h'=>⟨u,h',λhx=>(h hx).up⟩
theorem au.ofG{u:Out}(h:ge ex->dB P o E F n u):au ex P o E F n (k u) k:=λ_ h'=>⟨u,h',h⟩
theorem au.bif{m:Option R}(h:b=true->au ex P o E F n m k):au ex P o E F n (bif b then m else .none) k:=λr hr=>by
  cases b
  ·cases hr
  ·exact h rfl r hr
end
def gbind{α R:Type}(ex:Option Bool)(d:α)(m:Option α)(f:α->Option R):Option R:=match ex with
  |none=>m.bind f
  |some b=>(bif b then m else some d).bind f
def gchk{R:Type}(ex:Option Bool)(b:Bool)(m:Option R):Option R:=match ex with
  |none=>af b m
  |some e=>af (!e||b) m
theorem au.gbind{α:Type}{E:SE}{F:List AF}{k:Out->Option R}{d:α}{m:Option α}{f:α->Option R}(h:∀x,(ge ex->m=some x)->au ex P o E F n (f x) k):au ex P o E F n (gbind ex d m f) k:=by
  intro r hr;cases ex with
  | none=>
    obtain⟨x,hx,hf⟩:=bind_some hr;exact h x (λ_=>hx) r hf
  | some b=>
    obtain⟨x,hx,hf⟩:=bind_some hr;refine h x (λhb=>?_) r hf;cases hb;exact hx
theorem au.gchk{E:SE}{F:List AF}{k:Out->Option R}{m:Option R}(h:(ge ex->b=true)->au ex P o E F n m k):au ex P o E F n (gchk ex b m) k:=by
  intro r hr;cases ex with
  | none=>
    obtain⟨hb,hm⟩:=NM hr;exact h (λ_=>hb) r hm
  | some e=>
    obtain⟨hb,hm⟩:=NM hr;refine h (λhe=>?_) r hm;cases he;simpa using hb
abbrev bk(v:AV):Out:=⟨v,[],[]⟩
abbrev f8(k:IntKind)(x:Int):AV:=.lf (.c (.int k) x)
abbrev eK(x:Bool):AV:=.lf (.c .bool x)
abbrev zh(x:List UInt8):AV:=.lf (.c .str x)
def w_(k:IntKind)(x:Int):Int:=match k with
  |.i64=>ae x
  |k=>k.wrap x
theorem Vs(k:IntKind)(x:Int):w_ k x=k.wrap x:=by cases k<;>rfl
def adc{R:Type}(ex:Option Bool)(op:BinOp)(k:IntKind)(a b:Int)(kk:Out->Option R):Option R:=match op with
  |.add=>kk (bk (f8 k (w_ k (a+b))))
  |.sub=>kk (bk (f8 k (w_ k (a-b))))
  |.mul=>kk (bk (f8 k (w_ k (a*b))))
  |.quo=>gchk ex (!(b==0)) (kk (bk (f8 k (w_ k (Int.tdiv a b)))))
  |.rem=>gchk ex (!(b==0)) (kk (bk (f8 k (Int.tmod a b))))
  |.lss=>kk (bk (eK (decide (a<b))))
  |.leq=>kk (bk (eK (decide (a<=b))))
  |.gtr=>kk (bk (eK (decide (b<a))))
  |.geq=>kk (bk (eK (decide (b<=a))))
  |.eql=>kk (bk (eK (a==b)))
  |.neq=>kk (bk (eK (a != b)))
  |.and=>kk (bk (f8 k (bj .and k a b)))
  |.or=>kk (bk (f8 k (bj .or k a b)))
  |.xor=>kk (bk (f8 k (bj .xor k a b)))
  |.andNot=>kk (bk (f8 k (bj .andNot k a b)))
  |_=>none
theorem tU(h:(!b)=true):b=false:=by grind
theorem al0{E:SE}{F:List AF}{op:BinOp}{t':TypeId}{k:IntKind}{a b:Int}(ho:o.op=.binOp op t x y t')
    (h1:ev E x=some (f8 k a)) (h2:ev E y=some (f8 k b)) (kk:Out->Option R):au ex P o E F n (adc ex op k a b kk) kk:=by
  have hev:∀η ρ,nQ η ρ E->aS ρ x=.int k a/\aS ρ y=.int k b:=λη ρ hE=>⟨aN hE h1,aN hE h2⟩
  cases op<;>simp only[adc]<;>first
    |exact au.none
    | (refine au.of λhx=>(dB.pure λη ρ hE=>?_);obtain⟨e1,e2⟩:=hev η ρ hE;simp only[AV.val,Lf.val,Vs]
       first|exact aro ho e1 e2|exact art ho e1 e2|exact aqZ ho e1 e2|exact arl ho e1 e2|exact aqU ho e1 e2|exact aq5 ho e1 e2|exact arz ho e1 e2|exact arH ho e1 e2|exact aqT ho e1 e2|exact aru ho (by simp) e1 e2)
    | (refine au.gchk λhb=>au.of λhx=>(dB.pure λη ρ hE=>?_);obtain⟨e1,e2⟩:=hev η ρ hE;simp only[AV.val,Lf.val,Vs]
       first|exact arG ho e1 e2 (tU (hb hx))|exact aqY ho e1 e2 (tU (hb hx)))
def Xe{R:Type}(ex:Option Bool)(op:BinOp)(k:IntKind)(a b:Int)(kk:Out->Option R):Option R:=match op with
  |.shl=>gchk ex (decide (0<=b)) (kk (bk (f8 k (oz k a b))))
  |.shr=>gchk ex (decide (0<=b)) (kk (bk (f8 k (d9 k a b))))
  |_=>none
theorem al1{E:SE}{F:List AF}{op:BinOp}{t':TypeId}{k k':IntKind}{a b:Int}(ho:o.op=.binOp op t x y t')
    (h1:ev E x=some (f8 k a)) (h2:ev E y=some (f8 k' b)) (kk:Out->Option R):au ex P o E F n (Xe ex op k a b kk) kk:=by
  have hev:∀η ρ,nQ η ρ E->aS ρ x=.int k a/\aS ρ y=.int k' b:=λη ρ hE=>⟨aN hE h1,aN hE h2⟩
  cases op<;>simp only[Xe]<;>first
    |exact au.none
    | (refine au.gchk λhb=>au.of λhx=>(dB.pure λη ρ hE=>?_);obtain⟨e1,e2⟩:=hev η ρ hE;simp only[AV.val,Lf.val]
       first|exact arq ho e1 e2 (hb hx)|exact ark ho e1 e2 (hb hx))
end
section
variable [X:XTab] [G:GTab]
def TC.nh:TC->Nat
 |.sc _=>0
 |.arr _ _=>0
 |.unit=>0
 |.pair a b=>a.nh+b.nh
 |.slice _=>1
 |.st t=>t.nh
 |.ext _=>0
 |.node=>1
 |.mp _ _=>1
def cP:(t:TC)->t.ty.Refs->List Hd
 |.sc _,_=>[]
 |.arr _ _,_=>[]
 |.unit,_=>[]
 |.pair a b,y=>cP a y.1++cP b y.2
 |.slice _,h=>[h]
 |.st t,y=>cP t y
 |.ext _,_=>[]
 |.node,h=>[h]
 |.mp _ _,h=>[h]
def aP:(t:TC)->List Hd->t.ty.Refs
 |.sc _,_=>()
 |.arr _ _,_=>()
 |.unit,_=>()
 |.pair a b,l=>(aP a l,aP b (l.drop a.nh))
 |.slice _,l=>l.headD eT
 |.st t,l=>aP t l
 |.ext _,_=>()
 |.node,l=>l.headD eT
 |.mp _ _,l=>l.headD eT
theorem dp:(t:TC)->(y:t.ty.Refs)->(cP t y).length=t.nh
 |.sc _,_=>rfl
 |.arr _ _,_=>rfl
 |.unit,_=>rfl
 |.pair a b,y=>by simp[cP,TC.nh,dp a y.1,dp b y.2]
 |.slice _,_=>rfl
 |.st t,y=>dp t y
 |.ext _,_=>rfl
 |.node,_=>rfl
 |.mp _ _,_=>rfl
def Vn.set(η:Vn)(n:Nat)(l:List Hd):Vn:=⟨λm=>bif Nat.ble n m&&Nat.blt m (n+l.length)then l.getD (m-n) eT else η.h m,η.b⟩
theorem Vn.set_at{η:Vn}{l:List Hd}{j:Nat}{h:Hd}(hj:l[j]?=some h):(η.set n l).h (n+j)=h:=by
 have hlt:=(abC.1 hj).1;have h1:(Nat.ble n (n+j)&&Nat.blt (n+j) (n+l.length))=true:=by simp_all
 grind[Vn.set]
theorem Vn.set_agr{η:Vn}{l:List Hd}(hl:l.length<=64):η.agr n (η.set n l):=by
 intro m hm;refine⟨?_,rfl⟩;have:(Nat.ble n m&&Nat.blt m (n+l.length))=false:=by
  cases hb:(Nat.ble n m&&Nat.blt m (n+l.length))
  ·rfl
  ·simp only[aas]at hb;have h1:=aaA hb.1;have h2:m+1<=n+l.length:=aaA hb.2;simp only[bE,acO]at hm;rcases hm with hm|hm
   ·have:m+1<=n:=aaA hm;omega
   ·have:=aaA hm;omega
 simp only[Vn.set,this,aax]
def jT:(t:TC)->t.den->Nat->List Lf
 |.sc s,x,_=>[.c s x]
 |.arr n s,x,_=>[.ar n s x]
 |.unit,_,_=>[]
 |.pair a b,x,n=>jT a x.1 n++jT b x.2 (n+a.nh)
 |.slice _,_,n=>[.sl n]
 |.st t,x,n=>jT t x n
 |.ext k,x,_=>[.xt k x]
 |.node,x,n=>[.c (.int .i64) x.tup.1,.c .str x.tup.2.1,.c (.int .i64) x.tup.2.2.1,.sl n]
 |.mp _ _,_,n=>[.mp n]
def uA:(t:TC)->t.den->List Nat->Nat->List AF
 |.sc _,_,_,_=>[]
 |.arr _ _,_,_,_=>[]
 |.unit,_,_,_=>[]
 |.pair a b,x,K,n=>uA a x.1 K n++uA b x.2 K (n+a.nh)
 |.slice t,x,K,n=>[.rep t K x n]
 |.st t,x,K,n=>uA t x K n
 |.ext _,_,_,_=>[]
 |.node,x,K,n=>[.rep .node K x.tup.2.2.2 n]
 |.mp _ _,_,_,_=>[]
theorem bd(η:Vn):(a b:List Lf)->ay η (a++b)=ay η a++ay η b
 |[],_=>rfl
 |l::r,b=>by simp[ay,bd η r b]
def fy(η:Vn)(n:Nat)(l:List Hd):Prop:=∀j h,l[j]?=some h->η.h (n+j)=h
theorem fy.left{η:Vn}{a b:List Hd}(h:fy η n (a++b)):fy η n a:=λj x hj=>h j x (by grind)
theorem fy.right{η:Vn}{k:Nat}{a b:List Hd}(h:fy η n (a++b))(hk:a.length=k):fy η (n+k) b:=λj x hj=>by have:=h (k+j) x (by grind);grind
theorem pB{η:Vn}:(t:TC)->(x:t.den)->(y:t.ty.Refs)->(n:Nat)->fy η n (cP t y)->ay η (jT t x n)=t.ty.fill x y
 |.sc _,_,_,_,_=>rfl
 |.arr _ _,_,_,_,_=>by simp[jT,ay,Lf.cells,Ty.fill]
 |.unit,_,_,_,_=>rfl
 |.pair a b,x,y,n,h=>by simp only[jT,bd,Ty.fill];rw[pB a x.1 y.1 n h.left,pB b x.2 y.2 (n+a.nh) (h.right (dp a y.1))]
 |.slice _,x,y,n,h=>by have:=h 0 y rfl;grind[jT,ay,Lf.cells,Ty.fill]
 |.st t,x,y,n,h=>pB t x y n h
 |.ext _,_,_,_,_=>rfl
 |.node,x,y,n,h=>by have:=h 0 y rfl;simp only[acU]at this;simp[jT,ay,Lf.cells,Ty.fill,Nd.fill,this]
 |.mp _ _,x,y,n,h=>by have:=h 0 y rfl;grind[jT,ay,Lf.cells,Ty.fill]
theorem sa{η:Vn}{K:List Nat}:(t:TC)->(x:t.den)->(y:t.ty.Refs)->(n:Nat)->fy η n (cP t y)->(uA t x K n).map (AF.ha η)=facts t.ty K x y
 |.sc _,_,_,_,_=>rfl
 |.arr _ _,_,_,_,_=>rfl
 |.unit,_,_,_,_=>rfl
 |.pair a b,x,y,n,h=>by simp only[uA,acw,facts];rw[sa a x.1 y.1 n h.left,sa b x.2 y.2 (n+a.nh) (h.right (dp a y.1))]
 |.slice _,x,y,n,h=>by have:=h 0 y rfl;grind[uA,AF.ha,facts]
 |.st t,x,y,n,h=>sa t x y n h
 |.ext _,_,_,_,_=>rfl
 |.mp _ _,_,_,_,_=>rfl
 |.node,x,y,n,h=>by have:=h 0 y rfl;grind[uA,AF.ha,facts]
structure SI(t:TC) where
 own:Option (TypeId×Nat)
 K:List Nat
 xs:List t.den
def SI.all{t:TC}(s:SI t):List Nat:=match s.own with
 |none=>s.K
 |some p=>p.2::s.K
def SI.nk{t:TC}(s:SI t):List Nat:=match s.own with
 |none=>s.K
 |some p=>match fQ p.1 with
  |true=>p.2::s.K
  |false=>s.K
def Ec{t t':TC}(h:t'=t)(xs:List t'.den):List t.den:=h▸xs
def mG(t:TC)(h:Nat):List AF->Option (SI t)
 |[]=>none
 |.own t' e i K xs h'::r=>bif Nat.beq h h' then(if he:t'=t then some ⟨some (e,i),K,Ec he xs⟩else none)else mG t h r
 |.rep t' K xs h'::r=>bif Nat.beq h h' then(if he:t'=t then some ⟨none,K,Ec he xs⟩else none)else mG t h r
 |.box _ _ _::r=>mG t h r
 |.isn _ _::r=>mG t h r
 |.prt _ _ _ _ _::r=>mG t h r
 |.pbx _ _ _ _ _::r=>mG t h r
 |.hol _ _ _ _ _ _ _::r=>mG t h r
 |.mp _ _ _ _ _::r=>mG t h r
 |.pt _ _ _ _ _ _ _::r=>mG t h r
def SI.fact{t:TC}(s:SI t)(h:Nat):AF:=match s.own with
 |none=>.rep t s.K s.xs h
 |some p=>.own t p.1 p.2 s.K s.xs h
theorem gj{t:TC}{h:Nat}:∀{F:List AF} {s:SI t},mG t h F=some s->s.fact h∈F
 |[],s,hs=>by simp[mG]at hs
 | .own t' e i K xs h'::r,s,hs=>by
  simp only[mG]at hs;cases hb:Nat.beq h h'
  ·rw[hb]at hs;exact aaw _ (gj hs)
  ·rw[hb]at hs;simp only[f9]at hs;split at hs
   ·rename_i he;subst he;simp only[no]at hs;subst hs;rw[amb hb];exact aaQ
   ·cases hs
 | .rep t' K xs h'::r,s,hs=>by
  simp only[mG]at hs;cases hb:Nat.beq h h'
  ·rw[hb]at hs;exact aaw _ (gj hs)
  ·rw[hb]at hs;simp only[f9]at hs;split at hs
   ·rename_i he;subst he;simp only[no]at hs;subst hs;rw[amb hb];exact aaQ
   ·cases hs
 |.box _ _ _::r,s,hs=>aaw _ (gj (F:=r) hs)
 |.isn _ _::r,s,hs=>aaw _ (gj (F:=r) hs)
 |.prt _ _ _ _ _::r,s,hs=>aaw _ (gj (F:=r) hs)
 |.pbx _ _ _ _ _::r,s,hs=>aaw _ (gj (F:=r) hs)
 |.hol _ _ _ _ _ _ _::r,s,hs=>aaw _ (gj (F:=r) hs)
 |.mp _ _ _ _ _::r,s,hs=>aaw _ (gj (F:=r) hs)
 |.pt _ _ _ _ _ _ _::r,s,hs=>aaw _ (gj (F:=r) hs)
def nU(h:Nat):List AF->Option (Nat×Nat×Int×Int)
 |[]=>none
 |.prt h' h0 sz lo hi::r=>bif Nat.beq h h' then some (h0,sz,lo,hi)else nU h r
 |.pbx _ _ _ _ _::r=>nU h r
 |.own _ _ _ _ _ _::r=>nU h r
 |.rep _ _ _ _::r=>nU h r
 |.box _ _ _::r=>nU h r
 |.isn _ _::r=>nU h r
 |.hol _ _ _ _ _ _ _::r=>nU h r
 |.mp _ _ _ _ _::r=>nU h r
 |.pt _ _ _ _ _ _ _::r=>nU h r
theorem iw{h:Nat}:∀{F:List AF} {h0 sz:Nat} {lo hi:Int},nU h F=some (h0,sz,lo,hi)->.prt h h0 sz lo hi∈F
 |[],_,_,_,_,hs=>by simp[nU]at hs
 |.prt h' h1 sz' lo' hi'::r,h0,sz,lo,hi,hs=>by
  simp only[nU]at hs;cases hb:Nat.beq h h'
  ·rw[hb]at hs;exact aaw _ (iw hs)
  simp_all
 |.pbx _ _ _ _ _::r,_,_,_,_,hs=>aaw _ (iw (F:=r) hs)
 |.own _ _ _ _ _ _::r,_,_,_,_,hs=>aaw _ (iw (F:=r) hs)
 |.rep _ _ _ _::r,_,_,_,_,hs=>aaw _ (iw (F:=r) hs)
 |.box _ _ _::r,_,_,_,_,hs=>aaw _ (iw (F:=r) hs)
 |.isn _ _::r,_,_,_,_,hs=>aaw _ (iw (F:=r) hs)
 |.hol _ _ _ _ _ _ _::r,_,_,_,_,hs=>aaw _ (iw (F:=r) hs)
 |.mp _ _ _ _ _::r,_,_,_,_,hs=>aaw _ (iw (F:=r) hs)
 |.pt _ _ _ _ _ _ _::r,_,_,_,_,hs=>aaw _ (iw (F:=r) hs)
def Pl(h:Nat):List AF->Option (Nat×Nat×Int×Int)
 |[]=>none
 |.pbx h' b off lo hi::r=>bif Nat.beq h h' then some (b,off,lo,hi)else Pl h r
 |_::r=>Pl h r
theorem agb{h:Nat}{F:List AF}{b off:Nat}{lo hi:Int}:Pl h F=some (b,off,lo,hi)->.pbx h b off lo hi∈F:=by fun_induction Pl h F<;>grind[Nat.eq_of_beq_eq_true]
structure MI(k v:TC) where
 i:Nat
 xs:List (k.den×v.den)
def aq0{k v k' v':TC}(h:k'=k/\v'=v)(xs:List (k'.den×v'.den)):List (k.den×v.den):=by
 obtain⟨h1,h2⟩:=h
 subst h1 h2
 exact xs
def vP(k v:TC)(h:Nat):List AF->Option (MI k v)
 |[]=>none
 |.mp k' v' i xs h'::r=>bif Nat.beq h h' then(if he:k'=k/\v'=v then some ⟨i,aq0 he xs⟩else none)else vP k v h r
 |_::r=>vP k v h r
theorem jj{k v:TC}{h:Nat}:∀{F:List AF} {s:MI k v},vP k v h F=some s->.mp k v s.i s.xs h∈F
 |[],s,hs=>by simp[vP]at hs
 | .mp k' v' i xs h'::r,s,hs=>by
  simp only[vP]at hs;cases hb:Nat.beq h h'
  ·rw[hb]at hs;exact aaw _ (jj hs)
  ·rw[hb]at hs;simp only[f9]at hs;split at hs
   ·rename_i he;obtain⟨rfl,rfl⟩:=he;simp only[no]at hs;subst hs;rw[amb hb];exact aaQ
   ·cases hs
 |.own _ _ _ _ _ _::r,s,hs=>aaw _ (jj (F:=r) hs)
 |.rep _ _ _ _::r,s,hs=>aaw _ (jj (F:=r) hs)
 |.box _ _ _::r,s,hs=>aaw _ (jj (F:=r) hs)
 |.isn _ _::r,s,hs=>aaw _ (jj (F:=r) hs)
 |.prt _ _ _ _ _::r,s,hs=>aaw _ (jj (F:=r) hs)
 |.pbx _ _ _ _ _::r,s,hs=>aaw _ (jj (F:=r) hs)
 |.hol _ _ _ _ _ _ _::r,s,hs=>aaw _ (jj (F:=r) hs)
 |.pt _ _ _ _ _ _ _::r,s,hs=>aaw _ (jj (F:=r) hs)
structure PI(t:TC) where
 e:TypeId
 i:Nat
 K:List Nat
 xs:List t.den
 m:Int
def AX(t:TC)(h:Nat):List AF->Option (PI t)
 |[]=>none
 |.pt t' e i K xs h' m::r=>bif Nat.beq h h' then(if he:t'=t then some ⟨e,i,K,Ec he xs,m⟩else none)else AX t h r
 |_::r=>AX t h r
theorem ng{t:TC}{h:Nat}:∀{F:List AF} {s:PI t},AX t h F=some s->.pt t s.e s.i s.K s.xs h s.m∈F
 |[],s,hs=>by simp[AX]at hs
 | .pt t' e i K xs h' m::r,s,hs=>by
  simp only[AX]at hs;cases hb:Nat.beq h h'
  ·rw[hb]at hs;exact aaw _ (ng hs)
  ·rw[hb]at hs;simp only[f9]at hs;split at hs
   ·rename_i he;subst he;simp only[no]at hs;subst hs;rw[amb hb];exact aaQ
   ·cases hs
 |.own _ _ _ _ _ _::r,s,hs=>aaw _ (ng (F:=r) hs)
 |.rep _ _ _ _::r,s,hs=>aaw _ (ng (F:=r) hs)
 |.box _ _ _::r,s,hs=>aaw _ (ng (F:=r) hs)
 |.isn _ _::r,s,hs=>aaw _ (ng (F:=r) hs)
 |.prt _ _ _ _ _::r,s,hs=>aaw _ (ng (F:=r) hs)
 |.pbx _ _ _ _ _::r,s,hs=>aaw _ (ng (F:=r) hs)
 |.hol _ _ _ _ _ _ _::r,s,hs=>aaw _ (ng (F:=r) hs)
 |.mp _ _ _ _ _::r,s,hs=>aaw _ (ng (F:=r) hs)
def iI(t:TC)(F:List AF):Lf->Option (SI t)
 |.sl h=>mG t h F
 |.nl=>some ⟨none,[],[]⟩
 |_=>none
def Lf.hd(η:Vn):Lf->Hd
 |.sl h=>η.h h
 |.bp b _=>⟨some ⟨η.b b,0,none⟩,0,0⟩
 |.clo _ b=>⟨some ⟨η.b b,0,none⟩,0,0⟩
 |.mp h=>η.h h
 |_=>eT
theorem pH{t:TC}{F:List AF}{l:Lf}{s:SI t}(h:iI t F l=some s)(η:Vn):l.val η=(l.hd η).val/\l.cells η=[(l.hd η).val]:=by cases l<;>simp[iI]at h<;>exact⟨rfl,rfl⟩
theorem jk{t:TC}{F:List AF}{l:Lf}{s:SI t}(h:iI t F l=some s){η:Vn}{w:World}{c:bu}(hF:aq w c (F.map (AF.ha η))):HA.holds w c (.rep t.ty s.all s.xs (l.hd η)):=by
 cases l with
 |sl n=>
  have hm:=hF _ (aaG.2 ⟨_,gj h,rfl⟩);obtain⟨own,K,xs⟩:=s;cases own with
  |none=>exact hm
  |some p=>exact NT hm
 |nl=>
  simp only[iI,no]at h;subst h;exact sO w c
 |_=>simp[iI]at h
def gv(t:TC)(e:TypeId)(N:Nat)(F:List AF):Lf->Option (Nat×List Nat×List t.den)
 |.sl h=>match mG t h F with
  |some ⟨some (e',i),K,xs⟩=>bif Nat.beq e e' then some (i,K,xs)else none
  |_=>none
 |.nl=>some (N,[],[])
 |_=>none
theorem gb{t:TC}{e:TypeId}{F:List AF}{l:Lf}{i:Nat}{K:List Nat}{xs:List t.den}(h:gv t e N F l=some (i,K,xs)){η:Vn}{w:World}{c:bu}(hF:aq w c (F.map (AF.ha η))) :
  HA.holds w c (ee t.ty e i K xs (l.hd η)):=by
 cases l with
 | sl n=>
  simp only[gv]at h;split at h
  ·rename_i e' i' K' xs' hs;cases hb:Nat.beq e e'
   ·grind
   ·rw[hb]at h;simp only[f9,no,aaE]at h;obtain⟨rfl,rfl,rfl⟩:=h;rw[amb hb];exact hF _ (aaG.2 ⟨_,gj hs,rfl⟩)
  ·cases h
 |nl=>
  simp only[gv,no,aaE]at h;obtain⟨rfl,rfl,rfl⟩:=h;exact ui w c
 |_=>simp[gv]at h
theorem qO{t:TC}{e:TypeId}{F:List AF}{l:Lf}{r:Nat×List Nat×List t.den}(h:gv t e N F l=some r)(η:Vn):l.val η=(l.hd η).val:=by cases l<;>simp[gv]at h<;>rfl
def E4{t t':SC}(h:t'=t)(x:t'.den):t.den:=h▸x
def Aj{t t':SC}(h:t'=t)(x:List t'.den):List t.den:=h▸x
def ai4{n m:Nat}(h:m=n)(x:X.den m):X.den n:=h▸x
def Ft(F:List AF):List Lf->Option (Nd×List Lf×List Nat×List Lf)
 |.c (.int .i64) k::.c .str tx::.c (.int .i64) m::l::r=>match iI .node F l with
  |some s=>some (Nd.of (k,tx,m,s.xs),[l],s.all,r)
  |none=>none
 |_=>none
theorem AE{F:List AF}{ls:List Lf}{x:Nd}{l:List Lf}{K:List Nat}{r:List Lf}(h:Ft F ls=some (x,l,K,r)):∃k tx m a s,ls=.c (.int .i64) k::.c .str tx::.c (.int .i64) m::a::r/\iI .node F a=some s/\x=Nd.of (k,tx,m,s.xs)/\l=[a]/\K=s.all:=by unfold Ft at h;grind
def co(F:List AF):(t:TC)->List Lf->Option (t.den×List Lf×List Nat×List Lf)
 |.sc s,.c s' x::r=>if h:s'=s then some (E4 h x,[],[],r)else none
 |.sc s,.fn f::r=>if h:SC.fnc=s then some (E4 h f,[],[],r)else none
 |.arr n s,.ar n' s' x::r=>if h:s'=s/\n'=n then some (Aj h.1 x,[],[],r)else none
 |.unit,r=>some ((),[],[],r)
 | .pair a b,r=>match co F a r with
  |some (x,l1,K1,r1)=>match co F b r1 with
   |some (y,l2,K2,r2)=>some ((x,y),l1++l2,K1++K2,r2)
   |none=>none
  |none=>none
 |.slice t,l::r=>match iI t F l with
  |some s=>some (s.xs,[l],s.all,r)
  |none=>none
 |.st t,r=>co F t r
 |.ext n,.xt m x::r=>if h:m=n then some (ai4 h x,[],[],r)else none
 |.node,r=>Ft F r
 |.mp k v,.mp h::r=>some ((match vP k v h F with|some s=>s.xs|none=>[]),[.mp h],[],r)
 |_,_=>none
def aZ(η:Vn)(ls:List Lf):List Hd:=ls.map (Lf.hd η)
theorem eJ{F:List AF}:∀(t:TC) {ls:List Lf} {x:t.den} {l:List Lf} {K:List Nat} {r:List Lf},co F t ls=some (x,l,K,r)->l.length=t.nh
 | .sc s,ls,x,l,K,r,h=>by
  cases ls with
  |nil=>simp[co]at h
  |cons a ls=>
   cases a<;>simp only[co]at h<;>try cases h
   all_goals split at h
   all_goals first|(simp only[no,aaE]at h;obtain⟨_,rfl,_,_⟩:=h;rfl)|cases h
 | .arr n s,ls,x,l,K,r,h=>by
  cases ls with
  |nil=>simp[co]at h
  |cons a ls=>
   cases a<;>simp only[co]at h<;>try cases h
   split at h
   ·simp only[no,aaE]at h;obtain⟨_,rfl,_,_⟩:=h;rfl
   ·cases h
 |.unit,ls,x,l,K,r,h=>by simp[co]at h;rw[h.1];rfl
 | .pair a b,ls,x,l,K,r,h=>by
  simp only[co]at h;split at h
  ·rename_i x1 l1 K1 r1 h1;split at h
   ·rename_i x2 l2 K2 r2 h2;simp only[no,aaE]at h;rw[<-h.2.1,aaL,eJ a h1,eJ b h2];rfl
   ·cases h
  ·cases h
 |.st t,ls,x,l,K,r,h=>eJ t h
 | .slice t,ls,x,l,K,r,h=>by
  cases ls with
  |nil=>simp[co]at h
  |cons a ls=>
   simp only[co]at h;split at h
   ·simp only[no,aaE]at h;rw[<-h.2.1];rfl
   ·cases h
 | .ext n,ls,x,l,K,r,h=>by
  cases ls with
  |nil=>simp[co]at h
  |cons a ls=>
   cases a<;>simp only[co]at h<;>try cases h
   split at h
   ·simp only[no,aaE]at h;obtain⟨_,rfl,_,_⟩:=h;rfl
   ·cases h
 |.node,ls,x,l,K,r,h=>by obtain⟨k,tx,m,a,s,_,_,_,rfl,_⟩:=AE (show Ft F ls=_ from h);rfl
 | .mp k v,ls,x,l,K,r,h=>by
  cases ls with
  |nil=>simp[co]at h
  | cons a ls=>
   cases a with
   |mp hh=>
    simp only[co,no,aaE]at h;rw[<-h.2.1];rfl
   |_=>simp[co]at h
theorem dU:(t:TC)->(l1 l2:List Hd)->l1.length=t.nh->aP t (l1++l2)=aP t l1
 |.sc _,_,_,_=>rfl
 |.arr _ _,_,_,_=>rfl
 |.unit,_,_,_=>rfl
 |.pair a b,l1,l2,h=>by
  simp only[TC.nh]at h;have e:l1=l1.take a.nh++l1.drop a.nh:=(adE _ _).symm;have hl:(l1.take a.nh).length=a.nh:=by simp;omega
  simp only[aP];have e1:aP a (l1++l2)=aP a (l1.take a.nh):=by rw[e,aaW,dU a _ _ hl,<-e]
  have e2:aP a l1=aP a (l1.take a.nh):=by have:=dU a (l1.take a.nh) (l1.drop a.nh) hl;grind
  rw[e1,e2,acB,show a.nh-l1.length=0 by omega,adi,dU b _ _ (by simp;omega)]
 |.slice _,[],_,h=>by simp[TC.nh]at h
 |.slice _,_::_,_,_=>rfl
 |.st t,l1,l2,h=>dU t l1 l2 h
 |.ext _,_,_,_=>rfl
 |.node,[],_,h=>by simp[TC.nh]at h
 |.node,_::_,_,_=>rfl
 |.mp _ _,[],_,h=>by simp[TC.nh]at h
 |.mp _ _,_::_,_,_=>rfl
theorem dX{F:List AF}{η:Vn}:∀(t:TC) {ls:List Lf} {x:t.den} {l:List Lf} {K:List Nat} {r:List Lf},co F t ls=some (x,l,K,r) ->
  ay η ls=t.ty.fill x (aP t (aZ η l))++ay η r /\
  ∀(w:World) (c:bu) (K':List Nat),aq w c (F.map (AF.ha η))->(∀k∈K,k∈K')->bU w (λb=>c b∈K') t.ty x (aP t (aZ η l))
 | .sc s,ls,x,l,K,r,h=>by
  cases ls with
  |nil=>simp[co]at h
  | cons a ls=>
   cases a<;>simp only[co]at h<;>try cases h
   all_goals split at h
   all_goals first|cases h;done|skip
   all_goals
    rename_i he
    subst he
    simp only[no,aaE]at h
    obtain⟨rfl,rfl,rfl,rfl⟩:=h
    exact⟨rfl,λ_ _ _ _ _=>trivial⟩
 | .arr n s,ls,x,l,K,r,h=>by
  cases ls with
  |nil=>simp[co]at h
  |cons a ls=>
   cases a<;>simp only[co]at h<;>try cases h
   split at h
   ·rename_i he;obtain⟨rfl,rfl⟩:=he;simp only[no,aaE]at h;obtain⟨rfl,rfl,rfl,rfl⟩:=h;exact⟨rfl,λ_ _ _ _ _=>trivial⟩
   ·cases h
 |.unit,ls,x,l,K,r,h=>by simp only[co,no,aaE]at h;obtain⟨_,rfl,rfl,rfl⟩:=h;exact⟨rfl,λ_ _ _ _ _=>trivial⟩
 | .pair a b,ls,x,l,K,r,h=>by
  simp only[co]at h;split at h
  ·rename_i x1 l1 K1 r1 h1;split at h
   ·rename_i x2 l2 K2 r2 h2;simp only[no,aaE]at h;obtain⟨rfl,rfl,rfl,rfl⟩:=h;obtain⟨c1,f1⟩:=dX (η:=η) a h1;obtain⟨c2,f2⟩:=dX (η:=η) b h2;have hn:(aZ η l1).length=a.nh:=by simp[aZ,eJ a h1]
    have e1:aP a (aZ η (l1++l2))=aP a (aZ η l1):=by grind[aZ,dU]
    have e2:aP b ((aZ η (l1++l2)).drop a.nh)=aP b (aZ η l2):=by grind[aZ]
    refine⟨?_,λw c K' hF hK=>⟨?_,?_⟩⟩
    ·simp only[aP,Ty.fill];grind
    ·show bU w _ a.ty x1 (aP a _);simp_all
    ·show bU w _ b.ty x2 (aP b _);simp_all
   ·cases h
  ·cases h
 | .slice t,ls,x,l,K,r,h=>by
  cases ls with
  |nil=>simp[co]at h
  | cons a ls=>
   simp only[co]at h;split at h
   ·rename_i s hs;simp only[no,aaE]at h;obtain⟨rfl,rfl,rfl,rfl⟩:=h;refine⟨?_,λw c K' hF hK=>?_⟩
    ·simp only[ay,(pH hs η).2];rfl
    ·exact bU.keep (S:=λb=>c b∈s.all) (λb _ hb=>⟨hK _ hb,rfl⟩) (.slice t.ty) s.xs (a.hd η) (jk hs hF)
   ·cases h
 |.st t,ls,x,l,K,r,h=>dX t h
 | .ext n,ls,x,l,K,r,h=>by
  cases ls with
  |nil=>simp[co]at h
  |cons a ls=>
   cases a<;>simp only[co]at h<;>try cases h
   split at h
   ·rename_i he;subst he;simp only[no,aaE]at h;obtain⟨rfl,rfl,rfl,rfl⟩:=h;exact⟨rfl,λ_ _ _ _ _=>trivial⟩
   ·cases h
 |.node,ls,x,l,K,r,h=>by
  obtain⟨k,tx,m,a,s,rfl,hs,rfl,rfl,rfl⟩:=AE (show Ft F ls=_ from h);refine⟨?_,λw c K' hF hK=>?_⟩
  ·simp only[ay,(pH hs η).2];rfl
  ·exact pC.2 (bU.keep (S:=λb=>c b∈s.all) (λb _ hb=>⟨hK _ hb,rfl⟩) (.slice .node) s.xs (a.hd η) (jk hs hF))
 | .mp k v,ls,x,l,K,r,h=>by
  cases ls with
  |nil=>simp[co]at h
  | cons a ls=>
   cases a with
   |mp hh=>
    simp only[co,no,aaE]at h;obtain⟨rfl,rfl,rfl,rfl⟩:=h;exact⟨rfl,λ_ _ _ _ _=>trivial⟩
   |_=>simp[co]at h
end
section
variable [X:XTab] [G:GTab]
theorem di.map{ρ:dr}{L:List HA}{κ:List Nat}{Y Y':Type}{val:Y->Value}{Φ:Y->List HA}{val':Y'->Value}{Φ':Y'->List HA}(g:Y->Y')
  (h:di P ρ o L κ val Φ) (hv:∀y,val y=val' (g y)) (hΦ:∀y,Φ y=Φ' (g y)):di P ρ o L κ val' Φ':=by
 intro a ev w c next Q ha hL hk
 refine h a ev w c next Q ha hL λy w' c' hs hF=>?_
 grind
theorem mV{F:List AF}{f:AF}(h:f∈F)(η:Vn):∃k:Nat,(F.map (AF.ha η))[k]?=some (f.ha η):=by obtain⟨k,hk⟩:=aku.1 h;exact⟨k,by simp[hk]⟩
def Vn.setB(η:Vn)(n b:Nat):Vn:=⟨η.h,λm=>bif Nat.beq m n then b else η.b m⟩
theorem Vn.setB_agr(η:Vn)(n b:Nat):η.agr n (η.setB n b):=by
 intro m hm;refine⟨rfl,?_⟩;have:Nat.beq m n=false:=by
  cases hb:Nat.beq m n
  ·rfl
  ·have:=amb hb;subst this;simp only[bE,acO]at hm;rcases hm with hm|hm
   ·simp_all
   ·have:=aaA hm;omega
 simp only[Vn.setB,this,aax]
theorem Vn.setB_at(η:Vn)(n b:Nat):(η.setB n b).b n=b:=by simp[Vn.setB]
def Vn.setH(η:Vn)(n:Nat)(h:Hd):Vn:=⟨λm=>bif Nat.beq m n then h else η.h m,η.b⟩
theorem Vn.setH_agr(η:Vn)(n:Nat)(h:Hd):η.agr n (η.setH n h):=by
 intro m hm;refine⟨?_,rfl⟩;have:Nat.beq m n=false:=by
  cases hb:Nat.beq m n
  ·rfl
  ·have:=amb hb;subst this;simp only[bE,acO]at hm;rcases hm with hm|hm
   ·simp_all
   ·have:=aaA hm;omega
 simp only[Vn.setH,this,aax]
theorem Vn.setH_at(η:Vn)(n:Nat)(h:Hd):(η.setH n h).h n=h:=by simp[Vn.setH]
def Lf.one1:Lf->Bool
 |.v x=>x.oneCell'
 |_=>true
def uR:List Lf->Bool
 |[]=>true
 |l::r=>l.one1&&uR r
theorem Ws{η:Vn}{l:Lf}(h:l.one1=true):∀u∈l.cells η,u.oneCell'=true:=by
 cases l with
 |ar n s x=>exact wN (TC.arr n s).ty x ()
 |ars t xs=>exact li t.ty
 |c s x=>intro u hu;simp[Lf.cells]at hu;subst hu;exact s.one x
 |xt n x=>intro u hu;simp[Lf.cells]at hu;subst hu;exact X.one n x
 |v x=>intro u hu;simp[Lf.cells]at hu;subst hu;exact h
 |_=>intro u hu;simp[Lf.cells]at hu;subst hu;rfl
theorem ou{η:Vn}:∀{ls:List Lf},uR ls=true->∀u∈ay η ls,u.oneCell'=true
 |[],_,u,hu=>by simp[ay]at hu
 |l::r,h,u,hu=>by
  simp only[uR,aas]at h;simp only[ay,aa1]at hu;rcases hu with hu|hu
  ·exact Ws h.1 u hu
  ·exact ou h.2 u hu
def AV.lvs:AV->Option (List Lf)
 |.lf l=>bif l.one1 then some [l]else none
 |.ag ls=>bif uR ls then some ls else none
 |.tu _=>none
theorem AV.lvs_one{v:AV}{ls:List Lf}(h:v.lvs=some ls):uR ls=true:=by
 cases v with
 |lf l=>
  grind[AV.lvs,uR]
 |ag l=>
  simp only[AV.lvs]at h;grind
 |tu _=>cases h
theorem un{x:Value}(h:x.oneCell'=true):x.cells = #[x]:=by cases x<;>first|rfl|(simp[Value.oneCell']at h)
theorem AV.lvs_cells{v:AV}{ls:List Lf}(h:v.lvs=some ls)(η:Vn):(v.val η).cells=(ay η ls).toArray:=by
 cases v with
 | lf l=>
  simp only[AV.lvs]at h;cases hb:l.one1
  ·grind
  ·rw[hb]at h;simp only[f9,no]at h;subst h;cases l with
   |ar n s x=>simp[AV.val,Lf.val,ay,Lf.cells,Value.cells]
   |ars t xs=>simp[AV.val,Lf.val,ay,Lf.cells,Value.cells]
   |c s x=>exact un (s.one x)
   |xt n x=>exact un (X.one n x)
   |v x=>exact un hb
   |_=>rfl
 |ag l=>
  simp only[AV.lvs]at h;cases hb:uR l
  ·grind
  ·rw[hb]at h;simp at h;subst h;rfl
 |tu _=>cases h
def kJ(b:Nat):List AF->Option (Nat×List Lf)
 |[]=>none
 |.box i b' cs::r=>bif Nat.beq b b' then some (i,cs)else kJ b r
 |_::r=>kJ b r
theorem fJ{b:Nat}:∀{F:List AF} {i:Nat} {cs:List Lf},kJ b F=some (i,cs)->.box i b cs∈F
 |[],_,_,h=>by simp[kJ]at h
 |.box i b' cs::r,i',cs',h=>by
  simp only[kJ]at h;cases hb:Nat.beq b b'
  ·rw[hb]at h;exact aaw _ (fJ h)
  simp_all
 |.own _ _ _ _ _ _::r,_,_,h=>aaw _ (fJ (F:=r) h)
 |.rep _ _ _ _::r,_,_,h=>aaw _ (fJ (F:=r) h)
 |.isn _ _::r,_,_,h=>aaw _ (fJ (F:=r) h)
 |.prt _ _ _ _ _::r,_,_,h=>aaw _ (fJ (F:=r) h)
 |.pbx _ _ _ _ _::r,_,_,h=>aaw _ (fJ (F:=r) h)
 |.hol _ _ _ _ _ _ _::r,_,_,h=>aaw _ (fJ (F:=r) h)
 |.mp _ _ _ _ _::r,_,_,h=>aaw _ (fJ (F:=r) h)
 |.pt _ _ _ _ _ _ _::r,_,_,h=>aaw _ (fJ (F:=r) h)
def ml:List Lf->Nat->Option (List Lf×List Lf)
 |[],k=>bif Nat.beq k 0 then some ([],[])else none
 |l::r,k=>bif Nat.beq k 0 then some ([],l::r)else bif Nat.ble 1 l.sz&&Nat.ble l.sz k then match ml r (k-l.sz)with|some (a,b)=>some (l::a,b)|none=>none else none
theorem jf:∀{cs:List Lf} {k:Nat} {a b:List Lf},ml cs k=some (a,b)->cs=a++b/\∀η,(ay η a).length=k
 |[],k,a,b,h=>by
  simp only[ml]at h;cases hb:Nat.beq k 0
  ·grind
  ·rw[hb]at h;simp only[f9,no,aaE]at h;obtain⟨rfl,rfl⟩:=h;exact⟨rfl,λ_=>(amb hb).symm⟩
 | l::r,k,a,b,h=>by
  simp only[ml]at h;cases hk:Nat.beq k 0
  ·rw[hk]at h;simp only[aax]at h;cases hb:(Nat.ble 1 l.sz&&Nat.ble l.sz k)
   ·grind
   ·rw[hb]at h;simp only[f9]at h;simp only[aas]at hb;have h2:=aaA hb.2;split at h
    ·rename_i a' b' he;simp only[no,aaE]at h;obtain⟨rfl,rfl⟩:=h;obtain⟨e,hl⟩:=jf he;refine⟨by rw[e];rfl,λη=>?_⟩;simp only[ay,aaL,l.cells_sz,hl η];omega
    ·cases h
  ·rw[hk]at h;simp only[f9,no,aaE]at h;obtain⟨rfl,rfl⟩:=h;exact⟨rfl,λ_=>(amb hk).symm⟩
def cut(off sz:Nat)(cs:List Lf):Option (List Lf×List Lf×List Lf):=match ml cs off with
 |some (a,b)=>match ml b sz with
  |some (m,r)=>some (a,m,r)
  |none=>none
 |none=>none
theorem xO{off sz:Nat}{cs a m r:List Lf}(h:cut off sz cs=some (a,m,r)):cs=a++m++r/\∀η,(ay η a).length=off/\(ay η m).length=sz:=by grind[cut,Option.some.injEq,Prod.mk.injEq,jf]
def HB(agg:Bool):List Lf->Option AV
 |[.ar n s x]=>bif agg then some (.lf (.ar n s x))else none
 |[.ars t xs]=>bif agg then some (.lf (.ars t xs))else none
 |[l]=>some (bif agg then .ag [l]else .lf l)
 |ls=>bif agg then some (.ag ls)else none
theorem B1{ls:List Lf}{v:AV}(h:HB true ls=some v)(η:Vn):v.val η=.agg (ay η ls).toArray:=by unfold HB at h;grind[AV.val,Lf.val,ay,Lf.cells]
theorem Bx{ls:List Lf}{v:AV}(h:HB false ls=some v)(η:Vn):∃l,ls=[l]/\v=.lf l/\l.cells η=[v.val η]:=by
 unfold HB at h;split at h
 ·simp at h
 ·simp at h
 ·rename_i l hne hne';simp at h;subst h;refine⟨l,rfl,rfl,?_⟩;cases l<;>first|rfl|(exact absurd rfl (hne _ _ _))|grind
 ·simp at h
theorem nR{d:TD}(h:TInf.fits P t d):∃td,P.underlying t=some td/\lR td=d.agg:=by
 cases d with
 |st fs=>obtain⟨F,h1,_⟩:=h;exact⟨_,h1,rfl⟩
 |other=>obtain⟨d,h1,h2⟩:=h;exact⟨d,h1,h2⟩
 |_=>exact⟨_,h,rfl⟩
section
variable {R:Type} {P:Program} {o:Oper} {E:SE} {F:List AF} {n:Nat} {Θ:Tb} {ex:Option Bool}
def Ni(Θ:Tb)(n N:Nat)(t:TypeId)(k:Out->Option R):Option R:=match Θ t with
 |some i=>bif Nat.ble 2 N then k ⟨.lf (.bp n 0),[.box N n i.zl],[]⟩else none
 |none=>none
theorem aaf(hΘ:Θ.ok P)(ho:o.op=.alloc t)(k:Out->Option R):au ex P o E F n (Ni Θ n N t k) k:=by
 unfold Ni;split
 ·rename_i i hi;refine au.bif λhN=>au.of λ_ η ρ hE=>?_
  obtain⟨h1,_,h3,h4⟩:=hΘ t i hi;refine(aff ho h1 h3 hN).map (λb=>⟨η.setB n b,η.setB_agr n b⟩) (λb=>?_) λb=>?_
  ·simp[AV.val,Lf.val,Vn.setB_at]
  ·simp[AF.ha,Vn.setB_at,h4 (η.setB n b)]
 ·exact au.none
def adY(n N:Nat)(v:AV)(k:Out->Option R):Option R:=match v.lvs with
 |some ls=>bif Nat.ble 2 N&&uL n ls then k ⟨.lf (.bp n 0),[.box N n ls],[]⟩else none
 |none=>none
theorem ak4{v:AV}(ho:o.op=.box t x)(hv:ev E x=some v)(k:Out->Option R):au ex P o E F n (adY n N v k) k:=by
 unfold adY;split
 ·rename_i ls hl;refine au.bif λhN=>au.of λ_ η ρ hE=>?_
  simp only[aas]at hN;refine(apr ho (aN hE hv) (v.lvs_cells hl η) hN.1).map (λb=>⟨η.setB n b,η.setB_agr n b⟩) (λb=>?_) λb=>?_
  ·simp[AV.val,Lf.val,Vn.setB_at]
  ·simp[AF.ha,Vn.setB_at,rQ (η.setB_agr n b) ls hN.2]
 ·exact au.none
def Nr(Θ:Tb)(t:TypeId)(b off:Nat)(F:List AF)(k:Out->Option R):Option R:=match Θ t,kJ b F with
 | some i,some (_,cs)=>match cut off i.sz cs with
  |some (_,m,_)=>match HB i.d.agg m with
   |some v=>k (bk v)
   |none=>none
  |none=>none
 |_,_=>none
theorem Zy(hΘ:Θ.ok P){b off:Nat}(ho:o.op=.load t x)(hx:ev E x=some (.lf (.bp b off)))(k:Out->Option R):au ex P o E F n (Nr Θ t b off F k) k:=by
 unfold Nr;split
 ·rename_i i ci cs hi hb;split
  ·rename_i a m r hc;split
   ·rename_i v hv;refine au.of λ_=>(dB.pure λη ρ hE=>?_)
    obtain⟨h1,h2,_,_⟩:=hΘ t i hi;obtain⟨td,ht,hd⟩:=nR h2;obtain⟨j,hj⟩:=mV (fJ hb) η;obtain⟨e,hl⟩:=xO hc;obtain⟨l1,l2⟩:=hl η;have hcell:((ay η cs).drop off).take i.sz=ay η m:=by
     rw[e,bd,bd,aaW,acB,acj (by omega),show off-(ay η a).length=0 by omega,adi,acG,ads,ab4 (by omega),
      show i.sz-(ay η m).length=0 by omega,aek,abd]
    cases hag:i.d.agg
    ·rw[hag]at hv hd;obtain⟨l,rfl,rfl,hl1⟩:=Bx hv η;refine DY j hj ho ht hd (aN hE hx) ?_;have h5:ay η [l]=[(AV.lf l).val η]:=by simp[ay,hl1]
     rw[h5]at hcell l2;have:=aba (·[0]?) hcell;grind
    ·rw[hag]at hv hd;rw[B1 hv η];exact P2 j hj ho ht hd h1 (aN hE hx) hcell (by simp[l2])
   ·exact au.none
  ·exact au.none
 ·exact au.none
def F5(Θ:Tb)(t:TypeId)(b off:Nat)(v:AV)(F:List AF)(k:Out->Option R):Option R:=match Θ t,kJ b F,v.lvs with
 |some i,some (ci,cs),some ls=>match cut off i.sz cs,ml ls i.sz with
  |some (a,_,r),some (_,[])=>k ⟨.lf (.v undef),[.box ci b (a++ls++r)],[ci]⟩
  |_,_=>none
 |_,_,_=>none
theorem VY(hΘ:Θ.ok P){b off:Nat}{v:AV}(ho:o.op=.store t x y)(hx:ev E x=some (.lf (.bp b off)))(hy:ev E y=some v)(k:Out->Option R):au ex P o E F n (F5 Θ t b off v F k) k:=by
 unfold F5;split
 ·rename_i i ci cs ls hi hb hl;split
  ·rename_i a m r q hc hs;refine au.of λ_ η ρ hE=>?_
   obtain⟨h1,h2,_,_⟩:=hΘ t i hi;obtain⟨j,hj⟩:=mV (fJ hb) η;obtain⟨e,hll⟩:=xO hc;obtain⟨l1,l2⟩:=hll η;obtain⟨e2,l3⟩:=jf hs;rw[abd]at e2;subst e2;have l3:=l3 η;have hval:∀y : { η':Vn//η.agr n η'},undef=(AV.lf (.v undef)).val y.1:=λ_=>rfl;refine(AD (cs':=ay η (a++ls++r)) j hj ho h1 (aN hE hx) (aN hE hy) (v.lvs_cells hl η) (by simp[l3]) (aaB.2 (ou (AV.lvs_one hl))) ?_ ?_).map (λ_=>⟨η,Vn.agr_refl n η⟩) (λ_=>rfl) (λ_=>rfl)
   ·rw[e,bd,bd];simp_all
   grind[bd]
  ·exact au.none
 ·exact au.none
end
end
end Go.Sm
