/- Laws for the row. No condition. -/
import Derived.Test.YtgghcmbaidihjaaGreatDoorSimR
namespace Go.Sm
variable {n N:Nat} {P:Program} {t:TypeId} {o:Oper} {x y:Operand} {R:Type} {ex:Option Bool} {b:Bool}
inductive SC
 |int (k:IntKind)
 |bool
 |str
 |fnc
 deriving DecidableEq
inductive TC
 |sc (s:SC)
 |arr (n:Nat) (s:SC)
 |unit
 |pair (a b:TC)
 |slice (t:TC)
 |st (t:TC)
 |ext (n:Nat)
 |node
 |mp (k v:TC)
 deriving DecidableEq
abbrev TC.nodeC:TC:=.pair (.sc (.int .i64)) (.pair (.sc .str) (.pair (.sc (.int .i64)) (.slice .node)))
def HF(m:Nat)(xs:List Int):List Value:=(List.range m).map λi=>Value.int .u8 (xs.getD i 0)
class XTab where
 den:Nat->Type
 val:(n:Nat)->den n->Value
 one:(n:Nat)->(x:den n)->(val n x).oneCell'=true
 dft:(n:Nat)->den n
 tr:Nat->Nat
 ik:TypeId->Option Nat
 il:TypeId->Nat
 imk:(n:Nat)->TypeId->List Int->den n
 iget:(n:Nat)->TypeId->den n->Option (List Int)
 iok:∀t n xs,ik t=some n->val n (imk n t xs)=.iface t (.agg (HF (il t) xs).toArray)
 gok:∀t n d,ik t=some n->(∀xs,iget n t d=some xs->val n d=.iface t (.agg (HF (il t) xs).toArray))/\(iget n t d=none->∃t' v,val n d=.iface t' v/\t'≠t)
abbrev SC.den:SC->Type
 |.int _=>Int
 |.bool=>Bool
 |.str=>List UInt8
 |.fnc=>Nat
abbrev SC.val:(s:SC)->s.den->Value
 |.int k,n=>.int k n
 |.bool,x=>.bool x
 |.str,x=>.string ⟨x.toArray⟩
 |.fnc,f=>.func (.func f) #[] #[]
theorem SC.one:(s:SC)->(x:s.den)->(s.val x).oneCell'=true
 |.int _,_=>rfl
 |.bool,_=>rfl
 |.str,_=>rfl
 |.fnc,_=>rfl
abbrev SC.dft:(s:SC)->s.den
 |.int _=>(0:Int)
 |.bool=>false
 |.str=>([]:List UInt8)
 |.fnc=>(0:Nat)
section
variable [X:XTab]
abbrev TC.ty:TC->Ty
 |.sc s=>.one s.den s.val s.one
 |.arr n s=>.arr n s.den s.dft s.val s.one
 |.unit=>.unit
 |.pair a b=>.pair a.ty b.ty
 |.slice t=>.slice t.ty
 |.st t=>t.ty
 |.ext n=>.one (X.den n) (X.val n) (X.one n)
 |.node=>.node
 |.mp k v=>.mp k.ty v.ty
abbrev TC.den(t:TC):Type:=t.ty.den
abbrev TC.dft:(t:TC)->t.den
 |.sc s=>s.dft
 |.arr _ _=>[]
 |.unit=>()
 |.pair a b=>(a.dft,b.dft)
 |.slice _=>[]
 |.st t=>t.dft
 |.ext n=>X.dft n
 |.node=>Nd.of (0,[],0,[])
 |.mp _ _=>[]
def TC.ref0:(t:TC)->t.ty.Refs
 |.sc _=>()
 |.arr _ _=>()
 |.unit=>()
 |.pair a b=>(a.ref0,b.ref0)
 |.slice _=>(⟨none,0,0⟩:Hd)
 |.st t=>t.ref0
 |.ext _=>()
 |.node=>(⟨none,0,0⟩:Hd)
 |.mp _ _=>(⟨none,0,0⟩:Hd)
inductive Pa:TC->TC->Type
 |here {t:TC}:Pa t t
 |fst {a b u:TC} (p:Pa a u):Pa (.pair a b) u
 |snd {a b u:TC} (p:Pa b u):Pa (.pair a b) u
 |inn {a u:TC} (p:Pa a u):Pa (.st a) u
 |el {n:Nat} {s:SC} (j:Int):Pa (.arr n s) (.sc s)
 |nd {u:TC} (p:Pa TC.nodeC u):Pa .node u
inductive Lf:Type
 |c (s:SC) (x:s.den)
 |ar (n:Nat) (s:SC) (x:List s.den)
 |sl (h:Nat)
 |nl
 |bp (b off:Nat)
 |bq (b off n:Nat) (s:SC) (j:Int)
 |rp (h:Nat) (t:TC) (i:Int) (u:TC) (p:Pa t u)
 |xt (n:Nat) (x:X.den n)
 |fn (f:FuncId)
 |clo (f:FuncId) (bs:List Nat)
 |yl
 |gp (g:Nat) (t:TC) (i:Int) (u:TC) (p:Pa t u)
 |ars (t:TC) (xs:List t.den)
 |mp (h:Nat)
 |v (x:Value)
def Lf.sz:Lf->Nat
 |.ar n _ _=>n
 |.ars t xs=>xs.length*t.ty.sz
 |_=>1
inductive AV:Type
 |lf (l:Lf)
 |ag (ls:List Lf)
 |tu (vs:List AV)
structure Vn where
 h:Nat->Hd
 b:Nat->Nat
class GCx where
 l:Nat
 ex:List HA
 exu:∀A∈ex,∀k∈A.uses,k<2
 exm:∀A∈ex,∀(w:World) (c c':aS),A.holds w c->(∀b,c b=0->c' b=0)->A.holds w c'
 β:Vn
def Pa.off : {t u:TC}->Pa t u->Nat
 |_,_,.here=>0
 |_,_,.fst p=>p.off
 |_,_,@Pa.snd a _ _ p=>a.ty.sz+p.off
 |_,_,.inn p=>p.off
 |_,_,.el j=>j.toNat
 |_,_,.nd p=>p.off
def eu:Hd:=⟨none,0,0⟩
variable [Yc:GCx]
def Lf.cells(a:Vn):Lf->List Value
 |.c s x=>[s.val x]
 |.ar n s x=>(TC.arr n s).ty.fill x ()
 |.sl h=>[(a.h h).val]
 |.nl=>[eu.val]
 |.bp b off=>[.pointer (some ⟨a.b b,off,none⟩)]
 |.bq b off _ _ j=>[.pointer (some ⟨a.b b,off+j.toNat,none⟩)]
 |.rp h t i _ p=>[.pointer (some (di (a.h h) (i.toNat*t.ty.sz+p.off)))]
 |.xt n x=>[X.val n x]
 |.fn f=>[.func (.func f) #[] #[]]
 |.clo f bs=>[.func (.func f) #[] (bs.map λb=>.pointer (some ⟨a.b b,0,none⟩)).toArray]
 |.yl=>[.func (.yield Yc.l) #[] #[]]
 |.gp g t i _ p=>[.pointer (some ⟨g,i.toNat*t.ty.sz+p.off,none⟩)]
 |.ars t xs=>cellsOf t.ty xs (List.replicate xs.length t.ref0)
 |.mp h=>[.map (some (a.h h).blk)]
 |.v x=>[x]
def Lf.val(η:Vn)(l:Lf):Value:=match l with
 |.c s x=>s.val x
 |.ar n s x=>.agg ((TC.arr n s).ty.fill x ()).toArray
 |.sl h=>(η.h h).val
 |.nl=>eu.val
 |.bp b off=>.pointer (some ⟨η.b b,off,none⟩)
 |.bq b off _ _ j=>.pointer (some ⟨η.b b,off+j.toNat,none⟩)
 |.rp h t i _ p=>.pointer (some (di (η.h h) (i.toNat*t.ty.sz+p.off)))
 |.xt n x=>X.val n x
 |.fn f=>.func (.func f) #[] #[]
 |.clo f bs=>.func (.func f) #[] (bs.map λb=>.pointer (some ⟨η.b b,0,none⟩)).toArray
 |.yl=>.func (.yield Yc.l) #[] #[]
 |.gp g t i _ p=>.pointer (some ⟨g,i.toNat*t.ty.sz+p.off,none⟩)
 |.ars t xs=>.agg (cellsOf t.ty xs (List.replicate xs.length t.ref0)).toArray
 |.mp h=>.map (some (η.h h).blk)
 |.v x=>x
def aw(η:Vn):List Lf->List Value
 |[]=>[]
 |l::r=>l.cells η++aw η r
mutual
def AV.val(η:Vn):AV->Value
 |.lf l=>l.val η
 |.ag ls=>.agg (aw η ls).toArray
 |.tu vs=>.tuple (AV.vals η vs).toArray
def AV.vals(η:Vn):List AV->List Value
 |[]=>[]
 |v::r=>v.val η::AV.vals η r
end
inductive AF:Type
 |rep (t:TC) (K:List Nat) (xs:List t.den) (h:Nat)
 |own (t:TC) (e:TypeId) (i:Nat) (K:List Nat) (xs:List t.den) (h:Nat)
 |box (i b:Nat) (cs:List Lf)
 |isn (h:Nat) (b:Bool)
 |ag (B:Nat)
 |prt (h' h sz:Nat) (lo hi:Int)
 |pbx (h' b off:Nat) (lo hi:Int)
 |hol (t:TC) (e:TypeId) (i:Nat) (xs:List t.den) (h:Nat) (k:Int) (cs:List Lf)
 |mp (k v:TC) (i:Nat) (xs:List (k.den×v.den)) (h:Nat)
 |pt (t:TC) (e:TypeId) (i:Nat) (K:List Nat) (xs:List t.den) (h:Nat) (m:Int)
def om(t:TC)(x:t.den):Value:=match t,x with
 |.sc s,x=>s.val x
 |.arr n s,x=>.agg ((TC.arr n s).ty.fill x ()).toArray
 |.unit,_=>.agg #[]
 |.pair a b,x=>.agg ((TC.pair a b).ty.fill x (TC.pair a b).ref0).toArray
 |.st a,x=>.agg (a.ty.fill x a.ref0).toArray
 |.slice _,_=>eu.val
 |.ext k,x=>X.val k x
 |.node,x=>.agg (Ty.node.fill x eu).toArray
 |.mp _ _,_=>.map none
def Cn(k v:TC)(xs:List (k.den×v.den)):List (Value×Value):=xs.map λp=>(om k p.1,om v p.2)
def AF.ha(η:Vn):AF->HA
 |.rep t K xs h=>.rep t.ty K xs (η.h h)
 |.own t e i K xs h=>ep t.ty e i K xs (η.h h)
 |.box i b cs=>.box i (η.b b) (aw η cs)
 |.isn h b=>.pure ((η.h h).isNil=b)
 |.ag B=>.pure (∀m,m<B->η.b m=Yc.β.b m/\η.h m=Yc.β.h m)
 |.prt h' h sz lo hi=>.pure (lm (η.h h') (η.h h) sz lo hi)
 |.pbx h' b off lo hi=>.pure (lm (η.h h') ⟨some ⟨η.b b,off,none⟩,0,0⟩ 1 lo hi)
 |.hol t e i xs h k cs=>.hol t.ty e i xs (η.h h) k.toNat (aw η cs)
 |.mp k v i xs h=>.mp i (η.h h).blk (Cn k v xs)
 |.pt t e i K xs h m=>.pt t.ty e i K xs (η.h h) m
def AF.uses:AF->List Nat
 |.rep _ K _ _=>K
 |.own _ _ i K _ _=>i::K
 |.box i _ _=>[i]
 |.isn _ _=>[]
 |.ag _=>[]
 |.prt _ _ _ _ _=>[]
 |.pbx _ _ _ _ _=>[]
 |.hol _ _ i _ _ _ _=>[i]
 |.mp _ _ i _ _=>[i]
 |.pt _ _ i K _ _ _=>i::K
def Lf.hs:Lf->List Nat
 |.sl h=>[h]
 |.rp h _ _ _ _=>[h]
 |.mp h=>[h]
 |_=>[]
def Lf.bs:Lf->List Nat
 |.bp b _=>[b]
 |.bq b _ _ _ _=>[b]
 |.clo _ bs=>bs
 |_=>[]
def out(n m:Nat):Bool:=Nat.blt m n||Nat.ble (n+64) m
def Lf.free(n:Nat)(l:Lf):Bool:=match l with
 |.sl h=>out n h
 |.rp h _ _ _ _=>out n h
 |.bp b _=>out n b
 |.bq b _ _ _ _=>out n b
 |.clo _ bs=>bs.all (out n)
 |.mp h=>out n h
 |_=>true
def uo(n:Nat):List Lf->Bool
 |[]=>true
 |l::r=>l.free n&&uo n r
mutual
def AV.free(n:Nat):AV->Bool
 |.lf l=>l.free n
 |.ag ls=>uo n ls
 |.tu vs=>AV.frees n vs
def AV.frees(n:Nat):List AV->Bool
 |[]=>true
 |v::r=>v.free n&&AV.frees n r
end
def AF.free(n:Nat):AF->Bool
 |.rep _ _ _ h=>out n h
 |.own _ _ _ _ _ h=>out n h
 |.box _ b cs=>out n b&&uo n cs
 |.isn h _=>out n h
 |.ag B=>Nat.ble B n
 |.prt h' h _ _ _=>out n h'&&out n h
 |.pbx h' h _ _ _=>out n h'&&out n h
 |.hol _ _ _ _ h _ cs=>out n h&&uo n cs
 |.mp _ _ _ _ h=>out n h
 |.pt _ _ _ _ _ h _=>out n h
def Vn.agr(n:Nat)(a η':Vn):Prop:=∀m,out n m=true->η'.h m=a.h m/\η'.b m=a.b m
theorem Lf.cells_agr{a η':Vn}(h:a.agr n η'):(l:Lf)->l.free n=true->l.cells η'=l.cells a
 |.sl m,hf=>by simp only[Lf.cells,(h m hf).1]
 |.rp m _ _ _ _,hf=>by simp only[Lf.cells,(h m hf).1]
 |.mp m,hf=>by simp only[Lf.cells,(h m hf).1]
 |.bp m _,hf=>by simp only[Lf.cells,(h m hf).2]
 |.bq m _ _ _ _,hf=>by simp only[Lf.cells,(h m hf).2]
 |.clo _ bs,hf=>by
  have:bs.map (λb=>Value.pointer (some ⟨η'.b b,0,none⟩))=bs.map λb=>Value.pointer (some ⟨a.b b,0,none⟩):=afA λb c=>by rw[(h b (acr.1 hf b c)).2]
  simp only[Lf.cells,this]
 |.yl,_=>rfl
 |.gp _ _ _ _ _,_=>rfl
 |.ars _ _,_=>rfl
 |.c _ _,_=>rfl
 |.ar _ _ _,_=>rfl
 |.nl,_=>rfl
 |.xt _ _,_=>rfl
 |.fn _,_=>rfl
 |.v _,_=>rfl
theorem Lf.val_agr{a η':Vn}(h:a.agr n η'):(l:Lf)->l.free n=true->l.val η'=l.val a
 |.sl m,hf=>by simp only[Lf.val,(h m hf).1]
 |.rp m _ _ _ _,hf=>by simp only[Lf.val,(h m hf).1]
 |.mp m,hf=>by simp only[Lf.val,(h m hf).1]
 |.bp m _,hf=>by simp only[Lf.val,(h m hf).2]
 |.bq m _ _ _ _,hf=>by simp only[Lf.val,(h m hf).2]
 |.clo _ bs,hf=>by
  have:bs.map (λb=>Value.pointer (some ⟨η'.b b,0,none⟩))=bs.map λb=>Value.pointer (some ⟨a.b b,0,none⟩):=afA λb c=>by rw[(h b (acr.1 hf b c)).2]
  simp only[Lf.val,this]
 |.yl,_=>rfl
 |.gp _ _ _ _ _,_=>rfl
 |.ars _ _,_=>rfl
 |.c _ _,_=>rfl
 |.ar _ _ _,_=>rfl
 |.nl,_=>rfl
 |.xt _ _,_=>rfl
 |.fn _,_=>rfl
 |.v _,_=>rfl
theorem qa{n:Nat}{η η':Vn}(h:η.agr n η'):(ls:List Lf)->uo n ls=true->aw η' ls=aw η ls
 |[],_=>rfl
 |l::r,hf=>by simp only[uo,abF]at hf;simp only[aw,l.cells_agr h hf.1,qa h r hf.2]
mutual
theorem AV.val_agr{n:Nat}{a η':Vn}(h:a.agr n η'):(v:AV)->v.free n=true->v.val η'=v.val a
 |.lf l,hf=>by simp only[AV.val];exact l.val_agr h hf
 |.ag ls,hf=>by simp only[AV.val];rw[qa h ls hf]
 |.tu vs,hf=>by simp only[AV.val];rw[AV.vals_agr h vs hf]
theorem AV.vals_agr{n:Nat}{a η':Vn}(h:a.agr n η'):(vs:List AV)->AV.frees n vs=true->AV.vals η' vs=AV.vals a vs
 |[],_=>rfl
 |v::r,hf=>by simp only[AV.frees,abF]at hf;simp only[AV.vals,AV.val_agr h v hf.1,AV.vals_agr h r hf.2]
end
theorem AF.ha_agr{c η':Vn}(h:c.agr n η'):(f:AF)->f.free n=true->f.ha η'=f.ha c
 |.rep _ _ _ m,hf=>by simp only[AF.ha,(h m hf).1]
 |.own _ _ _ _ _ m,hf=>by simp only[AF.ha,(h m hf).1]
 |.box _ m cs,hf=>by simp only[AF.free,abF]at hf;simp only[AF.ha,(h m hf.1).2,qa h cs hf.2]
 |.isn m _,hf=>by simp only[AF.ha,(h m hf).1]
 |.ag B,hf=>by have g:=abM hf;have:∀m,m<B->η'.h m=c.h m/\η'.b m=c.b m:=λm a=>h m (by simp only[out,afz];exact .inl (aeo (by omega)));simp only[AF.ha];congr 1;exact propext ⟨λd m a=>by rw[<-(this m a).1,<-(this m a).2];exact d m a,λd m a=>by rw[(this m a).1,(this m a).2];exact d m a⟩
 |.prt m e _ _ _,hf=>by simp only[AF.free,abF]at hf;simp only[AF.ha,(h m hf.1).1,(h e hf.2).1]
 |.pbx m e _ _ _,hf=>by simp only[AF.free,abF]at hf;simp only[AF.ha,(h m hf.1).1,(h e hf.2).2]
 |.mp _ _ _ _ m,hf=>by simp only[AF.ha,(h m hf).1]
 |.pt _ _ _ _ _ m _,hf=>by simp only[AF.ha,(h m hf).1]
 |.hol _ _ _ _ m _ cs,hf=>by simp only[AF.free,abF]at hf;simp only[AF.ha,(h m hf.1).1,qa h cs hf.2]
theorem AF.ha_uses(a:Vn):(f:AF)->(f.ha a).uses=f.uses
 |.rep _ _ _ _=>rfl
 |.own _ _ _ _ _ _=>abw
 |.box _ _ _=>rfl
 |.isn _ _=>rfl
 |.ag _=>rfl
 |.prt _ _ _ _ _=>rfl
 |.pbx _ _ _ _ _=>rfl
 |.hol _ _ _ _ _ _ _=>rfl
 |.mp _ _ _ _ _=>rfl
 |.pt _ _ _ _ _ _ _=>rfl
theorem Lf.cells_sz(a:Vn):(l:Lf)->(l.cells a).length=l.sz
 |.ar n s x=>Ty.fill_length _ _ _
 |.sl _=>rfl
 |.rp _ _ _ _ _=>rfl
 |.bp _ _=>rfl
 |.bq _ _ _ _ _=>rfl
 |.c _ _=>rfl
 |.nl=>rfl
 |.xt _ _=>rfl
 |.fn _=>rfl
 |.clo _ _=>rfl
 |.yl=>rfl
 |.gp _ _ _ _ _=>rfl
 |.mp _=>rfl
 |.ars t xs=>by simp only[Lf.cells,Lf.sz];rw[cO];simp
 |.v _=>rfl
end
inductive TD
  |int (k:IntKind)
  |bool
  |str
  |slice (e:TypeId)
  |arr (n:Nat) (e:TypeId)
  |st (fs:List (TypeId×Nat))
  |ptr (e:TypeId)
  |map (k e:TypeId)
  |other
set_option linter.unusedSectionVars false
section
variable [X:XTab] [Yc:GCx]
structure GEnt where
  g:Nat
  t:TC
  xs:List t.den
class GTab where
  gl:List GEnt
def GEnt.ha(e:GEnt):HA:=.gl e.g e.xs.length (cellsOf e.t.ty e.xs (List.replicate e.xs.length e.t.ref0))
variable [G:GTab]
def fH:List HA:=G.gl.map GEnt.ha++Yc.ex
theorem FW{A:HA}(h:A∈fH):∀k∈A.uses,k<2:=by
 rcases aef.1 h with h|h
 · obtain⟨e,_,rfl⟩:=acG.1 h
   intro k a
   simp[GEnt.ha,HA.uses]at a
   omega
 ·exact Yc.exu A h
structure TInf where
  d:TD
  sz:Nat
  by_:Nat
  zl:List Lf
  tc:TC
def TD.agg:TD->Bool
  |.arr _ _=>true
  |.st _=>true
  |_=>false
def FD:Vn:=⟨λ_=>eu,λ_=>0⟩
def TInf.zv(i:TInf):Value:=bif i.d.agg then .agg (aw FD i.zl).toArray else(aw FD i.zl).headD undef
def TInf.fits(P:Program)(t:TypeId):TD->Prop
  |.int k=>P.underlying t=some (.int k)
  |.bool=>P.underlying t=some .bool
  |.str=>P.underlying t=some .string
  |.slice e=>P.underlying t=some (.slice e)
  |.arr n e=>P.underlying t=some (.array n e)
  |.st fs=>∃F,P.underlying t=some (.struct F)/\F.toList.map (λf=>(f.type,f.offset))=fs
  |.ptr e=>P.underlying t=some (.pointer e)
  |.map k e=>P.underlying t=some (.map k e)
  |.other=>∃d,P.underlying t=some d/\kR d=false
def TInf.ok(P:Program)(t:TypeId)(i:TInf):Prop:=TI P t i.sz i.by_ i.zv/\TInf.fits P t i.d/\i.zv.cells=(aw FD i.zl).toArray/\∀η,aw η i.zl=aw FD i.zl
def zsz:List Lf->Nat
  |[]=>0
  |l::r=>l.sz+zsz r
theorem adm(a:Vn):(ls:List Lf)->(aw a ls).length=zsz ls
  |[]=>rfl
  |l::r=>by simp only[aw,acA,Lf.cells_sz,adm a r,zsz]
theorem TInf.ok.zsz{i:TInf}(h:i.ok P t):i.zv.cells.size=zsz i.zl:=by rw[h.2.2.1,aiu,adm]
abbrev Tb:=TypeId->Option TInf
def Tb.ok(Θ:Tb)(P:Program):Prop:=∀t i,Θ t=some i->i.ok P t
def IC:List (TypeId×TInf)->Tb
  |[],_=>none
  |(a,i)::r,t=>bif Nat.beq t a then some i else IC r t
def amC(P:Program):List (TypeId×TInf)->Prop
  |[]=>True
  |(a,i)::r=>i.ok P a/\amC P r
theorem PN{P:Program}:∀{l:List (TypeId×TInf)},amC P l->Tb.ok (IC l) P
  |[],_,t,i,h=>by simp[IC]at h
  | (a,j)::r,hl,t,i,h=>by
    simp only[IC]at h;cases c:Nat.beq t a
    ·rw[c]at h;exact PN hl.2 t i h
    · rw[c]at h
      simp only[abv,no]at h
      subst h
      rw[f9 c]
      exact hl.1
structure Out where
  av:AV
  fs:List AF
  κ:List Nat
abbrev SE:=List (Nat×AV)
def bP(E:SE)(t:Nat):Option AV:=match E with
  |[]=>none
  |(d,v)::r=>bif Nat.beq t d then some v else bP r t
def mH(a:Vn)(ρ:dm)(E:SE):Prop:=∀t v,bP E t=some v->ρ t=v.val a
def Hf:Value->AV
  |.int k n=>.lf (.c (.int k) n)
  |.bool b=>.lf (.c .bool b)
  |.string s=>.lf (.c .str s.data.toList)
  |.slice none 0 0=>.lf .nl
  |v=>.lf (.v v)
theorem Tm(a:Vn)(v:Value):(Hf v).val a=v:=by unfold Hf;split<;>simp[AV.val,Lf.val,eu,Hd.val]
def ev(E:SE):Operand->Option AV
  |.tmp t=>bP E t
  |.const v=>some (Hf v)
  |.func f=>some (.lf (.fn f))
  |.global _=>none
theorem aK{d:Vn}{ρ:dm}{E:SE}(h:mH d ρ E){v:AV}(a:ev E x=some v):aL ρ x=v.val d:=by
  cases x with
  |tmp t=>exact h t v a
  |const c=>simp only[ev,no]at a;subst a;exact(Tm d c).symm
  |func f=>simp only[ev,no]at a;subst a;rfl
  |global g=>simp[ev]at a
def Nj(P:Program)(o:Oper)(E:SE)(F:List AF)(n:Nat)(u:Out):Prop:=∀(a:Vn) (ρ:dm),mH a ρ E ->
  cN P ρ o (F.map (AF.ha a)) u.κ (λy : { η':Vn//a.agr n η'}=>u.av.val y.1) (λy=>u.fs.map (AF.ha y.1))
def dl(P:Program)(o:Oper)(E:SE)(F:List AF)(n:Nat)(u:Out):Prop:=∀(a:Vn) (ρ:dm),mH a ρ E ->
  cN P ρ o (F.map (AF.ha a)++fH) u.κ (λy : { η':Vn//a.agr n η'}=>u.av.val y.1) (λy=>u.fs.map (AF.ha y.1))
theorem Vn.agr_refl(n:Nat)(a:Vn):a.agr n a:=λ_ _=>⟨rfl,rfl⟩
theorem Nj.up{E:SE}{F:List AF}{u:Out}(h:Nj P o E F n u):dl P o E F n u:=
  λi ρ e a ev w c next Q ha f g=>h i ρ e a ev w c next Q ha (λA d=>f A (ad2 _ d)) g
theorem dl.pure{E:SE}{F:List AF}{av:AV}(h:∀η ρ,mH η ρ E->aZ P ρ o (F.map (AF.ha η)) (av.val η)):Nj P o E F n ⟨av,[],[]⟩:=by
  intro η ρ d a ev w c next Q ha e f
  rw[h η ρ d ev w c ha e];exact f ⟨η,Vn.agr_refl n η⟩ w c (Stp.refl w c) (ao.nil _ _)
def ga:Option Bool->Prop
  |none=>True
  |some b=>b=true
def aq{R:Type}(ex:Option Bool)(P:Program)(o:Oper)(E:SE)(F:List AF)(n:Nat)(m:Option R)(k:Out->Option R):Prop:=∀r,m=some r->∃u,k u=some r/\(ga ex->dl P o E F n u)
section
variable {R:Type} {P:Program} {o:Oper} {E:SE} {F:List AF} {n:Nat} {k:Out->Option R} {ex:Option Bool}
theorem aq.none:aq ex P o E F n none k:=λ_ h=>by cases h
theorem aq.of{u:Out}(h:ga ex->Nj P o E F n u):aq ex P o E F n (k u) k:=λ_ h'=>⟨u,h',λa=>(h a).up⟩
theorem aq.ofG{u:Out}(h:ga ex->dl P o E F n u):aq ex P o E F n (k u) k:=λ_ h'=>⟨u,h',h⟩
theorem aq.bif{m:Option R}(h:b=true->aq ex P o E F n m k):aq ex P o E F n (bif b then m else .none) k:=λr a=>by
  cases b
  ·cases a
  ·exact h rfl r a
end
def gbind{α R:Type}(ex:Option Bool)(d:α)(m:Option α)(f:α->Option R):Option R:=match ex with
  |none=>m.bind f
  |some b=>(bif b then m else some d).bind f
def gchk{R:Type}(ex:Option Bool)(b:Bool)(m:Option R):Option R:=match ex with
  |none=>af b m
  |some e=>af (!e||b) m
theorem aq.gbind{α:Type}{E:SE}{F:List AF}{k:Out->Option R}{d:α}{m:Option α}{f:α->Option R}(h:∀x,(ga ex->m=some x)->aq ex P o E F n (f x) k):aq ex P o E F n (gbind ex d m f) k:=by
  intro r c;cases ex with
  | none=>
    obtain⟨x,a,hf⟩:=bind_some c;exact h x (λ_=>a) r hf
  | some b=>
    obtain⟨x,a,hf⟩:=bind_some c;refine h x (λe=>?_) r hf;cases e;exact a
theorem aq.gchk{E:SE}{F:List AF}{k:Out->Option R}{m:Option R}(h:(ga ex->b=true)->aq ex P o E F n m k):aq ex P o E F n (gchk ex b m) k:=by
  intro r d;cases ex with
  | none=>
    obtain⟨a,c⟩:=Fa d;exact h (λ_=>a) r c
  | some e=>
    obtain⟨a,c⟩:=Fa d;refine h (λf=>?_) r c;cases f;simpa using a
abbrev be(v:AV):Out:=⟨v,[],[]⟩
abbrev fP(k:IntKind)(x:Int):AV:=.lf (.c (.int k) x)
abbrev eS(x:Bool):AV:=.lf (.c .bool x)
abbrev zV(x:List UInt8):AV:=.lf (.c .str x)
def w_(k:IntKind)(x:Int):Int:=match k with
  |.i64=>ac x
  |k=>k.wrap x
theorem Wr(k:IntKind)(x:Int):w_ k x=k.wrap x:=by cases k<;>rfl
def ajY{R:Type}(ex:Option Bool)(op:BinOp)(k:IntKind)(a b:Int)(c:Out->Option R):Option R:=match op with
  |.add=>c (be (fP k (w_ k (a+b))))
  |.sub=>c (be (fP k (w_ k (a-b))))
  |.mul=>c (be (fP k (w_ k (a*b))))
  |.quo=>gchk ex (!(b==0)) (c (be (fP k (w_ k (Int.tdiv a b)))))
  |.rem=>gchk ex (!(b==0)) (c (be (fP k (Int.tmod a b))))
  |.lss=>c (be (eS (decide (a<b))))
  |.leq=>c (be (eS (decide (a<=b))))
  |.gtr=>c (be (eS (decide (b<a))))
  |.geq=>c (be (eS (decide (b<=a))))
  |.eql=>c (be (eS (a==b)))
  |.neq=>c (be (eS (a != b)))
  |.and=>c (be (fP k (bc .and k a b)))
  |.or=>c (be (fP k (bc .or k a b)))
  |.xor=>c (be (fP k (bc .xor k a b)))
  |.andNot=>c (be (fP k (bc .andNot k a b)))
  |_=>none
theorem u0(h:(!b)=true):b=false:=by grind
theorem asG{E:SE}{F:List AF}{op:BinOp}{q:TypeId}{k:IntKind}{a b:Int}(e:o.op=.binOp op t x y q)
    (m:ev E x=some (fP k a)) (p:ev E y=some (fP k b)) (l:Out->Option R):aq ex P o E F n (ajY ex op k a b l) l:=by
  have h:∀g ρ,mH g ρ E->aL ρ x=.int k a/\aL ρ y=.int k b:=λg ρ f=>⟨aK f m,aK f p⟩
  cases op<;>simp only[ajY]<;>first
    |exact aq.none
    | (refine aq.of λi=>(dl.pure λg ρ f=>?_);obtain⟨c,d⟩:=h g ρ f;simp only[AV.val,Lf.val,Wr]
       first|exact axf e c d|exact axy e c d|exact axo e c d|exact axr e c d|exact axq e c d|exact axi e c d|exact axH e c d|exact axj e c d|exact axn e c d|exact axR e (by simp) c d)
    | (refine aq.gchk λj=>aq.of λi=>(dl.pure λg ρ f=>?_);obtain⟨c,d⟩:=h g ρ f;simp only[AV.val,Lf.val,Wr]
       first|exact axE e c d (u0 (j i))|exact axb e c d (u0 (j i)))
def XP{R:Type}(ex:Option Bool)(op:BinOp)(k:IntKind)(a b:Int)(c:Out->Option R):Option R:=match op with
  |.shl=>gchk ex (decide (0<=b)) (c (be (fP k (ly k a b))))
  |.shr=>gchk ex (decide (0<=b)) (c (be (fP k (dD k a b))))
  |_=>none
theorem asR{E:SE}{F:List AF}{op:BinOp}{r:TypeId}{k l:IntKind}{a b:Int}(i:o.op=.binOp op t x y r)
    (p:ev E x=some (fP k a)) (q:ev E y=some (fP l b)) (m:Out->Option R):aq ex P o E F n (XP ex op k a b m) m:=by
  have e:∀d ρ,mH d ρ E->aL ρ x=.int k a/\aL ρ y=.int l b:=λd ρ c=>⟨aK c p,aK c q⟩
  cases op<;>simp only[XP]<;>first
    |exact aq.none
    | (refine aq.gchk λh=>aq.of λj=>(dl.pure λd ρ c=>?_);obtain⟨f,g⟩:=e d ρ c;simp only[AV.val,Lf.val]
       first|exact aw3 i f g (h j)|exact axO i f g (h j))
end
section
variable [X:XTab] [G:GTab] [Yc:GCx]
def TC.nh:TC->Nat
 |.sc _=>0
 |.arr _ _=>0
 |.unit=>0
 |.pair a b=>a.nh+b.nh
 |.slice _=>1
 |.st t=>t.nh
 |.ext _=>0
 |.node=>1
 |.mp _ _=>1
def cF:(t:TC)->t.ty.Refs->List Hd
 |.sc _,_=>[]
 |.arr _ _,_=>[]
 |.unit,_=>[]
 |.pair a b,y=>cF a y.1++cF b y.2
 |.slice _,h=>[h]
 |.st t,y=>cF t y
 |.ext _,_=>[]
 |.node,h=>[h]
 |.mp _ _,h=>[h]
def aO:(t:TC)->List Hd->t.ty.Refs
 |.sc _,_=>()
 |.arr _ _,_=>()
 |.unit,_=>()
 |.pair a b,l=>(aO a l,aO b (l.drop a.nh))
 |.slice _,l=>l.headD eu
 |.st t,l=>aO t l
 |.ext _,_=>()
 |.node,l=>l.headD eu
 |.mp _ _,l=>l.headD eu
theorem dh:(t:TC)->(y:t.ty.Refs)->(cF t y).length=t.nh
 |.sc _,_=>rfl
 |.arr _ _,_=>rfl
 |.unit,_=>rfl
 |.pair a b,y=>by simp[cF,TC.nh,dh a y.1,dh b y.2]
 |.slice _,_=>rfl
 |.st t,y=>dh t y
 |.ext _,_=>rfl
 |.node,_=>rfl
 |.mp _ _,_=>rfl
def Vn.set(a:Vn)(n:Nat)(l:List Hd):Vn:=⟨λm=>bif Nat.ble n m&&Nat.blt m (n+l.length)then l.getD (m-n) eu else a.h m,a.b⟩
theorem Vn.set_at{η:Vn}{l:List Hd}{j:Nat}{h:Hd}(a:l[j]?=some h):(η.set n l).h (n+j)=h:=by
 have c:=(aeI.1 a).1;have d:(Nat.ble n (n+j)&&Nat.blt (n+j) (n+l.length))=true:=by simp_all
 grind[Vn.set]
theorem Vn.set_agr{d:Vn}{l:List Hd}(hl:l.length<=64):d.agr n (d.set n l):=by
 intro m a;refine⟨?_,rfl⟩;have:(Nat.ble n m&&Nat.blt m (n+l.length))=false:=by
  cases c:(Nat.ble n m&&Nat.blt m (n+l.length))
  ·rfl
  ·simp only[abF]at c;have e:=abM c.1;have f:m+1<=n+l.length:=abM c.2;simp only[out,afz]at a;rcases a with a|a
   ·have:m+1<=n:=abM a;omega
   ·have:=abM a;omega
 simp only[Vn.set,this,ab7]
def jK:(t:TC)->t.den->Nat->List Lf
 |.sc s,x,_=>[.c s x]
 |.arr n s,x,_=>[.ar n s x]
 |.unit,_,_=>[]
 |.pair a b,x,n=>jK a x.1 n++jK b x.2 (n+a.nh)
 |.slice _,_,n=>[.sl n]
 |.st t,x,n=>jK t x n
 |.ext k,x,_=>[.xt k x]
 |.node,x,n=>[.c (.int .i64) x.tup.1,.c .str x.tup.2.1,.c (.int .i64) x.tup.2.2.1,.sl n]
 |.mp _ _,_,n=>[.mp n]
def vR:(t:TC)->t.den->List Nat->Nat->List AF
 |.sc _,_,_,_=>[]
 |.arr _ _,_,_,_=>[]
 |.unit,_,_,_=>[]
 |.pair a b,x,K,n=>vR a x.1 K n++vR b x.2 K (n+a.nh)
 |.slice t,x,K,n=>[.rep t K x n]
 |.st t,x,K,n=>vR t x K n
 |.ext _,_,_,_=>[]
 |.node,x,K,n=>[.rep .node K x.tup.2.2.2 n]
 |.mp _ _,_,_,_=>[]
theorem ba(c:Vn):(a b:List Lf)->aw c (a++b)=aw c a++aw c b
 |[],_=>rfl
 |l::r,b=>by simp[aw,ba c r b]
def fK(a:Vn)(n:Nat)(l:List Hd):Prop:=∀j h,l[j]?=some h->a.h (n+j)=h
theorem fK.left{c:Vn}{a b:List Hd}(h:fK c n (a++b)):fK c n a:=λj x d=>h j x (by grind)
theorem fK.right{c:Vn}{k:Nat}{a b:List Hd}(h:fK c n (a++b))(e:a.length=k):fK c (n+k) b:=λj x d=>by have:=h (k+j) x (by grind);grind
theorem pm{c:Vn}:(t:TC)->(x:t.den)->(y:t.ty.Refs)->(n:Nat)->fK c n (cF t y)->aw c (jK t x n)=t.ty.fill x y
 |.sc _,_,_,_,_=>rfl
 |.arr _ _,_,_,_,_=>by simp[jK,aw,Lf.cells,Ty.fill]
 |.unit,_,_,_,_=>rfl
 |.pair a b,x,y,n,h=>by simp only[jK,ba,Ty.fill];rw[pm a x.1 y.1 n h.left,pm b x.2 y.2 (n+a.nh) (h.right (dh a y.1))]
 |.slice _,x,y,n,h=>by have:=h 0 y rfl;grind[jK,aw,Lf.cells,Ty.fill]
 |.st t,x,y,n,h=>pm t x y n h
 |.ext _,_,_,_,_=>rfl
 |.node,x,y,n,h=>by have:=h 0 y rfl;simp only[afu]at this;simp[jK,aw,Lf.cells,Ty.fill,Nd.fill,this]
 |.mp _ _,x,y,n,h=>by have:=h 0 y rfl;grind[jK,aw,Lf.cells,Ty.fill]
theorem sP{c:Vn}{K:List Nat}:(t:TC)->(x:t.den)->(y:t.ty.Refs)->(n:Nat)->fK c n (cF t y)->(vR t x K n).map (AF.ha c)=facts t.ty K x y
 |.sc _,_,_,_,_=>rfl
 |.arr _ _,_,_,_,_=>rfl
 |.unit,_,_,_,_=>rfl
 |.pair a b,x,y,n,h=>by simp only[vR,afo,facts];rw[sP a x.1 y.1 n h.left,sP b x.2 y.2 (n+a.nh) (h.right (dh a y.1))]
 |.slice _,x,y,n,h=>by have:=h 0 y rfl;grind[vR,AF.ha,facts]
 |.st t,x,y,n,h=>sP t x y n h
 |.ext _,_,_,_,_=>rfl
 |.mp _ _,_,_,_,_=>rfl
 |.node,x,y,n,h=>by have:=h 0 y rfl;grind[vR,AF.ha,facts]
structure SI(t:TC) where
 own:Option (TypeId×Nat)
 K:List Nat
 xs:List t.den
def SI.all{t:TC}(s:SI t):List Nat:=match s.own with
 |none=>s.K
 |some p=>p.2::s.K
def SI.nk{t:TC}(s:SI t):List Nat:=match s.own with
 |none=>s.K
 |some p=>match fk p.1 with
  |true=>p.2::s.K
  |false=>s.K
def FM{t a:TC}(h:a=t)(xs:List a.den):List t.den:=h▸xs
def lu(t:TC)(h:Nat):List AF->Option (SI t)
 |[]=>none
 |.own c e i K xs h'::r=>bif Nat.beq h h' then(if a:c=t then some ⟨some (e,i),K,FM a xs⟩else none)else lu t h r
 |.rep c K xs h'::r=>bif Nat.beq h h' then(if a:c=t then some ⟨none,K,FM a xs⟩else none)else lu t h r
 |.box _ _ _::r=>lu t h r
 |.isn _ _::r=>lu t h r
 |.ag _::r=>lu t h r
 |.prt _ _ _ _ _::r=>lu t h r
 |.pbx _ _ _ _ _::r=>lu t h r
 |.hol _ _ _ _ _ _ _::r=>lu t h r
 |.mp _ _ _ _ _::r=>lu t h r
 |.pt _ _ _ _ _ _ _::r=>lu t h r
def SI.fact{t:TC}(s:SI t)(h:Nat):AF:=match s.own with
 |none=>.rep t s.K s.xs h
 |some p=>.own t p.1 p.2 s.K s.xs h
theorem f5{t:TC}{h:Nat}:∀{F:List AF} {s:SI t},lu t h F=some s->s.fact h∈F
 |[],s,hs=>by simp[lu]at hs
 | .own d e i K xs h'::r,s,hs=>by
  simp only[lu]at hs;cases a:Nat.beq h h'
  ·rw[a]at hs;exact abJ _ (f5 hs)
  ·rw[a]at hs;simp only[abv]at hs;split at hs
   ·rename_i c;subst c;simp only[no]at hs;subst hs;rw[f9 a];exact adT
   ·cases hs
 | .rep d K xs h'::r,s,hs=>by
  simp only[lu]at hs;cases a:Nat.beq h h'
  ·rw[a]at hs;exact abJ _ (f5 hs)
  ·rw[a]at hs;simp only[abv]at hs;split at hs
   ·rename_i c;subst c;simp only[no]at hs;subst hs;rw[f9 a];exact adT
   ·cases hs
 |.box _ _ _::r,s,hs=>abJ _ (f5 (F:=r) hs)
 |.isn _ _::r,s,hs=>abJ _ (f5 (F:=r) hs)
 |.ag _::r,s,hs=>abJ _ (f5 (F:=r) hs)
 |.prt _ _ _ _ _::r,s,hs=>abJ _ (f5 (F:=r) hs)
 |.pbx _ _ _ _ _::r,s,hs=>abJ _ (f5 (F:=r) hs)
 |.hol _ _ _ _ _ _ _::r,s,hs=>abJ _ (f5 (F:=r) hs)
 |.mp _ _ _ _ _::r,s,hs=>abJ _ (f5 (F:=r) hs)
 |.pt _ _ _ _ _ _ _::r,s,hs=>abJ _ (f5 (F:=r) hs)
def mY(h:Nat):List AF->Option (Nat×Nat×Int×Int)
 |[]=>none
 |.prt h' a sz lo hi::r=>bif Nat.beq h h' then some (a,sz,lo,hi)else mY h r
 |.pbx _ _ _ _ _::r=>mY h r
 |.own _ _ _ _ _ _::r=>mY h r
 |.rep _ _ _ _::r=>mY h r
 |.box _ _ _::r=>mY h r
 |.isn _ _::r=>mY h r
 |.ag _::r=>mY h r
 |.hol _ _ _ _ _ _ _::r=>mY h r
 |.mp _ _ _ _ _::r=>mY h r
 |.pt _ _ _ _ _ _ _::r=>mY h r
theorem gD{h:Nat}:∀{F:List AF} {a sz:Nat} {lo hi:Int},mY h F=some (a,sz,lo,hi)->.prt h a sz lo hi∈F
 |[],_,_,_,_,hs=>by simp[mY]at hs
 |.prt h' g f e d::r,a,sz,lo,hi,hs=>by
  simp only[mY]at hs;cases c:Nat.beq h h'
  ·rw[c]at hs;exact abJ _ (gD hs)
  simp_all
 |.pbx _ _ _ _ _::r,_,_,_,_,hs=>abJ _ (gD (F:=r) hs)
 |.own _ _ _ _ _ _::r,_,_,_,_,hs=>abJ _ (gD (F:=r) hs)
 |.rep _ _ _ _::r,_,_,_,_,hs=>abJ _ (gD (F:=r) hs)
 |.box _ _ _::r,_,_,_,_,hs=>abJ _ (gD (F:=r) hs)
 |.isn _ _::r,_,_,_,_,hs=>abJ _ (gD (F:=r) hs)
 |.ag _::r,_,_,_,_,hs=>abJ _ (gD (F:=r) hs)
 |.hol _ _ _ _ _ _ _::r,_,_,_,_,hs=>abJ _ (gD (F:=r) hs)
 |.mp _ _ _ _ _::r,_,_,_,_,hs=>abJ _ (gD (F:=r) hs)
 |.pt _ _ _ _ _ _ _::r,_,_,_,_,hs=>abJ _ (gD (F:=r) hs)
def Hy(h:Nat):List AF->Option (Nat×Nat×Int×Int)
 |[]=>none
 |.pbx h' b off lo hi::r=>bif Nat.beq h h' then some (b,off,lo,hi)else Hy h r
 |_::r=>Hy h r
theorem NV{h:Nat}{F:List AF}{b off:Nat}{lo hi:Int}:Hy h F=some (b,off,lo,hi)->.pbx h b off lo hi∈F:=by fun_induction Hy h F<;>grind[Nat.eq_of_beq_eq_true]
structure MI(k v:TC) where
 i:Nat
 xs:List (k.den×v.den)
def axS{k v a c:TC}(h:a=k/\c=v)(xs:List (a.den×c.den)):List (k.den×v.den):=by
 obtain⟨d,e⟩:=h
 subst d e
 exact xs
def xd(k v:TC)(h:Nat):List AF->Option (MI k v)
 |[]=>none
 |.mp c d i xs h'::r=>bif Nat.beq h h' then(if a:c=k/\d=v then some ⟨i,axS a xs⟩else none)else xd k v h r
 |_::r=>xd k v h r
theorem ir{k v:TC}{h:Nat}:∀{F:List AF} {s:MI k v},xd k v h F=some s->.mp k v s.i s.xs h∈F
 |[],s,hs=>by simp[xd]at hs
 | .mp d e i xs h'::r,s,hs=>by
  simp only[xd]at hs;cases a:Nat.beq h h'
  ·rw[a]at hs;exact abJ _ (ir hs)
  ·rw[a]at hs;simp only[abv]at hs;split at hs
   ·rename_i c;obtain⟨rfl,rfl⟩:=c;simp only[no]at hs;subst hs;rw[f9 a];exact adT
   ·cases hs
 |.own _ _ _ _ _ _::r,s,hs=>abJ _ (ir (F:=r) hs)
 |.rep _ _ _ _::r,s,hs=>abJ _ (ir (F:=r) hs)
 |.box _ _ _::r,s,hs=>abJ _ (ir (F:=r) hs)
 |.isn _ _::r,s,hs=>abJ _ (ir (F:=r) hs)
 |.ag _::r,s,hs=>abJ _ (ir (F:=r) hs)
 |.prt _ _ _ _ _::r,s,hs=>abJ _ (ir (F:=r) hs)
 |.pbx _ _ _ _ _::r,s,hs=>abJ _ (ir (F:=r) hs)
 |.hol _ _ _ _ _ _ _::r,s,hs=>abJ _ (ir (F:=r) hs)
 |.pt _ _ _ _ _ _ _::r,s,hs=>abJ _ (ir (F:=r) hs)
structure PI(t:TC) where
 e:TypeId
 i:Nat
 K:List Nat
 xs:List t.den
 m:Int
def Dh(t:TC)(h:Nat):List AF->Option (PI t)
 |[]=>none
 |.pt c e i K xs h' m::r=>bif Nat.beq h h' then(if a:c=t then some ⟨e,i,K,FM a xs,m⟩else none)else Dh t h r
 |_::r=>Dh t h r
theorem lI{t:TC}{h:Nat}:∀{F:List AF} {s:PI t},Dh t h F=some s->.pt t s.e s.i s.K s.xs h s.m∈F
 |[],s,hs=>by simp[Dh]at hs
 | .pt d e i K xs h' m::r,s,hs=>by
  simp only[Dh]at hs;cases a:Nat.beq h h'
  ·rw[a]at hs;exact abJ _ (lI hs)
  ·rw[a]at hs;simp only[abv]at hs;split at hs
   ·rename_i c;subst c;simp only[no]at hs;subst hs;rw[f9 a];exact adT
   ·cases hs
 |.own _ _ _ _ _ _::r,s,hs=>abJ _ (lI (F:=r) hs)
 |.rep _ _ _ _::r,s,hs=>abJ _ (lI (F:=r) hs)
 |.box _ _ _::r,s,hs=>abJ _ (lI (F:=r) hs)
 |.isn _ _::r,s,hs=>abJ _ (lI (F:=r) hs)
 |.ag _::r,s,hs=>abJ _ (lI (F:=r) hs)
 |.prt _ _ _ _ _::r,s,hs=>abJ _ (lI (F:=r) hs)
 |.pbx _ _ _ _ _::r,s,hs=>abJ _ (lI (F:=r) hs)
 |.hol _ _ _ _ _ _ _::r,s,hs=>abJ _ (lI (F:=r) hs)
 |.mp _ _ _ _ _::r,s,hs=>abJ _ (lI (F:=r) hs)
def iB(t:TC)(F:List AF):Lf->Option (SI t)
 |.sl h=>lu t h F
 |.nl=>some ⟨none,[],[]⟩
 |_=>none
def Lf.hd(η:Vn):Lf->Hd
 |.sl h=>η.h h
 |.bp b _=>⟨some ⟨η.b b,0,none⟩,0,0⟩
 |.clo _ bs=>⟨some ⟨η.b (bs.headD 0),0,none⟩,0,0⟩
 |.mp h=>η.h h
 |_=>eu
theorem qh{t:TC}{F:List AF}{l:Lf}{s:SI t}(h:iB t F l=some s)(a:Vn):l.val a=(l.hd a).val/\l.cells a=[(l.hd a).val]:=by cases l<;>simp[iB]at h<;>exact⟨rfl,rfl⟩
theorem iq{t:TC}{F:List AF}{l:Lf}{s:SI t}(h:iB t F l=some s){d:Vn}{w:World}{c:aS}(e:ao w c (F.map (AF.ha d))):HA.holds w c (.rep t.ty s.all s.xs (l.hd d)):=by
 cases l with
 |sl n=>
  have a:=e _ (acG.2 ⟨_,f5 h,rfl⟩);obtain⟨own,K,xs⟩:=s;cases own with
  |none=>exact a
  |some p=>exact PW a
 |nl=>
  simp only[iB,no]at h;subst h;exact tL w c
 |_=>simp[iB]at h
def fY(t:TC)(e:TypeId)(N:Nat)(F:List AF):Lf->Option (Nat×List Nat×List t.den)
 |.sl h=>match lu t h F with
  |some ⟨some (a,i),K,xs⟩=>bif Nat.beq e a then some (i,K,xs)else none
  |_=>none
 |.nl=>some (N,[],[])
 |_=>none
theorem eO{t:TC}{e:TypeId}{F:List AF}{l:Lf}{i:Nat}{K:List Nat}{xs:List t.den}(h:fY t e N F l=some (i,K,xs)){d:Vn}{w:World}{c:aS}(g:ao w c (F.map (AF.ha d))) :
  HA.holds w c (ep t.ty e i K xs (l.hd d)):=by
 cases l with
 | sl n=>
  simp only[fY]at h;split at h
  ·rename_i f p m j hs;cases a:Nat.beq e f
   ·grind
   ·rw[a]at h;simp only[abv,no,acW]at h;obtain⟨rfl,rfl,rfl⟩:=h;rw[f9 a];exact g _ (acG.2 ⟨_,f5 hs,rfl⟩)
  ·cases h
 |nl=>
  simp only[fY,no,acW]at h;obtain⟨rfl,rfl,rfl⟩:=h;exact vg w c
 |_=>simp[fY]at h
theorem pM{t:TC}{e:TypeId}{F:List AF}{l:Lf}{r:Nat×List Nat×List t.den}(h:fY t e N F l=some r)(a:Vn):l.val a=(l.hd a).val:=by cases l<;>simp[fY]at h<;>rfl
def FP{t a:SC}(h:a=t)(x:a.den):t.den:=h▸x
def wR{t a:SC}(h:a=t)(x:List a.den):List t.den:=h▸x
def ang{n m:Nat}(h:m=n)(x:X.den m):X.den n:=h▸x
def HD(F:List AF):List Lf->Option (Nd×List Lf×List Nat×List Lf)
 |.c (.int .i64) k::.c .str tx::.c (.int .i64) m::l::r=>match iB .node F l with
  |some s=>some (Nd.of (k,tx,m,s.xs),[l],s.all,r)
  |none=>none
 |_=>none
theorem CI{F:List AF}{ls:List Lf}{x:Nd}{l:List Lf}{K:List Nat}{r:List Lf}(h:HD F ls=some (x,l,K,r)):∃k tx m a s,ls=.c (.int .i64) k::.c .str tx::.c (.int .i64) m::a::r/\iB .node F a=some s/\x=Nd.of (k,tx,m,s.xs)/\l=[a]/\K=s.all:=by unfold HD at h;grind
def bV(F:List AF):(t:TC)->List Lf->Option (t.den×List Lf×List Nat×List Lf)
 |.sc s,.c c x::r=>if h:c=s then some (FP h x,[],[],r)else none
 |.sc s,.fn f::r=>if h:SC.fnc=s then some (FP h f,[],[],r)else none
 |.arr n s,.ar i c x::r=>if h:c=s/\i=n then some (wR h.1 x,[],[],r)else none
 |.unit,r=>some ((),[],[],r)
 | .pair a b,r=>match bV F a r with
  |some (x,e,d,r1)=>match bV F b r1 with
   |some (y,g,K2,j)=>some ((x,y),e++g,d++K2,j)
   |none=>none
  |none=>none
 |.slice t,l::r=>match iB t F l with
  |some s=>some (s.xs,[l],s.all,r)
  |none=>none
 |.st t,r=>bV F t r
 |.ext n,.xt m x::r=>if h:m=n then some (ang h x,[],[],r)else none
 |.node,r=>HD F r
 |.mp k v,.mp h::r=>some ((match xd k v h F with|some s=>s.xs|none=>[]),[.mp h],[],r)
 |_,_=>none
def aT(η:Vn)(ls:List Lf):List Hd:=ls.map (Lf.hd η)
theorem eL{F:List AF}:∀(t:TC) {ls:List Lf} {x:t.den} {l:List Lf} {K:List Nat} {r:List Lf},bV F t ls=some (x,l,K,r)->l.length=t.nh
 | .sc s,ls,x,l,K,r,h=>by
  cases ls with
  |nil=>simp[bV]at h
  |cons a ls=>
   cases a<;>simp only[bV]at h<;>try cases h
   all_goals split at h
   all_goals first|(simp only[no,acW]at h;obtain⟨_,rfl,_,_⟩:=h;rfl)|cases h
 | .arr n s,ls,x,l,K,r,h=>by
  cases ls with
  |nil=>simp[bV]at h
  |cons a ls=>
   cases a<;>simp only[bV]at h<;>try cases h
   split at h
   ·simp only[no,acW]at h;obtain⟨_,rfl,_,_⟩:=h;rfl
   ·cases h
 |.unit,ls,x,l,K,r,h=>by simp[bV]at h;rw[h.1];rfl
 | .pair a b,ls,x,l,K,r,h=>by
  simp only[bV]at h;split at h
  ·rename_i p g e r1 c;split at h
   ·rename_i q i K2 j d;simp only[no,acW]at h;rw[<-h.2.1,acA,eL a c,eL b d];rfl
   ·cases h
  ·cases h
 |.st t,ls,x,l,K,r,h=>eL t h
 | .slice t,ls,x,l,K,r,h=>by
  cases ls with
  |nil=>simp[bV]at h
  |cons a ls=>
   simp only[bV]at h;split at h
   ·simp only[no,acW]at h;rw[<-h.2.1];rfl
   ·cases h
 | .ext n,ls,x,l,K,r,h=>by
  cases ls with
  |nil=>simp[bV]at h
  |cons a ls=>
   cases a<;>simp only[bV]at h<;>try cases h
   split at h
   ·simp only[no,acW]at h;obtain⟨_,rfl,_,_⟩:=h;rfl
   ·cases h
 |.node,ls,x,l,K,r,h=>by obtain⟨k,tx,m,a,s,_,_,_,rfl,_⟩:=CI (show HD F ls=_ from h);rfl
 | .mp k v,ls,x,l,K,r,h=>by
  cases ls with
  |nil=>simp[bV]at h
  | cons a ls=>
   cases a with
   |mp f=>
    simp only[bV,no,acW]at h;rw[<-h.2.1];rfl
   |_=>simp[bV]at h
theorem dZ:(t:TC)->(c d:List Hd)->c.length=t.nh->aO t (c++d)=aO t c
 |.sc _,_,_,_=>rfl
 |.arr _ _,_,_,_=>rfl
 |.unit,_,_,_=>rfl
 |.pair a b,c,d,h=>by
  simp only[TC.nh]at h;have e:c=c.take a.nh++c.drop a.nh:=(ags _ _).symm;have hl:(c.take a.nh).length=a.nh:=by simp;omega
  simp only[aO];have f:aO a (c++d)=aO a (c.take a.nh):=by rw[e,aeh,dZ a _ _ hl,<-e]
  have g:aO a c=aO a (c.take a.nh):=by have:=dZ a (c.take a.nh) (c.drop a.nh) hl;grind
  rw[f,g,afr,show a.nh-c.length=0 by omega,agY,dZ b _ _ (by simp;omega)]
 |.slice _,[],_,h=>by simp[TC.nh]at h
 |.slice _,_::_,_,_=>rfl
 |.st t,c,d,h=>dZ t c d h
 |.ext _,_,_,_=>rfl
 |.node,[],_,h=>by simp[TC.nh]at h
 |.node,_::_,_,_=>rfl
 |.mp _ _,[],_,h=>by simp[TC.nh]at h
 |.mp _ _,_::_,_,_=>rfl
theorem dO{F:List AF}{η:Vn}:∀(t:TC) {ls:List Lf} {x:t.den} {l:List Lf} {K:List Nat} {r:List Lf},bV F t ls=some (x,l,K,r) ->
  aw η ls=t.ty.fill x (aO t (aT η l))++aw η r /\
  ∀(w:World) (c:aS) (d:List Nat),ao w c (F.map (AF.ha η))->(∀k∈K,k∈d)->bH w (λb=>c b∈d) t.ty x (aO t (aT η l))
 | .sc s,ls,x,l,K,r,h=>by
  cases ls with
  |nil=>simp[bV]at h
  | cons a ls=>
   cases a<;>simp only[bV]at h<;>try cases h
   all_goals split at h
   all_goals first|cases h;done|skip
   all_goals
    rename_i e
    subst e
    simp only[no,acW]at h
    obtain⟨rfl,rfl,rfl,rfl⟩:=h
    exact⟨rfl,λ_ _ _ _ _=>trivial⟩
 | .arr n s,ls,x,l,K,r,h=>by
  cases ls with
  |nil=>simp[bV]at h
  |cons a ls=>
   cases a<;>simp only[bV]at h<;>try cases h
   split at h
   ·rename_i e;obtain⟨rfl,rfl⟩:=e;simp only[no,acW]at h;obtain⟨rfl,rfl,rfl,rfl⟩:=h;exact⟨rfl,λ_ _ _ _ _=>trivial⟩
   ·cases h
 |.unit,ls,x,l,K,r,h=>by simp only[bV,no,acW]at h;obtain⟨_,rfl,rfl,rfl⟩:=h;exact⟨rfl,λ_ _ _ _ _=>trivial⟩
 | .pair a b,ls,x,l,K,r,h=>by
  simp only[bV]at h;split at h
  ·rename_i z i B r1 q;split at h
   ·rename_i A p K2 O u;simp only[no,acW]at h;obtain⟨rfl,rfl,rfl,rfl⟩:=h;obtain⟨C,I⟩:=dO (η:=η) a q;obtain⟨c2,J⟩:=dO (η:=η) b u;have M:(aT η i).length=a.nh:=by simp[aT,eL a q]
    have D:aO a (aT η (i++p))=aO a (aT η i):=by grind[aT,dZ]
    have H:aO b ((aT η (i++p)).drop a.nh)=aO b (aT η p):=by grind[aT]
    refine⟨?_,λw c d f g=>⟨?_,?_⟩⟩
    ·simp only[aO,Ty.fill];grind
    ·show bH w _ a.ty z (aO a _);simp_all
    ·show bH w _ b.ty A (aO b _);simp_all
   ·cases h
  ·cases h
 | .slice t,ls,x,l,K,r,h=>by
  cases ls with
  |nil=>simp[bV]at h
  | cons a ls=>
   simp only[bV]at h;split at h
   ·rename_i s hs;simp only[no,acW]at h;obtain⟨rfl,rfl,rfl,rfl⟩:=h;refine⟨?_,λw c d f g=>?_⟩
    ·simp only[aw,(qh hs η).2];rfl
    ·exact bH.keep (S:=λb=>c b∈s.all) (λb _ j=>⟨g _ j,rfl⟩) (.slice t.ty) s.xs (a.hd η) (iq hs f)
   ·cases h
 |.st t,ls,x,l,K,r,h=>dO t h
 | .ext n,ls,x,l,K,r,h=>by
  cases ls with
  |nil=>simp[bV]at h
  |cons a ls=>
   cases a<;>simp only[bV]at h<;>try cases h
   split at h
   ·rename_i e;subst e;simp only[no,acW]at h;obtain⟨rfl,rfl,rfl,rfl⟩:=h;exact⟨rfl,λ_ _ _ _ _=>trivial⟩
   ·cases h
 |.node,ls,x,l,K,r,h=>by
  obtain⟨k,tx,m,a,s,rfl,hs,rfl,rfl,rfl⟩:=CI (show HD F ls=_ from h);refine⟨?_,λw c d f g=>?_⟩
  ·simp only[aw,(qh hs η).2];rfl
  ·exact pL.2 (bH.keep (S:=λb=>c b∈s.all) (λb _ j=>⟨g _ j,rfl⟩) (.slice .node) s.xs (a.hd η) (iq hs f))
 | .mp k v,ls,x,l,K,r,h=>by
  cases ls with
  |nil=>simp[bV]at h
  | cons a ls=>
   cases a with
   |mp L=>
    simp only[bV,no,acW]at h;obtain⟨rfl,rfl,rfl,rfl⟩:=h;exact⟨rfl,λ_ _ _ _ _=>trivial⟩
   |_=>simp[bV]at h
end
section
variable [X:XTab] [G:GTab] [Yc:GCx]
theorem cN.map{ρ:dm}{L:List HA}{κ:List Nat}{Y Y':Type}{val:Y->Value}{Φ:Y->List HA}{val':Y'->Value}{Φ':Y'->List HA}(g:Y->Y')
  (h:cN P ρ o L κ val Φ) (j:∀y,val y=val' (g y)) (e:∀y,Φ y=Φ' (g y)):cN P ρ o L κ val' Φ':=by
 intro a ev w c next Q ha d i
 refine h a ev w c next Q ha d λy w' c' hs f=>?_
 grind
theorem mN{F:List AF}{f:AF}(h:f∈F)(η:Vn):∃k:Nat,(F.map (AF.ha η))[k]?=some (f.ha η):=by obtain⟨k,a⟩:=akJ.1 h;exact⟨k,by simp[a]⟩
def Vn.setB(η:Vn)(n b:Nat):Vn:=⟨η.h,λm=>bif Nat.beq m n then b else η.b m⟩
theorem Vn.setB_agr(η:Vn)(n b:Nat):η.agr n (η.setB n b):=by
 intro m a;refine⟨rfl,?_⟩;have:Nat.beq m n=false:=by
  cases c:Nat.beq m n
  ·rfl
  ·have:=f9 c;subst this;simp only[out,afz]at a;rcases a with a|a
   ·simp_all
   ·have:=abM a;omega
 simp only[Vn.setB,this,ab7]
theorem Vn.setB_at(η:Vn)(n b:Nat):(η.setB n b).b n=b:=by simp[Vn.setB]
def Vn.setH(η:Vn)(n:Nat)(h:Hd):Vn:=⟨λm=>bif Nat.beq m n then h else η.h m,η.b⟩
theorem Vn.setH_agr(η:Vn)(n:Nat)(h:Hd):η.agr n (η.setH n h):=by
 intro m a;refine⟨?_,rfl⟩;have:Nat.beq m n=false:=by
  cases c:Nat.beq m n
  ·rfl
  ·have:=f9 c;subst this;simp only[out,afz]at a;rcases a with a|a
   ·simp_all
   ·have:=abM a;omega
 simp only[Vn.setH,this,ab7]
theorem Vn.setH_at(η:Vn)(n:Nat)(h:Hd):(η.setH n h).h n=h:=by simp[Vn.setH]
def Lf.one1:Lf->Bool
 |.v x=>x.oneCell'
 |_=>true
def ww:List Lf->Bool
 |[]=>true
 |l::r=>l.one1&&ww r
theorem Xa{d:Vn}{l:Lf}(h:l.one1=true):∀u∈l.cells d,u.oneCell'=true:=by
 cases l with
 |ar n s x=>exact yh (TC.arr n s).ty x ()
 |ars t xs=>exact jv t.ty
 |c s x=>intro u a;simp[Lf.cells]at a;subst a;exact s.one x
 |xt n x=>intro u a;simp[Lf.cells]at a;subst a;exact X.one n x
 |v x=>intro u a;simp[Lf.cells]at a;subst a;exact h
 |_=>intro u a;simp[Lf.cells]at a;subst a;rfl
theorem oh{c:Vn}:∀{ls:List Lf},ww ls=true->∀u∈aw c ls,u.oneCell'=true
 |[],_,u,a=>by simp[aw]at a
 |l::r,h,u,a=>by
  simp only[ww,abF]at h;simp only[aw,aef]at a;rcases a with a|a
  ·exact Xa h.1 u a
  ·exact oh h.2 u a
def AV.lvs:AV->Option (List Lf)
 |.lf l=>bif l.one1 then some [l]else none
 |.ag ls=>bif ww ls then some ls else none
 |.tu _=>none
theorem AV.lvs_one{v:AV}{ls:List Lf}(h:v.lvs=some ls):ww ls=true:=by
 cases v with
 |lf l=>
  grind[AV.lvs,ww]
 |ag l=>
  simp only[AV.lvs]at h;grind
 |tu _=>cases h
theorem vo{x:Value}(h:x.oneCell'=true):x.cells = #[x]:=by cases x<;>first|rfl|(simp[Value.oneCell']at h)
theorem AV.lvs_cells{v:AV}{ls:List Lf}(h:v.lvs=some ls)(d:Vn):(v.val d).cells=(aw d ls).toArray:=by
 cases v with
 | lf l=>
  simp only[AV.lvs]at h;cases a:l.one1
  ·grind
  ·rw[a]at h;simp only[abv,no]at h;subst h;cases l with
   |ar n s x=>simp[AV.val,Lf.val,aw,Lf.cells,Value.cells]
   |ars t xs=>simp[AV.val,Lf.val,aw,Lf.cells,Value.cells]
   |c s x=>exact vo (s.one x)
   |xt n x=>exact vo (X.one n x)
   |v x=>exact vo a
   |_=>rfl
 |ag l=>
  simp only[AV.lvs]at h;cases a:ww l
  ·grind
  ·rw[a]at h;simp at h;subst h;rfl
 |tu _=>cases h
def i6(b:Nat):List AF->Option (Nat×List Lf)
 |[]=>none
 |.box i a cs::r=>bif Nat.beq b a then some (i,cs)else i6 b r
 |_::r=>i6 b r
theorem fw{b:Nat}:∀{F:List AF} {i:Nat} {cs:List Lf},i6 b F=some (i,cs)->.box i b cs∈F
 |[],_,_,h=>by simp[i6]at h
 |.box i a cs::r,d,cs',h=>by
  simp only[i6]at h;cases c:Nat.beq b a
  ·rw[c]at h;exact abJ _ (fw h)
  simp_all
 |.own _ _ _ _ _ _::r,_,_,h=>abJ _ (fw (F:=r) h)
 |.rep _ _ _ _::r,_,_,h=>abJ _ (fw (F:=r) h)
 |.isn _ _::r,_,_,h=>abJ _ (fw (F:=r) h)
 |.ag _::r,_,_,h=>abJ _ (fw (F:=r) h)
 |.prt _ _ _ _ _::r,_,_,h=>abJ _ (fw (F:=r) h)
 |.pbx _ _ _ _ _::r,_,_,h=>abJ _ (fw (F:=r) h)
 |.hol _ _ _ _ _ _ _::r,_,_,h=>abJ _ (fw (F:=r) h)
 |.mp _ _ _ _ _::r,_,_,h=>abJ _ (fw (F:=r) h)
 |.pt _ _ _ _ _ _ _::r,_,_,h=>abJ _ (fw (F:=r) h)
def lj:List Lf->Nat->Option (List Lf×List Lf)
 |[],k=>bif Nat.beq k 0 then some ([],[])else none
 |l::r,k=>bif Nat.beq k 0 then some ([],l::r)else bif Nat.ble 1 l.sz&&Nat.ble l.sz k then match lj r (k-l.sz)with|some (a,b)=>some (l::a,b)|none=>none else none
theorem hU:∀{cs:List Lf} {k:Nat} {a b:List Lf},lj cs k=some (a,b)->cs=a++b/\∀η,(aw η a).length=k
 |[],k,a,b,h=>by
  simp only[lj]at h;cases c:Nat.beq k 0
  ·grind
  ·rw[c]at h;simp only[abv,no,acW]at h;obtain⟨rfl,rfl⟩:=h;exact⟨rfl,λ_=>(f9 c).symm⟩
 | l::r,k,a,b,h=>by
  simp only[lj]at h;cases d:Nat.beq k 0
  ·rw[d]at h;simp only[ab7]at h;cases c:(Nat.ble 1 l.sz&&Nat.ble l.sz k)
   ·grind
   ·rw[c]at h;simp only[abv]at h;simp only[abF]at c;have j:=abM c.2;split at h
    ·rename_i g i f;simp only[no,acW]at h;obtain⟨rfl,rfl⟩:=h;obtain⟨e,hl⟩:=hU f;refine⟨by rw[e];rfl,λη=>?_⟩;simp only[aw,acA,l.cells_sz,hl η];omega
    ·cases h
  ·rw[d]at h;simp only[abv,no,acW]at h;obtain⟨rfl,rfl⟩:=h;exact⟨rfl,λ_=>(f9 d).symm⟩
def cut(off sz:Nat)(cs:List Lf):Option (List Lf×List Lf×List Lf):=match lj cs off with
 |some (a,b)=>match lj b sz with
  |some (m,r)=>some (a,m,r)
  |none=>none
 |none=>none
theorem zS{off sz:Nat}{cs a m r:List Lf}(h:cut off sz cs=some (a,m,r)):cs=a++m++r/\∀η,(aw η a).length=off/\(aw η m).length=sz:=by grind[cut,Option.some.injEq,Prod.mk.injEq,hU]
def Ja(agg:Bool):List Lf->Option AV
 |[.ar n s x]=>bif agg then some (.lf (.ar n s x))else none
 |[.ars t xs]=>bif agg then some (.lf (.ars t xs))else none
 |[l]=>some (bif agg then .ag [l]else .lf l)
 |ls=>bif agg then some (.ag ls)else none
theorem DB{ls:List Lf}{v:AV}(h:Ja true ls=some v)(a:Vn):v.val a=.agg (aw a ls).toArray:=by unfold Ja at h;grind[AV.val,Lf.val,aw,Lf.cells]
theorem Dv{ls:List Lf}{v:AV}(h:Ja false ls=some v)(d:Vn):∃l,ls=[l]/\v=.lf l/\l.cells d=[v.val d]:=by
 unfold Ja at h;split at h
 ·simp at h
 ·simp at h
 ·rename_i l a c;simp at h;subst h;refine⟨l,rfl,rfl,?_⟩;cases l<;>first|rfl|(exact absurd rfl (a _ _ _))|grind
 ·simp at h
theorem nq{d:TD}(h:TInf.fits P t d):∃c,P.underlying t=some c/\kR c=d.agg:=by
 cases d with
 |st fs=>obtain⟨F,a,_⟩:=h;exact⟨_,a,rfl⟩
 |other=>obtain⟨d,a,e⟩:=h;exact⟨d,a,e⟩
 |_=>exact⟨_,h,rfl⟩
section
variable {R:Type} {P:Program} {o:Oper} {E:SE} {F:List AF} {n:Nat} {Θ:Tb} {ex:Option Bool}
def SW(Θ:Tb)(n N:Nat)(t:TypeId)(k:Out->Option R):Option R:=match Θ t with
 |some i=>bif Nat.ble 2 N then k ⟨.lf (.bp n 0),[.box N n i.zl],[]⟩else none
 |none=>none
theorem acB(a:Θ.ok P)(h:o.op=.alloc t)(k:Out->Option R):aq ex P o E F n (SW Θ n N t k) k:=by
 unfold SW;split
 ·rename_i i hi;refine aq.bif λg=>aq.of λ_ c ρ j=>?_
  obtain⟨d,_,e,f⟩:=a t i hi;refine(aha h d e g).map (λb=>⟨c.setB n b,c.setB_agr n b⟩) (λb=>?_) λb=>?_
  ·simp[AV.val,Lf.val,Vn.setB_at]
  ·simp[AF.ha,Vn.setB_at,f (c.setB n b)]
 ·exact aq.none
def aep(n N:Nat)(v:AV)(k:Out->Option R):Option R:=match v.lvs with
 |some ls=>bif Nat.ble 2 N&&uo n ls then k ⟨.lf (.bp n 0),[.box N n ls],[]⟩else none
 |none=>none
theorem as2{v:AV}(e:o.op=.box t x)(f:ev E x=some v)(k:Out->Option R):aq ex P o E F n (aep n N v k) k:=by
 unfold aep;split
 ·rename_i ls hl;refine aq.bif λc=>aq.of λ_ a ρ d=>?_
  simp only[abF]at c;refine(awC e (aK d f) (v.lvs_cells hl a) c.1).map (λb=>⟨a.setB n b,a.setB_agr n b⟩) (λb=>?_) λb=>?_
  ·simp[AV.val,Lf.val,Vn.setB_at]
  ·simp[AF.ha,Vn.setB_at,qa (a.setB_agr n b) ls c.2]
 ·exact aq.none
def Or(Θ:Tb)(t:TypeId)(b off:Nat)(F:List AF)(k:Out->Option R):Option R:=match Θ t,i6 b F with
 | some i,some (_,cs)=>match cut off i.sz cs with
  |some (_,m,_)=>match Ja i.d.agg m with
   |some v=>k (be v)
   |none=>none
  |none=>none
 |_,_=>none
theorem adH(p:Θ.ok P){b off:Nat}(u:o.op=.load t x)(z:ev E x=some (.lf (.bp b off)))(k:Out->Option R):aq ex P o E F n (Or Θ t b off F k) k:=by
 unfold Or;split
 ·rename_i i ci cs hi H;split
  ·rename_i a m r I;split
   ·rename_i v g;refine aq.of λ_=>(dl.pure λd ρ q=>?_)
    obtain⟨B,C,_,_⟩:=p t i hi;obtain⟨K,w,hd⟩:=nq C;obtain⟨j,s⟩:=mN (fw H) d;obtain⟨e,hl⟩:=zS I;obtain⟨J,A⟩:=hl d;have c:((aw d cs).drop off).take i.sz=aw d m:=by
     rw[e,ba,ba,aeh,afr,afc (by omega),show off-(aw d a).length=0 by omega,agY,ae4,af4,aeQ (by omega),
      show i.sz-(aw d m).length=0 by omega,ahj,ad0]
    cases f:i.d.agg
    ·rw[f]at g hd;obtain⟨l,rfl,rfl,h⟩:=Dv g d;refine Gw j s u w hd (aK q z) ?_;have D:aw d [l]=[(AV.lf l).val d]:=by simp[aw,h]
     rw[D]at c A;have:=aei (·[0]?) c;grind
    ·rw[f]at g hd;rw[DB g d];exact S8 j s u w hd B (aK q z) c (by simp[A])
   ·exact aq.none
  ·exact aq.none
 ·exact aq.none
def HM(Θ:Tb)(t:TypeId)(b off:Nat)(v:AV)(F:List AF)(k:Out->Option R):Option R:=match Θ t,i6 b F,v.lvs with
 |some i,some (ci,cs),some ls=>match cut off i.sz cs,lj ls i.sz with
  |some (a,_,r),some (_,[])=>k ⟨.lf (.v undef),[.box ci b (a++ls++r)],[ci]⟩
  |_,_=>none
 |_,_,_=>none
theorem aan(f:Θ.ok P){b off:Nat}{v:AV}(A:o.op=.store t x y)(B:ev E x=some (.lf (.bp b off)))(C:ev E y=some v)(k:Out->Option R):aq ex P o E F n (HM Θ t b off v F k) k:=by
 unfold HM;split
 ·rename_i i ci cs ls hi u hl;split
  ·rename_i a m r q w hs;refine aq.of λ_ c ρ l=>?_
   obtain⟨s,D,_,_⟩:=f t i hi;obtain⟨j,z⟩:=mN (fw u) c;obtain⟨e,d⟩:=zS w;obtain⟨H,I⟩:=d c;obtain⟨h,g⟩:=hU hs;rw[ad0]at h;subst h;have g:=g c;have p:∀y : { η':Vn//c.agr n η'},undef=(AV.lf (.v undef)).val y.1:=λ_=>rfl;refine(Dd (cs':=aw c (a++ls++r)) j z A s (aK l B) (aK l C) (v.lvs_cells hl c) (by simp[g]) (acr.2 (oh (AV.lvs_one hl))) ?_ ?_).map (λ_=>⟨c,Vn.agr_refl n c⟩) (λ_=>rfl) (λ_=>rfl)
   ·rw[e,ba,ba];simp_all
   grind[ba]
  ·exact aq.none
 ·exact aq.none
end
end
end Go.Sm
