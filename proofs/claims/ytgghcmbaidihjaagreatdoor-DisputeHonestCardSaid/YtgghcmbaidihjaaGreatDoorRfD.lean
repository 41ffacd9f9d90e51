/- Laws for the row. No condition. -/
import Derived.Test.YtgghcmbaidihjaaGreatDoorSimR
namespace Go.Sm
inductive SC
 |int (k:IntKind)
 |bool
 |str
 |fnc
 deriving DecidableEq
inductive TC
 |sc (s:SC)
 |arr (n:Nat) (s:SC)
 |unit
 |pair (a b:TC)
 |slice (t:TC)
 |st (t:TC)
 |ext (n:Nat)
 |node
 |mp (k v:TC)
 deriving DecidableEq
abbrev TC.nodeC:TC:=.pair (.sc (.int .i64)) (.pair (.sc .str) (.pair (.sc (.int .i64)) (.slice .node)))
def E4(m:Nat)(xs:List Int):List Value:=(List.range m).map λi=>Value.int .u8 (xs.getD i 0)
class XTab where
 den:Nat->Type
 val:(n:Nat)->den n->Value
 one:(n:Nat)->(x:den n)->(val n x).oneCell'=true
 dft:(n:Nat)->den n
 tr:Nat->Nat
 ik:TypeId->Option Nat
 il:TypeId->Nat
 imk:(n:Nat)->TypeId->List Int->den n
 iget:(n:Nat)->TypeId->den n->Option (List Int)
 iok:∀t n xs,ik t=some n->val n (imk n t xs)=.iface t (.agg (E4 (il t) xs).toArray)
 gok:∀t n d,ik t=some n->(∀xs,iget n t d=some xs->val n d=.iface t (.agg (E4 (il t) xs).toArray))/\(iget n t d=none->∃t' v,val n d=.iface t' v/\t'≠t)
abbrev SC.den:SC->Type
 |.int _=>Int
 |.bool=>Bool
 |.str=>List UInt8
 |.fnc=>Nat
abbrev SC.val:(s:SC)->s.den->Value
 |.int k,n=>.int k n
 |.bool,x=>.bool x
 |.str,x=>.string ⟨x.toArray⟩
 |.fnc,f=>.func (.func f) #[] #[]
theorem SC.one:(s:SC)->(x:s.den)->(s.val x).oneCell'=true
 |.int _,_=>rfl
 |.bool,_=>rfl
 |.str,_=>rfl
 |.fnc,_=>rfl
abbrev SC.dft:(s:SC)->s.den
 |.int _=>(0:Int)
 |.bool=>false
 |.str=>([]:List UInt8)
 |.fnc=>(0:Nat)
section
variable [X:XTab]
abbrev TC.ty:TC->Ty
 |.sc s=>.one s.den s.val s.one
 |.arr n s=>.arr n s.den s.dft s.val s.one
 |.unit=>.unit
 |.pair a b=>.pair a.ty b.ty
 |.slice t=>.slice t.ty
 |.st t=>t.ty
 |.ext n=>.one (X.den n) (X.val n) (X.one n)
 |.node=>.node
 |.mp k v=>.mp k.ty v.ty
abbrev TC.den(t:TC):Type:=t.ty.den
abbrev TC.dft:(t:TC)->t.den
 |.sc s=>s.dft
 |.arr _ _=>[]
 |.unit=>()
 |.pair a b=>(a.dft,b.dft)
 |.slice _=>[]
 |.st t=>t.dft
 |.ext n=>X.dft n
 |.node=>Nd.of (0,[],0,[])
 |.mp _ _=>[]
def TC.ref0:(t:TC)->t.ty.Refs
 |.sc _=>()
 |.arr _ _=>()
 |.unit=>()
 |.pair a b=>(a.ref0,b.ref0)
 |.slice _=>(⟨none,0,0⟩:Hd)
 |.st t=>t.ref0
 |.ext _=>()
 |.node=>(⟨none,0,0⟩:Hd)
 |.mp _ _=>(⟨none,0,0⟩:Hd)
inductive Pa:TC->TC->Type
 |here {t:TC}:Pa t t
 |fst {a b u:TC} (p:Pa a u):Pa (.pair a b) u
 |snd {a b u:TC} (p:Pa b u):Pa (.pair a b) u
 |inn {a u:TC} (p:Pa a u):Pa (.st a) u
 |el {n:Nat} {s:SC} (j:Int):Pa (.arr n s) (.sc s)
 |nd {u:TC} (p:Pa TC.nodeC u):Pa .node u
inductive Lf:Type
 |c (s:SC) (x:s.den)
 |ar (n:Nat) (s:SC) (x:List s.den)
 |sl (h:Nat)
 |nl
 |bp (b off:Nat)
 |bq (b off n:Nat) (s:SC) (j:Int)
 |rp (h:Nat) (t:TC) (i:Int) (u:TC) (p:Pa t u)
 |xt (n:Nat) (x:X.den n)
 |fn (f:FuncId)
 |clo (f:FuncId) (bs:List Nat)
 |yl
 |gp (g:Nat) (t:TC) (i:Int) (u:TC) (p:Pa t u)
 |ars (t:TC) (xs:List t.den)
 |mp (h:Nat)
 |v (x:Value)
def Lf.sz:Lf->Nat
 |.ar n _ _=>n
 |.ars t xs=>xs.length*t.ty.sz
 |_=>1
inductive AV:Type
 |lf (l:Lf)
 |ag (ls:List Lf)
 |tu (vs:List AV)
structure Vn where
 h:Nat->Hd
 b:Nat->Nat
class GCx where
 l:Nat
 ex:List HA
 exu:∀A∈ex,∀k∈A.uses,k<2
 exm:∀A∈ex,∀(w:World) (c c':aS),A.holds w c->(∀b,c b=0->c' b=0)->A.holds w c'
 β:Vn
def Pa.off : {t u:TC}->Pa t u->Nat
 |_,_,.here=>0
 |_,_,.fst p=>p.off
 |_,_,@Pa.snd a _ _ p=>a.ty.sz+p.off
 |_,_,.inn p=>p.off
 |_,_,.el j=>j.toNat
 |_,_,.nd p=>p.off
def eJ:Hd:=⟨none,0,0⟩
variable [Yc:GCx]
def Lf.cells(η:Vn):Lf->List Value
 |.c s x=>[s.val x]
 |.ar n s x=>(TC.arr n s).ty.fill x ()
 |.sl h=>[(η.h h).val]
 |.nl=>[eJ.val]
 |.bp b off=>[.pointer (some ⟨η.b b,off,none⟩)]
 |.bq b off _ _ j=>[.pointer (some ⟨η.b b,off+j.toNat,none⟩)]
 |.rp h t i _ p=>[.pointer (some (dR (η.h h) (i.toNat*t.ty.sz+p.off)))]
 |.xt n x=>[X.val n x]
 |.fn f=>[.func (.func f) #[] #[]]
 |.clo f bs=>[.func (.func f) #[] (bs.map λb=>.pointer (some ⟨η.b b,0,none⟩)).toArray]
 |.yl=>[.func (.yield Yc.l) #[] #[]]
 |.gp g t i _ p=>[.pointer (some ⟨g,i.toNat*t.ty.sz+p.off,none⟩)]
 |.ars t xs=>cellsOf t.ty xs (List.replicate xs.length t.ref0)
 |.mp h=>[.map (some (η.h h).blk)]
 |.v x=>[x]
def Lf.val(η:Vn)(l:Lf):Value:=match l with
 |.c s x=>s.val x
 |.ar n s x=>.agg ((TC.arr n s).ty.fill x ()).toArray
 |.sl h=>(η.h h).val
 |.nl=>eJ.val
 |.bp b off=>.pointer (some ⟨η.b b,off,none⟩)
 |.bq b off _ _ j=>.pointer (some ⟨η.b b,off+j.toNat,none⟩)
 |.rp h t i _ p=>.pointer (some (dR (η.h h) (i.toNat*t.ty.sz+p.off)))
 |.xt n x=>X.val n x
 |.fn f=>.func (.func f) #[] #[]
 |.clo f bs=>.func (.func f) #[] (bs.map λb=>.pointer (some ⟨η.b b,0,none⟩)).toArray
 |.yl=>.func (.yield Yc.l) #[] #[]
 |.gp g t i _ p=>.pointer (some ⟨g,i.toNat*t.ty.sz+p.off,none⟩)
 |.ars t xs=>.agg (cellsOf t.ty xs (List.replicate xs.length t.ref0)).toArray
 |.mp h=>.map (some (η.h h).blk)
 |.v x=>x
def au(η:Vn):List Lf->List Value
 |[]=>[]
 |l::r=>l.cells η++au η r
mutual
def AV.val(η:Vn):AV->Value
 |.lf l=>l.val η
 |.ag ls=>.agg (au η ls).toArray
 |.tu vs=>.tuple (AV.vals η vs).toArray
def AV.vals(η:Vn):List AV->List Value
 |[]=>[]
 |v::r=>v.val η::AV.vals η r
end
inductive AF:Type
 |rep (t:TC) (K:List Nat) (xs:List t.den) (h:Nat)
 |own (t:TC) (e:TypeId) (i:Nat) (K:List Nat) (xs:List t.den) (h:Nat)
 |box (i b:Nat) (cs:List Lf)
 |isn (h:Nat) (b:Bool)
 |ag (B:Nat)
 |prt (h' h sz:Nat) (lo hi:Int)
 |pbx (h' b off:Nat) (lo hi:Int)
 |hol (t:TC) (e:TypeId) (i:Nat) (xs:List t.den) (h:Nat) (k:Int) (cs:List Lf)
 |mp (k v:TC) (i:Nat) (xs:List (k.den×v.den)) (h:Nat)
 |pt (t:TC) (e:TypeId) (i:Nat) (K:List Nat) (xs:List t.den) (h:Nat) (m:Int)
def mK(t:TC)(x:t.den):Value:=match t,x with
 |.sc s,x=>s.val x
 |.arr n s,x=>.agg ((TC.arr n s).ty.fill x ()).toArray
 |.unit,_=>.agg #[]
 |.pair a b,x=>.agg ((TC.pair a b).ty.fill x (TC.pair a b).ref0).toArray
 |.st a,x=>.agg (a.ty.fill x a.ref0).toArray
 |.slice _,_=>eJ.val
 |.ext k,x=>X.val k x
 |.node,x=>.agg (Ty.node.fill x eJ).toArray
 |.mp _ _,_=>.map none
def A4(k v:TC)(xs:List (k.den×v.den)):List (Value×Value):=xs.map λp=>(mK k p.1,mK v p.2)
def AF.ha(η:Vn):AF->HA
 |.rep t K xs h=>.rep t.ty K xs (η.h h)
 |.own t e i K xs h=>dS t.ty e i K xs (η.h h)
 |.box i b cs=>.box i (η.b b) (au η cs)
 |.isn h b=>.pure ((η.h h).isNil=b)
 |.ag B=>.pure (∀m,m<B->η.b m=Yc.β.b m/\η.h m=Yc.β.h m)
 |.prt h' h sz lo hi=>.pure (kQ (η.h h') (η.h h) sz lo hi)
 |.pbx h' b off lo hi=>.pure (kQ (η.h h') ⟨some ⟨η.b b,off,none⟩,0,0⟩ 1 lo hi)
 |.hol t e i xs h k cs=>.hol t.ty e i xs (η.h h) k.toNat (au η cs)
 |.mp k v i xs h=>.mp i (η.h h).blk (A4 k v xs)
 |.pt t e i K xs h m=>.pt t.ty e i K xs (η.h h) m
def AF.uses:AF->List Nat
 |.rep _ K _ _=>K
 |.own _ _ i K _ _=>i::K
 |.box i _ _=>[i]
 |.isn _ _=>[]
 |.ag _=>[]
 |.prt _ _ _ _ _=>[]
 |.pbx _ _ _ _ _=>[]
 |.hol _ _ i _ _ _ _=>[i]
 |.mp _ _ i _ _=>[i]
 |.pt _ _ i K _ _ _=>i::K
def Lf.hs:Lf->List Nat
 |.sl h=>[h]
 |.rp h _ _ _ _=>[h]
 |.mp h=>[h]
 |_=>[]
def Lf.bs:Lf->List Nat
 |.bp b _=>[b]
 |.bq b _ _ _ _=>[b]
 |.clo _ bs=>bs
 |_=>[]
def out(n m:Nat):Bool:=Nat.blt m n||Nat.ble (n+64) m
def Lf.free(n:Nat)(l:Lf):Bool:=match l with
 |.sl h=>out n h
 |.rp h _ _ _ _=>out n h
 |.bp b _=>out n b
 |.bq b _ _ _ _=>out n b
 |.clo _ bs=>bs.all (out n)
 |.mp h=>out n h
 |_=>true
def ua(n:Nat):List Lf->Bool
 |[]=>true
 |l::r=>l.free n&&ua n r
mutual
def AV.free(n:Nat):AV->Bool
 |.lf l=>l.free n
 |.ag ls=>ua n ls
 |.tu vs=>AV.frees n vs
def AV.frees(n:Nat):List AV->Bool
 |[]=>true
 |v::r=>v.free n&&AV.frees n r
end
def AF.free(n:Nat):AF->Bool
 |.rep _ _ _ h=>out n h
 |.own _ _ _ _ _ h=>out n h
 |.box _ b cs=>out n b&&ua n cs
 |.isn h _=>out n h
 |.ag B=>Nat.ble B n
 |.prt h' h _ _ _=>out n h'&&out n h
 |.pbx h' h _ _ _=>out n h'&&out n h
 |.hol _ _ _ _ h _ cs=>out n h&&ua n cs
 |.mp _ _ _ _ h=>out n h
 |.pt _ _ _ _ _ h _=>out n h
def Vn.agr(n:Nat)(η η':Vn):Prop:=∀m,out n m=true->η'.h m=η.h m/\η'.b m=η.b m
theorem Lf.cells_agr{n:Nat}{η η':Vn}(h:η.agr n η'):(l:Lf)->l.free n=true->l.cells η'=l.cells η
 |.sl m,hf=>by simp only[Lf.cells,(h m hf).1]
 |.rp m _ _ _ _,hf=>by simp only[Lf.cells,(h m hf).1]
 |.mp m,hf=>by simp only[Lf.cells,(h m hf).1]
 |.bp m _,hf=>by simp only[Lf.cells,(h m hf).2]
 |.bq m _ _ _ _,hf=>by simp only[Lf.cells,(h m hf).2]
 |.clo _ bs,hf=>by
  have:bs.map (λb=>Value.pointer (some ⟨η'.b b,0,none⟩))=bs.map λb=>Value.pointer (some ⟨η.b b,0,none⟩):=abw λb hb=>by rw[(h b (Zy.1 hf b hb)).2]
  simp only[Lf.cells,this]
 |.yl,_=>rfl
 |.gp _ _ _ _ _,_=>rfl
 |.ars _ _,_=>rfl
 |.c _ _,_=>rfl
 |.ar _ _ _,_=>rfl
 |.nl,_=>rfl
 |.xt _ _,_=>rfl
 |.fn _,_=>rfl
 |.v _,_=>rfl
theorem Lf.val_agr{n:Nat}{η η':Vn}(h:η.agr n η'):(l:Lf)->l.free n=true->l.val η'=l.val η
 |.sl m,hf=>by simp only[Lf.val,(h m hf).1]
 |.rp m _ _ _ _,hf=>by simp only[Lf.val,(h m hf).1]
 |.mp m,hf=>by simp only[Lf.val,(h m hf).1]
 |.bp m _,hf=>by simp only[Lf.val,(h m hf).2]
 |.bq m _ _ _ _,hf=>by simp only[Lf.val,(h m hf).2]
 |.clo _ bs,hf=>by
  have:bs.map (λb=>Value.pointer (some ⟨η'.b b,0,none⟩))=bs.map λb=>Value.pointer (some ⟨η.b b,0,none⟩):=abw λb hb=>by rw[(h b (Zy.1 hf b hb)).2]
  simp only[Lf.val,this]
 |.yl,_=>rfl
 |.gp _ _ _ _ _,_=>rfl
 |.ars _ _,_=>rfl
 |.c _ _,_=>rfl
 |.ar _ _ _,_=>rfl
 |.nl,_=>rfl
 |.xt _ _,_=>rfl
 |.fn _,_=>rfl
 |.v _,_=>rfl
theorem qa{n:Nat}{η η':Vn}(h:η.agr n η'):(ls:List Lf)->ua n ls=true->au η' ls=au η ls
 |[],_=>rfl
 |l::r,hf=>by simp only[ua,Y5]at hf;simp only[au,l.cells_agr h hf.1,qa h r hf.2]
mutual
theorem AV.val_agr{n:Nat}{η η':Vn}(h:η.agr n η'):(v:AV)->v.free n=true->v.val η'=v.val η
 |.lf l,hf=>by simp only[AV.val];exact l.val_agr h hf
 |.ag ls,hf=>by simp only[AV.val];rw[qa h ls hf]
 |.tu vs,hf=>by simp only[AV.val];rw[AV.vals_agr h vs hf]
theorem AV.vals_agr{n:Nat}{η η':Vn}(h:η.agr n η'):(vs:List AV)->AV.frees n vs=true->AV.vals η' vs=AV.vals η vs
 |[],_=>rfl
 |v::r,hf=>by simp only[AV.frees,Y5]at hf;simp only[AV.vals,AV.val_agr h v hf.1,AV.vals_agr h r hf.2]
end
theorem AF.ha_agr{n:Nat}{η η':Vn}(h:η.agr n η'):(f:AF)->f.free n=true->f.ha η'=f.ha η
 |.rep _ _ _ m,hf=>by simp only[AF.ha,(h m hf).1]
 |.own _ _ _ _ _ m,hf=>by simp only[AF.ha,(h m hf).1]
 |.box _ m cs,hf=>by simp only[AF.free,Y5]at hf;simp only[AF.ha,(h m hf.1).2,qa h cs hf.2]
 |.isn m _,hf=>by simp only[AF.ha,(h m hf).1]
 |.ag B,hf=>by have hB:=Zh hf;have:∀m,m<B->η'.h m=η.h m/\η'.b m=η.b m:=λm hm=>h m (by simp only[out,abl];exact .inl (aah (by omega)));simp only[AF.ha];congr 1;exact propext ⟨λhh m hm=>by rw[<-(this m hm).1,<-(this m hm).2];exact hh m hm,λhh m hm=>by rw[(this m hm).1,(this m hm).2];exact hh m hm⟩
 |.prt m m' _ _ _,hf=>by simp only[AF.free,Y5]at hf;simp only[AF.ha,(h m hf.1).1,(h m' hf.2).1]
 |.pbx m m' _ _ _,hf=>by simp only[AF.free,Y5]at hf;simp only[AF.ha,(h m hf.1).1,(h m' hf.2).2]
 |.mp _ _ _ _ m,hf=>by simp only[AF.ha,(h m hf).1]
 |.pt _ _ _ _ _ m _,hf=>by simp only[AF.ha,(h m hf).1]
 |.hol _ _ _ _ m _ cs,hf=>by simp only[AF.free,Y5]at hf;simp only[AF.ha,(h m hf.1).1,qa h cs hf.2]
theorem AF.ha_uses(η:Vn):(f:AF)->(f.ha η).uses=f.uses
 |.rep _ _ _ _=>rfl
 |.own _ _ _ _ _ _=>X6
 |.box _ _ _=>rfl
 |.isn _ _=>rfl
 |.ag _=>rfl
 |.prt _ _ _ _ _=>rfl
 |.pbx _ _ _ _ _=>rfl
 |.hol _ _ _ _ _ _ _=>rfl
 |.mp _ _ _ _ _=>rfl
 |.pt _ _ _ _ _ _ _=>rfl
theorem Lf.cells_sz(η:Vn):(l:Lf)->(l.cells η).length=l.sz
 |.ar n s x=>Ty.fill_length _ _ _
 |.sl _=>rfl
 |.rp _ _ _ _ _=>rfl
 |.bp _ _=>rfl
 |.bq _ _ _ _ _=>rfl
 |.c _ _=>rfl
 |.nl=>rfl
 |.xt _ _=>rfl
 |.fn _=>rfl
 |.clo _ _=>rfl
 |.yl=>rfl
 |.gp _ _ _ _ _=>rfl
 |.mp _=>rfl
 |.ars t xs=>by simp only[Lf.cells,Lf.sz];rw[cE];simp
 |.v _=>rfl
end
inductive TD
  |int (k:IntKind)
  |bool
  |str
  |slice (e:TypeId)
  |arr (n:Nat) (e:TypeId)
  |st (fs:List (TypeId×Nat))
  |ptr (e:TypeId)
  |map (k e:TypeId)
  |other
set_option linter.unusedSectionVars false
section
variable [X:XTab] [Yc:GCx]
structure GEnt where
  g:Nat
  t:TC
  xs:List t.den
class GTab where
  gl:List GEnt
def GEnt.ha(e:GEnt):HA:=.gl e.g e.xs.length (cellsOf e.t.ty e.xs (List.replicate e.xs.length e.t.ref0))
variable [G:GTab]
def eV:List HA:=G.gl.map GEnt.ha++Yc.ex
theorem DX{A:HA}(h:A∈eV):∀k∈A.uses,k<2:=by
 rcases aad.1 h with h|h
 · obtain⟨e,_,rfl⟩:=ZA.1 h
   intro k hk
   simp[GEnt.ha,HA.uses]at hk
   omega
 ·exact Yc.exu A h
structure TInf where
  d:TD
  sz:Nat
  by_:Nat
  zl:List Lf
  tc:TC
def TD.agg:TD->Bool
  |.arr _ _=>true
  |.st _=>true
  |_=>false
def DF:Vn:=⟨λ_=>eJ,λ_=>0⟩
def TInf.zv(i:TInf):Value:=bif i.d.agg then .agg (au DF i.zl).toArray else(au DF i.zl).headD undef
def TInf.fits(P:Program)(t:TypeId):TD->Prop
  |.int k=>P.underlying t=some (.int k)
  |.bool=>P.underlying t=some .bool
  |.str=>P.underlying t=some .string
  |.slice e=>P.underlying t=some (.slice e)
  |.arr n e=>P.underlying t=some (.array n e)
  |.st fs=>∃F,P.underlying t=some (.struct F)/\F.toList.map (λf=>(f.type,f.offset))=fs
  |.ptr e=>P.underlying t=some (.pointer e)
  |.map k e=>P.underlying t=some (.map k e)
  |.other=>∃d,P.underlying t=some d/\jF d=false
def TInf.ok(P:Program)(t:TypeId)(i:TInf):Prop:=TI P t i.sz i.by_ i.zv/\TInf.fits P t i.d/\i.zv.cells=(au DF i.zl).toArray/\∀η,au η i.zl=au DF i.zl
def zsz:List Lf->Nat
  |[]=>0
  |l::r=>l.sz+zsz r
theorem Yo(η:Vn):(ls:List Lf)->(au η ls).length=zsz ls
  |[]=>rfl
  |l::r=>by simp only[au,ZD,Lf.cells_sz,Yo η r,zsz]
theorem TInf.ok.zsz{P:Program}{t:TypeId}{i:TInf}(h:i.ok P t):i.zv.cells.size=zsz i.zl:=by rw[h.2.2.1,aeu,Yo]
abbrev Tb:=TypeId->Option TInf
def Tb.ok(Θ:Tb)(P:Program):Prop:=∀t i,Θ t=some i->i.ok P t
def GU:List (TypeId×TInf)->Tb
  |[],_=>none
  |(a,i)::r,t=>bif Nat.beq t a then some i else GU r t
def ahf(P:Program):List (TypeId×TInf)->Prop
  |[]=>True
  |(a,i)::r=>i.ok P a/\ahf P r
theorem KV{P:Program}:∀{l:List (TypeId×TInf)},ahf P l->Tb.ok (GU l) P
  |[],_,t,i,h=>by simp[GU]at h
  | (a,j)::r,hl,t,i,h=>by
    simp only[GU]at h;cases hb:Nat.beq t a
    ·rw[hb]at h;exact KV hl.2 t i h
    · rw[hb]at h
      simp only[Ze,no]at h
      subst h
      rw[f9 hb]
      exact hl.1
structure Out where
  av:AV
  fs:List AF
  κ:List Nat
abbrev SE:=List (Nat×AV)
def bN(E:SE)(t:Nat):Option AV:=match E with
  |[]=>none
  |(d,v)::r=>bif Nat.beq t d then some v else bN r t
def kU(η:Vn)(ρ:cV)(E:SE):Prop:=∀t v,bN E t=some v->ρ t=v.val η
def FA:Value->AV
  |.int k n=>.lf (.c (.int k) n)
  |.bool b=>.lf (.c .bool b)
  |.string s=>.lf (.c .str s.data.toList)
  |.slice none 0 0=>.lf .nl
  |v=>.lf (.v v)
theorem OP(η:Vn)(v:Value):(FA v).val η=v:=by unfold FA;split<;>simp[AV.val,Lf.val,eJ,Hd.val]
def ev(E:SE):Operand->Option AV
  |.tmp t=>bN E t
  |.const v=>some (FA v)
  |.func f=>some (.lf (.fn f))
  |.global _=>none
theorem aH{η:Vn}{ρ:cV}{E:SE}(h:kU η ρ E){x:Operand}{v:AV}(hx:ev E x=some v):aJ ρ x=v.val η:=by
  cases x with
  |tmp t=>exact h t v hx
  |const c=>simp only[ev,no]at hx;subst hx;exact(OP η c).symm
  |func f=>simp only[ev,no]at hx;subst hx;rfl
  |global g=>simp[ev]at hx
def Od(P:Program)(o:Oper)(E:SE)(F:List AF)(n:Nat)(u:Out):Prop:=∀(η:Vn) (ρ:cV),kU η ρ E ->
  cJ P ρ o (F.map (AF.ha η)) u.κ (λy : { η':Vn//η.agr n η'}=>u.av.val y.1) (λy=>u.fs.map (AF.ha y.1))
def dc(P:Program)(o:Oper)(E:SE)(F:List AF)(n:Nat)(u:Out):Prop:=∀(η:Vn) (ρ:cV),kU η ρ E ->
  cJ P ρ o (F.map (AF.ha η)++eV) u.κ (λy : { η':Vn//η.agr n η'}=>u.av.val y.1) (λy=>u.fs.map (AF.ha y.1))
theorem Vn.agr_refl(n:Nat)(η:Vn):η.agr n η:=λ_ _=>⟨rfl,rfl⟩
theorem Od.up{P:Program}{o:Oper}{E:SE}{F:List AF}{n:Nat}{u:Out}(h:Od P o E F n u):dc P o E F n u:=
  λη ρ hE a ev w c next Q ha hL hk=>h η ρ hE a ev w c next Q ha (λA hA=>hL A (ZW _ hA)) hk
theorem dc.pure{P:Program}{o:Oper}{E:SE}{F:List AF}{n:Nat}{av:AV}(h:∀η ρ,kU η ρ E->aX P ρ o (F.map (AF.ha η)) (av.val η)):Od P o E F n ⟨av,[],[]⟩:=by
  intro η ρ hE a ev w c next Q ha hL hk
  rw[h η ρ hE ev w c ha hL];exact hk ⟨η,Vn.agr_refl n η⟩ w c (Stp.refl w c) (aj.nil _ _)
def fH:Option Bool->Prop
  |none=>True
  |some b=>b=true
def aq{R:Type}(ex:Option Bool)(P:Program)(o:Oper)(E:SE)(F:List AF)(n:Nat)(m:Option R)(k:Out->Option R):Prop:=∀r,m=some r->∃u,k u=some r/\(fH ex->dc P o E F n u)
section
variable {R:Type} {P:Program} {o:Oper} {E:SE} {F:List AF} {n:Nat} {k:Out->Option R} {ex:Option Bool}
theorem aq.none:aq ex P o E F n none k:=λ_ h=>by cases h
theorem aq.of{u:Out}(h:fH ex->Od P o E F n u):aq ex P o E F n (k u) k:=λ_ h'=>⟨u,h',λhx=>(h hx).up⟩
theorem aq.ofG{u:Out}(h:fH ex->dc P o E F n u):aq ex P o E F n (k u) k:=λ_ h'=>⟨u,h',h⟩
theorem aq.bif{b:Bool}{m:Option R}(h:b=true->aq ex P o E F n m k):aq ex P o E F n (bif b then m else .none) k:=λr hr=>by
  cases b
  ·cases hr
  ·exact h rfl r hr
end
def gbind{α R:Type}(ex:Option Bool)(d:α)(m:Option α)(f:α->Option R):Option R:=match ex with
  |none=>m.bind f
  |some b=>(bif b then m else some d).bind f
def gchk{R:Type}(ex:Option Bool)(b:Bool)(m:Option R):Option R:=match ex with
  |none=>ah b m
  |some e=>ah (!e||b) m
theorem aq.gbind{R α:Type}{P:Program}{o:Oper}{E:SE}{F:List AF}{n:Nat}{k:Out->Option R}{ex:Option Bool}{d:α}{m:Option α}{f:α->Option R}(h:∀x,(fH ex->m=some x)->aq ex P o E F n (f x) k):aq ex P o E F n (gbind ex d m f) k:=by
  intro r hr;cases ex with
  | none=>
    obtain⟨x,hx,hf⟩:=bind_some hr;exact h x (λ_=>hx) r hf
  | some b=>
    obtain⟨x,hx,hf⟩:=bind_some hr;refine h x (λhb=>?_) r hf;cases hb;exact hx
theorem aq.gchk{R:Type}{P:Program}{o:Oper}{E:SE}{F:List AF}{n:Nat}{k:Out->Option R}{ex:Option Bool}{b:Bool}{m:Option R}(h:(fH ex->b=true)->aq ex P o E F n m k):aq ex P o E F n (gchk ex b m) k:=by
  intro r hr;cases ex with
  | none=>
    obtain⟨hb,hm⟩:=Df hr;exact h (λ_=>hb) r hm
  | some e=>
    obtain⟨hb,hm⟩:=Df hr;refine h (λhe=>?_) r hm;cases he;simpa using hb
abbrev bc(v:AV):Out:=⟨v,[],[]⟩
abbrev fL(k:IntKind)(x:Int):AV:=.lf (.c (.int k) x)
abbrev eD(x:Bool):AV:=.lf (.c .bool x)
abbrev xR(x:List UInt8):AV:=.lf (.c .str x)
def w_(k:IntKind)(x:Int):Int:=match k with
  |.i64=>ac x
  |k=>k.wrap x
theorem RF(k:IntKind)(x:Int):w_ k x=k.wrap x:=by cases k<;>rfl
def Z5{R:Type}(ex:Option Bool)(op:BinOp)(k:IntKind)(a b:Int)(kk:Out->Option R):Option R:=match op with
  |.add=>kk (bc (fL k (w_ k (a+b))))
  |.sub=>kk (bc (fL k (w_ k (a-b))))
  |.mul=>kk (bc (fL k (w_ k (a*b))))
  |.quo=>gchk ex (!(b==0)) (kk (bc (fL k (w_ k (Int.tdiv a b)))))
  |.rem=>gchk ex (!(b==0)) (kk (bc (fL k (Int.tmod a b))))
  |.lss=>kk (bc (eD (decide (a<b))))
  |.leq=>kk (bc (eD (decide (a<=b))))
  |.gtr=>kk (bc (eD (decide (b<a))))
  |.geq=>kk (bc (eD (decide (b<=a))))
  |.eql=>kk (bc (eD (a==b)))
  |.neq=>kk (bc (eD (a != b)))
  |.and=>kk (bc (fL k (bJ .and k a b)))
  |.or=>kk (bc (fL k (bJ .or k a b)))
  |.xor=>kk (bc (fL k (bJ .xor k a b)))
  |.andNot=>kk (bc (fL k (bJ .andNot k a b)))
  |_=>none
theorem sp{b:Bool}(h:(!b)=true):b=false:=by grind
theorem alg{R:Type}{P:Program}{o:Oper}{E:SE}{F:List AF}{n:Nat}{ex:Option Bool}{op:BinOp}{t t':TypeId}{x y:Operand}{k:IntKind}{a b:Int}(ho:o.op=.binOp op t x y t')
    (h1:ev E x=some (fL k a)) (h2:ev E y=some (fL k b)) (kk:Out->Option R):aq ex P o E F n (Z5 ex op k a b kk) kk:=by
  have hev:∀η ρ,kU η ρ E->aJ ρ x=.int k a/\aJ ρ y=.int k b:=λη ρ hE=>⟨aH hE h1,aH hE h2⟩
  cases op<;>simp only[Z5]<;>first
    |exact aq.none
    | (refine aq.of λhx=>(dc.pure λη ρ hE=>?_);obtain⟨e1,e2⟩:=hev η ρ hE;simp only[AV.val,Lf.val,RF]
       first|exact aql ho e1 e2|exact aqr ho e1 e2|exact aqc ho e1 e2|exact aqw ho e1 e2|exact aqy ho e1 e2|exact ap7 ho e1 e2|exact apT ho e1 e2|exact apH ho e1 e2|exact apC ho e1 e2|exact aqg ho (by simp) e1 e2)
    | (refine aq.gchk λhb=>aq.of λhx=>(dc.pure λη ρ hE=>?_);obtain⟨e1,e2⟩:=hev η ρ hE;simp only[AV.val,Lf.val,RF]
       first|exact aqz ho e1 e2 (sp (hb hx))|exact aqq ho e1 e2 (sp (hb hx)))
def VN{R:Type}(ex:Option Bool)(op:BinOp)(k:IntKind)(a b:Int)(kk:Out->Option R):Option R:=match op with
  |.shl=>gchk ex (decide (0<=b)) (kk (bc (fL k (tq k a b))))
  |.shr=>gchk ex (decide (0<=b)) (kk (bc (fL k (fm k a b))))
  |_=>none
theorem aje{R:Type}{P:Program}{o:Oper}{E:SE}{F:List AF}{n:Nat}{ex:Option Bool}{op:BinOp}{t t':TypeId}{x y:Operand}{k k':IntKind}{a b:Int}(ho:o.op=.binOp op t x y t')
    (h1:ev E x=some (fL k a)) (h2:ev E y=some (fL k' b)) (kk:Out->Option R):aq ex P o E F n (VN ex op k a b kk) kk:=by
  have hev:∀η ρ,kU η ρ E->aJ ρ x=.int k a/\aJ ρ y=.int k' b:=λη ρ hE=>⟨aH hE h1,aH hE h2⟩
  cases op<;>simp only[VN]<;>first
    |exact aq.none
    | (refine aq.gchk λhb=>aq.of λhx=>(dc.pure λη ρ hE=>?_);obtain⟨e1,e2⟩:=hev η ρ hE;simp only[AV.val,Lf.val]
       first|exact apK ho e1 e2 (hb hx)|exact apE ho e1 e2 (hb hx))
end
section
variable [X:XTab] [G:GTab] [Yc:GCx]
def TC.nh:TC->Nat
 |.sc _=>0
 |.arr _ _=>0
 |.unit=>0
 |.pair a b=>a.nh+b.nh
 |.slice _=>1
 |.st t=>t.nh
 |.ext _=>0
 |.node=>1
 |.mp _ _=>1
def cz:(t:TC)->t.ty.Refs->List Hd
 |.sc _,_=>[]
 |.arr _ _,_=>[]
 |.unit,_=>[]
 |.pair a b,y=>cz a y.1++cz b y.2
 |.slice _,h=>[h]
 |.st t,y=>cz t y
 |.ext _,_=>[]
 |.node,h=>[h]
 |.mp _ _,h=>[h]
def aM:(t:TC)->List Hd->t.ty.Refs
 |.sc _,_=>()
 |.arr _ _,_=>()
 |.unit,_=>()
 |.pair a b,l=>(aM a l,aM b (l.drop a.nh))
 |.slice _,l=>l.headD eJ
 |.st t,l=>aM t l
 |.ext _,_=>()
 |.node,l=>l.headD eJ
 |.mp _ _,l=>l.headD eJ
theorem cU:(t:TC)->(y:t.ty.Refs)->(cz t y).length=t.nh
 |.sc _,_=>rfl
 |.arr _ _,_=>rfl
 |.unit,_=>rfl
 |.pair a b,y=>by simp[cz,TC.nh,cU a y.1,cU b y.2]
 |.slice _,_=>rfl
 |.st t,y=>cU t y
 |.ext _,_=>rfl
 |.node,_=>rfl
 |.mp _ _,_=>rfl
def Vn.set(η:Vn)(n:Nat)(l:List Hd):Vn:=⟨λm=>bif Nat.ble n m&&Nat.blt m (n+l.length)then l.getD (m-n) eJ else η.h m,η.b⟩
theorem Vn.set_at{η:Vn}{n:Nat}{l:List Hd}{j:Nat}{h:Hd}(hj:l[j]?=some h):(η.set n l).h (n+j)=h:=by
 have hlt:=(aaw.1 hj).1;have h1:(Nat.ble n (n+j)&&Nat.blt (n+j) (n+l.length))=true:=by simp_all
 grind[Vn.set]
theorem Vn.set_agr{η:Vn}{n:Nat}{l:List Hd}(hl:l.length<=64):η.agr n (η.set n l):=by
 intro m hm;refine⟨?_,rfl⟩;have:(Nat.ble n m&&Nat.blt m (n+l.length))=false:=by
  cases hb:(Nat.ble n m&&Nat.blt m (n+l.length))
  ·rfl
  ·simp only[Y5]at hb;have h1:=Zh hb.1;have h2:m+1<=n+l.length:=Zh hb.2;simp only[out,abl]at hm;rcases hm with hm|hm
   ·have:m+1<=n:=Zh hm;omega
   ·have:=Zh hm;omega
 simp only[Vn.set,this,Zr]
def iG:(t:TC)->t.den->Nat->List Lf
 |.sc s,x,_=>[.c s x]
 |.arr n s,x,_=>[.ar n s x]
 |.unit,_,_=>[]
 |.pair a b,x,n=>iG a x.1 n++iG b x.2 (n+a.nh)
 |.slice _,_,n=>[.sl n]
 |.st t,x,n=>iG t x n
 |.ext k,x,_=>[.xt k x]
 |.node,x,n=>[.c (.int .i64) x.tup.1,.c .str x.tup.2.1,.c (.int .i64) x.tup.2.2.1,.sl n]
 |.mp _ _,_,n=>[.mp n]
def tB:(t:TC)->t.den->List Nat->Nat->List AF
 |.sc _,_,_,_=>[]
 |.arr _ _,_,_,_=>[]
 |.unit,_,_,_=>[]
 |.pair a b,x,K,n=>tB a x.1 K n++tB b x.2 K (n+a.nh)
 |.slice t,x,K,n=>[.rep t K x n]
 |.st t,x,K,n=>tB t x K n
 |.ext _,_,_,_=>[]
 |.node,x,K,n=>[.rep .node K x.tup.2.2.2 n]
 |.mp _ _,_,_,_=>[]
theorem aY(η:Vn):(a b:List Lf)->au η (a++b)=au η a++au η b
 |[],_=>rfl
 |l::r,b=>by simp[au,aY η r b]
def eY(η:Vn)(n:Nat)(l:List Hd):Prop:=∀j h,l[j]?=some h->η.h (n+j)=h
theorem eY.left{η:Vn}{n:Nat}{a b:List Hd}(h:eY η n (a++b)):eY η n a:=λj x hj=>h j x (by grind)
theorem eY.right{η:Vn}{n k:Nat}{a b:List Hd}(h:eY η n (a++b))(hk:a.length=k):eY η (n+k) b:=λj x hj=>by have:=h (k+j) x (by grind);grind
theorem na{η:Vn}:(t:TC)->(x:t.den)->(y:t.ty.Refs)->(n:Nat)->eY η n (cz t y)->au η (iG t x n)=t.ty.fill x y
 |.sc _,_,_,_,_=>rfl
 |.arr _ _,_,_,_,_=>by simp[iG,au,Lf.cells,Ty.fill]
 |.unit,_,_,_,_=>rfl
 |.pair a b,x,y,n,h=>by simp only[iG,aY,Ty.fill];rw[na a x.1 y.1 n h.left,na b x.2 y.2 (n+a.nh) (h.right (cU a y.1))]
 |.slice _,x,y,n,h=>by have:=h 0 y rfl;grind[iG,au,Lf.cells,Ty.fill]
 |.st t,x,y,n,h=>na t x y n h
 |.ext _,_,_,_,_=>rfl
 |.node,x,y,n,h=>by have:=h 0 y rfl;simp only[abj]at this;simp[iG,au,Lf.cells,Ty.fill,Nd.fill,this]
 |.mp _ _,x,y,n,h=>by have:=h 0 y rfl;grind[iG,au,Lf.cells,Ty.fill]
theorem qv{η:Vn}{K:List Nat}:(t:TC)->(x:t.den)->(y:t.ty.Refs)->(n:Nat)->eY η n (cz t y)->(tB t x K n).map (AF.ha η)=facts t.ty K x y
 |.sc _,_,_,_,_=>rfl
 |.arr _ _,_,_,_,_=>rfl
 |.unit,_,_,_,_=>rfl
 |.pair a b,x,y,n,h=>by simp only[tB,abz,facts];rw[qv a x.1 y.1 n h.left,qv b x.2 y.2 (n+a.nh) (h.right (cU a y.1))]
 |.slice _,x,y,n,h=>by have:=h 0 y rfl;grind[tB,AF.ha,facts]
 |.st t,x,y,n,h=>qv t x y n h
 |.ext _,_,_,_,_=>rfl
 |.mp _ _,_,_,_,_=>rfl
 |.node,x,y,n,h=>by have:=h 0 y rfl;grind[tB,AF.ha,facts]
structure SI(t:TC) where
 own:Option (TypeId×Nat)
 K:List Nat
 xs:List t.den
def SI.all{t:TC}(s:SI t):List Nat:=match s.own with
 |none=>s.K
 |some p=>p.2::s.K
def SI.nk{t:TC}(s:SI t):List Nat:=match s.own with
 |none=>s.K
 |some p=>match eM p.1 with
  |true=>p.2::s.K
  |false=>s.K
def Ek{t t':TC}(h:t'=t)(xs:List t'.den):List t.den:=h▸xs
def jQ(t:TC)(h:Nat):List AF->Option (SI t)
 |[]=>none
 |.own t' e i K xs h'::r=>bif Nat.beq h h' then(if he:t'=t then some ⟨some (e,i),K,Ek he xs⟩else none)else jQ t h r
 |.rep t' K xs h'::r=>bif Nat.beq h h' then(if he:t'=t then some ⟨none,K,Ek he xs⟩else none)else jQ t h r
 |.box _ _ _::r=>jQ t h r
 |.isn _ _::r=>jQ t h r
 |.ag _::r=>jQ t h r
 |.prt _ _ _ _ _::r=>jQ t h r
 |.pbx _ _ _ _ _::r=>jQ t h r
 |.hol _ _ _ _ _ _ _::r=>jQ t h r
 |.mp _ _ _ _ _::r=>jQ t h r
 |.pt _ _ _ _ _ _ _::r=>jQ t h r
def SI.fact{t:TC}(s:SI t)(h:Nat):AF:=match s.own with
 |none=>.rep t s.K s.xs h
 |some p=>.own t p.1 p.2 s.K s.xs h
theorem fB{t:TC}{h:Nat}:∀{F:List AF} {s:SI t},jQ t h F=some s->s.fact h∈F
 |[],s,hs=>by simp[jQ]at hs
 | .own t' e i K xs h'::r,s,hs=>by
  simp only[jQ]at hs;cases hb:Nat.beq h h'
  ·rw[hb]at hs;exact Zf _ (fB hs)
  ·rw[hb]at hs;simp only[Ze]at hs;split at hs
   ·rename_i he;subst he;simp only[no]at hs;subst hs;rw[f9 hb];exact ZO
   ·cases hs
 | .rep t' K xs h'::r,s,hs=>by
  simp only[jQ]at hs;cases hb:Nat.beq h h'
  ·rw[hb]at hs;exact Zf _ (fB hs)
  ·rw[hb]at hs;simp only[Ze]at hs;split at hs
   ·rename_i he;subst he;simp only[no]at hs;subst hs;rw[f9 hb];exact ZO
   ·cases hs
 |.box _ _ _::r,s,hs=>Zf _ (fB (F:=r) hs)
 |.isn _ _::r,s,hs=>Zf _ (fB (F:=r) hs)
 |.ag _::r,s,hs=>Zf _ (fB (F:=r) hs)
 |.prt _ _ _ _ _::r,s,hs=>Zf _ (fB (F:=r) hs)
 |.pbx _ _ _ _ _::r,s,hs=>Zf _ (fB (F:=r) hs)
 |.hol _ _ _ _ _ _ _::r,s,hs=>Zf _ (fB (F:=r) hs)
 |.mp _ _ _ _ _::r,s,hs=>Zf _ (fB (F:=r) hs)
 |.pt _ _ _ _ _ _ _::r,s,hs=>Zf _ (fB (F:=r) hs)
def ld(h:Nat):List AF->Option (Nat×Nat×Int×Int)
 |[]=>none
 |.prt h' h0 sz lo hi::r=>bif Nat.beq h h' then some (h0,sz,lo,hi)else ld h r
 |.pbx _ _ _ _ _::r=>ld h r
 |.own _ _ _ _ _ _::r=>ld h r
 |.rep _ _ _ _::r=>ld h r
 |.box _ _ _::r=>ld h r
 |.isn _ _::r=>ld h r
 |.ag _::r=>ld h r
 |.hol _ _ _ _ _ _ _::r=>ld h r
 |.mp _ _ _ _ _::r=>ld h r
 |.pt _ _ _ _ _ _ _::r=>ld h r
theorem f5{h:Nat}:∀{F:List AF} {h0 sz:Nat} {lo hi:Int},ld h F=some (h0,sz,lo,hi)->.prt h h0 sz lo hi∈F
 |[],_,_,_,_,hs=>by simp[ld]at hs
 |.prt h' h1 sz' lo' hi'::r,h0,sz,lo,hi,hs=>by
  simp only[ld]at hs;cases hb:Nat.beq h h'
  ·rw[hb]at hs;exact Zf _ (f5 hs)
  simp_all
 |.pbx _ _ _ _ _::r,_,_,_,_,hs=>Zf _ (f5 (F:=r) hs)
 |.own _ _ _ _ _ _::r,_,_,_,_,hs=>Zf _ (f5 (F:=r) hs)
 |.rep _ _ _ _::r,_,_,_,_,hs=>Zf _ (f5 (F:=r) hs)
 |.box _ _ _::r,_,_,_,_,hs=>Zf _ (f5 (F:=r) hs)
 |.isn _ _::r,_,_,_,_,hs=>Zf _ (f5 (F:=r) hs)
 |.ag _::r,_,_,_,_,hs=>Zf _ (f5 (F:=r) hs)
 |.hol _ _ _ _ _ _ _::r,_,_,_,_,hs=>Zf _ (f5 (F:=r) hs)
 |.mp _ _ _ _ _::r,_,_,_,_,hs=>Zf _ (f5 (F:=r) hs)
 |.pt _ _ _ _ _ _ _::r,_,_,_,_,hs=>Zf _ (f5 (F:=r) hs)
def Np(h:Nat):List AF->Option (Nat×Nat×Int×Int)
 |[]=>none
 |.pbx h' b off lo hi::r=>bif Nat.beq h h' then some (b,off,lo,hi)else Np h r
 |_::r=>Np h r
theorem ae6{h:Nat}{F:List AF}{b off:Nat}{lo hi:Int}:Np h F=some (b,off,lo,hi)->.pbx h b off lo hi∈F:=by fun_induction Np h F<;>grind[Nat.eq_of_beq_eq_true]
structure MI(k v:TC) where
 i:Nat
 xs:List (k.den×v.den)
def aqj{k v k' v':TC}(h:k'=k/\v'=v)(xs:List (k'.den×v'.den)):List (k.den×v.den):=by
 obtain⟨h1,h2⟩:=h
 subst h1 h2
 exact xs
def uP(k v:TC)(h:Nat):List AF->Option (MI k v)
 |[]=>none
 |.mp k' v' i xs h'::r=>bif Nat.beq h h' then(if he:k'=k/\v'=v then some ⟨i,aqj he xs⟩else none)else uP k v h r
 |_::r=>uP k v h r
theorem gF{k v:TC}{h:Nat}:∀{F:List AF} {s:MI k v},uP k v h F=some s->.mp k v s.i s.xs h∈F
 |[],s,hs=>by simp[uP]at hs
 | .mp k' v' i xs h'::r,s,hs=>by
  simp only[uP]at hs;cases hb:Nat.beq h h'
  ·rw[hb]at hs;exact Zf _ (gF hs)
  ·rw[hb]at hs;simp only[Ze]at hs;split at hs
   ·rename_i he;obtain⟨rfl,rfl⟩:=he;simp only[no]at hs;subst hs;rw[f9 hb];exact ZO
   ·cases hs
 |.own _ _ _ _ _ _::r,s,hs=>Zf _ (gF (F:=r) hs)
 |.rep _ _ _ _::r,s,hs=>Zf _ (gF (F:=r) hs)
 |.box _ _ _::r,s,hs=>Zf _ (gF (F:=r) hs)
 |.isn _ _::r,s,hs=>Zf _ (gF (F:=r) hs)
 |.ag _::r,s,hs=>Zf _ (gF (F:=r) hs)
 |.prt _ _ _ _ _::r,s,hs=>Zf _ (gF (F:=r) hs)
 |.pbx _ _ _ _ _::r,s,hs=>Zf _ (gF (F:=r) hs)
 |.hol _ _ _ _ _ _ _::r,s,hs=>Zf _ (gF (F:=r) hs)
 |.pt _ _ _ _ _ _ _::r,s,hs=>Zf _ (gF (F:=r) hs)
structure PI(t:TC) where
 e:TypeId
 i:Nat
 K:List Nat
 xs:List t.den
 m:Int
def Bm(t:TC)(h:Nat):List AF->Option (PI t)
 |[]=>none
 |.pt t' e i K xs h' m::r=>bif Nat.beq h h' then(if he:t'=t then some ⟨e,i,K,Ek he xs,m⟩else none)else Bm t h r
 |_::r=>Bm t h r
theorem jW{t:TC}{h:Nat}:∀{F:List AF} {s:PI t},Bm t h F=some s->.pt t s.e s.i s.K s.xs h s.m∈F
 |[],s,hs=>by simp[Bm]at hs
 | .pt t' e i K xs h' m::r,s,hs=>by
  simp only[Bm]at hs;cases hb:Nat.beq h h'
  ·rw[hb]at hs;exact Zf _ (jW hs)
  ·rw[hb]at hs;simp only[Ze]at hs;split at hs
   ·rename_i he;subst he;simp only[no]at hs;subst hs;rw[f9 hb];exact ZO
   ·cases hs
 |.own _ _ _ _ _ _::r,s,hs=>Zf _ (jW (F:=r) hs)
 |.rep _ _ _ _::r,s,hs=>Zf _ (jW (F:=r) hs)
 |.box _ _ _::r,s,hs=>Zf _ (jW (F:=r) hs)
 |.isn _ _::r,s,hs=>Zf _ (jW (F:=r) hs)
 |.ag _::r,s,hs=>Zf _ (jW (F:=r) hs)
 |.prt _ _ _ _ _::r,s,hs=>Zf _ (jW (F:=r) hs)
 |.pbx _ _ _ _ _::r,s,hs=>Zf _ (jW (F:=r) hs)
 |.hol _ _ _ _ _ _ _::r,s,hs=>Zf _ (jW (F:=r) hs)
 |.mp _ _ _ _ _::r,s,hs=>Zf _ (jW (F:=r) hs)
def gH(t:TC)(F:List AF):Lf->Option (SI t)
 |.sl h=>jQ t h F
 |.nl=>some ⟨none,[],[]⟩
 |_=>none
def Lf.hd(η:Vn):Lf->Hd
 |.sl h=>η.h h
 |.bp b _=>⟨some ⟨η.b b,0,none⟩,0,0⟩
 |.clo _ bs=>⟨some ⟨η.b (bs.headD 0),0,none⟩,0,0⟩
 |.mp h=>η.h h
 |_=>eJ
theorem oe{t:TC}{F:List AF}{l:Lf}{s:SI t}(h:gH t F l=some s)(η:Vn):l.val η=(l.hd η).val/\l.cells η=[(l.hd η).val]:=by cases l<;>simp[gH]at h<;>exact⟨rfl,rfl⟩
theorem gE{t:TC}{F:List AF}{l:Lf}{s:SI t}(h:gH t F l=some s){η:Vn}{w:World}{c:aS}(hF:aj w c (F.map (AF.ha η))):HA.holds w c (.rep t.ty s.all s.xs (l.hd η)):=by
 cases l with
 |sl n=>
  have hm:=hF _ (ZA.2 ⟨_,fB h,rfl⟩);obtain⟨own,K,xs⟩:=s;cases own with
  |none=>exact hm
  |some p=>exact Kj hm
 |nl=>
  simp only[gH,no]at h;subst h;exact ra w c
 |_=>simp[gH]at h
def fy(t:TC)(e:TypeId)(N:Nat)(F:List AF):Lf->Option (Nat×List Nat×List t.den)
 |.sl h=>match jQ t h F with
  |some ⟨some (e',i),K,xs⟩=>bif Nat.beq e e' then some (i,K,xs)else none
  |_=>none
 |.nl=>some (N,[],[])
 |_=>none
theorem eC{t:TC}{e:TypeId}{N:Nat}{F:List AF}{l:Lf}{i:Nat}{K:List Nat}{xs:List t.den}(h:fy t e N F l=some (i,K,xs)){η:Vn}{w:World}{c:aS}(hF:aj w c (F.map (AF.ha η))) :
  HA.holds w c (dS t.ty e i K xs (l.hd η)):=by
 cases l with
 | sl n=>
  simp only[fy]at h;split at h
  ·rename_i e' i' K' xs' hs;cases hb:Nat.beq e e'
   ·grind
   ·rw[hb]at h;simp only[Ze,no,ZC]at h;obtain⟨rfl,rfl,rfl⟩:=h;rw[f9 hb];exact hF _ (ZA.2 ⟨_,fB hs,rfl⟩)
  ·cases h
 |nl=>
  simp only[fy,no,ZC]at h;obtain⟨rfl,rfl,rfl⟩:=h;exact sA w c
 |_=>simp[fy]at h
theorem nH{t:TC}{e:TypeId}{N:Nat}{F:List AF}{l:Lf}{r:Nat×List Nat×List t.den}(h:fy t e N F l=some r)(η:Vn):l.val η=(l.hd η).val:=by cases l<;>simp[fy]at h<;>rfl
def DO{t t':SC}(h:t'=t)(x:t'.den):t.den:=h▸x
def uA{t t':SC}(h:t'=t)(x:List t'.den):List t.den:=h▸x
def agm{n m:Nat}(h:m=n)(x:X.den m):X.den n:=h▸x
def Fc(F:List AF):List Lf->Option (Nd×List Lf×List Nat×List Lf)
 |.c (.int .i64) k::.c .str tx::.c (.int .i64) m::l::r=>match gH .node F l with
  |some s=>some (Nd.of (k,tx,m,s.xs),[l],s.all,r)
  |none=>none
 |_=>none
theorem zo{F:List AF}{ls:List Lf}{x:Nd}{l:List Lf}{K:List Nat}{r:List Lf}(h:Fc F ls=some (x,l,K,r)):∃k tx m a s,ls=.c (.int .i64) k::.c .str tx::.c (.int .i64) m::a::r/\gH .node F a=some s/\x=Nd.of (k,tx,m,s.xs)/\l=[a]/\K=s.all:=by unfold Fc at h;grind
def bR(F:List AF):(t:TC)->List Lf->Option (t.den×List Lf×List Nat×List Lf)
 |.sc s,.c s' x::r=>if h:s'=s then some (DO h x,[],[],r)else none
 |.sc s,.fn f::r=>if h:SC.fnc=s then some (DO h f,[],[],r)else none
 |.arr n s,.ar n' s' x::r=>if h:s'=s/\n'=n then some (uA h.1 x,[],[],r)else none
 |.unit,r=>some ((),[],[],r)
 | .pair a b,r=>match bR F a r with
  |some (x,l1,K1,r1)=>match bR F b r1 with
   |some (y,l2,K2,r2)=>some ((x,y),l1++l2,K1++K2,r2)
   |none=>none
  |none=>none
 |.slice t,l::r=>match gH t F l with
  |some s=>some (s.xs,[l],s.all,r)
  |none=>none
 |.st t,r=>bR F t r
 |.ext n,.xt m x::r=>if h:m=n then some (agm h x,[],[],r)else none
 |.node,r=>Fc F r
 |.mp k v,.mp h::r=>some ((match uP k v h F with|some s=>s.xs|none=>[]),[.mp h],[],r)
 |_,_=>none
def aT(η:Vn)(ls:List Lf):List Hd:=ls.map (Lf.hd η)
theorem ee{F:List AF}:∀(t:TC) {ls:List Lf} {x:t.den} {l:List Lf} {K:List Nat} {r:List Lf},bR F t ls=some (x,l,K,r)->l.length=t.nh
 | .sc s,ls,x,l,K,r,h=>by
  cases ls with
  |nil=>simp[bR]at h
  |cons a ls=>
   cases a<;>simp only[bR]at h<;>try cases h
   all_goals split at h
   all_goals first|(simp only[no,ZC]at h;obtain⟨_,rfl,_,_⟩:=h;rfl)|cases h
 | .arr n s,ls,x,l,K,r,h=>by
  cases ls with
  |nil=>simp[bR]at h
  |cons a ls=>
   cases a<;>simp only[bR]at h<;>try cases h
   split at h
   ·simp only[no,ZC]at h;obtain⟨_,rfl,_,_⟩:=h;rfl
   ·cases h
 |.unit,ls,x,l,K,r,h=>by simp[bR]at h;rw[h.1];rfl
 | .pair a b,ls,x,l,K,r,h=>by
  simp only[bR]at h;split at h
  ·rename_i x1 l1 K1 r1 h1;split at h
   ·rename_i x2 l2 K2 r2 h2;simp only[no,ZC]at h;rw[<-h.2.1,ZD,ee a h1,ee b h2];rfl
   ·cases h
  ·cases h
 |.st t,ls,x,l,K,r,h=>ee t h
 | .slice t,ls,x,l,K,r,h=>by
  cases ls with
  |nil=>simp[bR]at h
  |cons a ls=>
   simp only[bR]at h;split at h
   ·simp only[no,ZC]at h;rw[<-h.2.1];rfl
   ·cases h
 | .ext n,ls,x,l,K,r,h=>by
  cases ls with
  |nil=>simp[bR]at h
  |cons a ls=>
   cases a<;>simp only[bR]at h<;>try cases h
   split at h
   ·simp only[no,ZC]at h;obtain⟨_,rfl,_,_⟩:=h;rfl
   ·cases h
 |.node,ls,x,l,K,r,h=>by obtain⟨k,tx,m,a,s,_,_,_,rfl,_⟩:=zo (show Fc F ls=_ from h);rfl
 | .mp k v,ls,x,l,K,r,h=>by
  cases ls with
  |nil=>simp[bR]at h
  | cons a ls=>
   cases a with
   |mp hh=>
    simp only[bR,no,ZC]at h;rw[<-h.2.1];rfl
   |_=>simp[bR]at h
theorem dL:(t:TC)->(l1 l2:List Hd)->l1.length=t.nh->aM t (l1++l2)=aM t l1
 |.sc _,_,_,_=>rfl
 |.arr _ _,_,_,_=>rfl
 |.unit,_,_,_=>rfl
 |.pair a b,l1,l2,h=>by
  simp only[TC.nh]at h;have e:l1=l1.take a.nh++l1.drop a.nh:=(adB _ _).symm;have hl:(l1.take a.nh).length=a.nh:=by simp;omega
  simp only[aM];have e1:aM a (l1++l2)=aM a (l1.take a.nh):=by rw[e,aaf,dL a _ _ hl,<-e]
  have e2:aM a l1=aM a (l1.take a.nh):=by have:=dL a (l1.take a.nh) (l1.drop a.nh) hl;grind
  rw[e1,e2,abe,show a.nh-l1.length=0 by omega,adq,dL b _ _ (by simp;omega)]
 |.slice _,[],_,h=>by simp[TC.nh]at h
 |.slice _,_::_,_,_=>rfl
 |.st t,l1,l2,h=>dL t l1 l2 h
 |.ext _,_,_,_=>rfl
 |.node,[],_,h=>by simp[TC.nh]at h
 |.node,_::_,_,_=>rfl
 |.mp _ _,[],_,h=>by simp[TC.nh]at h
 |.mp _ _,_::_,_,_=>rfl
theorem dA{F:List AF}{η:Vn}:∀(t:TC) {ls:List Lf} {x:t.den} {l:List Lf} {K:List Nat} {r:List Lf},bR F t ls=some (x,l,K,r) ->
  au η ls=t.ty.fill x (aM t (aT η l))++au η r /\
  ∀(w:World) (c:aS) (K':List Nat),aj w c (F.map (AF.ha η))->(∀k∈K,k∈K')->bD w (λb=>c b∈K') t.ty x (aM t (aT η l))
 | .sc s,ls,x,l,K,r,h=>by
  cases ls with
  |nil=>simp[bR]at h
  | cons a ls=>
   cases a<;>simp only[bR]at h<;>try cases h
   all_goals split at h
   all_goals first|cases h;done|skip
   all_goals
    rename_i he
    subst he
    simp only[no,ZC]at h
    obtain⟨rfl,rfl,rfl,rfl⟩:=h
    exact⟨rfl,λ_ _ _ _ _=>trivial⟩
 | .arr n s,ls,x,l,K,r,h=>by
  cases ls with
  |nil=>simp[bR]at h
  |cons a ls=>
   cases a<;>simp only[bR]at h<;>try cases h
   split at h
   ·rename_i he;obtain⟨rfl,rfl⟩:=he;simp only[no,ZC]at h;obtain⟨rfl,rfl,rfl,rfl⟩:=h;exact⟨rfl,λ_ _ _ _ _=>trivial⟩
   ·cases h
 |.unit,ls,x,l,K,r,h=>by simp only[bR,no,ZC]at h;obtain⟨_,rfl,rfl,rfl⟩:=h;exact⟨rfl,λ_ _ _ _ _=>trivial⟩
 | .pair a b,ls,x,l,K,r,h=>by
  simp only[bR]at h;split at h
  ·rename_i x1 l1 K1 r1 h1;split at h
   ·rename_i x2 l2 K2 r2 h2;simp only[no,ZC]at h;obtain⟨rfl,rfl,rfl,rfl⟩:=h;obtain⟨c1,f1⟩:=dA (η:=η) a h1;obtain⟨c2,f2⟩:=dA (η:=η) b h2;have hn:(aT η l1).length=a.nh:=by simp[aT,ee a h1]
    have e1:aM a (aT η (l1++l2))=aM a (aT η l1):=by grind[aT,dL]
    have e2:aM b ((aT η (l1++l2)).drop a.nh)=aM b (aT η l2):=by grind[aT]
    refine⟨?_,λw c K' hF hK=>⟨?_,?_⟩⟩
    ·simp only[aM,Ty.fill];grind
    ·show bD w _ a.ty x1 (aM a _);simp_all
    ·show bD w _ b.ty x2 (aM b _);simp_all
   ·cases h
  ·cases h
 | .slice t,ls,x,l,K,r,h=>by
  cases ls with
  |nil=>simp[bR]at h
  | cons a ls=>
   simp only[bR]at h;split at h
   ·rename_i s hs;simp only[no,ZC]at h;obtain⟨rfl,rfl,rfl,rfl⟩:=h;refine⟨?_,λw c K' hF hK=>?_⟩
    ·simp only[au,(oe hs η).2];rfl
    ·exact bD.keep (S:=λb=>c b∈s.all) (λb _ hb=>⟨hK _ hb,rfl⟩) (.slice t.ty) s.xs (a.hd η) (gE hs hF)
   ·cases h
 |.st t,ls,x,l,K,r,h=>dA t h
 | .ext n,ls,x,l,K,r,h=>by
  cases ls with
  |nil=>simp[bR]at h
  |cons a ls=>
   cases a<;>simp only[bR]at h<;>try cases h
   split at h
   ·rename_i he;subst he;simp only[no,ZC]at h;obtain⟨rfl,rfl,rfl,rfl⟩:=h;exact⟨rfl,λ_ _ _ _ _=>trivial⟩
   ·cases h
 |.node,ls,x,l,K,r,h=>by
  obtain⟨k,tx,m,a,s,rfl,hs,rfl,rfl,rfl⟩:=zo (show Fc F ls=_ from h);refine⟨?_,λw c K' hF hK=>?_⟩
  ·simp only[au,(oe hs η).2];rfl
  ·exact ng.2 (bD.keep (S:=λb=>c b∈s.all) (λb _ hb=>⟨hK _ hb,rfl⟩) (.slice .node) s.xs (a.hd η) (gE hs hF))
 | .mp k v,ls,x,l,K,r,h=>by
  cases ls with
  |nil=>simp[bR]at h
  | cons a ls=>
   cases a with
   |mp hh=>
    simp only[bR,no,ZC]at h;obtain⟨rfl,rfl,rfl,rfl⟩:=h;exact⟨rfl,λ_ _ _ _ _=>trivial⟩
   |_=>simp[bR]at h
end
section
variable [X:XTab] [G:GTab] [Yc:GCx]
theorem cJ.map{P:Program}{ρ:cV}{o:Oper}{L:List HA}{κ:List Nat}{Y Y':Type}{val:Y->Value}{Φ:Y->List HA}{val':Y'->Value}{Φ':Y'->List HA}(g:Y->Y')
  (h:cJ P ρ o L κ val Φ) (hv:∀y,val y=val' (g y)) (hΦ:∀y,Φ y=Φ' (g y)):cJ P ρ o L κ val' Φ':=by
 intro a ev w c next Q ha hL hk
 refine h a ev w c next Q ha hL λy w' c' hs hF=>?_
 grind
theorem lh{F:List AF}{f:AF}(h:f∈F)(η:Vn):∃k:Nat,(F.map (AF.ha η))[k]?=some (f.ha η):=by obtain⟨k,hk⟩:=akF.1 h;exact⟨k,by simp[hk]⟩
def Vn.setB(η:Vn)(n b:Nat):Vn:=⟨η.h,λm=>bif Nat.beq m n then b else η.b m⟩
theorem Vn.setB_agr(η:Vn)(n b:Nat):η.agr n (η.setB n b):=by
 intro m hm;refine⟨rfl,?_⟩;have:Nat.beq m n=false:=by
  cases hb:Nat.beq m n
  ·rfl
  ·have:=f9 hb;subst this;simp only[out,abl]at hm;rcases hm with hm|hm
   ·simp_all
   ·have:=Zh hm;omega
 simp only[Vn.setB,this,Zr]
theorem Vn.setB_at(η:Vn)(n b:Nat):(η.setB n b).b n=b:=by simp[Vn.setB]
def Vn.setH(η:Vn)(n:Nat)(h:Hd):Vn:=⟨λm=>bif Nat.beq m n then h else η.h m,η.b⟩
theorem Vn.setH_agr(η:Vn)(n:Nat)(h:Hd):η.agr n (η.setH n h):=by
 intro m hm;refine⟨?_,rfl⟩;have:Nat.beq m n=false:=by
  cases hb:Nat.beq m n
  ·rfl
  ·have:=f9 hb;subst this;simp only[out,abl]at hm;rcases hm with hm|hm
   ·simp_all
   ·have:=Zh hm;omega
 simp only[Vn.setH,this,Zr]
theorem Vn.setH_at(η:Vn)(n:Nat)(h:Hd):(η.setH n h).h n=h:=by simp[Vn.setH]
def Lf.one1:Lf->Bool
 |.v x=>x.oneCell'
 |_=>true
def tU:List Lf->Bool
 |[]=>true
 |l::r=>l.one1&&tU r
theorem SQ{η:Vn}{l:Lf}(h:l.one1=true):∀u∈l.cells η,u.oneCell'=true:=by
 cases l with
 |ar n s x=>exact vQ (TC.arr n s).ty x ()
 |ars t xs=>exact iz t.ty
 |c s x=>intro u hu;simp[Lf.cells]at hu;subst hu;exact s.one x
 |xt n x=>intro u hu;simp[Lf.cells]at hu;subst hu;exact X.one n x
 |v x=>intro u hu;simp[Lf.cells]at hu;subst hu;exact h
 |_=>intro u hu;simp[Lf.cells]at hu;subst hu;rfl
theorem mB{η:Vn}:∀{ls:List Lf},tU ls=true->∀u∈au η ls,u.oneCell'=true
 |[],_,u,hu=>by simp[au]at hu
 |l::r,h,u,hu=>by
  simp only[tU,Y5]at h;simp only[au,aad]at hu;rcases hu with hu|hu
  ·exact SQ h.1 u hu
  ·exact mB h.2 u hu
def AV.lvs:AV->Option (List Lf)
 |.lf l=>bif l.one1 then some [l]else none
 |.ag ls=>bif tU ls then some ls else none
 |.tu _=>none
theorem AV.lvs_one{v:AV}{ls:List Lf}(h:v.lvs=some ls):tU ls=true:=by
 cases v with
 |lf l=>
  grind[AV.lvs,tU]
 |ag l=>
  simp only[AV.lvs]at h;grind
 |tu _=>cases h
theorem tv{x:Value}(h:x.oneCell'=true):x.cells = #[x]:=by cases x<;>first|rfl|(simp[Value.oneCell']at h)
theorem AV.lvs_cells{v:AV}{ls:List Lf}(h:v.lvs=some ls)(η:Vn):(v.val η).cells=(au η ls).toArray:=by
 cases v with
 | lf l=>
  simp only[AV.lvs]at h;cases hb:l.one1
  ·grind
  ·rw[hb]at h;simp only[Ze,no]at h;subst h;cases l with
   |ar n s x=>simp[AV.val,Lf.val,au,Lf.cells,Value.cells]
   |ars t xs=>simp[AV.val,Lf.val,au,Lf.cells,Value.cells]
   |c s x=>exact tv (s.one x)
   |xt n x=>exact tv (X.one n x)
   |v x=>exact tv hb
   |_=>rfl
 |ag l=>
  simp only[AV.lvs]at h;cases hb:tU l
  ·grind
  ·rw[hb]at h;simp at h;subst h;rfl
 |tu _=>cases h
def iw(b:Nat):List AF->Option (Nat×List Lf)
 |[]=>none
 |.box i b' cs::r=>bif Nat.beq b b' then some (i,cs)else iw b r
 |_::r=>iw b r
theorem d6{b:Nat}:∀{F:List AF} {i:Nat} {cs:List Lf},iw b F=some (i,cs)->.box i b cs∈F
 |[],_,_,h=>by simp[iw]at h
 |.box i b' cs::r,i',cs',h=>by
  simp only[iw]at h;cases hb:Nat.beq b b'
  ·rw[hb]at h;exact Zf _ (d6 h)
  simp_all
 |.own _ _ _ _ _ _::r,_,_,h=>Zf _ (d6 (F:=r) h)
 |.rep _ _ _ _::r,_,_,h=>Zf _ (d6 (F:=r) h)
 |.isn _ _::r,_,_,h=>Zf _ (d6 (F:=r) h)
 |.ag _::r,_,_,h=>Zf _ (d6 (F:=r) h)
 |.prt _ _ _ _ _::r,_,_,h=>Zf _ (d6 (F:=r) h)
 |.pbx _ _ _ _ _::r,_,_,h=>Zf _ (d6 (F:=r) h)
 |.hol _ _ _ _ _ _ _::r,_,_,h=>Zf _ (d6 (F:=r) h)
 |.mp _ _ _ _ _::r,_,_,h=>Zf _ (d6 (F:=r) h)
 |.pt _ _ _ _ _ _ _::r,_,_,h=>Zf _ (d6 (F:=r) h)
def j6:List Lf->Nat->Option (List Lf×List Lf)
 |[],k=>bif Nat.beq k 0 then some ([],[])else none
 |l::r,k=>bif Nat.beq k 0 then some ([],l::r)else bif Nat.ble 1 l.sz&&Nat.ble l.sz k then match j6 r (k-l.sz)with|some (a,b)=>some (l::a,b)|none=>none else none
theorem g9:∀{cs:List Lf} {k:Nat} {a b:List Lf},j6 cs k=some (a,b)->cs=a++b/\∀η,(au η a).length=k
 |[],k,a,b,h=>by
  simp only[j6]at h;cases hb:Nat.beq k 0
  ·grind
  ·rw[hb]at h;simp only[Ze,no,ZC]at h;obtain⟨rfl,rfl⟩:=h;exact⟨rfl,λ_=>(f9 hb).symm⟩
 | l::r,k,a,b,h=>by
  simp only[j6]at h;cases hk:Nat.beq k 0
  ·rw[hk]at h;simp only[Zr]at h;cases hb:(Nat.ble 1 l.sz&&Nat.ble l.sz k)
   ·grind
   ·rw[hb]at h;simp only[Ze]at h;simp only[Y5]at hb;have h2:=Zh hb.2;split at h
    ·rename_i a' b' he;simp only[no,ZC]at h;obtain⟨rfl,rfl⟩:=h;obtain⟨e,hl⟩:=g9 he;refine⟨by rw[e];rfl,λη=>?_⟩;simp only[au,ZD,l.cells_sz,hl η];omega
    ·cases h
  ·rw[hk]at h;simp only[Ze,no,ZC]at h;obtain⟨rfl,rfl⟩:=h;exact⟨rfl,λ_=>(f9 hk).symm⟩
def cut(off sz:Nat)(cs:List Lf):Option (List Lf×List Lf×List Lf):=match j6 cs off with
 |some (a,b)=>match j6 b sz with
  |some (m,r)=>some (a,m,r)
  |none=>none
 |none=>none
theorem xj{off sz:Nat}{cs a m r:List Lf}(h:cut off sz cs=some (a,m,r)):cs=a++m++r/\∀η,(au η a).length=off/\(au η m).length=sz:=by grind[cut,Option.some.injEq,Prod.mk.injEq,g9]
def Gx(agg:Bool):List Lf->Option AV
 |[.ar n s x]=>bif agg then some (.lf (.ar n s x))else none
 |[.ars t xs]=>bif agg then some (.lf (.ars t xs))else none
 |[l]=>some (bif agg then .ag [l]else .lf l)
 |ls=>bif agg then some (.ag ls)else none
theorem Bo{ls:List Lf}{v:AV}(h:Gx true ls=some v)(η:Vn):v.val η=.agg (au η ls).toArray:=by unfold Gx at h;grind[AV.val,Lf.val,au,Lf.cells]
theorem BP{ls:List Lf}{v:AV}(h:Gx false ls=some v)(η:Vn):∃l,ls=[l]/\v=.lf l/\l.cells η=[v.val η]:=by
 unfold Gx at h;split at h
 ·simp at h
 ·simp at h
 ·rename_i l hne hne';simp at h;subst h;refine⟨l,rfl,rfl,?_⟩;cases l<;>first|rfl|(exact absurd rfl (hne _ _ _))|grind
 ·simp at h
theorem l9{P:Program}{t:TypeId}{d:TD}(h:TInf.fits P t d):∃td,P.underlying t=some td/\jF td=d.agg:=by
 cases d with
 |st fs=>obtain⟨F,h1,_⟩:=h;exact⟨_,h1,rfl⟩
 |other=>obtain⟨d,h1,h2⟩:=h;exact⟨d,h1,h2⟩
 |_=>exact⟨_,h,rfl⟩
section
variable {R:Type} {P:Program} {o:Oper} {E:SE} {F:List AF} {n:Nat} {Θ:Tb} {ex:Option Bool}
def KP(Θ:Tb)(n N:Nat)(t:TypeId)(k:Out->Option R):Option R:=match Θ t with
 |some i=>bif Nat.ble 2 N then k ⟨.lf (.bp n 0),[.box N n i.zl],[]⟩else none
 |none=>none
theorem XG(hΘ:Θ.ok P){N:Nat}{t:TypeId}(ho:o.op=.alloc t)(k:Out->Option R):aq ex P o E F n (KP Θ n N t k) k:=by
 unfold KP;split
 ·rename_i i hi;refine aq.bif λhN=>aq.of λ_ η ρ hE=>?_
  obtain⟨h1,_,h3,h4⟩:=hΘ t i hi;refine(abK ho h1 h3 hN).map (λb=>⟨η.setB n b,η.setB_agr n b⟩) (λb=>?_) λb=>?_
  ·simp[AV.val,Lf.val,Vn.setB_at]
  ·simp[AF.ha,Vn.setB_at,h4 (η.setB n b)]
 ·exact aq.none
def aeb(n N:Nat)(v:AV)(k:Out->Option R):Option R:=match v.lvs with
 |some ls=>bif Nat.ble 2 N&&ua n ls then k ⟨.lf (.bp n 0),[.box N n ls],[]⟩else none
 |none=>none
theorem alh{N:Nat}{t:TypeId}{x:Operand}{v:AV}(ho:o.op=.box t x)(hv:ev E x=some v)(k:Out->Option R):aq ex P o E F n (aeb n N v k) k:=by
 unfold aeb;split
 ·rename_i ls hl;refine aq.bif λhN=>aq.of λ_ η ρ hE=>?_
  simp only[Y5]at hN;refine(anb ho (aH hE hv) (v.lvs_cells hl η) hN.1).map (λb=>⟨η.setB n b,η.setB_agr n b⟩) (λb=>?_) λb=>?_
  ·simp[AV.val,Lf.val,Vn.setB_at]
  ·simp[AF.ha,Vn.setB_at,qa (η.setB_agr n b) ls hN.2]
 ·exact aq.none
def Mq(Θ:Tb)(t:TypeId)(b off:Nat)(F:List AF)(k:Out->Option R):Option R:=match Θ t,iw b F with
 | some i,some (_,cs)=>match cut off i.sz cs with
  |some (_,m,_)=>match Gx i.d.agg m with
   |some v=>k (bc v)
   |none=>none
  |none=>none
 |_,_=>none
theorem X5(hΘ:Θ.ok P){t:TypeId}{x:Operand}{b off:Nat}(ho:o.op=.load t x)(hx:ev E x=some (.lf (.bp b off)))(k:Out->Option R):aq ex P o E F n (Mq Θ t b off F k) k:=by
 unfold Mq;split
 ·rename_i i ci cs hi hb;split
  ·rename_i a m r hc;split
   ·rename_i v hv;refine aq.of λ_=>(dc.pure λη ρ hE=>?_)
    obtain⟨h1,h2,_,_⟩:=hΘ t i hi;obtain⟨td,ht,hd⟩:=l9 h2;obtain⟨j,hj⟩:=lh (d6 hb) η;obtain⟨e,hl⟩:=xj hc;obtain⟨l1,l2⟩:=hl η;have hcell:((au η cs).drop off).take i.sz=au η m:=by
     rw[e,aY,aY,aaf,abe,aa6 (by omega),show off-(au η a).length=0 by omega,adq,abx,acE,aaU (by omega),
      show i.sz-(au η m).length=0 by omega,adX,Z2]
    cases hag:i.d.agg
    ·rw[hag]at hv hd;obtain⟨l,rfl,rfl,hl1⟩:=BP hv η;refine Er j hj ho ht hd (aH hE hx) ?_;have h5:au η [l]=[(AV.lf l).val η]:=by simp[au,hl1]
     rw[h5]at hcell l2;have:=aae (·[0]?) hcell;grind
    ·rw[hag]at hv hd;rw[Bo hv η];exact OV j hj ho ht hd h1 (aH hE hx) hcell (by simp[l2])
   ·exact aq.none
  ·exact aq.none
 ·exact aq.none
def ES(Θ:Tb)(t:TypeId)(b off:Nat)(v:AV)(F:List AF)(k:Out->Option R):Option R:=match Θ t,iw b F,v.lvs with
 |some i,some (ci,cs),some ls=>match cut off i.sz cs,j6 ls i.sz with
  |some (a,_,r),some (_,[])=>k ⟨.lf (.v undef),[.box ci b (a++ls++r)],[ci]⟩
  |_,_=>none
 |_,_,_=>none
theorem Ss(hΘ:Θ.ok P){t:TypeId}{x y:Operand}{b off:Nat}{v:AV}(ho:o.op=.store t x y)(hx:ev E x=some (.lf (.bp b off)))(hy:ev E y=some v)(k:Out->Option R):aq ex P o E F n (ES Θ t b off v F k) k:=by
 unfold ES;split
 ·rename_i i ci cs ls hi hb hl;split
  ·rename_i a m r q hc hs;refine aq.of λ_ η ρ hE=>?_
   obtain⟨h1,h2,_,_⟩:=hΘ t i hi;obtain⟨j,hj⟩:=lh (d6 hb) η;obtain⟨e,hll⟩:=xj hc;obtain⟨l1,l2⟩:=hll η;obtain⟨e2,l3⟩:=g9 hs;rw[Z2]at e2;subst e2;have l3:=l3 η;have hval:∀y : { η':Vn//η.agr n η'},undef=(AV.lf (.v undef)).val y.1:=λ_=>rfl;refine(zh (cs':=au η (a++ls++r)) j hj ho h1 (aH hE hx) (aH hE hy) (v.lvs_cells hl η) (by simp[l3]) (Zy.2 (mB (AV.lvs_one hl))) ?_ ?_).map (λ_=>⟨η,Vn.agr_refl n η⟩) (λ_=>rfl) (λ_=>rfl)
   ·rw[e,aY,aY];simp_all
   grind[aY]
  ·exact aq.none
 ·exact aq.none
end
end
end Go.Sm
