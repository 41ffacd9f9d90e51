/- Laws for the row. No condition. -/
import Derived.Test.YtfhhiajfciblbaaGreatDoorRfI
namespace Go.Sm
set_option linter.unusedSectionVars false
variable {i t n:Nat} {cl:List Nat} {o:Oper} {draw:Bool} {listed:Nat→Bool}
section
variable [X:XTab] [G:GTab]
def uni:List Nat→List Nat→List Nat
  | [],b=>b
  | x::r,b=>bif bZ x b then uni r b else x::uni r b
def Z0:List Oper→List (List Nat)→List (List Nat)
  | [],acc=>acc
  | o::r,acc=>Z0 r (acc++[(rD o).foldr (fun k s=>uni (k::acc.getD k []) s) []])
def gY (draw:Bool) (l:List Oper):List (List Nat):=bif draw then Z0 l [] else (List.range l.length).map List.range
def UX:List (Nat×Bool)→List (Nat×Bool)→Bool
  | [],[]=>true
  | (a,x)::r,(b,y)::s=>Nat.beq a b&&(x==y)&&UX r s
  | _,_=>false
def nM (a:List (Nat×Bool)):List (Nat×Bool)→Bool
  | []=>UX a []
  | p::r=>UX a (p::r)||nM a r
theorem In : ∀ {a b:List (Nat×Bool)},UX a b=true→a=b
  | [],[],_=>rfl
  | (a,x)::r,(b,y)::s,h=>by
    simp only [UX,Vf,aag] at h
    rw [Vb h.1.1,h.1.2,In h.2]
  | [],_::_,h=>by cases h
  | _::_,[],h=>by cases h
structure Ent where
  d:Option Tmp
  g:List (Nat×Bool)
  ex:Option Bool
  u:Out
def Na:Option Bool→Bool
  | none=>true
  | some b=>b
theorem Cz {e:Option Bool}:fD e↔Na e=true:=by cases e <;> simp [fD,Na]
def wv (cl:List Nat) (g:List (Nat×Bool)):List Ent→Nat→SE
  | [],_=>[]
  | e::r,j=>match e.d with
    | some d=>bif bZ j cl&&nM e.g g then (d,e.u.av)::wv cl g r (j+1) else wv cl g r (j+1)
    | none=>wv cl g r (j+1)
def oi (l:List Oper):List Nat:=l.filterMap fun o=>o.dst
def nS (ds:List Nat) (E:SE):SE:=match E with
  | []=>[]
  | (t,v)::r=>bif bZ t ds then nS ds r else (t,v)::nS ds r
def jd (κ:List Nat) (f:AF):Bool:=κ.any fun k=>bZ k f.uses
def nH (cls:List (List Nat)) (m i:Nat):Bool:=!(Nat.beq m i) && !(bZ i (cls.getD m []))
def wL (cls:List (List Nat)) (i:Nat):List Oper→Nat→List Nat
  | [],_=>[]
  | o::r,m=>match o.dst with
    | some d=>bif nH cls m i then d::wL cls i r (m+1) else wL cls i r (m+1)
    | none=>wL cls i r (m+1)
def qv (cls:List (List Nat)) (i:Nat) (clj:List Nat) (j:Nat) (f:AF):List Ent→Nat→Bool
  | [],_=>false
  | e::r,m=>(!(e.u.κ.isEmpty)&&nH cls m i && !(Nat.beq m j) && !(bZ m clj)&&jd e.u.κ f)||qv cls i clj j f r (m+1)
def Ar (cls:List (List Nat)) (i:Nat) (cl:List Nat) (g:List (Nat×Bool)) (all:List Ent):List Ent→Nat→List AF
  | [],_=>[]
  | e::r,j=>(bif bZ j cl&&nM e.g g then e.u.fs.filter (fun f=>!(qv cls i (cls.getD j []) j f all 0)) else [])++Ar cls i cl g all r (j+1)
def PC.mut:PC→Bool
  | .own _ _=>true
  | .box m _ _=>m
  | .prt _ _=>true
  | _=>false
def vX (C:Cx) (o:Oper):Bool:=match o.op with
  | .store _ _ _=>true
  | .mapUpdate _ _ _ _=>true
  | .insert _ _ _ _=>true
  | .buildSlice t _ _=>match C.Θ t with
    | some ⟨.slice e,_,_,_,_⟩=>eW (X.tr e)
    | _=>false
  | .call c=>match c.callee with
    | .builtin .append=>true
    | .builtin .copy=>true
    | .value (.func f)=>(match C.I f with | some J=>J.rw_ | none=>false)||(C.Γ f).any fun c=>c.ps.any PC.mut
    | .value _=>C.W
    | _=>false
  | _=>false
def aio (op:Op):Option Nat:=match op with
  | .call c=>match c.callee,c.args.toList with
    | .builtin .append, .tmp t::_=>some t
    | _,_=>none
  | _=>none
def acL (ops:List Oper):Nat→Nat→Bool
  | 0,_=>false
  | k+1,t=>ops.any fun p=>match p.dst,p.op with
    | some d, .buildSlice _ _ _=>Nat.beq t d
    | some d,op=>Nat.beq t d&&match aio op with
      | some t' => acL ops k t'
      | none=>false
    | none,_=>false
def aha (op:Op):Bool:=match op with
  | .buildSlice _ _ _=>true
  | _=>false
def ajK (ops:List Oper) (op:Op):Bool:=match op with
  | .store _ (.tmp t) _=>ops.any fun p=>match p.dst,p.op with
    | some d, .alloc _=>Nat.beq t d
    | _,_=>false
  | _=>false
def sX (ops:List Oper) (o:Oper):Bool:=aha o.op||ajK ops o.op||match aio o.op with
  | some t=>acL ops 3 t
  | none=>false
def tf (C:Cx) (cls:List (List Nat)) (ops:List Oper) (i:Nat):List Oper→Nat→Bool
  | [],_=>false
  | o::r,m=>(Nat.blt i m&&vX C o&&sX ops o&&nH cls m i)||tf C cls ops i r (m+1)
def Co (N:Nat) (f:AF):Bool:=f.uses.all fun k=>Nat.blt k N
def qo (C:Cx) (cls:List (List Nat)) (ops:List Oper) (i:Nat):List Oper→Nat→Bool
  | [],_=>false
  | o::r,m=>(Nat.blt i m&&vX C o && !(sX ops o)&&nH cls m i)||qo C cls ops i r (m+1)
def aaz (f:AF):Bool:=f.uses.all fun k=>Nat.ble k 1
def GI (K:Option (List Nat)) (N:Nat) (f:AF):Bool:=match K with
  | none=>aaz f
  | some kd=>Co N f && !(jd kd f)
def qS (C:Cx) (N:Nat) (cls:List (List Nat)) (ops:List Oper) (F:List AF) (i:Nat) (g:List (Nat×Bool)) (es:List Ent):List AF:=
  let L:=Ar cls i (cls.getD i []) g es es 0++F.filter (fun f=>!(qv cls i [] ops.length f es 0))
  bif qo C cls ops i ops 0 then L.filter (GI C.K N) else bif tf C cls ops i ops 0 then L.filter (Co N) else L
def yH (cls:List (List Nat)) (ops:List Oper) (E:SE) (i:Nat) (g:List (Nat×Bool)) (es:List Ent):SE:=wv (cls.getD i []) g es 0++nS (wL cls i ops 0) E
def BU (es:List Ent):Option (Nat×Bool)→Option (List (Nat×Bool)×Option Bool)
  | none=>some ([],none)
  | some (j,want)=>match es[j]? with
    | some e=>match e.u.av with
      | .lf (.c .bool b)=>
        let lit:=bif want then b else !b
        some ((j,want)::e.g,some (match e.ex with | none=>lit | some x=>x&&lit))
      | _=>none
    | none=>none
def uG (t:Nat):List Ent→Nat→Option (Nat×Ent)
  | [],_=>none
  | e::r,j=>match e.d with
    | some d=>bif Nat.beq t d then some (j,e) else uG t r (j+1)
    | none=>uG t r (j+1)
def P5 (eg:List (Nat×Bool)) (jc:Nat) (side:Bool) (g:List (Nat×Bool)):Bool:=match eg with
  | (j',s)::g' => Nat.beq j' jc&&(s==side)&&nM g' g
  | []=>false
def F9 (cl:List Nat) (g:List (Nat×Bool)) (es:List Ent) (jc:Nat) (side:Bool):Operand→Option Bool
  | .const (.bool b)=>some b
  | .tmp t=>match uG t es 0 with
    | some (j,e)=>bif bZ j cl&&(nM e.g g||P5 e.g jc side g) then match e.u.av with
        | .lf (.c .bool b)=>some b
        | _=>none
      else none
    | none=>none
  | _=>none
def FP (cl:List Nat) (g:List (Nat×Bool)) (es:List Ent) (c a b:Operand):Option Bool:=match c with
  | .tmp t=>match uG t es 0 with
    | some (jc,e)=>bif bZ jc cl&&nM e.g g then match e.u.av,F9 cl g es jc true a,F9 cl g es jc false b with
        | .lf (.c .bool x),some p,some q=>some (bif x then p else q)
        | _,_,_=>none
      else none
    | none=>none
  | _=>none
def xX {R:Type} (C:Cx) (n N:Nat) (cls:List (List Nat)) (ops:List Oper) (E:SE) (F:List AF):List Oper→Nat→List Ent→(List Ent→Option R)→Option R
  | [],_,es,k=>k es
  | o::r,i,es,k=>match BU es o.guard with
    | none=>none
    | some (g,ex)=>match o.op with
      | .pick c a b=>match FP (cls.getD i []) g es c a b with
        | some v=>xX C n N cls ops E F r (i+1) (es++[⟨o.dst,g,ex,br (d5 v)⟩]) k
        | none=>none
      | op=>match bZ i C.O,ex with
        | true,some b=>bif b then Cf C none (n+64 * i) (N+512 * i) (yH cls ops E i [] es) (qS C N cls ops F i [] es) op (fun u=>xX C n N cls ops E F r (i+1) (es++[⟨o.dst,[],none,u⟩]) k)
          else xX C n N cls ops E F r (i+1) (es++[⟨o.dst,g,ex,br (d5 false)⟩]) k
        | _,_=>Cf C ex (n+64 * i) (N+512 * i) (yH cls ops E i g es) (qS C N cls ops F i g es) op (fun u=>xX C n N cls ops E F r (i+1) (es++[⟨o.dst,g,ex,u⟩]) k)
def uQ (C:Cx) (P:Program) (n N:Nat) (cls:List (List Nat)) (ops:List Oper) (E:SE) (F:List AF) (o:Oper) (i:Nat) (es:List Ent) (e:Ent):Prop:=
  e.d=o.dst∧(BU es o.guard=some (e.g,e.ex)∨((∃ g,BU es o.guard=some (g,some true))∧e.g=[]∧e.ex=none)) ∧
  ((∃ c a b v,o.op = .pick c a b∧FP (cls.getD i []) e.g es c a b=some v∧e.u=br (d5 v)) ∨
   (fD e.ex→dw P o (yH cls ops E i e.g es) (qS C N cls ops F i e.g es) (n+64 * i) e.u))
theorem UA {R:Type} {P:Program} {C:Cx} (hC:C.ok P) {n N:Nat} {cls:List (List Nat)} {ops:List Oper} {E:SE} {F:List AF} {k:List Ent→Option R} {r:R} :
    ∀ {l:List Oper} {i:Nat} {es:List Ent},xX C n N cls ops E F l i es k=some r→ops.drop i=l→es.length=i→(∀ j o e,ops[j]? = some o→es[j]? = some e→uQ C P n N cls ops E F o j (es.take j) e) →
    ∃ es',k es' = some r∧es'.length=i+l.length∧∀ j o e,ops[j]? = some o→es'[j]? = some e→uQ C P n N cls ops E F o j (es'.take j) e
  | [],i,es,h,hd,hl,hall=>⟨es,h,by simpa using hl,hall⟩
  | o::l,i,es,h,hd,hl,hall=>by
    simp only [xX] at h
    have ho:ops[i]? = some o:=by
      have:=Xw (·[0]?) hd
      simpa [Xl] using this
    have hd' : ops.drop (i+1)=l:=by
      have:=Xw (List.drop 1) hd
      simpa [ady] using this
    have next : ∀ {g:List (Nat×Bool)} {ex:Option Bool} {u:Out},(BU es o.guard=some (g,ex)∨((∃ g,BU es o.guard=some (g,some true))∧g=[]∧ex=none)) →
        ((∃ c a b v,o.op = .pick c a b∧FP (cls.getD i []) g es c a b=some v∧u=br (d5 v))∨(fD ex→dw P o (yH cls ops E i g es) (qS C N cls ops F i g es) (n+64 * i) u)) →
        xX C n N cls ops E F l (i+1) (es++[⟨o.dst,g,ex,u⟩]) k=some r →
        ∃ es',k es' = some r∧es'.length=i+(o::l).length∧∀ j o e,ops[j]? = some o→es'[j]? = some e→uQ C P n N cls ops E F o j (es'.take j) e:=by
      intro g ex u hg hu hr
      obtain ⟨es',h1,h2,h3⟩:=UA hC hr hd' (by simp [hl]) (fun j o' e hj he=>by
        by_cases hji:j<i
        · rw [Yq (by omega)] at he
          rw [aft (by omega)]
          exact hall j o' e hj he
        · have hlt:=(VN.1 he).1
          simp only [Vs,Vp] at hlt
          have hji' : j=i:=by omega
          subst hji'
          rw [Yf (by omega),show j - es.length=0 by omega] at he
          simp only [ZC,Va] at he
          subst he
          rw [ho] at hj
          simp only [Va] at hj
          subst hj
          rw [aft (by omega),WF (by omega)]
          exact ⟨rfl,hg,hu⟩)
      exact ⟨es',h1,by simp only [Ws]; omega,h3⟩
    split at h
    · cases h
    · rename_i g ex hg
      split at h
      · rename_i c a b hop
        split at h
        · rename_i v hv
          exact next (.inl hg) (.inl ⟨c,a,b,v,hop,hv,rfl⟩) h
        · cases h
      · have norm:Cf C ex (n+64 * i) (N+512 * i) (yH cls ops E i g es) (qS C N cls ops F i g es) o.op (fun u=>xX C n N cls ops E F l (i+1) (es++[⟨o.dst,g,ex,u⟩]) k)=some r →
            ∃ es',k es' = some r∧es'.length=i+(o::l).length∧∀ j o e,ops[j]? = some o→es'[j]? = some e→uQ C P n N cls ops E F o j (es'.take j) e:=fun h' => by
          obtain ⟨u,hu,hs⟩:=HY (P:=P) (o:=o) hC (ex:=ex) (n:=n+64 * i) (N:=N+512 * i) (E:=yH cls ops E i g es) (F:=qS C N cls ops F i g es) (fun u=>xX C n N cls ops E F l (i+1) (es++[⟨o.dst,g,ex,u⟩]) k) r h'
          exact next (.inl hg) (.inr hs) hu
        cases hm:bZ i C.O
        · rw [hm] at h
          exact norm (by assumption)
        · rw [hm] at h
          cases ex with
          | none=>exact norm (by assumption)
          | some b=>
            simp only at h
            cases b with
            | true=>
              simp only [f9] at h
              obtain ⟨u,hu,hs⟩:=HY (P:=P) (o:=o) hC (ex:=none) (n:=n+64 * i) (N:=N+512 * i) (E:=yH cls ops E i [] es) (F:=qS C N cls ops F i [] es) (fun u=>xX C n N cls ops E F l (i+1) (es++[⟨o.dst,[],none,u⟩]) k) r (by assumption)
              exact next (.inr ⟨⟨g,hg⟩,rfl,rfl⟩) (.inr hs) hu
            | false=>
              simp only [no] at h
              exact next (.inl hg) (.inr fun hx=>by cases hx) h
def okN (n:Nat) (cl:List Nat) (m:Nat):Bool:=Nat.blt m n||cl.any fun i=>Nat.ble (n+64 * i) m&&Nat.blt m (n+64 * i+64)
def Lf.okN (n:Nat) (cl:List Nat) (l:Lf):Bool:=match l with
  | .sl h=>Go.Sm.okN n cl h
  | .rp h _ _ _ _=>Go.Sm.okN n cl h
  | .bp b _=>Go.Sm.okN n cl b
  | .bq b _ _ _ _=>Go.Sm.okN n cl b
  | .clo _ b=>Go.Sm.okN n cl b
  | .mp h=>Go.Sm.okN n cl h
  | _=>true
def CK (n:Nat) (cl:List Nat):List Lf→Bool
  | []=>true
  | l::r=>l.okN n cl&&CK n cl r
mutual
def AV.okN (n:Nat) (cl:List Nat):AV→Bool
  | .lf l=>l.okN n cl
  | .ag ls=>CK n cl ls
  | .tu vs=>AV.okNs n cl vs
def AV.okNs (n:Nat) (cl:List Nat):List AV→Bool
  | []=>true
  | v::r=>v.okN n cl&&AV.okNs n cl r
end
def AF.okN (n:Nat) (cl:List Nat):AF→Bool
  | .rep _ _ _ h=>Go.Sm.okN n cl h
  | .own _ _ _ _ _ h=>Go.Sm.okN n cl h
  | .box _ b cs=>Go.Sm.okN n cl b&&CK n cl cs
  | .isn h _=>Go.Sm.okN n cl h
  | .prt h' h _ _ _=>Go.Sm.okN n cl h' && Go.Sm.okN n cl h
  | .hol _ _ _ _ h _ cs=>Go.Sm.okN n cl h&&CK n cl cs
  | .mp _ _ _ _ h=>Go.Sm.okN n cl h
  | .pt _ _ _ _ _ h _=>Go.Sm.okN n cl h
theorem iQ {m:Nat} (h:okN n cl m=true) (hi:i∉cl):bk (n+64 * i) m=true:=by
  simp only [okN,Yi] at h
  simp only [bk,Yi]
  rcases h with h | h
  · left
    have:m+1≤n:=Vg h
    exact Wo (by omega)
  · obtain ⟨j,hj,hb⟩:=ac6.1 h
    simp only [Vf] at hb
    have h1:=Vg hb.1
    have h2:m+1≤n+64 * j+64:=Vg hb.2
    have hne:i≠j:=fun e=>hi (e ▸ hj)
    rcases WG i j with h3 | h3
    · right; exact Wo (by omega)
    · left; exact Wo (by omega)
theorem Lf.okN_free (hi:i∉cl):(l:Lf)→l.okN n cl=true→l.free (n+64 * i)=true
  | .sl _,h=>iQ h hi
  | .rp _ _ _ _ _,h=>iQ h hi
  | .bp _ _,h=>iQ h hi
  | .bq _ _ _ _ _,h=>iQ h hi
  | .clo _ _,h=>iQ h hi
  | .mp _,h=>iQ h hi
  | .gp _ _ _ _ _,_=>rfl
  | .ars _ _,_=>rfl
  | .c _ _,_=>rfl
  | .ar _ _ _,_=>rfl
  | .nl,_=>rfl
  | .xt _ _,_=>rfl
  | .fn _,_=>rfl
  | .v _,_=>rfl
theorem uz {n:Nat} {cl:List Nat} {i:Nat} (hi:i∉cl) : ∀ {ls:List Lf},CK n cl ls=true→ta (n+64 * i) ls=true
  | [],_=>rfl
  | l::r,h=>by
    simp only [CK,Vf] at h
    simp only [ta,l.okN_free hi h.1,uz hi h.2,ada]
mutual
theorem AV.okN_free {n:Nat} {cl:List Nat} {i:Nat} (hi:i∉cl):(v:AV)→v.okN n cl=true→v.free (n+64 * i)=true
  | .lf l,h=>by simp only [AV.free]; exact l.okN_free hi h
  | .ag ls,h=>by simp only [AV.free]; exact uz hi h
  | .tu vs,h=>by simp only [AV.free]; exact AV.okNs_free hi vs h
theorem AV.okNs_free {n:Nat} {cl:List Nat} {i:Nat} (hi:i∉cl):(vs:List AV)→AV.okNs n cl vs=true→AV.frees (n+64 * i) vs=true
  | [],_=>rfl
  | v::r,h=>by
    simp only [AV.okNs,Vf] at h
    simp only [AV.frees,AV.okN_free hi v h.1,AV.okNs_free hi r h.2,ada]
end
theorem AF.okN_free (hi:i∉cl):(f:AF)→f.okN n cl=true→f.free (n+64 * i)=true
  | .rep _ _ _ _,h=>iQ h hi
  | .own _ _ _ _ _ _,h=>iQ h hi
  | .box _ b cs,h=>by
    simp only [AF.okN,Vf] at h
    simp only [AF.free,iQ h.1 hi,uz hi h.2,ada]
  | .isn _ _,h=>iQ h hi
  | .mp _ _ _ _ _,h=>iQ h hi
  | .pt _ _ _ _ _ _ _,h=>iQ h hi
  | .prt _ _ _ _ _,h=>by
    simp only [AF.okN,Vf] at h
    simp only [AF.free,iQ h.1 hi,iQ h.2 hi,ada]
  | .hol _ _ _ _ _ _ _,h=>by
    simp only [AF.okN,Vf] at h
    simp only [AF.free,iQ h.1 hi,uz hi h.2,ada]
def afR (C:Cx) (n N nt:Nat) (cls:List (List Nat)) (ops:List Oper) (es:List Ent) (i:Nat):Bool:=match ops[i]?,es[i]? with
  | some o,some e=>e.u.av.okN n (i::cls.getD i [])&&e.u.fs.all (AF.okN n (i::cls.getD i []))&&(e.u.κ.isEmpty||(vX C o&&e.u.κ.all (fun k=>Nat.ble 2 k)&&match e.ex with | none=>true | some _=>false)) &&
      (match e.d with | some d=>Nat.blt d nt | none=>true)&&(match C.K with | none=>true | some kd=>sX ops o||e.u.κ.all (fun k=>Nat.ble N k||bZ k kd)||(List.range i).all (fun j=>!(nH cls i j)))&&(!(sX ops o)||e.u.κ.all (fun k=>Nat.ble N k)||(List.range i).all (fun j=>!(nH cls i j)))&&(match o.guard with | some (j,_)=>bZ j (cls.getD i [])&&(match es[j]? with | some e' => e'.d.isSome | none=>false) | none=>true)
  | _,_=>false
def ud:List Nat→Bool
  | []=>true
  | a::r=>!(bZ a r)&&ud r
def nO (n:Nat) (E:SE) (F:List AF):Bool:=E.all (fun p=>p.2.okN n [])&&F.all (AF.okN n [])
def tV (C:Cx) (n N nt:Nat) (draw:Bool) (cls:List (List Nat)) (ops:List Oper) (E:SE) (F:List AF) (es:List Ent):Bool:=
  (!draw||DG ops cls)&&cls.all (fun c=>c.all fun j=>Nat.blt j ops.length)&&ud (oi ops)&&nO n E F&&(List.range ops.length).all (afR C n N nt cls ops es)
end
section
variable [X:XTab] [G:GTab]
theorem pe {E E' : SE} {v:AV} (h:bd (E++E') t=some v):bd E t=some v∨bd E' t=some v:=by
 induction E with
 | nil=>exact .inr h
 | cons p r ih=>
  simp only [YB,bd] at h ⊢
  cases hb:Nat.beq t p.1
  ·rw [hb] at h; exact ih h
  ·rw [hb] at h; exact .inl h
theorem pI {E:SE} {v:AV} (h:bd E t=some v):(t,v)∈E:=by
 induction E with
 | nil=>simp [bd] at h
 | cons p r ih=>
  simp only [bd] at h
  cases hb:Nat.beq t p.1
  ·rw [hb] at h; exact Vi _ (ih h)
  ·rw [hb] at h
   simp only [f9,Va] at h
   rw [Vb hb,← h]
   exact VU
theorem Am {cl:List Nat} {g:List (Nat×Bool)} {d:Nat} {v:AV} : ∀ {es:List Ent} {j0:Nat},(d,v)∈wv cl g es j0→∃ j e,es[j]? = some e∧e.d=some d∧v=e.u.av∧bZ (j0+j) cl=true∧nM e.g g=true
 | [],_,h=>by simp [wv] at h
 | e::r,j0,h=>by
  have again:(d,v)∈wv cl g r (j0+1)→∃ j e',(e::r)[j]? = some e' ∧ e'.d=some d∧v=e'.u.av∧bZ (j0+j) cl=true∧nM e'.g g=true:=fun h=>by
   obtain ⟨j,e',h1,h2,h3,h4,h5⟩:=Am h
   exact ⟨j+1,e',by simpa using h1,h2,h3,by rwa [show j0+(j+1)=j0+1+j by omega],h5⟩
  simp only [wv] at h
  split at h
  ·rename_i d' hd
   cases hb:(bZ j0 cl&&nM e.g g)
   ·rw [hb] at h; exact again h
   ·rw [hb] at h
    simp only [f9] at h
    rcases Wd.1 h with h | h
    ·simp only [VI] at h
     obtain ⟨rfl,rfl⟩:=h
     simp only [Vf] at hb
     exact ⟨0,e,rfl,hd,rfl,hb.1,hb.2⟩
    ·exact again h
  ·exact again h
theorem vg {cls:List (List Nat)} {i:Nat} {clj:List Nat} {j:Nat} {f:AF} : ∀ {es:List Ent} {m0:Nat},qv cls i clj j f es m0=false→∀ {m:Nat} {e:Ent},es[m]? = some e→nH cls (m0+m) i=true→m0+m≠j→bZ (m0+m) clj=false→jd e.u.κ f=false
 | [],_,_,m,e,he,_,_,_=>by simp at he
 | e' :: r,m0,h,0,e,he,hm,hj,hc=>by
  simp at he; subst he
  simp only [qv,Ys] at h
  rw [W4] at hm hj hc
  have hb:Nat.beq m0 j=false:=by
   cases hb:Nat.beq m0 j
   ·rfl
   ·exact absurd (Vb hb) hj
  have h1:=h.1
  rw [hm,hb,hc] at h1
  cases hk:e'.u.κ with
  | nil=>simp [jd]
  | cons a l=>rw [hk] at h1; simpa using h1
 | e' :: r,m0,h,m+1,e,he,hm,hj,hc=>by
  simp only [qv,Ys] at h
  simp at he
  rw [show m0+(m+1)=m0+1+m by omega] at hm hj hc
  exact vg h.2 he hm hj hc
theorem Bd {cls:List (List Nat)} {i:Nat} {cl:List Nat} {g:List (Nat×Bool)} {all:List Ent} {f:AF} : ∀ {es:List Ent} {j0:Nat},f∈Ar cls i cl g all es j0 →
  ∃ j e,es[j]? = some e∧f∈e.u.fs∧bZ (j0+j) cl=true∧nM e.g g=true∧qv cls i (cls.getD (j0+j) []) (j0+j) f all 0=false
 | [],_,h=>by simp [Ar] at h
 | e::r,j0,h=>by
  simp only [Ar,Wc] at h
  rcases h with h | h
  ·cases hb:(bZ j0 cl&&nM e.g g)
   ·rw [hb] at h; simp at h
   ·rw [hb] at h
    simp only [f9,Yc,X8] at h
    simp only [Vf] at hb
    exact ⟨0,e,rfl,h.1,hb.1,hb.2,h.2⟩
  ·obtain ⟨j,e',h1,h2,h3,h4,h5⟩:=Bd h
   exact ⟨j+1,e',by simpa using h1,h2,by rwa [show j0+(j+1)=j0+1+j by omega],h4,by rwa [show j0+(j+1)=j0+1+j by omega]⟩
theorem BL {ds:List Nat} {E:SE} {v:AV} (h:bd (nS ds E) t=some v):bd E t=some v∧bZ t ds=false:=by
 induction E with
 | nil=>simp [nS,bd] at h
 | cons p r ih=>
  simp only [nS] at h
  cases hb:bZ p.1 ds
  ·rw [hb] at h
   simp only [no,bd] at h ⊢
   cases ht:Nat.beq t p.1
   ·rw [ht] at h; exact ih h
   ·rw [ht] at h
    refine ⟨h,?_⟩
    rw [Vb ht]; exact hb
  ·rw [hb] at h
   simp only [f9] at h
   have:=ih h
   refine ⟨?_,this.2⟩
   simp only [bd]
   cases ht:Nat.beq t p.1
   ·exact this.1
   ·exfalso
    rw [Vb ht,hb] at this
    cases this.2
def chT (es:List Ent) (g:List (Nat×Bool)):Prop:=∀ p∈g,∃ e b,es[p.1]? = some e∧e.u.av=d5 b∧b=p.2
theorem wF : ∀ {a b:List (Nat×Bool)},nM a b=true→∀ p∈a,p∈b
 | a,[],h=>by
  simp only [nM] at h
  rw [In h]; exact fun p hp=>hp
 | a,q::r,h=>by
  simp only [nM,Yi] at h
  rcases h with h | h
  ·rw [In h]; exact fun p hp=>hp
  ·exact fun p hp=>Vi _ (wF h p hp)
section
variable {C:Cx} {P:Program} {n N nt:Nat} {cls:List (List Nat)} {ops:List Oper} {E:SE} {F:List AF} {es:List Ent}
theorem Qc (hlen:es.length=ops.length) (hall : ∀ j o e,ops[j]? = some o→es[j]? = some e→uQ C P n N cls ops E F o j (es.take j) e) : ∀ (i:Nat) (e:Ent),es[i]? = some e→(fD e.ex↔chT es e.g):=by
 intro i
 induction i using Nat.strongRecOn with
 | _ i ih=>
  intro e he
  have hi:=(VN.1 he).1
  have ho:ops[i]? = some (ops[i]'(by omega)):=XY _
  obtain ⟨_,hg,_⟩:=hall i _ e ho he
  rcases hg with hg | ⟨_,hg1,hg2⟩
  rotate_left
  ·rw [hg1,hg2]
   exact ⟨fun _ p hp=>by simp at hp,fun _=>trivial⟩
  unfold BU at hg
  split at hg
  ·simp only [Va,VI] at hg
   obtain ⟨h1,h2⟩:=hg
   rw [← h1,← h2]
   exact ⟨fun _ p hp=>by simp at hp,fun _=>trivial⟩
  ·rename_i j want _
   split at hg
   ·rename_i e' he'
    split at hg
    ·rename_i b hb
     simp only [Va,VI] at hg
     obtain ⟨h1,h2⟩:=hg
     have hji:j<i:=by
      rw [Xc] at he'
      split at he'
      ·assumption
      ·cases he'
     have hej:es[j]? = some e' := by
      rw [Xc,if_pos hji] at he'; exact he'
     have:=ih j hji e' hej
     rw [← h1,← h2]
     have hlit:((bif want then b else !b)=true)↔b=want:=by cases want <;> cases b <;> simp
     constructor
     ·intro hx p hp
      have hx' : Na e'.ex=true∧(bif want then b else !b)=true:=by
       cases hee:e'.ex with
       | none=>rw [hee] at hx; exact ⟨rfl,hx⟩
       | some x=>rw [hee] at hx; simpa [fD,Na] using hx
      rcases Wd.1 hp with rfl | hp
      ·exact ⟨e',b,hej,hb,hlit.1 hx'.2⟩
      ·exact this.1 (Cz.2 hx'.1) p hp
     ·intro hc
      obtain ⟨e2,b2,h3,h4,h5⟩:=hc (j,want) VU
      rw [hej] at h3
      simp only [Va] at h3
      subst h3
      rw [hb] at h4
      have hbb:b=b2:=by simpa [d5] using h4
      have hex:=Cz.1 (this.2 fun p hp=>hc p (Vi _ hp))
      have hl:=hlit.2 (hbb.trans h5)
      cases hee:e'.ex with
      | none=>exact hl
      | some x=>rw [hee] at hex; simp only [Na] at hex; show (x&&_)=true; rw [hex,hl]; rfl
    ·cases hg
   ·cases hg
theorem E1 {es:List Ent} {e e' : Ent} (h1:fD e.ex↔chT es e.g) (h2:fD e'.ex↔chT es e'.g) (hs:nM e'.g e.g=true) (hx:fD e.ex):fD e'.ex:=
 h2.2 fun p hp=>h1.1 hx p (wF hs p hp)
def RJ (B nt:Nat) (cls:List (List Nat)) (ops:List Oper) (E:SE) (F:List AF) (es:List Ent) (L0:List HA) (β:Vn) (listed:Nat→Bool) (a:Act) (w:World):Prop:=
 ∃ (η:Vn) (c:bu) (ρ:db),Rel nt ρ a∧(∀ t v,bd E t=some v→(∀ m o,ops[m]? = some o→listed m=true→o.dst≠some t)→ρ t=v.val η) ∧
  (∀ j e,es[j]? = some e→listed j=true→∀ d,e.d=some d→(fD e.ex→ρ d=e.u.av.val η)∧(¬ fD e.ex→ρ d=undef)) ∧
  (∀ f∈F,(∀ m e,es[m]? = some e→listed m=true→fD e.ex→jd e.u.κ f=false)→(f.ha η).holds w c) ∧
  ((∀ A∈L0,A.holds w c)∧∀ m,m<B→η.b m=β.b m∧η.h m=β.h m) ∧
  (∀ j e,es[j]? = some e→listed j=true→fD e.ex→∀ f∈e.u.fs,(∀ m e',es[m]? = some e' → listed m=true→fD e'.ex→m≠j→bZ m (cls.getD j [])=false→jd e'.u.κ f=false)→(f.ha η).holds w c)
theorem sY {κ:List Nat} {f:AF} (h:jd κ f=false) : ∀ k∈f.uses,k∉κ:=by
 intro k hk hκ
 have:=aeI.1 h k hκ
 exact this (mem_iff.2 hk)
theorem CD {d:Nat} (ho:ops[i]? = some o) (hd:o.dst=some d):d∈oi ops:=
 List.mem_filterMap.2 ⟨o,aeT ho,hd⟩
theorem IT : ∀ {l:List Oper} {i j:Nat} {o o' : Oper} {d d' : Nat},ud (oi l)=true→l[i]? = some o→l[j]? = some o' → o.dst=some d→o'.dst=some d' → i≠j→d≠d'
 | [],_,_,_,_,_,_,_,h,_,_,_,_=>by simp at h
 | q::l,0,0,_,_,_,_,_,_,_,_,_,hne=>absurd rfl hne
 | q::l,0,j+1,o,o',d,d',h,ho,ho',hd,hd',_=>by
  simp at ho ho'; subst ho
  have:oi (q::l)=d::oi l:=by simp [oi,hd]
  rw [this] at h
  simp only [ud,Vf,X8] at h
  intro e
  have:=CD ho' hd'
  rw [← e] at this
  rw [mem_iff.2 this] at h
  cases h.1
 | q::l,i+1,0,o,o',d,d',h,ho,ho',hd,hd',_=>by
  simp at ho ho'; subst ho'
  have:oi (q::l)=d' :: oi l:=by simp [oi,hd']
  rw [this] at h
  simp only [ud,Vf,X8] at h
  intro e
  have:=CD ho hd
  rw [e] at this
  rw [mem_iff.2 this] at h
  cases h.1
 | q::l,i+1,j+1,o,o',d,d',h,ho,ho',hd,hd',hne=>by
  simp at ho ho'
  refine IT (l:=l) ?_ ho ho' hd hd' (by omega)
  cases hq:q.dst with
  | none=>simpa [oi,hq] using h
  | some dq=>
   have:oi (q::l)=dq::oi l:=by simp [oi,hq]
   rw [this] at h
   simp only [ud,Vf] at h
   exact h.2
theorem ou (h:tV C n N nt draw cls ops E F es=true)   {e:Ent} (ho:ops[i]? = some o) (he:es[i]? = some e) :
  e.u.av.okN n (i::cls.getD i [])=true∧(∀ f∈e.u.fs,f.okN n (i::cls.getD i [])=true)∧(e.u.κ=[]∨(vX C o=true∧(∀ k∈e.u.κ,2≤k)∧e.ex=none))∧(∀ d,e.d=some d→Nat.blt d nt=true) ∧
  (∀ j w,o.guard=some (j,w)→bZ j (cls.getD i [])=true∧∃ e' d,es[j]? = some e' ∧ e'.d=some d)∧(sX ops o=true→(∃ j,j<i∧nH cls i j=true)→∀ k∈e.u.κ,N≤k)∧(∀ kd,C.K=some kd→sX ops o=false→(∃ j,j<i∧nH cls i j=true)→∀ k∈e.u.κ,N≤k∨k∈kd):=by
 simp only [tV,Vf] at h
 have hi:=(VN.1 ho).1
 have h1:=Vx.1 h.2 i (Y0.2 hi)
 simp only [afR,ho,he,Vf] at h1
 obtain ⟨⟨⟨⟨⟨⟨a1,a2⟩,a3⟩,a4⟩,a8⟩,a6⟩,a5⟩:=h1
 refine ⟨a1,Vx.1 a2,?_,?_,?_,(fun hs hj k hk=>by
  obtain ⟨j,hj1,hj2⟩:=hj
  rw [hs] at a6
  simp only [WM,adH,Yi] at a6
  rcases a6 with a6 | a6
  ·exact Vg (Vx.1 a6 k hk)
  ·have:=Vx.1 a6 j (Y0.2 hj1)
   rw [hj2] at this
   cases this),(fun kd hK hs hj k hk=>by
  obtain ⟨j,hj1,hj2⟩:=hj
  rw [hK] at a8
  simp only [hs,adH,Yi] at a8
  rcases a8 with a8 | a8
  ·have:=Vx.1 a8 k hk
   simp only [Yi] at this
   exact this.imp Vg mem_iff.1
  ·have:=Vx.1 a8 j (Y0.2 hj1)
   rw [hj2] at this
   cases this)⟩
 ·simp only [Yi,Vf] at a3
  rcases a3 with a3 | ⟨⟨a3,a6⟩,a7⟩
  ·exact .inl (ajs.1 a3)
  ·refine .inr ⟨a3,fun k hk=>Vg (Vx.1 a6 k hk),?_⟩
   cases hg:e.ex with
   | none=>rfl
   | some g=>rw [hg] at a7; cases a7
 ·intro d hd
  rw [hd] at a4; exact a4
 ·intro j w hg
  rw [hg] at a5
  simp only [Vf] at a5
  refine ⟨a5.1,?_⟩
  have a6:=a5.2
  split at a6
  ·rename_i e' he'
   obtain ⟨d,hd⟩:=adE.1 a6
   exact ⟨e',d,he',hd⟩
  ·cases a6
theorem D1 {cls:List (List Nat)} {i:Nat} {d:Nat} : ∀ {l:List Oper} {m0 m:Nat} {o:Oper},l[m]? = some o→o.dst=some d→nH cls (m0+m) i=true→d∈wL cls i l m0
 | [],_,_,_,h,_,_=>by simp at h
 | q::l,m0,0,o,h,hd,hm=>by
  simp at h; subst h
  rw [W4] at hm
  simp [wL,hd,hm]
 | q::l,m0,m+1,o,h,hd,hm=>by
  simp at h
  have:=D1 (m0:=m0+1) h hd (by rwa [show m0+1+m=m0+(m+1) by omega])
  simp only [wL]
  split
  ·cases nH cls m0 i
   ·exact this
   ·exact Vi _ this
  ·exact this
theorem MM {cls:List (List Nat)} {i:Nat} {ops:List Oper} : ∀ {l:List Oper} {m0:Nat},qo C cls ops i l m0=false→∀ {m:Nat} {o:Oper},l[m]? = some o→i<m0+m→nH cls (m0+m) i=true→vX C o=true→sX ops o=true
 | [],_,_,m,o,h,_,_=>by simp at h
 | q::r,m0,h,0,o,ho,hi,hm=>by
  simp at ho; subst ho
  simp only [qo,Ys] at h
  rw [W4] at hi hm
  have h1:=h.1
  rw [hm,show Nat.blt i m0=true from Wo hi] at h1
  intro hk
  rw [hk] at h1
  simpa using h1
 | q::r,m0,h,m+1,o,ho,hi,hm=>by
  simp only [qo,Ys] at h
  simp at ho
  rw [show m0+(m+1)=m0+1+m by omega] at hi hm
  exact MM h.2 ho hi hm
theorem K9 {cls:List (List Nat)} {i:Nat} {ops:List Oper} : ∀ {l:List Oper} {m0:Nat},tf C cls ops i l m0=false→∀ {m:Nat} {o:Oper},l[m]? = some o→i<m0+m→nH cls (m0+m) i=true→vX C o=true→sX ops o=false
 | [],_,_,m,o,h,_,_=>by simp at h
 | q::r,m0,h,0,o,ho,hi,hm=>by
  simp at ho; subst ho
  simp only [tf,Ys] at h
  rw [W4] at hi hm
  have h1:=h.1
  rw [hm,show Nat.blt i m0=true from Wo hi] at h1
  intro hk
  rw [hk] at h1
  simpa using h1
 | q::r,m0,h,m+1,o,ho,hi,hm=>by
  simp only [tf,Ys] at h
  simp at ho
  rw [show m0+(m+1)=m0+1+m by omega] at hi hm
  exact K9 h.2 ho hi hm
theorem Vw (hb:tV C n N nt draw cls ops E F es=true) (hlen:es.length=ops.length) (hall : ∀ j o e,ops[j]? = some o→es[j]? = some e→uQ C P n N cls ops E F o j (es.take j) e)
    {e:Ent} (he:es[i]? = some e) (hx:fD e.ex) (hf:listed i=false) (hcl : ∀ j,bZ j (cls.getD i [])=true→listed j=true)
  (hun : ∀ m,m<ops.length→listed m=true→bZ i (cls.getD m [])=false) {η:Vn} {ρ:db} {w:World} {c:bu}
  (hE : ∀ t v,bd E t=some v→(∀ m o,ops[m]? = some o→listed m=true→o.dst≠some t)→ρ t=v.val η)
  (hV : ∀ j e,es[j]? = some e→listed j=true→∀ d,e.d=some d→(fD e.ex→ρ d=e.u.av.val η)∧(¬ fD e.ex→ρ d=undef))
  (hB : ∀ f∈F,(∀ m e,es[m]? = some e→listed m=true→fD e.ex→jd e.u.κ f=false)→(f.ha η).holds w c)
  (hR : ∀ j e,es[j]? = some e→listed j=true→fD e.ex→∀ f∈e.u.fs,(∀ m e',es[m]? = some e' → listed m=true→fD e'.ex→m≠j→bZ m (cls.getD j [])=false→jd e'.u.κ f=false)→(f.ha η).holds w c) :
  mL η ρ (yH cls ops E i e.g (es.take i))∧am w c ((qS C N cls ops F i e.g (es.take i)).map (AF.ha η)):=by
 have hch:=Qc hlen hall
 have take_get : ∀ {j:Nat} {e' : Ent},(es.take i)[j]? = some e' → es[j]? = some e' ∧ j<i:=fun {j e'} h=>by
  rw [Xc] at h
  split at h
  ·exact ⟨h,by assumption⟩
  ·cases h
 have nohit : ∀ (f:AF) (clj:List Nat) (j:Nat),qv cls i clj j f (es.take i) 0=false→(qo C cls ops i ops 0=true→GI C.K N f=true)→(qo C cls ops i ops 0=false→tf C cls ops i ops 0=true→Co N f=true)→∀ m e',es[m]? = some e' → listed m=true→m≠j→bZ m clj=false→jd e'.u.κ f=false:=by
  intro f clj j hh hsafe hbel m e' hm hl hj hc
  have hml:m<ops.length:=by have:=(VN.1 hm).1; omega
  have hom:ops[m]? = some ops[m]:=XY hml
  have hmi:m≠i:=fun e=>by rw [e,hf] at hl; cases hl
  have hmay:nH cls m i=true:=by
   have h1:Nat.beq m i=false:=by
    cases hb:Nat.beq m i
    ·rfl
    ·exact absurd (Vb hb) hmi
   simp only [nH,h1,hun m hml hl,Wn,ada]
  rcases WG m i with h | h
  ·have h2:(es.take i)[m]? = some e' := by rw [Xc,if_pos h]; exact hm
   have:=vg hh h2 (by rwa [YK]) (by rwa [YK]) (by rwa [YK])
   exact this
  ·rcases (ou hb hom hm).2.2.1 with hk | ⟨hk,h2,_⟩
   ·rw [hk]; rfl
   ·cases hlt:qo C cls ops i ops 0
    ·have hsoft:=MM hlt hom (by omega) (by rwa [YK]) hk
     cases hls:tf C cls ops i ops 0
     ·have:=K9 hls hom (by omega) (by rwa [YK]) hk
      rw [hsoft] at this; cases this
     ·have hs:=hbel hlt hls
      have h3:=(ou hb hom hm).2.2.2.2.2.1 hsoft ⟨i,by omega,hmay⟩
      refine aeI.2 fun k hk' hm' => ?_
      have h4:k+1≤N:=Vg (Vx.1 hs k (mem_iff.1 hm'))
      have:=h3 k hk'
      omega
    ·have hs:=hsafe hlt
     refine aeI.2 fun k hk' hm' => ?_
     cases hK:C.K with
     | none=>
      rw [hK] at hs
      have:=Vx.1 (show aaz f=true from hs) k (mem_iff.1 hm')
      have:=Vg this
      have:=h2 k hk'
      omega
     | some kd=>
      rw [hK] at hs
      simp only [GI,Vf,X8] at hs
      have h4:k+1≤N:=Vg (Vx.1 hs.1 k (mem_iff.1 hm'))
      cases hsoft:sX ops ops[m]
      ·rcases (ou hb hom hm).2.2.2.2.2.2 kd hK hsoft ⟨i,by omega,hmay⟩ k hk' with h5 | h5
       ·omega
       ·have:=aeI.1 hs.2 k h5
        exact this hm'
      ·have h3:=(ou hb hom hm).2.2.2.2.2.1 hsoft ⟨i,by omega,hmay⟩ k hk'
       omega
 constructor
 ·intro t v hl
  rcases pe hl with h | h
  ·obtain ⟨j,e',h1,h2,rfl,h4,h5⟩:=Am (pI h)
   rw [YK] at h4
   obtain ⟨h1',_⟩:=take_get h1
   exact (hV j e' h1' (hcl j h4) t h2).1 (E1 (hch i e he) (hch j e' h1') h5 hx)
  ·have h:=BL h
   refine hE t v h.1 fun m o hom hlm hdm=>?_
   have hml:=(VN.1 hom).1
   have hmi:m≠i:=fun e=>by rw [e,hf] at hlm; cases hlm
   have h1:Nat.beq m i=false:=by
    cases hb:Nat.beq m i
    ·rfl
    ·exact absurd (Vb hb) hmi
   have:=D1 (cls:=cls) (i:=i) (m0:=0) hom hdm (by rw [YK]; simp only [nH,h1,hun m hml hlm,Wn,ada])
   rw [mem_iff.2 this] at h
   cases h.2
 ·intro A hA
  obtain ⟨f,hfm,rfl⟩:=VO.1 hA
  have hmem:f∈Ar cls i (cls.getD i []) e.g (es.take i) (es.take i) 0++F.filter (fun f=>!(qv cls i [] ops.length f (es.take i) 0))∧(qo C cls ops i ops 0=true→GI C.K N f=true)∧(qo C cls ops i ops 0=false→tf C cls ops i ops 0=true→Co N f=true):=by
   unfold qS at hfm
   cases hlt:qo C cls ops i ops 0
   ·rw [hlt] at hfm
    simp only [no] at hfm
    cases hls:tf C cls ops i ops 0
    ·rw [hls] at hfm; exact ⟨hfm,fun h=>(by cases h),fun _ h=>by cases h⟩
    ·rw [hls] at hfm
     simp only [f9,Yc] at hfm
     exact ⟨hfm.1,fun h=>(by cases h),fun _ _=>hfm.2⟩
   ·rw [hlt] at hfm
    simp only [f9,Yc] at hfm
    exact ⟨hfm.1,fun _=>hfm.2,fun h=>by cases h⟩
  obtain ⟨hmem,hsafe,hbel⟩:=hmem
  rcases Wc.1 hmem with h | h
  ·obtain ⟨j,e',h1,h2,h4,h5,h6⟩:=Bd h
   rw [YK] at h4 h6
   obtain ⟨h1',_⟩:=take_get h1
   exact hR j e' h1' (hcl j h4) (E1 (hch i e he) (hch j e' h1') h5 hx) f h2 fun m e2 hm hl _ hj hc=>nohit f _ j h6 hsafe hbel m e2 hm hl hj hc
  ·simp only [Yc,X8] at h
   exact hB f h.1 fun m e2 hm hl _=>nohit f [] ops.length h.2 hsafe hbel m e2 hm hl (by have:=(VN.1 hm).1; omega) rfl
end
end
section
variable [X:XTab] [G:GTab]
def ajX (A:HA):Prop:=∀ k∈A.uses,k<2
structure L0ok (L0:List HA):Prop where
  old : ∀ A∈L0,ajX A
  gl : ∀ A∈nR,A∈L0
section
variable {C:Cx} {P:Program} {B n N nt:Nat} {cls:List (List Nat)} {ops:List Oper} {E:SE} {F:List AF} {es:List Ent} {Q:Exit→Act→World→Prop} {L0:List HA} {β:Vn}
def pJ (listed:Nat→Bool) (i:Nat):Nat→Bool:=fun j=>Nat.beq j i||listed j
theorem DL {j:Nat} (h:j≠i):pJ listed i j=listed j:=by
  have:Nat.beq j i=false:=by
    cases hb:Nat.beq j i
    · rfl
    · exact absurd (Vb hb) h
  simp [pJ,this]
theorem aeZ (h:nO n E F=true) {v:AV} (hl:bd E t=some v) (i:Nat):v.free (n+64 * i)=true:=by
  simp only [nO,Vf] at h
  have:=Vx.1 h.1 _ (pI hl)
  exact v.okN_free (cl:=[]) (by simp) this
theorem IS (h64:B≤n) (hb:tV C n N nt draw cls ops E F es=true) (hlen:es.length=ops.length) (hall : ∀ j o e,ops[j]? = some o→es[j]? = some e→uQ C P n N cls ops E F o j (es.take j) e) (hL0:L0ok L0)
       (ho:ops[i]? = some o) (hf:listed i=false) (hcl : ∀ j,bZ j (cls.getD i [])=true→listed j=true)
    (hun : ∀ m,m<ops.length→listed m=true→bZ i (cls.getD m [])=false) {a:Act} {w:World} (hJ:RJ B nt cls ops E F es L0 β listed a w) :
    wpOp P ops.toArray Q i (RJ B nt cls ops E F es L0 β (pJ listed i)) a w:=by
  obtain ⟨η,c,ρ,ha,hE,hV,hB,hL,hR⟩:=hJ
  have hi:=(VN.1 ho).1
  have he:es[i]? = some (es[i]'(by omega)):=XY _
  generalize hee:es[i]'(by omega)=e at he
  obtain ⟨hd,hg,hsem⟩:=hall i o e ho he
  obtain ⟨b1,b2,b3,b4,b5,_⟩:=ou hb ho he
  have hbase:nO n E F=true:=by simp only [tV,Vf] at hb; exact hb.1.2
  have hnd:ud (oi ops)=true:=by simp only [tV,Vf] at hb; exact hb.1.1.2
  have next : ∀ (v:Value) (η' : Vn) (w' : World) (c' : bu),η.agr (n+64 * i) η' → Stp e.u.κ w c w' c' → (e.u.κ=[]∨fD e.ex)→((fD e.ex→v=e.u.av.val η' ∧ ∀ f∈e.u.fs,(f.ha η').holds w' c')∧(¬ fD e.ex→v=undef)) →
      RJ B nt cls ops E F es L0 β (pJ listed i) (a.put o.dst v) w' := by
    intro v η' w' c' hagr hst hκ hv
    refine ⟨η',c',(match o.dst with | some d=>xj ρ d v | none=>ρ),?_,?_,?_,?_,?_,?_⟩
    · cases hod:o.dst with
      | none=>exact ha
      | some d=>exact ha.put (b4 d (by rw [hd,hod])) v
    · intro t u hl hno
      rw [AV.val_agr hagr u (aeZ hbase hl i)]
      have hold:=hE t u hl fun m o' hm hlm=>hno m o' hm (by simp [pJ,hlm])
      cases hod:o.dst with
      | none=>exact hold
      | some d=>
        have hne:Nat.beq t d=false:=by
          cases hbb:Nat.beq t d
          · rfl
          · exact absurd (by rw [hod,Vb hbb]) (hno i o ho (by simp [pJ]))
        simp only [xj,hne,no]
        exact hold
    · intro j e' hj hlj d' hd'
      by_cases hji:j=i
      · subst hji
        rw [he] at hj
        simp only [Va] at hj
        subst hj
        rw [hd] at hd'
        rw [hd']
        have:xj ρ d' v d' = v:=by simp [xj]
        simp only [this]
        exact ⟨fun hx=>(hv.1 hx).1,fun hx=>hv.2 hx⟩
      · rw [DL hji] at hlj
        have hjl:j<ops.length:=by have:=(VN.1 hj).1; omega
        have hoj:ops[j]? = some ops[j]:=XY hjl
        obtain ⟨hdj,_,_⟩:=hall j _ e' hoj hj
        have hfree:e'.u.av.free (n+64 * i)=true:=e'.u.av.okN_free (by
          intro hm
          rcases Wd.1 hm with hm | hm
          · exact hji hm.symm
          · have:=hun j hjl hlj
            rw [mem_iff.2 hm] at this; cases this) (ou hb hoj hj).1
        rw [AV.val_agr hagr _ hfree]
        have hold:=hV j e' hj hlj d' hd'
        cases hod:o.dst with
        | none=>exact hold
        | some d=>
          have hne:Nat.beq d' d=false:=by
            cases hbb:Nat.beq d' d
            · rfl
            · exact absurd (Vb hbb) (IT hnd hoj ho (by rw [← hdj]; exact hd') hod hji)
          simp only [xj,hne,no]
          exact hold
    · intro f hfF hno
      have hfree:f.free (n+64 * i)=true:=by
        simp only [nO,Vf] at hbase
        exact f.okN_free (cl:=[]) (by simp) (Vx.1 hbase.2 f hfF)
      rw [AF.ha_agr hagr f hfree]
      refine HA.stp hst _ (fun k hk=>?_) (hB f hfF fun m e' hm hl hx=>hno m e' hm (by simp [pJ,hl]) hx)
      rw [AF.ha_uses] at hk
      rcases hκ with hκ | hκ
      · rw [hκ]; simp
      · exact sY (hno i e he (by simp [pJ]) hκ) k hk
    · refine ⟨fun A hA=>?_,fun m hm=>?_⟩
      rotate_left
      · have hz:=hagr m (by simp only [bk,Yi]; exact .inl (Wo (by omega)))
        rw [hz.1,hz.2]; exact hL.2 m hm
      refine HA.stp hst A (fun k hk=>?_) (hL.1 A hA)
      have h2:=hL0.old A hA k hk
      rcases b3 with h | ⟨_,h,_⟩
      · rw [h]; simp
      · intro hk'; have:=h k hk'; omega
    · intro j e' hj hlj hx f hf' hno
      by_cases hji:j=i
      · subst hji
        rw [he] at hj
        simp only [Va] at hj
        subst hj
        exact (hv.1 hx).2 f hf'
      · rw [DL hji] at hlj
        have hjl:j<ops.length:=by have:=(VN.1 hj).1; omega
        have hoj:ops[j]? = some ops[j]:=XY hjl
        have hnm:bZ i (cls.getD j [])=false:=hun j hjl hlj
        have hfree:f.free (n+64 * i)=true:=f.okN_free (by
          intro hm
          rcases Wd.1 hm with hm | hm
          · exact hji hm.symm
          · rw [mem_iff.2 hm] at hnm; cases hnm) ((ou hb hoj hj).2.1 f hf')
        rw [AF.ha_agr hagr f hfree]
        refine HA.stp hst _ (fun k hk=>?_) (hR j e' hj hlj hx f hf' fun m e2 hm hl hx2 hmj hmc=>hno m e2 hm (by simp [pJ,hl]) hx2 hmj hmc)
        rw [AF.ha_uses] at hk
        rcases hκ with hκ | hκ
        · rw [hκ]; simp
        · exact sY (hno i e he (by simp [pJ]) hκ (ahZ hji) hnm) k hk
  have run:fD e.ex→o.wp P a w (RJ B nt cls ops E F es L0 β (pJ listed i)) Q:=by
    intro hx
    obtain ⟨hpE,hpF⟩:=Vw hb hlen hall he hx hf hcl hun hE hV hB hR
    unfold Oper.wp
    rw [ha.eval]
    rcases hsem with ⟨cc,aa,bb,v,hop,hpk,hu⟩ | hsem
    ·
      have hv:bi P ρ o [] (.bool v):=by
        unfold FP at hpk
        split at hpk
        · rename_i t
          split at hpk
          · rename_i jc ec hfc
            have find_get : ∀ {t:Nat} {l:List Ent} {j0 j:Nat} {e:Ent},uG t l j0=some (j,e)→j0≤j∧l[j - j0]? = some e∧e.d=some t:=by
              intro t l
              induction l with
              | nil=>intro j0 j e h; simp [uG] at h
              | cons q r ih=>
                intro j0 j e h
                simp only [uG] at h
                have tail:uG t r (j0+1)=some (j,e)→j0≤j∧(q::r)[j - j0]? = some e∧e.d=some t:=fun h=>by
                  obtain ⟨h1,h2,h3⟩:=ih h
                  refine ⟨by omega,?_,h3⟩
                  rw [show j - j0=(j - (j0+1))+1 by omega]
                  simpa using h2
                split at h
                · rename_i d hdq
                  cases hbb:Nat.beq t d
                  · rw [hbb] at h; exact tail h
                  · rw [hbb] at h
                    simp only [f9,Va,VI] at h
                    obtain ⟨rfl,rfl⟩:=h
                    exact ⟨Wb _,by simp,by rw [hdq,Vb hbb]⟩
                · exact tail h
            have take_get : ∀ {j:Nat} {e' : Ent},(es.take i)[j]? = some e' → es[j]? = some e' := fun {j e'} h=>by
              rw [Xc] at h
              split at h
              · exact h
              · cases h
            have hch:=Qc hlen hall
            cases hmb:(bZ jc (cls.getD i [])&&nM ec.g e.g)
            · rw [hmb] at hpk; cases hpk
            · rw [hmb] at hpk
              simp only [f9] at hpk
              simp only [Vf] at hmb
              split at hpk
              · rename_i x p q hxv hp hq
                simp only [Va] at hpk
                subst hpk
                obtain ⟨_,hgc,hdc⟩:=find_get hfc
                have hgc:=take_get hgc
                rw [afp] at hgc
                have hxc:=E1 (hch i e he) (hch jc ec hgc) hmb.2 hx
                have hcv:ρ t = .bool x:=by
                  rw [(hV jc ec hgc (hcl jc hmb.1) t hdc).1 hxc,hxv]; rfl
                have branch : ∀ {side:Bool} {y:Operand} {p:Bool},F9 (cls.getD i []) e.g (es.take i) jc side y=some p→x=side→aQ ρ y = .bool p:=by
                  intro side y p hp hs
                  unfold F9 at hp
                  split at hp
                  · simp only [Va] at hp; subst hp; rfl
                  · rename_i t'
                    split at hp
                    · rename_i j ej hfj
                      cases hmb' : (bZ j (cls.getD i [])&&(nM ej.g e.g||P5 ej.g jc side e.g))
                      · rw [hmb'] at hp; cases hp
                      · rw [hmb'] at hp
                        simp only [f9] at hp
                        simp only [Vf,Yi] at hmb'
                        obtain ⟨_,hgj,hdj⟩:=find_get hfj
                        have hgj:=take_get hgj
                        rw [afp] at hgj
                        have hxj:fD ej.ex:=by
                          rcases hmb'.2 with h | h
                          · exact E1 (hch i e he) (hch j ej hgj) h hx
                          · refine (hch j ej hgj).2 fun pr hpr=>?_
                            unfold P5 at h
                            split at h
                            · rename_i j' s g' hgg
                              simp only [Vf,aag] at h
                              obtain ⟨⟨h1,h2⟩,h3⟩:=h
                              rw [hgg] at hpr
                              rcases Wd.1 hpr with rfl | hpr
                              · obtain rfl:=Vb h1
                                exact ⟨ec,x,hgc,hxv,by rw [h2]; exact hs⟩
                              · exact (hch i e he).1 hx pr (wF h3 pr hpr)
                            · cases h
                        split at hp
                        · rename_i b' hbv
                          simp only [Va] at hp
                          subst hp
                          show ρ t' = .bool b'
                          rw [(hV j ej hgj (hcl j hmb'.1) t' hdj).1 hxj,hbv]; rfl
                        · cases hp
                    · cases hp
                  · cases hp
                exact ahi hop hcv (fun hxt=>branch hp hxt) (fun hxf=>branch hq hxf)
              · cases hpk
          · cases hpk
        · cases hpk
      rw [hv _ w c rfl (am.nil _ _)]
      refine next (.bool v) η w c (Vn.agr_refl _ η) ?_ (.inr hx) ⟨fun _=>⟨by rw [hu]; rfl,fun f hf' => by rw [hu] at hf'; simp at hf'⟩,fun h=>absurd hx h⟩
      rw [hu]; exact Stp.refl w c
    · exact hsem hx η ρ hpE a _ w c _ Q rfl (am.append hpF fun A hA=>hL.1 A (hL0.gl A hA)) fun y w' c' hst hF=>next _ y.1 w' c' y.2 hst (.inr hx) ⟨fun _=>⟨rfl,fun f hf' => hF _ (VO.2 ⟨f,hf',rfl⟩)⟩,fun h=>absurd hx h⟩
  have skip : ¬ fD e.ex→RJ B nt cls ops E F es L0 β (pJ listed i) (a.put o.dst undef) w:=by
    intro hx
    have hκ:e.u.κ=[]:=by
      rcases b3 with h | ⟨_,_,h⟩
      · exact h
      · exfalso
        rw [h] at hx
        exact hx trivial
    exact next undef η w c (Vn.agr_refl _ η) (by rw [hκ]; exact Stp.refl w c) (.inl hκ) ⟨fun h=>absurd h hx,fun _=>rfl⟩
  unfold wpOp
  rw [show ops.toArray[i]? = some o by simpa using ho]
  simp only
  have hw:Region.wanted o (yielded ops.toArray a.tmps)=true↔fD e.ex:=by
    have key : ∀ {g0:List (Nat×Bool)} {ex0:Option Bool},BU (es.take i) o.guard=some (g0,ex0)→(Region.wanted o (yielded ops.toArray a.tmps)=true↔fD ex0):=by
     intro g0 ex0 hg
     cases hgo:o.guard with
     | none=>
       rw [hgo] at hg
       simp only [BU,Va,VI] at hg
       rw [← hg.2]
       simp [Region.wanted,hgo,fD]
     | some jw=>
       obtain ⟨j,want⟩:=jw
       obtain ⟨hjc,ej,dj,hej,hdj⟩:=b5 j want hgo
       rw [hgo] at hg
       unfold BU at hg
       simp only at hg
       split at hg
       · rename_i e' he'
         have hej' : es[j]? = some e' := by
           rw [Xc] at he'
           split at he'
           · exact he'
           · cases he'
         rw [hej] at hej'
         simp only [Va] at hej'
         subst hej'
         split at hg
         · rename_i bv hbv
           simp only [Va,VI] at hg
           obtain ⟨_,hex⟩:=hg
           have hjl:j<ops.length:=by have:=(VN.1 hej).1; omega
           have hoj:ops[j]? = some ops[j]:=XY hjl
           obtain ⟨hdo,_,_⟩:=hall j _ ej hoj hej
           have hy:=Ug (n:=nt) ha hoj (by rw [← hdo]; exact hdj) ((ou hb hoj hej).2.2.2.1 dj hdj)
           have hv:=hV j ej hej (hcl j hjc) dj hdj
           simp only [Region.wanted,hgo,hy]
           rw [← hex]
           by_cases hxe:fD ej.ex
           · rw [hv.1 hxe,hbv]
             have h1:=Cz.1 hxe
             simp only [d5,AV.val,Lf.val]
             cases hee2:ej.ex with
             | none=>cases want <;> cases bv <;> simp [fD]
             | some x=>
               rw [hee2] at h1
               simp only [Na] at h1
               subst h1
               cases want <;> cases bv <;> simp [fD]
           · rw [hv.2 hxe]
             cases hee2:ej.ex with
             | none=>rw [hee2] at hxe; exact absurd trivial hxe
             | some x=>
               rw [hee2] at hxe
               have hxf:x=false:=by cases x <;> simp_all [fD]
               subst hxf
               simp [undef,fD]
         · cases hg
       · cases hg
    rcases hg with hg | ⟨⟨g0,hg⟩,_,hg2⟩
    · exact key hg
    · rw [hg2]
      exact ⟨fun _=>trivial,fun _=>(key hg).2 rfl⟩
  by_cases hx:fD e.ex
  · rw [if_pos (hw.2 hx)]
    exact .inl (run hx)
  · rw [if_neg fun h=>hx (hw.1 h)]
    exact skip hx
end
end
end Go.Sm
