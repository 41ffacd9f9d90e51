/- Laws for the row. No condition. -/
import Derived.Test.YtfhhiajfciblbaaGreatDoorRfI
namespace Go.Sm
set_option linter.unusedSectionVars false
variable {i n t:Nat} {draw:Bool} {listed:Nat→Bool} {cl:List Nat} {o:Oper} {w:World}
section
variable [X:XTab] [G:GTab]
def uni:List Nat→List Nat→List Nat
  | [],b=>b
  | x::r,b=>bif cf x b then uni r b else x::uni r b
def ad6:List Oper→List (List Nat)→List (List Nat)
  | [],acc=>acc
  | o::r,acc=>ad6 r (acc++[(su o).foldr (fun k s=>uni (k::acc.getD k []) s) []])
def iE (draw:Bool) (l:List Oper):List (List Nat):=bif draw then ad6 l [] else (List.range l.length).map List.range
def Ug:List (Nat×Bool)→List (Nat×Bool)→Bool
  | [],[]=>true
  | (a,x)::r,(b,y)::s=>Nat.beq a b&&(x==y)&&Ug r s
  | _,_=>false
def ol (a:List (Nat×Bool)):List (Nat×Bool)→Bool
  | []=>Ug a []
  | p::r=>Ug a (p::r)||ol a r
theorem L4 : ∀ {a b:List (Nat×Bool)},Ug a b=true→a=b
  | [],[],_=>rfl
  | (a,x)::r,(b,y)::s,h=>by
    simp only [Ug,Wp,abd] at h
    rw [Wo h.1.1,h.1.2,L4 h.2]
  | [],_::_,h=>by cases h
  | _::_,[],h=>by cases h
structure Ent where
  d:Option Tmp
  g:List (Nat×Bool)
  ex:Option Bool
  u:Out
def Pi:Option Bool→Bool
  | none=>true
  | some b=>b
theorem Do {e:Option Bool}:gi e↔Pi e=true:=by cases e <;> simp [gi,Pi]
def x8 (cl:List Nat) (g:List (Nat×Bool)):List Ent→Nat→SE
  | [],_=>[]
  | e::r,j=>match e.d with
    | some d=>bif cf j cl&&ol e.g g then (d,e.u.av)::x8 cl g r (j+1) else x8 cl g r (j+1)
    | none=>x8 cl g r (j+1)
def oY (l:List Oper):List Nat:=l.filterMap fun o=>o.dst
def oC (ds:List Nat) (E:SE):SE:=match E with
  | []=>[]
  | (t,v)::r=>bif cf t ds then oC ds r else (t,v)::oC ds r
def ky (κ:List Nat) (f:AF):Bool:=κ.any fun k=>cf k f.uses
def oW (cls:List (List Nat)) (m i:Nat):Bool:=!(Nat.beq m i) && !(cf i (cls.getD m []))
def w9 (cls:List (List Nat)) (i:Nat):List Oper→Nat→List Nat
  | [],_=>[]
  | o::r,m=>match o.dst with
    | some d=>bif oW cls m i then d::w9 cls i r (m+1) else w9 cls i r (m+1)
    | none=>w9 cls i r (m+1)
def qT (cls:List (List Nat)) (i:Nat) (clj:List Nat) (j:Nat) (f:AF):List Ent→Nat→Bool
  | [],_=>false
  | e::r,m=>(!(e.u.κ.isEmpty)&&oW cls m i && !(Nat.beq m j) && !(cf m clj)&&ky e.u.κ f)||qT cls i clj j f r (m+1)
def BN (cls:List (List Nat)) (i:Nat) (cl:List Nat) (g:List (Nat×Bool)) (all:List Ent):List Ent→Nat→List AF
  | [],_=>[]
  | e::r,j=>(bif cf j cl&&ol e.g g then e.u.fs.filter (fun f=>!(qT cls i (cls.getD j []) j f all 0)) else [])++BN cls i cl g all r (j+1)
def PC.mut:PC→Bool
  | .own _ _=>true
  | .box m _ _=>m
  | .prt _ _=>true
  | _=>false
def wA (C:Cx) (o:Oper):Bool:=match o.op with
  | .store _ _ _=>true
  | .mapUpdate _ _ _ _=>true
  | .insert _ _ _ _=>true
  | .buildSlice t _ _=>match C.Θ t with
    | some ⟨.slice e,_,_,_,_⟩=>fG (X.tr e)
    | _=>false
  | .call c=>match c.callee with
    | .builtin .append=>true
    | .builtin .copy=>true
    | .value (.func f)=>(match C.I f with | some J=>J.rw_ | none=>false)||(C.Γ f).any fun c=>c.ps.any PC.mut
    | .value _=>C.W
    | _=>false
  | _=>false
def ajS (op:Op):Option Nat:=match op with
  | .call c=>match c.callee,c.args.toList with
    | .builtin .append, .tmp t::_=>some t
    | _,_=>none
  | _=>none
def ad1 (ops:List Oper):Nat→Nat→Bool
  | 0,_=>false
  | k+1,t=>ops.any fun p=>match p.dst,p.op with
    | some d, .buildSlice _ _ _=>Nat.beq t d
    | some d,op=>Nat.beq t d&&match ajS op with
      | some t' => ad1 ops k t'
      | none=>false
    | none,_=>false
def ahX (op:Op):Bool:=match op with
  | .buildSlice _ _ _=>true
  | _=>false
def alr (ops:List Oper) (op:Op):Bool:=match op with
  | .store _ (.tmp t) _=>ops.any fun p=>match p.dst,p.op with
    | some d, .alloc _=>Nat.beq t d
    | _,_=>false
  | _=>false
def tO (ops:List Oper) (o:Oper):Bool:=ahX o.op||alr ops o.op||match ajS o.op with
  | some t=>ad1 ops 3 t
  | none=>false
def vr (C:Cx) (cls:List (List Nat)) (ops:List Oper) (i:Nat):List Oper→Nat→Bool
  | [],_=>false
  | o::r,m=>(Nat.blt i m&&wA C o&&tO ops o&&oW cls m i)||vr C cls ops i r (m+1)
def CJ (N:Nat) (f:AF):Bool:=f.uses.all fun k=>Nat.blt k N
def sf (C:Cx) (cls:List (List Nat)) (ops:List Oper) (i:Nat):List Oper→Nat→Bool
  | [],_=>false
  | o::r,m=>(Nat.blt i m&&wA C o && !(tO ops o)&&oW cls m i)||sf C cls ops i r (m+1)
def acn (f:AF):Bool:=f.uses.all fun k=>Nat.ble k 1
def Hs (K:Option (List Nat)) (N:Nat) (f:AF):Bool:=match K with
  | none=>acn f
  | some kd=>CJ N f && !(ky kd f)
def q8 (C:Cx) (N:Nat) (cls:List (List Nat)) (ops:List Oper) (F:List AF) (i:Nat) (g:List (Nat×Bool)) (es:List Ent):List AF:=
  let L:=BN cls i (cls.getD i []) g es es 0++F.filter (fun f=>!(qT cls i [] ops.length f es 0))
  bif sf C cls ops i ops 0 then L.filter (Hs C.K N) else bif vr C cls ops i ops 0 then L.filter (CJ N) else L
def yU (cls:List (List Nat)) (ops:List Oper) (E:SE) (i:Nat) (g:List (Nat×Bool)) (es:List Ent):SE:=x8 (cls.getD i []) g es 0++oC (w9 cls i ops 0) E
def Cs (es:List Ent):Option (Nat×Bool)→Option (List (Nat×Bool)×Option Bool)
  | none=>some ([],none)
  | some (j,want)=>match es[j]? with
    | some e=>match e.u.av with
      | .lf (.c .bool b)=>
        let lit:=bif want then b else !b
        some ((j,want)::e.g,some (match e.ex with | none=>lit | some x=>x&&lit))
      | _=>none
    | none=>none
def ve (t:Nat):List Ent→Nat→Option (Nat×Ent)
  | [],_=>none
  | e::r,j=>match e.d with
    | some d=>bif Nat.beq t d then some (j,e) else ve t r (j+1)
    | none=>ve t r (j+1)
def Sz (eg:List (Nat×Bool)) (jc:Nat) (side:Bool) (g:List (Nat×Bool)):Bool:=match eg with
  | (j',s)::g' => Nat.beq j' jc&&(s==side)&&ol g' g
  | []=>false
def GC (cl:List Nat) (g:List (Nat×Bool)) (es:List Ent) (jc:Nat) (side:Bool):Operand→Option Bool
  | .const (.bool b)=>some b
  | .tmp t=>match ve t es 0 with
    | some (j,e)=>bif cf j cl&&(ol e.g g||Sz e.g jc side g) then match e.u.av with
        | .lf (.c .bool b)=>some b
        | _=>none
      else none
    | none=>none
  | _=>none
def GU (cl:List Nat) (g:List (Nat×Bool)) (es:List Ent) (c a b:Operand):Option Bool:=match c with
  | .tmp t=>match ve t es 0 with
    | some (jc,e)=>bif cf jc cl&&ol e.g g then match e.u.av,GC cl g es jc true a,GC cl g es jc false b with
        | .lf (.c .bool x),some p,some q=>some (bif x then p else q)
        | _,_,_=>none
      else none
    | none=>none
  | _=>none
def zA {R:Type} (C:Cx) (n N:Nat) (cls:List (List Nat)) (ops:List Oper) (E:SE) (F:List AF):List Oper→Nat→List Ent→(List Ent→Option R)→Option R
  | [],_,es,k=>k es
  | o::r,i,es,k=>match Cs es o.guard with
    | none=>none
    | some (g,ex)=>match o.op with
      | .pick c a b=>match GU (cls.getD i []) g es c a b with
        | some v=>zA C n N cls ops E F r (i+1) (es++[⟨o.dst,g,ex,bC (eI v)⟩]) k
        | none=>none
      | op=>match cf i C.O,ex with
        | true,some b=>bif b then Ch C none (n+64 * i) (N+512 * i) (yU cls ops E i [] es) (q8 C N cls ops F i [] es) op (fun u=>zA C n N cls ops E F r (i+1) (es++[⟨o.dst,[],none,u⟩]) k)
          else zA C n N cls ops E F r (i+1) (es++[⟨o.dst,g,ex,bC (eI false)⟩]) k
        | _,_=>Ch C ex (n+64 * i) (N+512 * i) (yU cls ops E i g es) (q8 C N cls ops F i g es) op (fun u=>zA C n N cls ops E F r (i+1) (es++[⟨o.dst,g,ex,u⟩]) k)
def vy (C:Cx) (P:Program) (n N:Nat) (cls:List (List Nat)) (ops:List Oper) (E:SE) (F:List AF) (o:Oper) (i:Nat) (es:List Ent) (e:Ent):Prop:=
  e.d=o.dst∧(Cs es o.guard=some (e.g,e.ex)∨((∃ g,Cs es o.guard=some (g,some true))∧e.g=[]∧e.ex=none)) ∧
  ((∃ c a b v,o.op = .pick c a b∧GU (cls.getD i []) e.g es c a b=some v∧e.u=bC (eI v)) ∨
   (gi e.ex→dJ P o (yU cls ops E i e.g es) (q8 C N cls ops F i e.g es) (n+64 * i) e.u))
theorem V5 {R:Type} {P:Program} {C:Cx} (hC:C.ok P) {n N:Nat} {cls:List (List Nat)} {ops:List Oper} {E:SE} {F:List AF} {k:List Ent→Option R} {r:R} :
    ∀ {l:List Oper} {i:Nat} {es:List Ent},zA C n N cls ops E F l i es k=some r→ops.drop i=l→es.length=i→(∀ j o e,ops[j]? = some o→es[j]? = some e→vy C P n N cls ops E F o j (es.take j) e) →
    ∃ es',k es' = some r∧es'.length=i+l.length∧∀ j o e,ops[j]? = some o→es'[j]? = some e→vy C P n N cls ops E F o j (es'.take j) e
  | [],i,es,h,hd,hl,hall=>⟨es,h,by simpa using hl,hall⟩
  | o::l,i,es,h,hd,hl,hall=>by
    simp only [zA] at h
    have ho:ops[i]? = some o:=by
      have:=XZ (·[0]?) hd
      grind
    have hd' : ops.drop (i+1)=l:=by
      have:=XZ (List.drop 1) hd
      simpa [aev] using this
    have next : ∀ {g:List (Nat×Bool)} {ex:Option Bool} {u:Out},(Cs es o.guard=some (g,ex)∨((∃ g,Cs es o.guard=some (g,some true))∧g=[]∧ex=none)) →
        ((∃ c a b v,o.op = .pick c a b∧GU (cls.getD i []) g es c a b=some v∧u=bC (eI v))∨(gi ex→dJ P o (yU cls ops E i g es) (q8 C N cls ops F i g es) (n+64 * i) u)) →
        zA C n N cls ops E F l (i+1) (es++[⟨o.dst,g,ex,u⟩]) k=some r →
        ∃ es',k es' = some r∧es'.length=i+(o::l).length∧∀ j o e,ops[j]? = some o→es'[j]? = some e→vy C P n N cls ops E F o j (es'.take j) e:=by
      intro g ex u hg hu hr
      obtain ⟨es',h1,h2,h3⟩:=V5 hC hr hd' (by simp [hl]) (fun j o' e hj he=>by
        by_cases hji:j<i
        · grind
        · have hlt:=(XW.1 he).1
          simp only [Wu,Wr] at hlt
          have hji' : j=i:=by omega
          subst hji'
          rw [aaW (by omega),show j - es.length=0 by omega] at he
          simp only [aaR,Wn] at he
          subst he
          rw [ho] at hj
          simp only [Wn] at hj
          subst hj
          rw [List.take_append_of_le_length (by omega),Yr (by omega)]
          exact ⟨rfl,hg,hu⟩)
      grind
    split at h
    · cases h
    · rename_i g ex hg
      split at h
      · rename_i c a b hop
        split at h
        · rename_i v hv
          exact next (.inl hg) (.inl ⟨c,a,b,v,hop,hv,rfl⟩) h
        · cases h
      · have norm:Ch C ex (n+64 * i) (N+512 * i) (yU cls ops E i g es) (q8 C N cls ops F i g es) o.op (fun u=>zA C n N cls ops E F l (i+1) (es++[⟨o.dst,g,ex,u⟩]) k)=some r →
            ∃ es',k es' = some r∧es'.length=i+(o::l).length∧∀ j o e,ops[j]? = some o→es'[j]? = some e→vy C P n N cls ops E F o j (es'.take j) e:=fun h' => by
          obtain ⟨u,hu,hs⟩:=Iz (P:=P) (o:=o) hC (ex:=ex) (n:=n+64 * i) (N:=N+512 * i) (E:=yU cls ops E i g es) (F:=q8 C N cls ops F i g es) (fun u=>zA C n N cls ops E F l (i+1) (es++[⟨o.dst,g,ex,u⟩]) k) r h'
          grind
        cases hm:cf i C.O
        · grind
        · rw [hm] at h
          cases ex with
          | none=>grind
          | some b=>
            simp only at h
            cases b with
            | true=>
              simp only [f9] at h
              obtain ⟨u,hu,hs⟩:=Iz (P:=P) (o:=o) hC (ex:=none) (n:=n+64 * i) (N:=N+512 * i) (E:=yU cls ops E i [] es) (F:=q8 C N cls ops F i [] es) (fun u=>zA C n N cls ops E F l (i+1) (es++[⟨o.dst,[],none,u⟩]) k) r (by assumption)
              exact next (.inr ⟨⟨g,hg⟩,rfl,rfl⟩) (.inr hs) hu
            | false=>
              simp only [no] at h
              exact next (.inl hg) (.inr fun hx=>by cases hx) h
def okN (n:Nat) (cl:List Nat) (m:Nat):Bool:=Nat.blt m n||cl.any fun i=>Nat.ble (n+64 * i) m&&Nat.blt m (n+64 * i+64)
def Lf.okN (n:Nat) (cl:List Nat) (l:Lf):Bool:=match l with
  | .sl h=>Go.Sm.okN n cl h
  | .rp h _ _ _ _=>Go.Sm.okN n cl h
  | .bp b _=>Go.Sm.okN n cl b
  | .bq b _ _ _ _=>Go.Sm.okN n cl b
  | .clo _ b=>Go.Sm.okN n cl b
  | .mp h=>Go.Sm.okN n cl h
  | _=>true
def DP (n:Nat) (cl:List Nat):List Lf→Bool
  | []=>true
  | l::r=>l.okN n cl&&DP n cl r
mutual
def AV.okN (n:Nat) (cl:List Nat):AV→Bool
  | .lf l=>l.okN n cl
  | .ag ls=>DP n cl ls
  | .tu vs=>AV.okNs n cl vs
def AV.okNs (n:Nat) (cl:List Nat):List AV→Bool
  | []=>true
  | v::r=>v.okN n cl&&AV.okNs n cl r
end
def AF.okN (n:Nat) (cl:List Nat):AF→Bool
  | .rep _ _ _ h=>Go.Sm.okN n cl h
  | .own _ _ _ _ _ h=>Go.Sm.okN n cl h
  | .box _ b cs=>Go.Sm.okN n cl b&&DP n cl cs
  | .isn h _=>Go.Sm.okN n cl h
  | .prt h' h _ _ _=>Go.Sm.okN n cl h' && Go.Sm.okN n cl h
  | .hol _ _ _ _ h _ cs=>Go.Sm.okN n cl h&&DP n cl cs
  | .mp _ _ _ _ h=>Go.Sm.okN n cl h
  | .pt _ _ _ _ _ h _=>Go.Sm.okN n cl h
theorem jg {m:Nat} (h:okN n cl m=true) (hi:i∉cl):bw (n+64 * i) m=true:=by
  simp only [okN,Ze] at h
  simp only [bw,Ze]
  rcases h with h | h
  · left
    have:m+1≤n:=Wt h
    exact Yb (by omega)
  · obtain ⟨j,hj,hb⟩:=Z0.1 h
    simp only [Wp] at hb
    have h1:=Wt hb.1
    have h2:m+1≤n+64 * j+64:=Wt hb.2
    have hne:i≠j:=fun e=>hi (e ▸ hj)
    rcases XJ i j with h3 | h3
    · right; exact Yb (by omega)
    · left; exact Yb (by omega)
theorem Lf.okN_free (hi:i∉cl):(l:Lf)→l.okN n cl=true→l.free (n+64 * i)=true
  | .sl _,h=>jg h hi
  | .rp _ _ _ _ _,h=>jg h hi
  | .bp _ _,h=>jg h hi
  | .bq _ _ _ _ _,h=>jg h hi
  | .clo _ _,h=>jg h hi
  | .mp _,h=>jg h hi
  | .gp _ _ _ _ _,_=>rfl
  | .ars _ _,_=>rfl
  | .c _ _,_=>rfl
  | .ar _ _ _,_=>rfl
  | .nl,_=>rfl
  | .xt _ _,_=>rfl
  | .fn _,_=>rfl
  | .v _,_=>rfl
theorem vu {n:Nat} {cl:List Nat} {i:Nat} (hi:i∉cl) : ∀ {ls:List Lf},DP n cl ls=true→tK (n+64 * i) ls=true
  | [],_=>rfl
  | l::r,h=>by
    simp only [DP,Wp] at h
    simp only [tK,l.okN_free hi h.1,vu hi h.2,acw]
mutual
theorem AV.okN_free {n:Nat} {cl:List Nat} {i:Nat} (hi:i∉cl):(v:AV)→v.okN n cl=true→v.free (n+64 * i)=true
  | .lf l,h=>by simp only [AV.free]; exact l.okN_free hi h
  | .ag ls,h=>by simp only [AV.free]; exact vu hi h
  | .tu vs,h=>by simp only [AV.free]; exact AV.okNs_free hi vs h
theorem AV.okNs_free {n:Nat} {cl:List Nat} {i:Nat} (hi:i∉cl):(vs:List AV)→AV.okNs n cl vs=true→AV.frees (n+64 * i) vs=true
  | [],_=>rfl
  | v::r,h=>by
    simp only [AV.okNs,Wp] at h
    simp only [AV.frees,AV.okN_free hi v h.1,AV.okNs_free hi r h.2,acw]
end
theorem AF.okN_free (hi:i∉cl):(f:AF)→f.okN n cl=true→f.free (n+64 * i)=true
  | .rep _ _ _ _,h=>jg h hi
  | .own _ _ _ _ _ _,h=>jg h hi
  | .box _ b cs,h=>by
    simp only [AF.okN,Wp] at h
    simp only [AF.free,jg h.1 hi,vu hi h.2,acw]
  | .isn _ _,h=>jg h hi
  | .mp _ _ _ _ _,h=>jg h hi
  | .pt _ _ _ _ _ _ _,h=>jg h hi
  | .prt _ _ _ _ _,h=>by
    simp only [AF.okN,Wp] at h
    simp only [AF.free,jg h.1 hi,jg h.2 hi,acw]
  | .hol _ _ _ _ _ _ _,h=>by
    simp only [AF.okN,Wp] at h
    simp only [AF.free,jg h.1 hi,vu hi h.2,acw]
def ajJ (C:Cx) (n N nt:Nat) (cls:List (List Nat)) (ops:List Oper) (es:List Ent) (i:Nat):Bool:=match ops[i]?,es[i]? with
  | some o,some e=>e.u.av.okN n (i::cls.getD i [])&&e.u.fs.all (AF.okN n (i::cls.getD i []))&&(e.u.κ.isEmpty||(wA C o&&e.u.κ.all (fun k=>Nat.ble 2 k)&&match e.ex with | none=>true | some _=>false)) &&
      (match e.d with | some d=>Nat.blt d nt | none=>true)&&(match C.K with | none=>true | some kd=>tO ops o||e.u.κ.all (fun k=>Nat.ble N k||cf k kd)||(List.range i).all (fun j=>!(oW cls i j)))&&(!(tO ops o)||e.u.κ.all (fun k=>Nat.ble N k)||(List.range i).all (fun j=>!(oW cls i j)))&&(match o.guard with | some (j,_)=>cf j (cls.getD i [])&&(match es[j]? with | some e' => e'.d.isSome | none=>false) | none=>true)
  | _,_=>false
def ui:List Nat→Bool
  | []=>true
  | a::r=>!(cf a r)&&ui r
def oD (n:Nat) (E:SE) (F:List AF):Bool:=E.all (fun p=>p.2.okN n [])&&F.all (AF.okN n [])
def uM (C:Cx) (n N nt:Nat) (draw:Bool) (cls:List (List Nat)) (ops:List Oper) (E:SE) (F:List AF) (es:List Ent):Bool:=
  (!draw||EH ops cls)&&cls.all (fun c=>c.all fun j=>Nat.blt j ops.length)&&ui (oY ops)&&oD n E F&&(List.range ops.length).all (ajJ C n N nt cls ops es)
end
section
variable [X:XTab] [G:GTab]
theorem pQ {E E' : SE} {v:AV} (h:bg (E++E') t=some v):bg E t=some v∨bg E' t=some v:=by
 induction E with
 | nil=>exact .inr h
 | cons p r ih=>
  simp only [Zr,bg] at h ⊢
  grind
theorem ql {E:SE} {v:AV} (h:bg E t=some v):(t,v)∈E:=by
 induction E with
 | nil=>simp [bg] at h
 | cons p r ih=>
  simp only [bg] at h
  cases hb:Nat.beq t p.1
  ·grind
  ·rw [hb] at h
   simp only [f9,Wn] at h
   rw [Wo hb,← h]
   grind
theorem Bc {cl:List Nat} {g:List (Nat×Bool)} {d:Nat} {v:AV} : ∀ {es:List Ent} {j0:Nat},(d,v)∈x8 cl g es j0→∃ j e,es[j]? = some e∧e.d=some d∧v=e.u.av∧cf (j0+j) cl=true∧ol e.g g=true
 | [],_,h=>by simp [x8] at h
 | e::r,j0,h=>by
  have again:(d,v)∈x8 cl g r (j0+1)→∃ j e',(e::r)[j]? = some e' ∧ e'.d=some d∧v=e'.u.av∧cf (j0+j) cl=true∧ol e'.g g=true:=fun h=>by
   obtain ⟨j,e',h1,h2,h3,h4,h5⟩:=Bc h
   exact ⟨j+1,e',by simpa using h1,h2,h3,by grind,h5⟩
  simp only [x8] at h
  split at h
  ·rename_i d' hd
   cases hb:(cf j0 cl&&ol e.g g)
   ·grind
   ·rw [hb] at h
    simp only [f9] at h
    rcases Xb.1 h with h | h
    ·simp only [W5] at h
     obtain ⟨rfl,rfl⟩:=h
     simp only [Wp] at hb
     exact ⟨0,e,rfl,hd,rfl,hb.1,hb.2⟩
    grind
  grind
theorem vS {cls:List (List Nat)} {i:Nat} {clj:List Nat} {j:Nat} {f:AF} : ∀ {es:List Ent} {m0:Nat},qT cls i clj j f es m0=false→∀ {m:Nat} {e:Ent},es[m]? = some e→oW cls (m0+m) i=true→m0+m≠j→cf (m0+m) clj=false→ky e.u.κ f=false
 | [],_,_,m,e,he,_,_,_=>by simp at he
 | e' :: r,m0,h,0,e,he,hm,hj,hc=>by
  simp at he; subst he
  simp only [qT,Zp] at h
  rw [Yk] at hm hj hc
  have hb:Nat.beq m0 j=false:=by
   cases hb:Nat.beq m0 j
   ·rfl
   simp_all
  have h1:=h.1
  rw [hm,hb,hc] at h1
  cases hk:e'.u.κ with
  | nil=>simp [ky]
  | cons a l=>grind
 | e' :: r,m0,h,m+1,e,he,hm,hj,hc=>by
  simp only [qT,Zp] at h
  simp at he
  rw [show m0+(m+1)=m0+1+m by omega] at hm hj hc
  exact vS h.2 he hm hj hc
theorem BQ {cls:List (List Nat)} {i:Nat} {cl:List Nat} {g:List (Nat×Bool)} {all:List Ent} {f:AF} : ∀ {es:List Ent} {j0:Nat},f∈BN cls i cl g all es j0 →
  ∃ j e,es[j]? = some e∧f∈e.u.fs∧cf (j0+j) cl=true∧ol e.g g=true∧qT cls i (cls.getD (j0+j) []) (j0+j) f all 0=false
 | [],_,h=>by simp [BN] at h
 | e::r,j0,h=>by
  simp only [BN,Xd] at h
  rcases h with h | h
  ·cases hb:(cf j0 cl&&ol e.g g)
   ·grind
   ·rw [hb] at h
    simp only [f9,ZP,YW] at h
    simp only [Wp] at hb
    exact ⟨0,e,rfl,h.1,hb.1,hb.2,h.2⟩
  ·obtain ⟨j,e',h1,h2,h3,h4,h5⟩:=BQ h
   exact ⟨j+1,e',by simpa using h1,h2,by grind,h4,by grind⟩
theorem CA {ds:List Nat} {E:SE} {v:AV} (h:bg (oC ds E) t=some v):bg E t=some v∧cf t ds=false:=by
 induction E with
 | nil=>simp [oC,bg] at h
 | cons p r ih=>
  simp only [oC] at h
  cases hb:cf p.1 ds
  ·rw [hb] at h
   simp only [no,bg] at h ⊢
   cases ht:Nat.beq t p.1
   ·grind
   simp_all
  ·rw [hb] at h
   simp only [f9] at h
   have:=ih h
   refine ⟨?_,this.2⟩
   simp only [bg]
   cases ht:Nat.beq t p.1
   ·exact this.1
   simp_all
def chT (es:List Ent) (g:List (Nat×Bool)):Prop:=∀ p∈g,∃ e b,es[p.1]? = some e∧e.u.av=eI b∧b=p.2
theorem xq : ∀ {a b:List (Nat×Bool)},ol a b=true→∀ p∈a,p∈b
 | a,[],h=>by
  simp only [ol] at h
  rw [L4 h]; grind
 | a,q::r,h=>by
  simp only [ol,Ze] at h
  rcases h with h | h
  ·rw [L4 h]; grind
  ·exact fun p hp=>Wq _ (xq h p hp)
section
variable {C:Cx} {P:Program} {n N nt:Nat} {cls:List (List Nat)} {ops:List Oper} {E:SE} {F:List AF} {es:List Ent}
theorem Rp (hlen:es.length=ops.length) (hall : ∀ j o e,ops[j]? = some o→es[j]? = some e→vy C P n N cls ops E F o j (es.take j) e) : ∀ (i:Nat) (e:Ent),es[i]? = some e→(gi e.ex↔chT es e.g):=by
 intro i
 induction i using Nat.strongRecOn with
 | _ i ih=>
  intro e he
  have hi:=(XW.1 he).1
  have ho:ops[i]? = some (ops[i]'(by omega)):=YK _
  obtain ⟨_,hg,_⟩:=hall i _ e ho he
  rcases hg with hg | ⟨_,hg1,hg2⟩
  rotate_left
  ·rw [hg1,hg2]
   exact ⟨fun _ p hp=>by simp at hp,fun _=>trivial⟩
  unfold Cs at hg
  split at hg
  ·simp only [Wn,W5] at hg
   obtain ⟨h1,h2⟩:=hg
   rw [← h1,← h2]
   exact ⟨fun _ p hp=>by simp at hp,fun _=>trivial⟩
  ·rename_i j want _
   split at hg
   ·rename_i e' he'
    split at hg
    ·rename_i b hb
     simp only [Wn,W5] at hg
     obtain ⟨h1,h2⟩:=hg
     have hji:j<i:=by
      grind
     have hej:es[j]? = some e' := by
      grind
     have:=ih j hji e' hej
     rw [← h1,← h2]
     have hlit:((bif want then b else !b)=true)↔b=want:=by grind
     constructor
     ·intro hx p hp
      have hx' : Pi e'.ex=true∧(bif want then b else !b)=true:=by
       cases hee:e'.ex with
       | none=>rw [hee] at hx; exact ⟨rfl,hx⟩
       | some x=>rw [hee] at hx; simpa [gi,Pi] using hx
      rcases Xb.1 hp with rfl | hp
      ·grind
      ·exact this.1 (Do.2 hx'.1) p hp
     ·intro hc
      obtain ⟨e2,b2,h3,h4,h5⟩:=hc (j,want) W7
      rw [hej] at h3
      simp only [Wn] at h3
      subst h3
      rw [hb] at h4
      have hbb:b=b2:=by grind
      have hex:=Do.1 (this.2 fun p hp=>hc p (Wq _ hp))
      have hl:=hlit.2 (hbb.trans h5)
      cases hee:e'.ex with
      | none=>exact hl
      | some x=>rw [hee] at hex; simp only [Pi] at hex; show (x&&_)=true; grind
    ·cases hg
   ·cases hg
theorem G8 {es:List Ent} {e e' : Ent} (h1:gi e.ex↔chT es e.g) (h2:gi e'.ex↔chT es e'.g) (hs:ol e'.g e.g=true) (hx:gi e.ex):gi e'.ex:=
 h2.2 fun p hp=>h1.1 hx p (xq hs p hp)
def RJ (B nt:Nat) (cls:List (List Nat)) (ops:List Oper) (E:SE) (F:List AF) (es:List Ent) (L0:List HA) (β:Vn) (listed:Nat→Bool) (a:Act) (w:World):Prop:=
 ∃ (η:Vn) (c:bD) (ρ:dm),Rel nt ρ a∧(∀ t v,bg E t=some v→(∀ m o,ops[m]? = some o→listed m=true→o.dst≠some t)→ρ t=v.val η) ∧
  (∀ j e,es[j]? = some e→listed j=true→∀ d,e.d=some d→(gi e.ex→ρ d=e.u.av.val η)∧(¬ gi e.ex→ρ d=undef)) ∧
  (∀ f∈F,(∀ m e,es[m]? = some e→listed m=true→gi e.ex→ky e.u.κ f=false)→(f.ha η).holds w c) ∧
  ((∀ A∈L0,A.holds w c)∧∀ m,m<B→η.b m=β.b m∧η.h m=β.h m) ∧
  (∀ j e,es[j]? = some e→listed j=true→gi e.ex→∀ f∈e.u.fs,(∀ m e',es[m]? = some e' → listed m=true→gi e'.ex→m≠j→cf m (cls.getD j [])=false→ky e'.u.κ f=false)→(f.ha η).holds w c)
theorem tT {κ:List Nat} {f:AF} (h:ky κ f=false) : ∀ k∈f.uses,k∉κ:=by
 intro k hk hκ
 have:=afW.1 h k hκ
 exact this (mem_iff.2 hk)
theorem DY {d:Nat} (ho:ops[i]? = some o) (hd:o.dst=some d):d∈oY ops:=
 List.mem_filterMap.2 ⟨o,af9 ho,hd⟩
theorem Jb : ∀ {l:List Oper} {i j:Nat} {o o' : Oper} {d d' : Nat},ui (oY l)=true→l[i]? = some o→l[j]? = some o' → o.dst=some d→o'.dst=some d' → i≠j→d≠d'
 | [],_,_,_,_,_,_,_,h,_,_,_,_=>by simp at h
 | q::l,0,0,_,_,_,_,_,_,_,_,_,hne=>absurd rfl hne
 | q::l,0,j+1,o,o',d,d',h,ho,ho',hd,hd',_=>by
  simp at ho ho'; subst ho
  have:oY (q::l)=d::oY l:=by simp [oY,hd]
  rw [this] at h
  simp only [ui,Wp,YW] at h
  intro e
  have:=DY ho' hd'
  rw [← e] at this
  rw [mem_iff.2 this] at h
  cases h.1
 | q::l,i+1,0,o,o',d,d',h,ho,ho',hd,hd',_=>by
  simp at ho ho'; subst ho'
  have:oY (q::l)=d' :: oY l:=by simp [oY,hd']
  rw [this] at h
  simp only [ui,Wp,YW] at h
  intro e
  have:=DY ho hd
  rw [e] at this
  rw [mem_iff.2 this] at h
  cases h.1
 | q::l,i+1,j+1,o,o',d,d',h,ho,ho',hd,hd',hne=>by
  simp at ho ho'
  refine Jb (l:=l) ?_ ho ho' hd hd' (by omega)
  cases hq:q.dst with
  | none=>simpa [oY,hq] using h
  | some dq=>
   have:oY (q::l)=dq::oY l:=by simp [oY,hq]
   rw [this] at h
   simp only [ui,Wp] at h
   exact h.2
theorem oX (h:uM C n N nt draw cls ops E F es=true)   {e:Ent} (ho:ops[i]? = some o) (he:es[i]? = some e) :
  e.u.av.okN n (i::cls.getD i [])=true∧(∀ f∈e.u.fs,f.okN n (i::cls.getD i [])=true)∧(e.u.κ=[]∨(wA C o=true∧(∀ k∈e.u.κ,2≤k)∧e.ex=none))∧(∀ d,e.d=some d→Nat.blt d nt=true) ∧
  (∀ j w,o.guard=some (j,w)→cf j (cls.getD i [])=true∧∃ e' d,es[j]? = some e' ∧ e'.d=some d)∧(tO ops o=true→(∃ j,j<i∧oW cls i j=true)→∀ k∈e.u.κ,N≤k)∧(∀ kd,C.K=some kd→tO ops o=false→(∃ j,j<i∧oW cls i j=true)→∀ k∈e.u.κ,N≤k∨k∈kd):=by
 simp only [uM,Wp] at h
 have hi:=(XW.1 ho).1
 have h1:=W3.1 h.2 i (aaB.2 hi)
 simp only [ajJ,ho,he,Wp] at h1
 obtain ⟨⟨⟨⟨⟨⟨a1,a2⟩,a3⟩,a4⟩,a8⟩,a6⟩,a5⟩:=h1
 refine ⟨a1,W3.1 a2,?_,?_,?_,(fun hs hj k hk=>by
  obtain ⟨j,hj1,hj2⟩:=hj
  rw [hs] at a6
  simp only [XO,aeF,Ze] at a6
  rcases a6 with a6 | a6
  ·simp_all
  grind),(fun kd hK hs hj k hk=>by
  obtain ⟨j,hj1,hj2⟩:=hj
  rw [hK] at a8
  simp only [hs,aeF,Ze] at a8
  rcases a8 with a8 | a8
  ·have:=W3.1 a8 k hk
   simp only [Ze] at this
   exact this.imp Wt mem_iff.1
  grind)⟩
 ·simp only [Ze,Wp] at a3
  rcases a3 with a3 | ⟨⟨a3,a6⟩,a7⟩
  ·grind
  ·refine .inr ⟨a3,fun k hk=>Wt (W3.1 a6 k hk),?_⟩
   grind
 ·grind
 ·intro j w hg
  rw [hg] at a5
  simp only [Wp] at a5
  refine ⟨a5.1,?_⟩
  have a6:=a5.2
  split at a6
  ·rename_i e' he'
   obtain ⟨d,hd⟩:=aez.1 a6
   grind
  ·cases a6
theorem EV {cls:List (List Nat)} {i:Nat} {d:Nat} : ∀ {l:List Oper} {m0 m:Nat} {o:Oper},l[m]? = some o→o.dst=some d→oW cls (m0+m) i=true→d∈w9 cls i l m0
 | [],_,_,_,h,_,_=>by simp at h
 | q::l,m0,0,o,h,hd,hm=>by
  simp at h; subst h
  rw [Yk] at hm
  simp [w9,hd,hm]
 | q::l,m0,m+1,o,h,hd,hm=>by
  simp at h
  have:=EV (m0:=m0+1) h hd (by rwa [show m0+1+m=m0+(m+1) by omega])
  simp only [w9]
  grind
theorem Oa {cls:List (List Nat)} {i:Nat} {ops:List Oper} : ∀ {l:List Oper} {m0:Nat},sf C cls ops i l m0=false→∀ {m:Nat} {o:Oper},l[m]? = some o→i<m0+m→oW cls (m0+m) i=true→wA C o=true→tO ops o=true
 | [],_,_,m,o,h,_,_=>by simp at h
 | q::r,m0,h,0,o,ho,hi,hm=>by
  simp at ho; subst ho
  simp only [sf,Zp] at h
  simp_all
 | q::r,m0,h,m+1,o,ho,hi,hm=>by
  simp only [sf,Zp] at h
  simp at ho
  rw [show m0+(m+1)=m0+1+m by omega] at hi hm
  exact Oa h.2 ho hi hm
theorem KU {cls:List (List Nat)} {i:Nat} {ops:List Oper} : ∀ {l:List Oper} {m0:Nat},vr C cls ops i l m0=false→∀ {m:Nat} {o:Oper},l[m]? = some o→i<m0+m→oW cls (m0+m) i=true→wA C o=true→tO ops o=false
 | [],_,_,m,o,h,_,_=>by simp at h
 | q::r,m0,h,0,o,ho,hi,hm=>by
  simp at ho; subst ho
  simp only [vr,Zp] at h
  simp_all
 | q::r,m0,h,m+1,o,ho,hi,hm=>by
  simp only [vr,Zp] at h
  simp at ho
  rw [show m0+(m+1)=m0+1+m by omega] at hi hm
  exact KU h.2 ho hi hm
theorem WM (hb:uM C n N nt draw cls ops E F es=true) (hlen:es.length=ops.length) (hall : ∀ j o e,ops[j]? = some o→es[j]? = some e→vy C P n N cls ops E F o j (es.take j) e)
    {e:Ent} (he:es[i]? = some e) (hx:gi e.ex) (hf:listed i=false) (hcl : ∀ j,cf j (cls.getD i [])=true→listed j=true)
  (hun : ∀ m,m<ops.length→listed m=true→cf i (cls.getD m [])=false) {η:Vn} {ρ:dm}  {c:bD}
  (hE : ∀ t v,bg E t=some v→(∀ m o,ops[m]? = some o→listed m=true→o.dst≠some t)→ρ t=v.val η)
  (hV : ∀ j e,es[j]? = some e→listed j=true→∀ d,e.d=some d→(gi e.ex→ρ d=e.u.av.val η)∧(¬ gi e.ex→ρ d=undef))
  (hB : ∀ f∈F,(∀ m e,es[m]? = some e→listed m=true→gi e.ex→ky e.u.κ f=false)→(f.ha η).holds w c)
  (hR : ∀ j e,es[j]? = some e→listed j=true→gi e.ex→∀ f∈e.u.fs,(∀ m e',es[m]? = some e' → listed m=true→gi e'.ex→m≠j→cf m (cls.getD j [])=false→ky e'.u.κ f=false)→(f.ha η).holds w c) :
  nA η ρ (yU cls ops E i e.g (es.take i))∧am w c ((q8 C N cls ops F i e.g (es.take i)).map (AF.ha η)):=by
 have hch:=Rp hlen hall
 have take_get : ∀ {j:Nat} {e' : Ent},(es.take i)[j]? = some e' → es[j]? = some e' ∧ j<i:=fun {j e'} h=>by
  grind
 have nohit : ∀ (f:AF) (clj:List Nat) (j:Nat),qT cls i clj j f (es.take i) 0=false→(sf C cls ops i ops 0=true→Hs C.K N f=true)→(sf C cls ops i ops 0=false→vr C cls ops i ops 0=true→CJ N f=true)→∀ m e',es[m]? = some e' → listed m=true→m≠j→cf m clj=false→ky e'.u.κ f=false:=by
  intro f clj j hh hsafe hbel m e' hm hl hj hc
  have hml:m<ops.length:=by grind
  have hom:ops[m]? = some ops[m]:=YK hml
  have hmi:m≠i:=fun e=>by grind
  have hmay:oW cls m i=true:=by
   have h1:Nat.beq m i=false:=by
    cases hb:Nat.beq m i
    ·rfl
    ·exact absurd (Wo hb) hmi
   simp only [oW,h1,hun m hml hl,Xo,acw]
  rcases XJ m i with h | h
  ·have h2:(es.take i)[m]? = some e' := by grind
   have:=vS hh h2 (by grind) (by grind) (by grind)
   exact this
  ·rcases (oX hb hom hm).2.2.1 with hk | ⟨hk,h2,_⟩
   ·rw [hk]; rfl
   ·cases hlt:sf C cls ops i ops 0
    ·have hsoft:=Oa hlt hom (by omega) (by grind) hk
     cases hls:vr C cls ops i ops 0
     ·have:=KU hls hom (by omega) (by grind) hk
      grind
     ·have hs:=hbel hlt hls
      have h3:=(oX hb hom hm).2.2.2.2.2.1 hsoft ⟨i,by omega,hmay⟩
      refine afW.2 fun k hk' hm' => ?_
      have h4:k+1≤N:=Wt (W3.1 hs k (mem_iff.1 hm'))
      grind
    ·have hs:=hsafe hlt
     refine afW.2 fun k hk' hm' => ?_
     cases hK:C.K with
     | none=>
      rw [hK] at hs
      have:=W3.1 (show acn f=true from hs) k (mem_iff.1 hm')
      have:=Wt this
      grind
     | some kd=>
      rw [hK] at hs
      simp only [Hs,Wp,YW] at hs
      have h4:k+1≤N:=Wt (W3.1 hs.1 k (mem_iff.1 hm'))
      cases hsoft:tO ops ops[m]
      ·rcases (oX hb hom hm).2.2.2.2.2.2 kd hK hsoft ⟨i,by omega,hmay⟩ k hk' with h5 | h5
       ·omega
       ·have:=afW.1 hs.2 k h5
        exact this hm'
      ·have h3:=(oX hb hom hm).2.2.2.2.2.1 hsoft ⟨i,by omega,hmay⟩ k hk'
       omega
 constructor
 ·intro t v hl
  rcases pQ hl with h | h
  ·obtain ⟨j,e',h1,h2,rfl,h4,h5⟩:=Bc (ql h)
   rw [afu] at h4
   obtain ⟨h1',_⟩:=take_get h1
   exact (hV j e' h1' (hcl j h4) t h2).1 (G8 (hch i e he) (hch j e' h1') h5 hx)
  ·have h:=CA h
   refine hE t v h.1 fun m o hom hlm hdm=>?_
   have hml:=(XW.1 hom).1
   have hmi:m≠i:=fun e=>by grind
   have h1:Nat.beq m i=false:=by
    cases hb:Nat.beq m i
    ·rfl
    ·exact absurd (Wo hb) hmi
   have:=EV (cls:=cls) (i:=i) (m0:=0) hom hdm (by rw [afu]; simp only [oW,h1,hun m hml hlm,Xo,acw])
   rw [mem_iff.2 this] at h
   cases h.2
 ·intro A hA
  obtain ⟨f,hfm,rfl⟩:=W6.1 hA
  have hmem:f∈BN cls i (cls.getD i []) e.g (es.take i) (es.take i) 0++F.filter (fun f=>!(qT cls i [] ops.length f (es.take i) 0))∧(sf C cls ops i ops 0=true→Hs C.K N f=true)∧(sf C cls ops i ops 0=false→vr C cls ops i ops 0=true→CJ N f=true):=by
   unfold q8 at hfm
   grind
  obtain ⟨hmem,hsafe,hbel⟩:=hmem
  rcases Xd.1 hmem with h | h
  ·obtain ⟨j,e',h1,h2,h4,h5,h6⟩:=BQ h
   rw [afu] at h4 h6
   obtain ⟨h1',_⟩:=take_get h1
   exact hR j e' h1' (hcl j h4) (G8 (hch i e he) (hch j e' h1') h5 hx) f h2 fun m e2 hm hl _ hj hc=>nohit f _ j h6 hsafe hbel m e2 hm hl hj hc
  ·simp only [ZP,YW] at h
   exact hB f h.1 fun m e2 hm hl _=>nohit f [] ops.length h.2 hsafe hbel m e2 hm hl (by grind) rfl
end
end
section
variable [X:XTab] [G:GTab]
def alq (A:HA):Prop:=∀ k∈A.uses,k<2
structure L0ok (L0:List HA):Prop where
  old : ∀ A∈L0,alq A
  gl : ∀ A∈ov,A∈L0
section
variable {C:Cx} {P:Program} {B n N nt:Nat} {cls:List (List Nat)} {ops:List Oper} {E:SE} {F:List AF} {es:List Ent} {Q:Exit→Act→World→Prop} {L0:List HA} {β:Vn}
def qq (listed:Nat→Bool) (i:Nat):Nat→Bool:=fun j=>Nat.beq j i||listed j
theorem Et {j:Nat} (h:j≠i):qq listed i j=listed j:=by
  have:Nat.beq j i=false:=by
    cases hb:Nat.beq j i
    · rfl
    simp_all
  simp [qq,this]
theorem ae2 (h:oD n E F=true) {v:AV} (hl:bg E t=some v) (i:Nat):v.free (n+64 * i)=true:=by
  simp only [oD,Wp] at h
  have:=W3.1 h.1 _ (ql hl)
  exact v.okN_free (cl:=[]) (by simp) this
theorem Ke (h64:B≤n) (hb:uM C n N nt draw cls ops E F es=true) (hlen:es.length=ops.length) (hall : ∀ j o e,ops[j]? = some o→es[j]? = some e→vy C P n N cls ops E F o j (es.take j) e) (hL0:L0ok L0)
       (ho:ops[i]? = some o) (hf:listed i=false) (hcl : ∀ j,cf j (cls.getD i [])=true→listed j=true)
    (hun : ∀ m,m<ops.length→listed m=true→cf i (cls.getD m [])=false) {a:Act}  (hJ:RJ B nt cls ops E F es L0 β listed a w) :
    wpOp P ops.toArray Q i (RJ B nt cls ops E F es L0 β (qq listed i)) a w:=by
  obtain ⟨η,c,ρ,ha,hE,hV,hB,hL,hR⟩:=hJ
  have hi:=(XW.1 ho).1
  have he:es[i]? = some (es[i]'(by omega)):=YK _
  generalize hee:es[i]'(by omega)=e at he
  obtain ⟨hd,hg,hsem⟩:=hall i o e ho he
  obtain ⟨b1,b2,b3,b4,b5,_⟩:=oX hb ho he
  have hbase:oD n E F=true:=by simp only [uM,Wp] at hb; exact hb.1.2
  have hnd:ui (oY ops)=true:=by simp only [uM,Wp] at hb; exact hb.1.1.2
  have next : ∀ (v:Value) (η' : Vn) (w' : World) (c' : bD),η.agr (n+64 * i) η' → Stp e.u.κ w c w' c' → (e.u.κ=[]∨gi e.ex)→((gi e.ex→v=e.u.av.val η' ∧ ∀ f∈e.u.fs,(f.ha η').holds w' c')∧(¬ gi e.ex→v=undef)) →
      RJ B nt cls ops E F es L0 β (qq listed i) (a.put o.dst v) w' := by
    intro v η' w' c' hagr hst hκ hv
    refine ⟨η',c',(match o.dst with | some d=>yf ρ d v | none=>ρ),?_,?_,?_,?_,?_,?_⟩
    · cases hod:o.dst with
      | none=>exact ha
      | some d=>exact ha.put (b4 d (by rw [hd,hod])) v
    · intro t u hl hno
      rw [AV.val_agr hagr u (ae2 hbase hl i)]
      have hold:=hE t u hl fun m o' hm hlm=>hno m o' hm (by simp [qq,hlm])
      cases hod:o.dst with
      | none=>exact hold
      | some d=>
        have hne:Nat.beq t d=false:=by
          cases hbb:Nat.beq t d
          · rfl
          · exact absurd (by rw [hod,Wo hbb]) (hno i o ho (by simp [qq]))
        simp only [yf,hne,no]
        exact hold
    · intro j e' hj hlj d' hd'
      by_cases hji:j=i
      · subst hji
        rw [he] at hj
        simp only [Wn] at hj
        subst hj
        rw [hd] at hd'
        rw [hd']
        have:yf ρ d' v d' = v:=by simp [yf]
        grind
      · rw [Et hji] at hlj
        have hjl:j<ops.length:=by grind
        have hoj:ops[j]? = some ops[j]:=YK hjl
        obtain ⟨hdj,_,_⟩:=hall j _ e' hoj hj
        have hfree:e'.u.av.free (n+64 * i)=true:=e'.u.av.okN_free (by
          intro hm
          rcases Xb.1 hm with hm | hm
          · grind
          · have:=hun j hjl hlj
            rw [mem_iff.2 hm] at this; cases this) (oX hb hoj hj).1
        rw [AV.val_agr hagr _ hfree]
        have hold:=hV j e' hj hlj d' hd'
        cases hod:o.dst with
        | none=>exact hold
        | some d=>
          have hne:Nat.beq d' d=false:=by
            cases hbb:Nat.beq d' d
            · rfl
            · exact absurd (Wo hbb) (Jb hnd hoj ho (by grind) hod hji)
          simp only [yf,hne,no]
          exact hold
    · intro f hfF hno
      have hfree:f.free (n+64 * i)=true:=by
        simp only [oD,Wp] at hbase
        exact f.okN_free (cl:=[]) (by simp) (W3.1 hbase.2 f hfF)
      rw [AF.ha_agr hagr f hfree]
      refine HA.stp hst _ (fun k hk=>?_) (hB f hfF fun m e' hm hl hx=>hno m e' hm (by simp [qq,hl]) hx)
      rw [AF.ha_uses] at hk
      rcases hκ with hκ | hκ
      · rw [hκ]; simp
      · exact tT (hno i e he (by simp [qq]) hκ) k hk
    · refine ⟨fun A hA=>?_,fun m hm=>?_⟩
      rotate_left
      · have hz:=hagr m (by simp only [bw,Ze]; exact .inl (Yb (by omega)))
        grind
      refine HA.stp hst A (fun k hk=>?_) (hL.1 A hA)
      have h2:=hL0.old A hA k hk
      grind
    · intro j e' hj hlj hx f hf' hno
      by_cases hji:j=i
      · grind
      · rw [Et hji] at hlj
        have hjl:j<ops.length:=by grind
        have hoj:ops[j]? = some ops[j]:=YK hjl
        have hnm:cf i (cls.getD j [])=false:=hun j hjl hlj
        have hfree:f.free (n+64 * i)=true:=f.okN_free (by
          intro hm
          rcases Xb.1 hm with hm | hm
          · grind
          · rw [mem_iff.2 hm] at hnm; cases hnm) ((oX hb hoj hj).2.1 f hf')
        rw [AF.ha_agr hagr f hfree]
        refine HA.stp hst _ (fun k hk=>?_) (hR j e' hj hlj hx f hf' fun m e2 hm hl hx2 hmj hmc=>hno m e2 hm (by simp [qq,hl]) hx2 hmj hmc)
        rw [AF.ha_uses] at hk
        rcases hκ with hκ | hκ
        · rw [hκ]; simp
        · exact tT (hno i e he (by simp [qq]) hκ (agN hji) hnm) k hk
  have run:gi e.ex→o.wp P a w (RJ B nt cls ops E F es L0 β (qq listed i)) Q:=by
    intro hx
    obtain ⟨hpE,hpF⟩:=WM hb hlen hall he hx hf hcl hun hE hV hB hR
    unfold Oper.wp
    rw [ha.eval]
    rcases hsem with ⟨cc,aa,bb,v,hop,hpk,hu⟩ | hsem
    ·
      have hv:br P ρ o [] (.bool v):=by
        unfold GU at hpk
        split at hpk
        · rename_i t
          split at hpk
          · rename_i jc ec hfc
            have find_get : ∀ {t:Nat} {l:List Ent} {j0 j:Nat} {e:Ent},ve t l j0=some (j,e)→j0≤j∧l[j - j0]? = some e∧e.d=some t:=by
              intro t l
              induction l with
              | nil=>intro j0 j e h; simp [ve] at h
              | cons q r ih=>
                intro j0 j e h
                simp only [ve] at h
                have tail:ve t r (j0+1)=some (j,e)→j0≤j∧(q::r)[j - j0]? = some e∧e.d=some t:=fun h=>by
                  obtain ⟨h1,h2,h3⟩:=ih h
                  refine ⟨by omega,?_,h3⟩
                  rw [show j - j0=(j - (j0+1))+1 by omega]
                  simpa using h2
                split at h
                · rename_i d hdq
                  cases hbb:Nat.beq t d
                  · grind
                  · rw [hbb] at h
                    simp only [f9,Wn,W5] at h
                    obtain ⟨rfl,rfl⟩:=h
                    exact ⟨Xw _,by simp,by rw [hdq,Wo hbb]⟩
                grind
            have take_get : ∀ {j:Nat} {e' : Ent},(es.take i)[j]? = some e' → es[j]? = some e' := fun {j e'} h=>by
              grind
            have hch:=Rp hlen hall
            cases hmb:(cf jc (cls.getD i [])&&ol ec.g e.g)
            · grind
            · rw [hmb] at hpk
              simp only [f9] at hpk
              simp only [Wp] at hmb
              split at hpk
              · rename_i x p q hxv hp hq
                simp only [Wn] at hpk
                subst hpk
                obtain ⟨_,hgc,hdc⟩:=find_get hfc
                have hgc:=take_get hgc
                rw [Nat.sub_zero] at hgc
                have hxc:=G8 (hch i e he) (hch jc ec hgc) hmb.2 hx
                have hcv:ρ t = .bool x:=by
                  rw [(hV jc ec hgc (hcl jc hmb.1) t hdc).1 hxc,hxv]; rfl
                have branch : ∀ {side:Bool} {y:Operand} {p:Bool},GC (cls.getD i []) e.g (es.take i) jc side y=some p→x=side→aR ρ y = .bool p:=by
                  intro side y p hp hs
                  unfold GC at hp
                  split at hp
                  · simp only [Wn] at hp; subst hp; rfl
                  · rename_i t'
                    split at hp
                    · rename_i j ej hfj
                      cases hmb' : (cf j (cls.getD i [])&&(ol ej.g e.g||Sz ej.g jc side e.g))
                      · grind
                      · rw [hmb'] at hp
                        simp only [f9] at hp
                        simp only [Wp,Ze] at hmb'
                        obtain ⟨_,hgj,hdj⟩:=find_get hfj
                        have hgj:=take_get hgj
                        rw [Nat.sub_zero] at hgj
                        have hxj:gi ej.ex:=by
                          rcases hmb'.2 with h | h
                          · exact G8 (hch i e he) (hch j ej hgj) h hx
                          · refine (hch j ej hgj).2 fun pr hpr=>?_
                            unfold Sz at h
                            split at h
                            · rename_i j' s g' hgg
                              simp only [Wp,abd] at h
                              obtain ⟨⟨h1,h2⟩,h3⟩:=h
                              rw [hgg] at hpr
                              rcases Xb.1 hpr with rfl | hpr
                              · obtain rfl:=Wo h1
                                grind
                              · exact (hch i e he).1 hx pr (xq h3 pr hpr)
                            · cases h
                        split at hp
                        · rename_i b' hbv
                          simp only [Wn] at hp
                          subst hp
                          show ρ t' = .bool b'
                          rw [(hV j ej hgj (hcl j hmb'.1) t' hdj).1 hxj,hbv]; rfl
                        · cases hp
                    · cases hp
                  · cases hp
                exact ahx hop hcv (fun hxt=>branch hp hxt) (fun hxf=>branch hq hxf)
              · cases hpk
          · cases hpk
        · cases hpk
      rw [hv _ w c rfl (am.nil _ _)]
      refine next (.bool v) η w c (Vn.agr_refl _ η) ?_ (.inr hx) ⟨fun _=>⟨by rw [hu]; rfl,fun f hf' => by grind⟩,fun h=>absurd hx h⟩
      rw [hu]; exact Stp.refl w c
    · exact hsem hx η ρ hpE a _ w c _ Q rfl (am.append hpF fun A hA=>hL.1 A (hL0.gl A hA)) fun y w' c' hst hF=>next _ y.1 w' c' y.2 hst (.inr hx) ⟨fun _=>⟨rfl,fun f hf' => hF _ (W6.2 ⟨f,hf',rfl⟩)⟩,fun h=>absurd hx h⟩
  have skip : ¬ gi e.ex→RJ B nt cls ops E F es L0 β (qq listed i) (a.put o.dst undef) w:=by
    intro hx
    have hκ:e.u.κ=[]:=by
      rcases b3 with h | ⟨_,_,h⟩
      · exact h
      · exfalso
        rw [h] at hx
        exact hx trivial
    exact next undef η w c (Vn.agr_refl _ η) (by rw [hκ]; exact Stp.refl w c) (.inl hκ) ⟨fun h=>absurd h hx,fun _=>rfl⟩
  unfold wpOp
  rw [show ops.toArray[i]? = some o by simpa using ho]
  simp only
  have hw:Region.wanted o (yielded ops.toArray a.tmps)=true↔gi e.ex:=by
    have key : ∀ {g0:List (Nat×Bool)} {ex0:Option Bool},Cs (es.take i) o.guard=some (g0,ex0)→(Region.wanted o (yielded ops.toArray a.tmps)=true↔gi ex0):=by
     intro g0 ex0 hg
     cases hgo:o.guard with
     | none=>
       rw [hgo] at hg
       simp only [Cs,Wn,W5] at hg
       rw [← hg.2]
       simp [Region.wanted,hgo,gi]
     | some jw=>
       obtain ⟨j,want⟩:=jw
       obtain ⟨hjc,ej,dj,hej,hdj⟩:=b5 j want hgo
       rw [hgo] at hg
       unfold Cs at hg
       simp only at hg
       split at hg
       · rename_i e' he'
         have hej' : es[j]? = some e' := by
           grind
         rw [hej] at hej'
         simp only [Wn] at hej'
         subst hej'
         split at hg
         · rename_i bv hbv
           simp only [Wn,W5] at hg
           obtain ⟨_,hex⟩:=hg
           have hjl:j<ops.length:=by grind
           have hoj:ops[j]? = some ops[j]:=YK hjl
           obtain ⟨hdo,_,_⟩:=hall j _ ej hoj hej
           have hy:=UU (n:=nt) ha hoj (by grind) ((oX hb hoj hej).2.2.2.1 dj hdj)
           have hv:=hV j ej hej (hcl j hjc) dj hdj
           simp only [Region.wanted,hgo,hy]
           rw [← hex]
           by_cases hxe:gi ej.ex
           · rw [hv.1 hxe,hbv]
             have h1:=Do.1 hxe
             simp only [eI,AV.val,Lf.val]
             cases hee2:ej.ex with
             | none=>cases want <;> cases bv <;> simp [gi]
             | some x=>
               rw [hee2] at h1
               simp only [Pi] at h1
               subst h1
               cases want <;> cases bv <;> simp [gi]
           · rw [hv.2 hxe]
             cases hee2:ej.ex with
             | none=>rw [hee2] at hxe; exact absurd trivial hxe
             | some x=>
               rw [hee2] at hxe
               have hxf:x=false:=by cases x <;> simp_all [gi]
               subst hxf
               rfl
         · cases hg
       · cases hg
    rcases hg with hg | ⟨⟨g0,hg⟩,_,hg2⟩
    · exact key hg
    · rw [hg2]
      exact ⟨fun _=>trivial,fun _=>(key hg).2 rfl⟩
  grind
end
end
section
variable [X:XTab] [G:GTab]
structure SS where
 E:SE
 F:List AF
 nn:Nat
 nc:Nat
 d:List Nat
def live (d:List Nat) (KF:List AF):List AF:=KF.filter fun f=>!(ky d f)
theorem B0 (KF:List AF):live [] KF=KF:=by
 unfold live
 exact List.filter_eq_self.2 fun f _=>rfl
theorem wj (a b:List Nat) (f:AF):ky (a++b) f=(ky a f||ky b f):=by simp [ky]
theorem Wa (a b:List Nat) (KF:List AF):live a (live b KF)=live (a++b) KF:=by
 unfold live
 rw [List.filter_filter]
 congr 1
 funext f
 rw [wj]
 grind
theorem MH (d:List Nat) (a b:List AF):live d (a++b)=live d a++live d b:=by simp [live]
def jH (B nt:Nat) (L0:List HA) (β:Vn) (KE:SE) (KF:List AF) (S:SS) (a:Act) (w:World):Prop:=
 ∃ (η:Vn) (c:bD) (ρ:dm),Rel nt ρ a∧nA η ρ (S.E++KE)∧am w c ((S.F++live S.d KF).map (AF.ha η))∧am w c L0∧∀ m,m<B→η.b m=β.b m∧η.h m=β.h m
def Ga (KE:SE) (ops:List Oper):Bool:=KE.all (fun p=>!(cf p.1 (oY ops)))
def ajj (KF:List AF) (es:List Ent):List Nat:=(es.flatMap fun e=>e.u.κ).filter fun k=>KF.any (ky [k])
def TL (cls:List (List Nat)) (ops:List Oper) (KF:List AF) (S:SS) (es:List Ent):SS:=
 ⟨x8 (List.range ops.length) [] es 0++oC (oY ops) S.E,BN cls ops.length (List.range ops.length) [] es es 0++S.F.filter (fun f=>!(qT cls ops.length [] ops.length f es 0)),
  S.nn+64 * ops.length,S.nc+(512 * ops.length+256),ajj KF es++S.d⟩
def C4 {R:Type} (C:Cx) (nt:Nat) (draw:Bool) (ops:List Oper) (KE:SE) (KF:List AF) (S:SS) (K:SS→Option R):Option R:=
 bif Nat.ble C.B S.nn then zA C S.nn S.nc (iE draw ops) ops (S.E++KE) (S.F++live S.d KF) ops 0 [] fun es=>
  bif uM C S.nn S.nc nt draw (iE draw ops) ops (S.E++KE) (S.F++live S.d KF) es&&Ga KE ops then K (TL (iE draw ops) ops KF S es) else none
 else none
section
variable {C:Cx} {P:Program} {nt:Nat} {KE:SE} {KF:List AF} {L0:List HA} {β:Vn}
theorem uE (ds:List Nat) : ∀ (E E' : SE),oC ds (E++E')=oC ds E++oC ds E'
 | [],_=>rfl
 | p::r,E' => by
  simp only [Zr,oC]
  cases cf p.1 ds
  ·simp [uE ds r E']
  ·simp [uE ds r E']
theorem LI {ds:List Nat} : ∀ {E:SE},E.all (fun p=>!(cf p.1 ds))=true→oC ds E=E
 | [],_=>rfl
 | p::r,h=>by
  simp only [aas,Wp,YW] at h
  simp only [oC,h.1,no,LI h.2]
theorem Nj {N:Nat} {ops:List Oper} {S:SS} {es:List Ent} (_:S.nn=n) (hb:uM C n N nt draw (iE draw ops) ops (S.E++KE) (S.F++live S.d KF) es=true) (hk:Ga KE ops=true) (hlen:es.length=ops.length)
  (hall : ∀ j o e,ops[j]? = some o→es[j]? = some e→vy C P n N (iE draw ops) ops (S.E++KE) (S.F++live S.d KF) o j (es.take j) e)  (hl : ∀ i,i<ops.length→listed i=true) {a:Act} 
  (hJ:RJ C.B nt (iE draw ops) ops (S.E++KE) (S.F++live S.d KF) es L0 β listed a w):jH C.B nt L0 β KE KF (TL (iE draw ops) ops KF S es) a w:=by
 obtain ⟨η,c,ρ,ha,hE,hV,hB,hL,hR⟩:=hJ
 simp only [Ga] at hk
 have hch:=Rp hlen hall
 have hx0 : ∀ {j:Nat} {e:Ent},es[j]? = some e→ol e.g []=true→gi e.ex:=fun {j e} he hs=>by
  refine (hch j e he).2 fun p hp=>?_
  have:=xq hs p hp
  simp at this
 have hmay : ∀ m,m<ops.length→oW (iE draw ops) m ops.length=true:=by
  intro m hm
  have h1:Nat.beq m ops.length=false:=by
   cases hbb:Nat.beq m ops.length
   ·rfl
   ·have:=Wo hbb; omega
  have h2:cf ops.length ((iE draw ops).getD m [])=false:=by
   simp only [uM,Wp] at hb
   have hc:=hb.1.1.1.2
   cases hmm:cf ops.length ((iE draw ops).getD m [])
   ·rfl
   ·exfalso
    rw [XF] at hmm
    cases hcm:(iE draw ops)[m]? with
    | none=>rw [hcm] at hmm; simp [cf] at hmm
    | some cl=>
     rw [hcm] at hmm
     have h3:=W3.1 (W3.1 hc cl (af9 hcm)) _ (mem_iff.1 hmm)
     have:ops.length+1≤ops.length:=Wt h3
     omega
  simp only [oW,h1,h2,Xo,acw]
 have nohit : ∀ (f:AF) (clj:List Nat) (j:Nat),qT (iE draw ops) ops.length clj j f es 0=false→∀ m e',es[m]? = some e' → m≠j→cf m clj=false→ky e'.u.κ f=false:=by
  intro f clj j hh m e' hm hj hc
  have hml:m<ops.length:=by grind
  exact vS hh hm (by grind) (by grind) (by grind)
 refine ⟨η,c,ρ,ha,?_,?_,hL⟩
 ·intro t v hl'
  simp only [TL,Yi] at hl'
  rcases pQ hl' with h | h
  ·obtain ⟨j,e,h1,h2,rfl,_,h5⟩:=Bc (ql h)
   grind
  ·have h2:bg (oC (oY ops) (S.E++KE)) t=some v:=by
    rw [uE,LI hk]; exact h
   have h3:=CA h2
   refine hE t v h3.1 fun m o hm _ hd=>?_
   rw [mem_iff.2 (DY hm hd)] at h3
   cases h3.2
 ·intro A hA
  obtain ⟨f,hf,rfl⟩:=W6.1 hA
  simp only [TL,Yi] at hf
  rcases Xd.1 hf with h | h
  ·obtain ⟨j,e,h1,h2,_,h5,h6⟩:=BQ h
   grind
  ·rcases Xd.1 h with h | h
   ·simp only [ZP,YW] at h
    exact hB f (XP _ h.1) fun m e' hm _ _=>nohit f [] ops.length h.2 m e' hm (by grind) rfl
   ·simp only [live,ZP,YW,wj,Zp] at h
    refine hB f (X5 _ (ZP.2 ⟨h.1,by grind⟩)) fun m e' hm _ _=>?_
    cases hh:ky e'.u.κ f
    ·rfl
    ·exfalso
     obtain ⟨k,hk1,hk2⟩:=Z0.1 hh
     have:ky (ajj KF es) f=true:=Z0.2 ⟨k,ZP.2 ⟨ai9.2 ⟨e',af9 hm,hk1⟩,Z0.2 ⟨f,h.1,by simp [ky,hk2]⟩⟩,hk2⟩
     grind
theorem VB {R:Type} (hC:C.ok P) (hm:P.follows .mixedOrders=true) {ops:List Oper} {S:SS} {K:SS→Option R} {r:R} (h:C4 C nt draw ops KE KF S K=some r) :
  ∃ S',K S' = some r∧∀ {L0:List HA} {β:Vn},L0ok L0→∀ (id:Nat) (Q:Exit→Act→World→Prop) (a:Act) (w:World),jH C.B nt L0 β KE KF S a w→(∀ a w,jH C.B nt L0 β KE KF S' a w→Q .normal a w)→(Code.region id ops.toArray draw).wp P Q a w:=by
 unfold C4 at h
 cases h64:Nat.ble C.B S.nn
 ·grind
 rw [h64] at h
 simp only [f9] at h
 have h64:=Wt h64
 obtain ⟨es,h1,hlen,hall⟩:=V5 hC h (by simp) rfl (fun j o e _ he=>by simp at he)
 rw [afu] at hlen
 cases hb:(uM C S.nn S.nc nt draw (iE draw ops) ops (S.E++KE) (S.F++live S.d KF) es&&Ga KE ops)
 ·grind
 ·rw [hb] at h1
  simp only [Wp] at hb
  refine ⟨_,h1,fun {L0 β} hL0 id Q a w hI hQ=>?_⟩
  have hinit : ∀ w',(∀ A:HA,∀ c,A.holds w c→A.holds w' c)→RJ C.B nt (iE draw ops) ops (S.E++KE) (S.F++live S.d KF) es L0 β (fun _=>false) a w' := by
   intro w' hw
   obtain ⟨η,c,ρ,ha,hE,hF,hL⟩:=hI
   exact ⟨η,c,ρ,ha,fun t v hl _=>hE t v hl,fun _ _ _ hh=>by simp at hh,fun f hf _=>hw _ c (hF _ (W6.2 ⟨f,hf,rfl⟩)),⟨fun A hA=>hw _ c (hL.1 A hA),hL.2⟩,fun _ _ _ hh=>by simp at hh⟩
  cases draw with
  | false=>
   refine wp_region ?_
   rw [show (ops.toArray).size=ops.length by simp,List.range_eq_range']
   have gen : ∀ (m k:Nat) (a:Act) (w:World),k+m=ops.length→RJ C.B nt (iE false ops) ops (S.E++KE) (S.F++live S.d KF) es L0 β (fun j=>Nat.blt j k) a w→wpOps P ops.toArray Q (List.range' k m) a w:=by
    intro m
    induction m with
    | zero=>
     intro k a w hk hJ
     exact hQ a w (Nj rfl hb.1 hb.2 hlen hall (fun i hi=>Yb (by omega)) hJ)
    | succ m ih=>
     intro k a w hk hJ
     rw [List.range'_succ,wpOps_cons]
     have hkl:k<ops.length:=by omega
     have hcl:(iE false ops).getD k []=List.range k:=by
      simp only [iE,no]
      grind
     have hstep:=Ke (Q:=Q) h64 hb.1 hlen hall hL0 (o:=ops[k]) (YK hkl) (listed:=fun j=>Nat.blt j k) (by
      show Nat.blt k k=false
      cases hbb:Nat.blt k k
      ·rfl
      simp_all) (fun j hj=>by
       rw [hcl] at hj
       have:=mem_iff.1 hj
       simp_all) (fun q hq hlq=>by
       have hqk:q+1≤k:=Wt hlq
       have hclq:(iE false ops).getD q []=List.range q:=by
        simp only [iE,no]
        grind
       rw [hclq]
       cases hbb:cf k (List.range q)
       ·rfl
       ·have:=aaB.1 (mem_iff.1 hbb); omega) hJ
     refine wpOp_mono (fun a' w' hJ' => ih (k+1) a' w' (by omega) ?_) hstep
     have:qq (fun j=>Nat.blt j k) k=fun j=>Nat.blt j (k+1):=by
      funext j
      by_cases hj:j=k
      ·subst hj
       simp [qq,Nat.blt]
      ·rw [Et hj]
       cases hb1:Nat.blt j k <;> cases hb2:Nat.blt j (k+1) <;> first | rfl | skip
       ·have:j+1≤k+1:=Wt hb2
        have:Nat.blt j k=true:=Yb (by omega)
        grind
       ·have:j+1≤k:=Wt hb1
        have:Nat.blt j (k+1)=true:=Yb (by omega)
        grind
     grind
   refine gen ops.length 0 a w (by omega) ?_
   have:=hinit w (fun _ _ h=>h)
   have e:(fun _:Nat=>false)=fun j=>Nat.blt j 0:=by funext j; rfl
   grind
  | true=>
   have hcl:EH ops (iE true ops)=true:=by
    have:=hb.1
    simp only [uM,Wp,XO,aeF] at this
    grind
   refine wp_region_any hm ?_
   have hw' : ∀ A:HA,∀ c,A.holds w c→A.holds { w with drawn:=w.drawn+1 } c:=fun A c h=>HA.stp (Wm (w:=w) (c:=c)) A (by simp) h
   refine Vx hcl (p:=ops.length) ?_ (Xw _) (fun listed a w=>RJ C.B nt (iE true ops) ops (S.E++KE) (S.F++live S.d KF) es L0 β (fun j=>listed.getD j false) a w) ?_ ?_ _ _ _ _ (by simp) (fun i o _ hi=>by rw [yJ] at hi; cases hi) (by simpa using Wf _ _) (.inl ⟨?_,fun i _=>yJ _ i⟩)
   ·refine W3.2 fun i hi=>?_
    simp_all
   ·intro listed a' w' hJ hall' _
    rw [aeQ]
    exact wpList_nil (hQ a' w' (Nj rfl hb.1 hb.2 hlen hall hall' hJ))
   ·intro listed a' w' i o hJ hd hsz hip ho hf hp
    have hcls : ∀ (i:Nat) (o:Oper),ops[i]? = some o→(∀ j∈su o,listed.getD j false=true)→∀ j,cf j ((iE true ops).getD i [])=true→listed.getD j false=true:=by
     intro i o ho hp j hj
     obtain ⟨c,hc⟩:=agn hcl (XW.1 ho).1
     rw [XF,hc] at hj
     exact wo hcl hd i o c ho hc hp j (mem_iff.1 hj)
    have hstep:=Ke (Q:=Q) h64 hb.1 hlen hall hL0 ho (listed:=fun j=>listed.getD j false) hf (hcls i o ho hp) (fun q hq hlq=>by
     cases hbb:cf i ((iE true ops).getD q [])
     ·rfl
     ·have:=hcls q ops[q] (YK hq) (hd q ops[q] (YK hq) hlq) i hbb
      grind) hJ
    refine wpOp_mono (fun a'' w'' hJ' => ?_) hstep
    have:qq (fun j=>listed.getD j false) i=fun j=>(listed.setIfInBounds i true).getD j false:=by
     funext j
     rw [Ad (by omega)]; rfl
    grind
   ·have:=hinit { w with drawn:=w.drawn+1 } hw'
    have e:(fun _:Nat=>false)=fun j=>(Array.replicate ops.toArray.size false).getD j false:=by funext j; rw [yJ]
    grind
end
end
end Go.Sm
