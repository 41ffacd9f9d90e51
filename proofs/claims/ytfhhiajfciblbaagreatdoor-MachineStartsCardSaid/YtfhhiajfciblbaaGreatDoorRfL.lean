/-
  The symbolic evaluator: regions, in the text's order or in any. Nothing of a program is named here; no condition.
-/
import Derived.Test.YtfhhiajfciblbaaGreatDoorRfI
namespace Go.Sm
set_option linter.unusedSectionVars false
section
variable [X:XTab] [G:GTab]
def uni:List Nat→List Nat→List Nat
  | [],b=>b
  | x::r,b=>bif bM x b then uni r b else x::uni r b
def XF:List Oper→List (List Nat)→List (List Nat)
  | [],acc=>acc
  | o::r,acc=>XF r (acc++[(pn o).foldr (fun k s=>uni (k::acc.getD k []) s) []])
def fH (draw:Bool) (l:List Oper):List (List Nat):=bif draw then XF l [] else (List.range l.length).map List.range
def Qs:List (Nat×Bool)→List (Nat×Bool)→Bool
  | [],[]=>true
  | (a,x)::r,(b,y)::s=>Nat.beq a b&&(x==y)&&Qs r s
  | _,_=>false
def lv (a:List (Nat×Bool)):List (Nat×Bool)→Bool
  | []=>Qs a []
  | p::r=>Qs a (p::r)||lv a r
theorem Fo : ∀ {a b:List (Nat×Bool)},Qs a b=true→a=b
  | [],[],_=>rfl
  | (a,x)::r,(b,y)::s,h=>by
    simp only [Qs,Bool.and_eq_true,beq_iff_eq] at h
    rw [Nat.eq_of_beq_eq_true h.1.1,h.1.2,Fo h.2]
  | [],_::_,h=>by cases h
  | _::_,[],h=>by cases h
structure Ent where
  d:Option Tmp
  g:List (Nat×Bool)
  ex:Option Bool
  u:Out
def KA:Option Bool→Bool
  | none=>true
  | some b=>b
theorem AC {e:Option Bool}:eI e↔KA e=true:=by cases e <;> simp [eI,KA]
def uA (cl:List Nat) (g:List (Nat×Bool)):List Ent→Nat→SE
  | [],_=>[]
  | e::r,j=>match e.d with
    | some d=>bif bM j cl&&lv e.g g then (d,e.u.av)::uA cl g r (j+1) else uA cl g r (j+1)
    | none=>uA cl g r (j+1)
def lV (l:List Oper):List Nat:=l.filterMap fun o=>o.dst
def lI (ds:List Nat) (E:SE):SE:=match E with
  | []=>[]
  | (t,v)::r=>bif bM t ds then lI ds r else (t,v)::lI ds r
def gI (κ:List Nat) (f:AF):Bool:=κ.any fun k=>bM k f.uses
def lz (cls:List (List Nat)) (m i:Nat):Bool:=!(Nat.beq m i) && !(bM i (cls.getD m []))
def uQ (cls:List (List Nat)) (i:Nat):List Oper→Nat→List Nat
  | [],_=>[]
  | o::r,m=>match o.dst with
    | some d=>bif lz cls m i then d::uQ cls i r (m+1) else uQ cls i r (m+1)
    | none=>uQ cls i r (m+1)
def nX (cls:List (List Nat)) (i:Nat) (clj:List Nat) (j:Nat) (f:AF):List Ent→Nat→Bool
  | [],_=>false
  | e::r,m=>(!(e.u.κ.isEmpty)&&lz cls m i && !(Nat.beq m j) && !(bM m clj)&&gI e.u.κ f)||nX cls i clj j f r (m+1)
def yG (cls:List (List Nat)) (i:Nat) (cl:List Nat) (g:List (Nat×Bool)) (all:List Ent):List Ent→Nat→List AF
  | [],_=>[]
  | e::r,j=>(bif bM j cl&&lv e.g g then e.u.fs.filter (fun f=>!(nX cls i (cls.getD j []) j f all 0)) else [])++yG cls i cl g all r (j+1)
def PC.mut:PC→Bool
  | .own _ _=>true
  | .box m _ _=>m
  | .prt _ _=>true
  | _=>false
def tS (C:Cx) (o:Oper):Bool:=match o.op with
  | .store _ _ _=>true
  | .mapUpdate _ _ _ _=>true
  | .insert _ _ _ _=>true
  | .buildSlice t _ _=>match C.Θ t with
    | some ⟨.slice e,_,_,_,_⟩=>ep (X.tr e)
    | _=>false
  | .call c=>match c.callee with
    | .builtin .append=>true
    | .builtin .copy=>true
    | .value (.func f)=>(match C.I f with | some J=>J.rw_ | none=>false)||(C.Γ f).any fun c=>c.ps.any PC.mut
    | .value _=>C.W
    | _=>false
  | _=>false
def abI (op:Op):Option Nat:=match op with
  | .call c=>match c.callee,c.args.toList with
    | .builtin .append, .tmp t::_=>some t
    | _,_=>none
  | _=>none
def Wm (ops:List Oper):Nat→Nat→Bool
  | 0,_=>false
  | k+1,t=>ops.any fun p=>match p.dst,p.op with
    | some d, .buildSlice _ _ _=>Nat.beq t d
    | some d,op=>Nat.beq t d&&match abI op with
      | some t' => Wm ops k t'
      | none=>false
    | none,_=>false
def ac6 (op:Op):Bool:=match op with
  | .buildSlice _ _ _=>true
  | _=>false
def aeU (ops:List Oper) (op:Op):Bool:=match op with
  | .store _ (.tmp t) _=>ops.any fun p=>match p.dst,p.op with
    | some d, .alloc _=>Nat.beq t d
    | _,_=>false
  | _=>false
def qE (ops:List Oper) (o:Oper):Bool:=ac6 o.op||aeU ops o.op||match abI o.op with
  | some t=>Wm ops 3 t
  | none=>false
def qI (C:Cx) (cls:List (List Nat)) (ops:List Oper) (i:Nat):List Oper→Nat→Bool
  | [],_=>false
  | o::r,m=>(Nat.blt i m&&tS C o&&qE ops o&&lz cls m i)||qI C cls ops i r (m+1)
def zk (N:Nat) (f:AF):Bool:=f.uses.all fun k=>Nat.blt k N
def nR (C:Cx) (cls:List (List Nat)) (ops:List Oper) (i:Nat):List Oper→Nat→Bool
  | [],_=>false
  | o::r,m=>(Nat.blt i m&&tS C o && !(qE ops o)&&lz cls m i)||nR C cls ops i r (m+1)
def Xd (f:AF):Bool:=f.uses.all fun k=>Nat.ble k 1
def D5 (K:Option (List Nat)) (N:Nat) (f:AF):Bool:=match K with
  | none=>Xd f
  | some kd=>zk N f && !(gI kd f)
def oq (C:Cx) (N:Nat) (cls:List (List Nat)) (ops:List Oper) (F:List AF) (i:Nat) (g:List (Nat×Bool)) (es:List Ent):List AF:=
  let L:=yG cls i (cls.getD i []) g es es 0++F.filter (fun f=>!(nX cls i [] ops.length f es 0))
  bif nR C cls ops i ops 0 then L.filter (D5 C.K N) else bif qI C cls ops i ops 0 then L.filter (zk N) else L
def wC (cls:List (List Nat)) (ops:List Oper) (E:SE) (i:Nat) (g:List (Nat×Bool)) (es:List Ent):SE:=uA (cls.getD i []) g es 0++lI (uQ cls i ops 0) E
def zY (es:List Ent):Option (Nat×Bool)→Option (List (Nat×Bool)×Option Bool)
  | none=>some ([],none)
  | some (j,want)=>match es[j]? with
    | some e=>match e.u.av with
      | .lf (.c .bool b)=>
        let lit:=bif want then b else !b
        some ((j,want)::e.g,some (match e.ex with | none=>lit | some x=>x&&lit))
      | _=>none
    | none=>none
def rW (t:Nat):List Ent→Nat→Option (Nat×Ent)
  | [],_=>none
  | e::r,j=>match e.d with
    | some d=>bif Nat.beq t d then some (j,e) else rW t r (j+1)
    | none=>rW t r (j+1)
def LP (eg:List (Nat×Bool)) (jc:Nat) (side:Bool) (g:List (Nat×Bool)):Bool:=match eg with
  | (j',s)::g' => Nat.beq j' jc&&(s==side)&&lv g' g
  | []=>false
def C7 (cl:List Nat) (g:List (Nat×Bool)) (es:List Ent) (jc:Nat) (side:Bool):Operand→Option Bool
  | .const (.bool b)=>some b
  | .tmp t=>match rW t es 0 with
    | some (j,e)=>bif bM j cl&&(lv e.g g||LP e.g jc side g) then match e.u.av with
        | .lf (.c .bool b)=>some b
        | _=>none
      else none
    | none=>none
  | _=>none
def Em (cl:List Nat) (g:List (Nat×Bool)) (es:List Ent) (c a b:Operand):Option Bool:=match c with
  | .tmp t=>match rW t es 0 with
    | some (jc,e)=>bif bM jc cl&&lv e.g g then match e.u.av,C7 cl g es jc true a,C7 cl g es jc false b with
        | .lf (.c .bool x),some p,some q=>some (bif x then p else q)
        | _,_,_=>none
      else none
    | none=>none
  | _=>none
def vP {R:Type} (C:Cx) (n N:Nat) (cls:List (List Nat)) (ops:List Oper) (E:SE) (F:List AF):List Oper→Nat→List Ent→(List Ent→Option R)→Option R
  | [],_,es,k=>k es
  | o::r,i,es,k=>match zY es o.guard with
    | none=>none
    | some (g,ex)=>match o.op with
      | .pick c a b=>match Em (cls.getD i []) g es c a b with
        | some v=>vP C n N cls ops E F r (i+1) (es++[⟨o.dst,g,ex,bc (dI v)⟩]) k
        | none=>none
      | op=>match bM i C.O,ex with
        | true,some b=>bif b then zR C none (n+64 * i) (N+512 * i) (wC cls ops E i [] es) (oq C N cls ops F i [] es) op (fun u=>vP C n N cls ops E F r (i+1) (es++[⟨o.dst,[],none,u⟩]) k)
          else vP C n N cls ops E F r (i+1) (es++[⟨o.dst,g,ex,bc (dI false)⟩]) k
        | _,_=>zR C ex (n+64 * i) (N+512 * i) (wC cls ops E i g es) (oq C N cls ops F i g es) op (fun u=>vP C n N cls ops E F r (i+1) (es++[⟨o.dst,g,ex,u⟩]) k)
def sw (C:Cx) (P:Program) (n N:Nat) (cls:List (List Nat)) (ops:List Oper) (E:SE) (F:List AF) (o:Oper) (i:Nat) (es:List Ent) (e:Ent):Prop:=
  e.d=o.dst∧(zY es o.guard=some (e.g,e.ex)∨((∃ g,zY es o.guard=some (g,some true))∧e.g=[]∧e.ex=none)) ∧
  ((∃ c a b v,o.op = .pick c a b∧Em (cls.getD i []) e.g es c a b=some v∧e.u=bc (dI v)) ∨
   (eI e.ex→cS P o (wC cls ops E i e.g es) (oq C N cls ops F i e.g es) (n+64 * i) e.u))
theorem O6 {R:Type} {P:Program} {C:Cx} (hC:C.ok P) {n N:Nat} {cls:List (List Nat)} {ops:List Oper} {E:SE} {F:List AF} {k:List Ent→Option R} {r:R} :
    ∀ {l:List Oper} {i:Nat} {es:List Ent},vP C n N cls ops E F l i es k=some r→ops.drop i=l→es.length=i→(∀ j o e,ops[j]? = some o→es[j]? = some e→sw C P n N cls ops E F o j (es.take j) e) →
    ∃ es',k es' = some r∧es'.length=i+l.length∧∀ j o e,ops[j]? = some o→es'[j]? = some e→sw C P n N cls ops E F o j (es'.take j) e
  | [],i,es,h,hd,hl,hall=>⟨es,h,by simpa using hl,hall⟩
  | o::l,i,es,h,hd,hl,hall=>by
    simp only [vP] at h
    have ho:ops[i]? = some o:=by
      have:=congrArg (·[0]?) hd
      simpa [List.getElem?_drop] using this
    have hd' : ops.drop (i+1)=l:=by
      have:=congrArg (List.drop 1) hd
      simpa [List.drop_drop] using this
    have next : ∀ {g:List (Nat×Bool)} {ex:Option Bool} {u:Out},(zY es o.guard=some (g,ex)∨((∃ g,zY es o.guard=some (g,some true))∧g=[]∧ex=none)) →
        ((∃ c a b v,o.op = .pick c a b∧Em (cls.getD i []) g es c a b=some v∧u=bc (dI v))∨(eI ex→cS P o (wC cls ops E i g es) (oq C N cls ops F i g es) (n+64 * i) u)) →
        vP C n N cls ops E F l (i+1) (es++[⟨o.dst,g,ex,u⟩]) k=some r →
        ∃ es',k es' = some r∧es'.length=i+(o::l).length∧∀ j o e,ops[j]? = some o→es'[j]? = some e→sw C P n N cls ops E F o j (es'.take j) e:=by
      intro g ex u hg hu hr
      obtain ⟨es',h1,h2,h3⟩:=O6 hC hr hd' (by simp [hl]) (fun j o' e hj he=>by
        by_cases hji:j<i
        · rw [List.getElem?_append_left (by omega)] at he
          rw [List.take_append_of_le_length (by omega)]
          exact hall j o' e hj he
        · have hlt:=(List.getElem?_eq_some_iff.1 he).1
          simp only [List.length_append,List.length_singleton] at hlt
          have hji' : j=i:=by omega
          subst hji'
          rw [List.getElem?_append_right (by omega),show j - es.length=0 by omega] at he
          simp only [List.getElem?_cons_zero,Option.some.injEq] at he
          subst he
          rw [ho] at hj
          simp only [Option.some.injEq] at hj
          subst hj
          rw [List.take_append_of_le_length (by omega),List.take_of_length_le (by omega)]
          exact ⟨rfl,hg,hu⟩)
      exact ⟨es',h1,by simp only [List.length_cons]; omega,h3⟩
    split at h
    · cases h
    · rename_i g ex hg
      split at h
      · rename_i c a b hop
        split at h
        · rename_i v hv
          exact next (.inl hg) (.inl ⟨c,a,b,v,hop,hv,rfl⟩) h
        · cases h
      · have norm:zR C ex (n+64 * i) (N+512 * i) (wC cls ops E i g es) (oq C N cls ops F i g es) o.op (fun u=>vP C n N cls ops E F l (i+1) (es++[⟨o.dst,g,ex,u⟩]) k)=some r →
            ∃ es',k es' = some r∧es'.length=i+(o::l).length∧∀ j o e,ops[j]? = some o→es'[j]? = some e→sw C P n N cls ops E F o j (es'.take j) e:=fun h' => by
          obtain ⟨u,hu,hs⟩:=Gu (P:=P) (o:=o) hC (ex:=ex) (n:=n+64 * i) (N:=N+512 * i) (E:=wC cls ops E i g es) (F:=oq C N cls ops F i g es) (fun u=>vP C n N cls ops E F l (i+1) (es++[⟨o.dst,g,ex,u⟩]) k) r h'
          exact next (.inl hg) (.inr hs) hu
        cases hm:bM i C.O
        · rw [hm] at h
          exact norm (by assumption)
        · rw [hm] at h
          cases ex with
          | none=>exact norm (by assumption)
          | some b=>
            simp only at h
            cases b with
            | true=>
              simp only [cond_true] at h
              obtain ⟨u,hu,hs⟩:=Gu (P:=P) (o:=o) hC (ex:=none) (n:=n+64 * i) (N:=N+512 * i) (E:=wC cls ops E i [] es) (F:=oq C N cls ops F i [] es) (fun u=>vP C n N cls ops E F l (i+1) (es++[⟨o.dst,[],none,u⟩]) k) r (by assumption)
              exact next (.inr ⟨⟨g,hg⟩,rfl,rfl⟩) (.inr hs) hu
            | false=>
              simp only [cond_false] at h
              exact next (.inl hg) (.inr fun hx=>by cases hx) h
def okN (n:Nat) (cl:List Nat) (m:Nat):Bool:=Nat.blt m n||cl.any fun i=>Nat.ble (n+64 * i) m&&Nat.blt m (n+64 * i+64)
def Lf.okN (n:Nat) (cl:List Nat) (l:Lf):Bool:=match l with
  | .sl h=>Go.Sm.okN n cl h
  | .rp h _ _ _ _=>Go.Sm.okN n cl h
  | .bp b _=>Go.Sm.okN n cl b
  | .bq b _ _ _ _=>Go.Sm.okN n cl b
  | .clo _ b=>Go.Sm.okN n cl b
  | .mp h=>Go.Sm.okN n cl h
  | _=>true
def A8 (n:Nat) (cl:List Nat):List Lf→Bool
  | []=>true
  | l::r=>l.okN n cl&&A8 n cl r
mutual
def AV.okN (n:Nat) (cl:List Nat):AV→Bool
  | .lf l=>l.okN n cl
  | .ag ls=>A8 n cl ls
  | .tu vs=>AV.okNs n cl vs
def AV.okNs (n:Nat) (cl:List Nat):List AV→Bool
  | []=>true
  | v::r=>v.okN n cl&&AV.okNs n cl r
end
def AF.okN (n:Nat) (cl:List Nat):AF→Bool
  | .rep _ _ _ h=>Go.Sm.okN n cl h
  | .own _ _ _ _ _ h=>Go.Sm.okN n cl h
  | .box _ b cs=>Go.Sm.okN n cl b&&A8 n cl cs
  | .isn h _=>Go.Sm.okN n cl h
  | .prt h' h _ _ _=>Go.Sm.okN n cl h' && Go.Sm.okN n cl h
  | .hol _ _ _ _ h _ cs=>Go.Sm.okN n cl h&&A8 n cl cs
  | .mp _ _ _ _ h=>Go.Sm.okN n cl h
  | .pt _ _ _ _ _ h _=>Go.Sm.okN n cl h
theorem gA {n:Nat} {cl:List Nat} {m i:Nat} (h:okN n cl m=true) (hi:i∉cl):cq (n+64 * i) m=true:=by
  simp only [okN,Bool.or_eq_true] at h
  simp only [cq,Bool.or_eq_true]
  rcases h with h | h
  · left
    have:m+1≤n:=Nat.le_of_ble_eq_true h
    exact Nat.ble_eq_true_of_le (by omega)
  · obtain ⟨j,hj,hb⟩:=List.any_eq_true.1 h
    simp only [Bool.and_eq_true] at hb
    have h1:=Nat.le_of_ble_eq_true hb.1
    have h2:m+1≤n+64 * j+64:=Nat.le_of_ble_eq_true hb.2
    have hne:i≠j:=fun e=>hi (e ▸ hj)
    rcases Nat.lt_or_ge i j with h3 | h3
    · right; exact Nat.ble_eq_true_of_le (by omega)
    · left; exact Nat.ble_eq_true_of_le (by omega)
theorem Lf.okN_free {n:Nat} {cl:List Nat} {i:Nat} (hi:i∉cl):(l:Lf)→l.okN n cl=true→l.free (n+64 * i)=true
  | .sl _,h=>gA h hi
  | .rp _ _ _ _ _,h=>gA h hi
  | .bp _ _,h=>gA h hi
  | .bq _ _ _ _ _,h=>gA h hi
  | .clo _ _,h=>gA h hi
  | .mp _,h=>gA h hi
  | .gp _ _ _ _ _,_=>rfl
  | .ars _ _,_=>rfl
  | .c _ _,_=>rfl
  | .ar _ _ _,_=>rfl
  | .nl,_=>rfl
  | .xt _ _,_=>rfl
  | .fn _,_=>rfl
  | .v _,_=>rfl
theorem rY {n:Nat} {cl:List Nat} {i:Nat} (hi:i∉cl) : ∀ {ls:List Lf},A8 n cl ls=true→qH (n+64 * i) ls=true
  | [],_=>rfl
  | l::r,h=>by
    simp only [A8,Bool.and_eq_true] at h
    simp only [qH,l.okN_free hi h.1,rY hi h.2,Bool.and_self]
mutual
theorem AV.okN_free {n:Nat} {cl:List Nat} {i:Nat} (hi:i∉cl):(v:AV)→v.okN n cl=true→v.free (n+64 * i)=true
  | .lf l,h=>by simp only [AV.free]; exact l.okN_free hi h
  | .ag ls,h=>by simp only [AV.free]; exact rY hi h
  | .tu vs,h=>by simp only [AV.free]; exact AV.okNs_free hi vs h
theorem AV.okNs_free {n:Nat} {cl:List Nat} {i:Nat} (hi:i∉cl):(vs:List AV)→AV.okNs n cl vs=true→AV.frees (n+64 * i) vs=true
  | [],_=>rfl
  | v::r,h=>by
    simp only [AV.okNs,Bool.and_eq_true] at h
    simp only [AV.frees,AV.okN_free hi v h.1,AV.okNs_free hi r h.2,Bool.and_self]
end
theorem AF.okN_free {n:Nat} {cl:List Nat} {i:Nat} (hi:i∉cl):(f:AF)→f.okN n cl=true→f.free (n+64 * i)=true
  | .rep _ _ _ _,h=>gA h hi
  | .own _ _ _ _ _ _,h=>gA h hi
  | .box _ b cs,h=>by
    simp only [AF.okN,Bool.and_eq_true] at h
    simp only [AF.free,gA h.1 hi,rY hi h.2,Bool.and_self]
  | .isn _ _,h=>gA h hi
  | .mp _ _ _ _ _,h=>gA h hi
  | .pt _ _ _ _ _ _ _,h=>gA h hi
  | .prt _ _ _ _ _,h=>by
    simp only [AF.okN,Bool.and_eq_true] at h
    simp only [AF.free,gA h.1 hi,gA h.2 hi,Bool.and_self]
  | .hol _ _ _ _ _ _ _,h=>by
    simp only [AF.okN,Bool.and_eq_true] at h
    simp only [AF.free,gA h.1 hi,rY hi h.2,Bool.and_self]
def aaV (C:Cx) (n N nt:Nat) (cls:List (List Nat)) (ops:List Oper) (es:List Ent) (i:Nat):Bool:=match ops[i]?,es[i]? with
  | some o,some e=>e.u.av.okN n (i::cls.getD i [])&&e.u.fs.all (AF.okN n (i::cls.getD i []))&&(e.u.κ.isEmpty||(tS C o&&e.u.κ.all (fun k=>Nat.ble 2 k)&&match e.ex with | none=>true | some _=>false)) &&
      (match e.d with | some d=>Nat.blt d nt | none=>true)&&(match C.K with | none=>true | some kd=>qE ops o||e.u.κ.all (fun k=>Nat.ble N k||bM k kd)||(List.range i).all (fun j=>!(lz cls i j)))&&(!(qE ops o)||e.u.κ.all (fun k=>Nat.ble N k)||(List.range i).all (fun j=>!(lz cls i j)))&&(match o.guard with | some (j,_)=>bM j (cls.getD i [])&&(match es[j]? with | some e' => e'.d.isSome | none=>false) | none=>true)
  | _,_=>false
def rG:List Nat→Bool
  | []=>true
  | a::r=>!(bM a r)&&rG r
def lC (n:Nat) (E:SE) (F:List AF):Bool:=E.all (fun p=>p.2.okN n [])&&F.all (AF.okN n [])
def ra (C:Cx) (n N nt:Nat) (draw:Bool) (cls:List (List Nat)) (ops:List Oper) (E:SE) (F:List AF) (es:List Ent):Bool:=
  (!draw||AS ops cls)&&cls.all (fun c=>c.all fun j=>Nat.blt j ops.length)&&rG (lV ops)&&lC n E F&&(List.range ops.length).all (aaV C n N nt cls ops es)
end
end Go.Sm
namespace Go.Sm
set_option linter.unusedSectionVars false
section
variable [X:XTab] [G:GTab]
theorem mO {E E' : SE} {t:Nat} {v:AV} (h:bL (E++E') t=some v):bL E t=some v∨bL E' t=some v:=by
 induction E with
 | nil=>exact .inr h
 | cons p r ih=>
  simp only [List.cons_append,bL] at h ⊢
  cases hb:Nat.beq t p.1
  ·rw [hb] at h; exact ih h
  ·rw [hb] at h; exact .inl h
theorem nj {E:SE} {t:Nat} {v:AV} (h:bL E t=some v):(t,v)∈E:=by
 induction E with
 | nil=>simp [bL] at h
 | cons p r ih=>
  simp only [bL] at h
  cases hb:Nat.beq t p.1
  ·rw [hb] at h; exact List.mem_cons_of_mem _ (ih h)
  ·rw [hb] at h
   simp only [cond_true,Option.some.injEq] at h
   rw [Nat.eq_of_beq_eq_true hb,← h]
   exact List.mem_cons_self
theorem yv {cl:List Nat} {g:List (Nat×Bool)} {d:Nat} {v:AV} : ∀ {es:List Ent} {j0:Nat},(d,v)∈uA cl g es j0→∃ j e,es[j]? = some e∧e.d=some d∧v=e.u.av∧bM (j0+j) cl=true∧lv e.g g=true
 | [],_,h=>by simp [uA] at h
 | e::r,j0,h=>by
  have again:(d,v)∈uA cl g r (j0+1)→∃ j e',(e::r)[j]? = some e' ∧ e'.d=some d∧v=e'.u.av∧bM (j0+j) cl=true∧lv e'.g g=true:=fun h=>by
   obtain ⟨j,e',h1,h2,h3,h4,h5⟩:=yv h
   exact ⟨j+1,e',by simpa using h1,h2,h3,by rwa [show j0+(j+1)=j0+1+j by omega],h5⟩
  simp only [uA] at h
  split at h
  ·rename_i d' hd
   cases hb:(bM j0 cl&&lv e.g g)
   ·rw [hb] at h; exact again h
   ·rw [hb] at h
    simp only [cond_true] at h
    rcases List.mem_cons.1 h with h | h
    ·simp only [Prod.mk.injEq] at h
     obtain ⟨rfl,rfl⟩:=h
     simp only [Bool.and_eq_true] at hb
     exact ⟨0,e,rfl,hd,rfl,hb.1,hb.2⟩
    ·exact again h
  ·exact again h
theorem sW {cls:List (List Nat)} {i:Nat} {clj:List Nat} {j:Nat} {f:AF} : ∀ {es:List Ent} {m0:Nat},nX cls i clj j f es m0=false→∀ {m:Nat} {e:Ent},es[m]? = some e→lz cls (m0+m) i=true→m0+m≠j→bM (m0+m) clj=false→gI e.u.κ f=false
 | [],_,_,m,e,he,_,_,_=>by simp at he
 | e' :: r,m0,h,0,e,he,hm,hj,hc=>by
  simp at he; subst he
  simp only [nX,Bool.or_eq_false_iff] at h
  rw [Nat.add_zero] at hm hj hc
  have hb:Nat.beq m0 j=false:=by
   cases hb:Nat.beq m0 j
   ·rfl
   ·exact absurd (Nat.eq_of_beq_eq_true hb) hj
  have h1:=h.1
  rw [hm,hb,hc] at h1
  cases hk:e'.u.κ with
  | nil=>simp [gI]
  | cons a l=>rw [hk] at h1; simpa using h1
 | e' :: r,m0,h,m+1,e,he,hm,hj,hc=>by
  simp only [nX,Bool.or_eq_false_iff] at h
  simp at he
  rw [show m0+(m+1)=m0+1+m by omega] at hm hj hc
  exact sW h.2 he hm hj hc
theorem xW {cls:List (List Nat)} {i:Nat} {cl:List Nat} {g:List (Nat×Bool)} {all:List Ent} {f:AF} : ∀ {es:List Ent} {j0:Nat},f∈yG cls i cl g all es j0 →
  ∃ j e,es[j]? = some e∧f∈e.u.fs∧bM (j0+j) cl=true∧lv e.g g=true∧nX cls i (cls.getD (j0+j) []) (j0+j) f all 0=false
 | [],_,h=>by simp [yG] at h
 | e::r,j0,h=>by
  simp only [yG,List.mem_append] at h
  rcases h with h | h
  ·cases hb:(bM j0 cl&&lv e.g g)
   ·rw [hb] at h; simp at h
   ·rw [hb] at h
    simp only [cond_true,List.mem_filter,Bool.not_eq_true'] at h
    simp only [Bool.and_eq_true] at hb
    exact ⟨0,e,rfl,h.1,hb.1,hb.2,h.2⟩
  ·obtain ⟨j,e',h1,h2,h3,h4,h5⟩:=xW h
   exact ⟨j+1,e',by simpa using h1,h2,by rwa [show j0+(j+1)=j0+1+j by omega],h4,by rwa [show j0+(j+1)=j0+1+j by omega]⟩
theorem y8 {ds:List Nat} {E:SE} {t:Nat} {v:AV} (h:bL (lI ds E) t=some v):bL E t=some v∧bM t ds=false:=by
 induction E with
 | nil=>simp [lI,bL] at h
 | cons p r ih=>
  simp only [lI] at h
  cases hb:bM p.1 ds
  ·rw [hb] at h
   simp only [cond_false,bL] at h ⊢
   cases ht:Nat.beq t p.1
   ·rw [ht] at h; exact ih h
   ·rw [ht] at h
    refine ⟨h,?_⟩
    rw [Nat.eq_of_beq_eq_true ht]; exact hb
  ·rw [hb] at h
   simp only [cond_true] at h
   have:=ih h
   refine ⟨?_,this.2⟩
   simp only [bL]
   cases ht:Nat.beq t p.1
   ·exact this.1
   ·exfalso
    rw [Nat.eq_of_beq_eq_true ht,hb] at this
    cases this.2
def chT (es:List Ent) (g:List (Nat×Bool)):Prop:=∀ p∈g,∃ e b,es[p.1]? = some e∧e.u.av=dI b∧b=p.2
theorem uw : ∀ {a b:List (Nat×Bool)},lv a b=true→∀ p∈a,p∈b
 | a,[],h=>by
  simp only [lv] at h
  rw [Fo h]; exact fun p hp=>hp
 | a,q::r,h=>by
  simp only [lv,Bool.or_eq_true] at h
  rcases h with h | h
  ·rw [Fo h]; exact fun p hp=>hp
  ·exact fun p hp=>List.mem_cons_of_mem _ (uw h p hp)
section
variable {C:Cx} {P:Program} {n N nt:Nat} {cls:List (List Nat)} {ops:List Oper} {E:SE} {F:List AF} {es:List Ent}
theorem NJ (hlen:es.length=ops.length) (hall : ∀ j o e,ops[j]? = some o→es[j]? = some e→sw C P n N cls ops E F o j (es.take j) e) : ∀ (i:Nat) (e:Ent),es[i]? = some e→(eI e.ex↔chT es e.g):=by
 intro i
 induction i using Nat.strongRecOn with
 | _ i ih=>
  intro e he
  have hi:=(List.getElem?_eq_some_iff.1 he).1
  have ho:ops[i]? = some (ops[i]'(by omega)):=List.getElem?_eq_getElem _
  obtain ⟨_,hg,_⟩:=hall i _ e ho he
  rcases hg with hg | ⟨_,hg1,hg2⟩
  rotate_left
  ·rw [hg1,hg2]
   exact ⟨fun _ p hp=>by simp at hp,fun _=>trivial⟩
  unfold zY at hg
  split at hg
  ·simp only [Option.some.injEq,Prod.mk.injEq] at hg
   obtain ⟨h1,h2⟩:=hg
   rw [← h1,← h2]
   exact ⟨fun _ p hp=>by simp at hp,fun _=>trivial⟩
  ·rename_i j want _
   split at hg
   ·rename_i e' he'
    split at hg
    ·rename_i b hb
     simp only [Option.some.injEq,Prod.mk.injEq] at hg
     obtain ⟨h1,h2⟩:=hg
     have hji:j<i:=by
      rw [List.getElem?_take] at he'
      split at he'
      ·assumption
      ·cases he'
     have hej:es[j]? = some e' := by
      rw [List.getElem?_take,if_pos hji] at he'; exact he'
     have:=ih j hji e' hej
     rw [← h1,← h2]
     have hlit:((bif want then b else !b)=true)↔b=want:=by cases want <;> cases b <;> simp
     constructor
     ·intro hx p hp
      have hx' : KA e'.ex=true∧(bif want then b else !b)=true:=by
       cases hee:e'.ex with
       | none=>rw [hee] at hx; exact ⟨rfl,hx⟩
       | some x=>rw [hee] at hx; simpa [eI,KA] using hx
      rcases List.mem_cons.1 hp with rfl | hp
      ·exact ⟨e',b,hej,hb,hlit.1 hx'.2⟩
      ·exact this.1 (AC.2 hx'.1) p hp
     ·intro hc
      obtain ⟨e2,b2,h3,h4,h5⟩:=hc (j,want) List.mem_cons_self
      rw [hej] at h3
      simp only [Option.some.injEq] at h3
      subst h3
      rw [hb] at h4
      have hbb:b=b2:=by simpa [dI] using h4
      have hex:=AC.1 (this.2 fun p hp=>hc p (List.mem_cons_of_mem _ hp))
      have hl:=hlit.2 (hbb.trans h5)
      cases hee:e'.ex with
      | none=>exact hl
      | some x=>rw [hee] at hex; simp only [KA] at hex; show (x&&_)=true; rw [hex,hl]; rfl
    ·cases hg
   ·cases hg
theorem DF {es:List Ent} {e e' : Ent} (h1:eI e.ex↔chT es e.g) (h2:eI e'.ex↔chT es e'.g) (hs:lv e'.g e.g=true) (hx:eI e.ex):eI e'.ex:=
 h2.2 fun p hp=>h1.1 hx p (uw hs p hp)
def RJ (B nt:Nat) (cls:List (List Nat)) (ops:List Oper) (E:SE) (F:List AF) (es:List Ent) (L0:List HA) (β:Vn) (listed:Nat→Bool) (a:Act) (w:World):Prop:=
 ∃ (η:Vn) (c:bd) (ρ:cF),Rel nt ρ a∧(∀ t v,bL E t=some v→(∀ m o,ops[m]? = some o→listed m=true→o.dst≠some t)→ρ t=v.val η) ∧
  (∀ j e,es[j]? = some e→listed j=true→∀ d,e.d=some d→(eI e.ex→ρ d=e.u.av.val η)∧(¬ eI e.ex→ρ d=undef)) ∧
  (∀ f∈F,(∀ m e,es[m]? = some e→listed m=true→eI e.ex→gI e.u.κ f=false)→(f.ha η).holds w c) ∧
  ((∀ A∈L0,A.holds w c)∧∀ m,m<B→η.b m=β.b m∧η.h m=β.h m) ∧
  (∀ j e,es[j]? = some e→listed j=true→eI e.ex→∀ f∈e.u.fs,(∀ m e',es[m]? = some e' → listed m=true→eI e'.ex→m≠j→bM m (cls.getD j [])=false→gI e'.u.κ f=false)→(f.ha η).holds w c)
theorem qA {κ:List Nat} {f:AF} (h:gI κ f=false) : ∀ k∈f.uses,k∉κ:=by
 intro k hk hκ
 have:=List.any_eq_false.1 h k hκ
 exact this (mem_iff.2 hk)
theorem Ax {i:Nat} {o:Oper} {d:Nat} (ho:ops[i]? = some o) (hd:o.dst=some d):d∈lV ops:=
 List.mem_filterMap.2 ⟨o,List.mem_of_getElem? ho,hd⟩
theorem HL : ∀ {l:List Oper} {i j:Nat} {o o' : Oper} {d d' : Nat},rG (lV l)=true→l[i]? = some o→l[j]? = some o' → o.dst=some d→o'.dst=some d' → i≠j→d≠d'
 | [],_,_,_,_,_,_,_,h,_,_,_,_=>by simp at h
 | q::l,0,0,_,_,_,_,_,_,_,_,_,hne=>absurd rfl hne
 | q::l,0,j+1,o,o',d,d',h,ho,ho',hd,hd',_=>by
  simp at ho ho'; subst ho
  have:lV (q::l)=d::lV l:=by simp [lV,hd]
  rw [this] at h
  simp only [rG,Bool.and_eq_true,Bool.not_eq_true'] at h
  intro e
  have:=Ax ho' hd'
  rw [← e] at this
  rw [mem_iff.2 this] at h
  cases h.1
 | q::l,i+1,0,o,o',d,d',h,ho,ho',hd,hd',_=>by
  simp at ho ho'; subst ho'
  have:lV (q::l)=d' :: lV l:=by simp [lV,hd']
  rw [this] at h
  simp only [rG,Bool.and_eq_true,Bool.not_eq_true'] at h
  intro e
  have:=Ax ho hd
  rw [e] at this
  rw [mem_iff.2 this] at h
  cases h.1
 | q::l,i+1,j+1,o,o',d,d',h,ho,ho',hd,hd',hne=>by
  simp at ho ho'
  refine HL (l:=l) ?_ ho ho' hd hd' (by omega)
  cases hq:q.dst with
  | none=>simpa [lV,hq] using h
  | some dq=>
   have:lV (q::l)=dq::lV l:=by simp [lV,hq]
   rw [this] at h
   simp only [rG,Bool.and_eq_true] at h
   exact h.2
theorem lN {draw:Bool} (h:ra C n N nt draw cls ops E F es=true) {i:Nat} {o:Oper} {e:Ent} (ho:ops[i]? = some o) (he:es[i]? = some e) :
  e.u.av.okN n (i::cls.getD i [])=true∧(∀ f∈e.u.fs,f.okN n (i::cls.getD i [])=true)∧(e.u.κ=[]∨(tS C o=true∧(∀ k∈e.u.κ,2≤k)∧e.ex=none))∧(∀ d,e.d=some d→Nat.blt d nt=true) ∧
  (∀ j w,o.guard=some (j,w)→bM j (cls.getD i [])=true∧∃ e' d,es[j]? = some e' ∧ e'.d=some d)∧(qE ops o=true→(∃ j,j<i∧lz cls i j=true)→∀ k∈e.u.κ,N≤k)∧(∀ kd,C.K=some kd→qE ops o=false→(∃ j,j<i∧lz cls i j=true)→∀ k∈e.u.κ,N≤k∨k∈kd):=by
 simp only [ra,Bool.and_eq_true] at h
 have hi:=(List.getElem?_eq_some_iff.1 ho).1
 have h1:=List.all_eq_true.1 h.2 i (List.mem_range.2 hi)
 simp only [aaV,ho,he,Bool.and_eq_true] at h1
 obtain ⟨⟨⟨⟨⟨⟨a1,a2⟩,a3⟩,a4⟩,a8⟩,a6⟩,a5⟩:=h1
 refine ⟨a1,List.all_eq_true.1 a2,?_,?_,?_,(fun hs hj k hk=>by
  obtain ⟨j,hj1,hj2⟩:=hj
  rw [hs] at a6
  simp only [Bool.not_true,Bool.false_or,Bool.or_eq_true] at a6
  rcases a6 with a6 | a6
  ·exact Nat.le_of_ble_eq_true (List.all_eq_true.1 a6 k hk)
  ·have:=List.all_eq_true.1 a6 j (List.mem_range.2 hj1)
   rw [hj2] at this
   cases this),(fun kd hK hs hj k hk=>by
  obtain ⟨j,hj1,hj2⟩:=hj
  rw [hK] at a8
  simp only [hs,Bool.false_or,Bool.or_eq_true] at a8
  rcases a8 with a8 | a8
  ·have:=List.all_eq_true.1 a8 k hk
   simp only [Bool.or_eq_true] at this
   exact this.imp Nat.le_of_ble_eq_true mem_iff.1
  ·have:=List.all_eq_true.1 a8 j (List.mem_range.2 hj1)
   rw [hj2] at this
   cases this)⟩
 ·simp only [Bool.or_eq_true,Bool.and_eq_true] at a3
  rcases a3 with a3 | ⟨⟨a3,a6⟩,a7⟩
  ·exact .inl (List.isEmpty_iff.1 a3)
  ·refine .inr ⟨a3,fun k hk=>Nat.le_of_ble_eq_true (List.all_eq_true.1 a6 k hk),?_⟩
   cases hg:e.ex with
   | none=>rfl
   | some g=>rw [hg] at a7; cases a7
 ·intro d hd
  rw [hd] at a4; exact a4
 ·intro j w hg
  rw [hg] at a5
  simp only [Bool.and_eq_true] at a5
  refine ⟨a5.1,?_⟩
  have a6:=a5.2
  split at a6
  ·rename_i e' he'
   obtain ⟨d,hd⟩:=Option.isSome_iff_exists.1 a6
   exact ⟨e',d,he',hd⟩
  ·cases a6
theorem Cb {cls:List (List Nat)} {i:Nat} {d:Nat} : ∀ {l:List Oper} {m0 m:Nat} {o:Oper},l[m]? = some o→o.dst=some d→lz cls (m0+m) i=true→d∈uQ cls i l m0
 | [],_,_,_,h,_,_=>by simp at h
 | q::l,m0,0,o,h,hd,hm=>by
  simp at h; subst h
  rw [Nat.add_zero] at hm
  simp [uQ,hd,hm]
 | q::l,m0,m+1,o,h,hd,hm=>by
  simp at h
  have:=Cb (m0:=m0+1) h hd (by rwa [show m0+1+m=m0+(m+1) by omega])
  simp only [uQ]
  split
  ·cases lz cls m0 i
   ·exact this
   ·exact List.mem_cons_of_mem _ this
  ·exact this
theorem Kq {cls:List (List Nat)} {i:Nat} {ops:List Oper} : ∀ {l:List Oper} {m0:Nat},nR C cls ops i l m0=false→∀ {m:Nat} {o:Oper},l[m]? = some o→i<m0+m→lz cls (m0+m) i=true→tS C o=true→qE ops o=true
 | [],_,_,m,o,h,_,_=>by simp at h
 | q::r,m0,h,0,o,ho,hi,hm=>by
  simp at ho; subst ho
  simp only [nR,Bool.or_eq_false_iff] at h
  rw [Nat.add_zero] at hi hm
  have h1:=h.1
  rw [hm,show Nat.blt i m0=true from Nat.ble_eq_true_of_le hi] at h1
  intro hk
  rw [hk] at h1
  simpa using h1
 | q::r,m0,h,m+1,o,ho,hi,hm=>by
  simp only [nR,Bool.or_eq_false_iff] at h
  simp at ho
  rw [show m0+(m+1)=m0+1+m by omega] at hi hm
  exact Kq h.2 ho hi hm
theorem GM {cls:List (List Nat)} {i:Nat} {ops:List Oper} : ∀ {l:List Oper} {m0:Nat},qI C cls ops i l m0=false→∀ {m:Nat} {o:Oper},l[m]? = some o→i<m0+m→lz cls (m0+m) i=true→tS C o=true→qE ops o=false
 | [],_,_,m,o,h,_,_=>by simp at h
 | q::r,m0,h,0,o,ho,hi,hm=>by
  simp at ho; subst ho
  simp only [qI,Bool.or_eq_false_iff] at h
  rw [Nat.add_zero] at hi hm
  have h1:=h.1
  rw [hm,show Nat.blt i m0=true from Nat.ble_eq_true_of_le hi] at h1
  intro hk
  rw [hk] at h1
  simpa using h1
 | q::r,m0,h,m+1,o,ho,hi,hm=>by
  simp only [qI,Bool.or_eq_false_iff] at h
  simp at ho
  rw [show m0+(m+1)=m0+1+m by omega] at hi hm
  exact GM h.2 ho hi hm
theorem Q5 {draw:Bool} (hb:ra C n N nt draw cls ops E F es=true) (hlen:es.length=ops.length) (hall : ∀ j o e,ops[j]? = some o→es[j]? = some e→sw C P n N cls ops E F o j (es.take j) e)
  {listed:Nat→Bool} {i:Nat} {e:Ent} (he:es[i]? = some e) (hx:eI e.ex) (hf:listed i=false) (hcl : ∀ j,bM j (cls.getD i [])=true→listed j=true)
  (hun : ∀ m,m<ops.length→listed m=true→bM i (cls.getD m [])=false) {η:Vn} {ρ:cF} {w:World} {c:bd}
  (hE : ∀ t v,bL E t=some v→(∀ m o,ops[m]? = some o→listed m=true→o.dst≠some t)→ρ t=v.val η)
  (hV : ∀ j e,es[j]? = some e→listed j=true→∀ d,e.d=some d→(eI e.ex→ρ d=e.u.av.val η)∧(¬ eI e.ex→ρ d=undef))
  (hB : ∀ f∈F,(∀ m e,es[m]? = some e→listed m=true→eI e.ex→gI e.u.κ f=false)→(f.ha η).holds w c)
  (hR : ∀ j e,es[j]? = some e→listed j=true→eI e.ex→∀ f∈e.u.fs,(∀ m e',es[m]? = some e' → listed m=true→eI e'.ex→m≠j→bM m (cls.getD j [])=false→gI e'.u.κ f=false)→(f.ha η).holds w c) :
  kH η ρ (wC cls ops E i e.g (es.take i))∧ai w c ((oq C N cls ops F i e.g (es.take i)).map (AF.ha η)):=by
 have hch:=NJ hlen hall
 have take_get : ∀ {j:Nat} {e' : Ent},(es.take i)[j]? = some e' → es[j]? = some e' ∧ j<i:=fun {j e'} h=>by
  rw [List.getElem?_take] at h
  split at h
  ·exact ⟨h,by assumption⟩
  ·cases h
 have nohit : ∀ (f:AF) (clj:List Nat) (j:Nat),nX cls i clj j f (es.take i) 0=false→(nR C cls ops i ops 0=true→D5 C.K N f=true)→(nR C cls ops i ops 0=false→qI C cls ops i ops 0=true→zk N f=true)→∀ m e',es[m]? = some e' → listed m=true→m≠j→bM m clj=false→gI e'.u.κ f=false:=by
  intro f clj j hh hsafe hbel m e' hm hl hj hc
  have hml:m<ops.length:=by have:=(List.getElem?_eq_some_iff.1 hm).1; omega
  have hom:ops[m]? = some ops[m]:=List.getElem?_eq_getElem hml
  have hmi:m≠i:=fun e=>by rw [e,hf] at hl; cases hl
  have hmay:lz cls m i=true:=by
   have h1:Nat.beq m i=false:=by
    cases hb:Nat.beq m i
    ·rfl
    ·exact absurd (Nat.eq_of_beq_eq_true hb) hmi
   simp only [lz,h1,hun m hml hl,Bool.not_false,Bool.and_self]
  rcases Nat.lt_or_ge m i with h | h
  ·have h2:(es.take i)[m]? = some e' := by rw [List.getElem?_take,if_pos h]; exact hm
   have:=sW hh h2 (by rwa [Nat.zero_add]) (by rwa [Nat.zero_add]) (by rwa [Nat.zero_add])
   exact this
  ·rcases (lN hb hom hm).2.2.1 with hk | ⟨hk,h2,_⟩
   ·rw [hk]; rfl
   ·cases hlt:nR C cls ops i ops 0
    ·have hsoft:=Kq hlt hom (by omega) (by rwa [Nat.zero_add]) hk
     cases hls:qI C cls ops i ops 0
     ·have:=GM hls hom (by omega) (by rwa [Nat.zero_add]) hk
      rw [hsoft] at this; cases this
     ·have hs:=hbel hlt hls
      have h3:=(lN hb hom hm).2.2.2.2.2.1 hsoft ⟨i,by omega,hmay⟩
      refine List.any_eq_false.2 fun k hk' hm' => ?_
      have h4:k+1≤N:=Nat.le_of_ble_eq_true (List.all_eq_true.1 hs k (mem_iff.1 hm'))
      have:=h3 k hk'
      omega
    ·have hs:=hsafe hlt
     refine List.any_eq_false.2 fun k hk' hm' => ?_
     cases hK:C.K with
     | none=>
      rw [hK] at hs
      have:=List.all_eq_true.1 (show Xd f=true from hs) k (mem_iff.1 hm')
      have:=Nat.le_of_ble_eq_true this
      have:=h2 k hk'
      omega
     | some kd=>
      rw [hK] at hs
      simp only [D5,Bool.and_eq_true,Bool.not_eq_true'] at hs
      have h4:k+1≤N:=Nat.le_of_ble_eq_true (List.all_eq_true.1 hs.1 k (mem_iff.1 hm'))
      cases hsoft:qE ops ops[m]
      ·rcases (lN hb hom hm).2.2.2.2.2.2 kd hK hsoft ⟨i,by omega,hmay⟩ k hk' with h5 | h5
       ·omega
       ·have:=List.any_eq_false.1 hs.2 k h5
        exact this hm'
      ·have h3:=(lN hb hom hm).2.2.2.2.2.1 hsoft ⟨i,by omega,hmay⟩ k hk'
       omega
 constructor
 ·intro t v hl
  rcases mO hl with h | h
  ·obtain ⟨j,e',h1,h2,rfl,h4,h5⟩:=yv (nj h)
   rw [Nat.zero_add] at h4
   obtain ⟨h1',_⟩:=take_get h1
   exact (hV j e' h1' (hcl j h4) t h2).1 (DF (hch i e he) (hch j e' h1') h5 hx)
  ·have h:=y8 h
   refine hE t v h.1 fun m o hom hlm hdm=>?_
   have hml:=(List.getElem?_eq_some_iff.1 hom).1
   have hmi:m≠i:=fun e=>by rw [e,hf] at hlm; cases hlm
   have h1:Nat.beq m i=false:=by
    cases hb:Nat.beq m i
    ·rfl
    ·exact absurd (Nat.eq_of_beq_eq_true hb) hmi
   have:=Cb (cls:=cls) (i:=i) (m0:=0) hom hdm (by rw [Nat.zero_add]; simp only [lz,h1,hun m hml hlm,Bool.not_false,Bool.and_self])
   rw [mem_iff.2 this] at h
   cases h.2
 ·intro A hA
  obtain ⟨f,hfm,rfl⟩:=List.mem_map.1 hA
  have hmem:f∈yG cls i (cls.getD i []) e.g (es.take i) (es.take i) 0++F.filter (fun f=>!(nX cls i [] ops.length f (es.take i) 0))∧(nR C cls ops i ops 0=true→D5 C.K N f=true)∧(nR C cls ops i ops 0=false→qI C cls ops i ops 0=true→zk N f=true):=by
   unfold oq at hfm
   cases hlt:nR C cls ops i ops 0
   ·rw [hlt] at hfm
    simp only [cond_false] at hfm
    cases hls:qI C cls ops i ops 0
    ·rw [hls] at hfm; exact ⟨hfm,fun h=>(by cases h),fun _ h=>by cases h⟩
    ·rw [hls] at hfm
     simp only [cond_true,List.mem_filter] at hfm
     exact ⟨hfm.1,fun h=>(by cases h),fun _ _=>hfm.2⟩
   ·rw [hlt] at hfm
    simp only [cond_true,List.mem_filter] at hfm
    exact ⟨hfm.1,fun _=>hfm.2,fun h=>by cases h⟩
  obtain ⟨hmem,hsafe,hbel⟩:=hmem
  rcases List.mem_append.1 hmem with h | h
  ·obtain ⟨j,e',h1,h2,h4,h5,h6⟩:=xW h
   rw [Nat.zero_add] at h4 h6
   obtain ⟨h1',_⟩:=take_get h1
   exact hR j e' h1' (hcl j h4) (DF (hch i e he) (hch j e' h1') h5 hx) f h2 fun m e2 hm hl _ hj hc=>nohit f _ j h6 hsafe hbel m e2 hm hl hj hc
  ·simp only [List.mem_filter,Bool.not_eq_true'] at h
   exact hB f h.1 fun m e2 hm hl _=>nohit f [] ops.length h.2 hsafe hbel m e2 hm hl (by have:=(List.getElem?_eq_some_iff.1 hm).1; omega) rfl
end
end
end Go.Sm
namespace Go.Sm
set_option linter.unusedSectionVars false
section
variable [X:XTab] [G:GTab]
def ae1 (A:HA):Prop:=∀ k∈A.uses,k<2
structure L0ok (L0:List HA):Prop where
  old : ∀ A∈L0,ae1 A
  gl : ∀ A∈lJ,A∈L0
section
variable {C:Cx} {P:Program} {B n N nt:Nat} {cls:List (List Nat)} {ops:List Oper} {E:SE} {F:List AF} {es:List Ent} {Q:Exit→Act→World→Prop} {L0:List HA} {β:Vn}
def ng (listed:Nat→Bool) (i:Nat):Nat→Bool:=fun j=>Nat.beq j i||listed j
theorem Bd {listed:Nat→Bool} {i j:Nat} (h:j≠i):ng listed i j=listed j:=by
  have:Nat.beq j i=false:=by
    cases hb:Nat.beq j i
    · rfl
    · exact absurd (Nat.eq_of_beq_eq_true hb) h
  simp [ng,this]
theorem Z1 (h:lC n E F=true) {t:Nat} {v:AV} (hl:bL E t=some v) (i:Nat):v.free (n+64 * i)=true:=by
  simp only [lC,Bool.and_eq_true] at h
  have:=List.all_eq_true.1 h.1 _ (nj hl)
  exact v.okN_free (cl:=[]) (by simp) this
theorem EC {draw:Bool} (h64:B≤n) (hb:ra C n N nt draw cls ops E F es=true) (hlen:es.length=ops.length) (hall : ∀ j o e,ops[j]? = some o→es[j]? = some e→sw C P n N cls ops E F o j (es.take j) e) (hL0:L0ok L0)
    {listed:Nat→Bool} {i:Nat} {o:Oper} (ho:ops[i]? = some o) (hf:listed i=false) (hcl : ∀ j,bM j (cls.getD i [])=true→listed j=true)
    (hun : ∀ m,m<ops.length→listed m=true→bM i (cls.getD m [])=false) {a:Act} {w:World} (hJ:RJ B nt cls ops E F es L0 β listed a w) :
    wpOp P ops.toArray Q i (RJ B nt cls ops E F es L0 β (ng listed i)) a w:=by
  obtain ⟨η,c,ρ,ha,hE,hV,hB,hL,hR⟩:=hJ
  have hi:=(List.getElem?_eq_some_iff.1 ho).1
  have he:es[i]? = some (es[i]'(by omega)):=List.getElem?_eq_getElem _
  generalize hee:es[i]'(by omega)=e at he
  obtain ⟨hd,hg,hsem⟩:=hall i o e ho he
  obtain ⟨b1,b2,b3,b4,b5,_⟩:=lN hb ho he
  have hbase:lC n E F=true:=by simp only [ra,Bool.and_eq_true] at hb; exact hb.1.2
  have hnd:rG (lV ops)=true:=by simp only [ra,Bool.and_eq_true] at hb; exact hb.1.1.2
  have next : ∀ (v:Value) (η' : Vn) (w' : World) (c' : bd),η.agr (n+64 * i) η' → Stp e.u.κ w c w' c' → (e.u.κ=[]∨eI e.ex)→((eI e.ex→v=e.u.av.val η' ∧ ∀ f∈e.u.fs,(f.ha η').holds w' c')∧(¬ eI e.ex→v=undef)) →
      RJ B nt cls ops E F es L0 β (ng listed i) (a.put o.dst v) w' := by
    intro v η' w' c' hagr hst hκ hv
    refine ⟨η',c',(match o.dst with | some d=>vf ρ d v | none=>ρ),?_,?_,?_,?_,?_,?_⟩
    · cases hod:o.dst with
      | none=>exact ha
      | some d=>exact ha.put (b4 d (by rw [hd,hod])) v
    · intro t u hl hno
      rw [AV.val_agr hagr u (Z1 hbase hl i)]
      have hold:=hE t u hl fun m o' hm hlm=>hno m o' hm (by simp [ng,hlm])
      cases hod:o.dst with
      | none=>exact hold
      | some d=>
        have hne:Nat.beq t d=false:=by
          cases hbb:Nat.beq t d
          · rfl
          · exact absurd (by rw [hod,Nat.eq_of_beq_eq_true hbb]) (hno i o ho (by simp [ng]))
        simp only [vf,hne,cond_false]
        exact hold
    · intro j e' hj hlj d' hd'
      by_cases hji:j=i
      · subst hji
        rw [he] at hj
        simp only [Option.some.injEq] at hj
        subst hj
        rw [hd] at hd'
        rw [hd']
        have:vf ρ d' v d' = v:=by simp [vf]
        simp only [this]
        exact ⟨fun hx=>(hv.1 hx).1,fun hx=>hv.2 hx⟩
      · rw [Bd hji] at hlj
        have hjl:j<ops.length:=by have:=(List.getElem?_eq_some_iff.1 hj).1; omega
        have hoj:ops[j]? = some ops[j]:=List.getElem?_eq_getElem hjl
        obtain ⟨hdj,_,_⟩:=hall j _ e' hoj hj
        have hfree:e'.u.av.free (n+64 * i)=true:=e'.u.av.okN_free (by
          intro hm
          rcases List.mem_cons.1 hm with hm | hm
          · exact hji hm.symm
          · have:=hun j hjl hlj
            rw [mem_iff.2 hm] at this; cases this) (lN hb hoj hj).1
        rw [AV.val_agr hagr _ hfree]
        have hold:=hV j e' hj hlj d' hd'
        cases hod:o.dst with
        | none=>exact hold
        | some d=>
          have hne:Nat.beq d' d=false:=by
            cases hbb:Nat.beq d' d
            · rfl
            · exact absurd (Nat.eq_of_beq_eq_true hbb) (HL hnd hoj ho (by rw [← hdj]; exact hd') hod hji)
          simp only [vf,hne,cond_false]
          exact hold
    · intro f hfF hno
      have hfree:f.free (n+64 * i)=true:=by
        simp only [lC,Bool.and_eq_true] at hbase
        exact f.okN_free (cl:=[]) (by simp) (List.all_eq_true.1 hbase.2 f hfF)
      rw [AF.ha_agr hagr f hfree]
      refine HA.stp hst _ (fun k hk=>?_) (hB f hfF fun m e' hm hl hx=>hno m e' hm (by simp [ng,hl]) hx)
      rw [AF.ha_uses] at hk
      rcases hκ with hκ | hκ
      · rw [hκ]; simp
      · exact qA (hno i e he (by simp [ng]) hκ) k hk
    · refine ⟨fun A hA=>?_,fun m hm=>?_⟩
      rotate_left
      · have hz:=hagr m (by simp only [cq,Bool.or_eq_true]; exact .inl (Nat.ble_eq_true_of_le (by omega)))
        rw [hz.1,hz.2]; exact hL.2 m hm
      refine HA.stp hst A (fun k hk=>?_) (hL.1 A hA)
      have h2:=hL0.old A hA k hk
      rcases b3 with h | ⟨_,h,_⟩
      · rw [h]; simp
      · intro hk'; have:=h k hk'; omega
    · intro j e' hj hlj hx f hf' hno
      by_cases hji:j=i
      · subst hji
        rw [he] at hj
        simp only [Option.some.injEq] at hj
        subst hj
        exact (hv.1 hx).2 f hf'
      · rw [Bd hji] at hlj
        have hjl:j<ops.length:=by have:=(List.getElem?_eq_some_iff.1 hj).1; omega
        have hoj:ops[j]? = some ops[j]:=List.getElem?_eq_getElem hjl
        have hnm:bM i (cls.getD j [])=false:=hun j hjl hlj
        have hfree:f.free (n+64 * i)=true:=f.okN_free (by
          intro hm
          rcases List.mem_cons.1 hm with hm | hm
          · exact hji hm.symm
          · rw [mem_iff.2 hm] at hnm; cases hnm) ((lN hb hoj hj).2.1 f hf')
        rw [AF.ha_agr hagr f hfree]
        refine HA.stp hst _ (fun k hk=>?_) (hR j e' hj hlj hx f hf' fun m e2 hm hl hx2 hmj hmc=>hno m e2 hm (by simp [ng,hl]) hx2 hmj hmc)
        rw [AF.ha_uses] at hk
        rcases hκ with hκ | hκ
        · rw [hκ]; simp
        · exact qA (hno i e he (by simp [ng]) hκ (Ne.symm hji) hnm) k hk
  have run:eI e.ex→o.wp P a w (RJ B nt cls ops E F es L0 β (ng listed i)) Q:=by
    intro hx
    obtain ⟨hpE,hpF⟩:=Q5 hb hlen hall he hx hf hcl hun hE hV hB hR
    unfold Oper.wp
    rw [ha.eval]
    rcases hsem with ⟨cc,aa,bb,v,hop,hpk,hu⟩ | hsem
    ·
      have hv:aY P ρ o [] (.bool v):=by
        unfold Em at hpk
        split at hpk
        · rename_i t
          split at hpk
          · rename_i jc ec hfc
            have find_get : ∀ {t:Nat} {l:List Ent} {j0 j:Nat} {e:Ent},rW t l j0=some (j,e)→j0≤j∧l[j - j0]? = some e∧e.d=some t:=by
              intro t l
              induction l with
              | nil=>intro j0 j e h; simp [rW] at h
              | cons q r ih=>
                intro j0 j e h
                simp only [rW] at h
                have tail:rW t r (j0+1)=some (j,e)→j0≤j∧(q::r)[j - j0]? = some e∧e.d=some t:=fun h=>by
                  obtain ⟨h1,h2,h3⟩:=ih h
                  refine ⟨by omega,?_,h3⟩
                  rw [show j - j0=(j - (j0+1))+1 by omega]
                  simpa using h2
                split at h
                · rename_i d hdq
                  cases hbb:Nat.beq t d
                  · rw [hbb] at h; exact tail h
                  · rw [hbb] at h
                    simp only [cond_true,Option.some.injEq,Prod.mk.injEq] at h
                    obtain ⟨rfl,rfl⟩:=h
                    exact ⟨Nat.le_refl _,by simp,by rw [hdq,Nat.eq_of_beq_eq_true hbb]⟩
                · exact tail h
            have take_get : ∀ {j:Nat} {e' : Ent},(es.take i)[j]? = some e' → es[j]? = some e' := fun {j e'} h=>by
              rw [List.getElem?_take] at h
              split at h
              · exact h
              · cases h
            have hch:=NJ hlen hall
            cases hmb:(bM jc (cls.getD i [])&&lv ec.g e.g)
            · rw [hmb] at hpk; cases hpk
            · rw [hmb] at hpk
              simp only [cond_true] at hpk
              simp only [Bool.and_eq_true] at hmb
              split at hpk
              · rename_i x p q hxv hp hq
                simp only [Option.some.injEq] at hpk
                subst hpk
                obtain ⟨_,hgc,hdc⟩:=find_get hfc
                have hgc:=take_get hgc
                rw [Nat.sub_zero] at hgc
                have hxc:=DF (hch i e he) (hch jc ec hgc) hmb.2 hx
                have hcv:ρ t = .bool x:=by
                  rw [(hV jc ec hgc (hcl jc hmb.1) t hdc).1 hxc,hxv]; rfl
                have branch : ∀ {side:Bool} {y:Operand} {p:Bool},C7 (cls.getD i []) e.g (es.take i) jc side y=some p→x=side→aK ρ y = .bool p:=by
                  intro side y p hp hs
                  unfold C7 at hp
                  split at hp
                  · simp only [Option.some.injEq] at hp; subst hp; rfl
                  · rename_i t'
                    split at hp
                    · rename_i j ej hfj
                      cases hmb' : (bM j (cls.getD i [])&&(lv ej.g e.g||LP ej.g jc side e.g))
                      · rw [hmb'] at hp; cases hp
                      · rw [hmb'] at hp
                        simp only [cond_true] at hp
                        simp only [Bool.and_eq_true,Bool.or_eq_true] at hmb'
                        obtain ⟨_,hgj,hdj⟩:=find_get hfj
                        have hgj:=take_get hgj
                        rw [Nat.sub_zero] at hgj
                        have hxj:eI ej.ex:=by
                          rcases hmb'.2 with h | h
                          · exact DF (hch i e he) (hch j ej hgj) h hx
                          · refine (hch j ej hgj).2 fun pr hpr=>?_
                            unfold LP at h
                            split at h
                            · rename_i j' s g' hgg
                              simp only [Bool.and_eq_true,beq_iff_eq] at h
                              obtain ⟨⟨h1,h2⟩,h3⟩:=h
                              rw [hgg] at hpr
                              rcases List.mem_cons.1 hpr with rfl | hpr
                              · obtain rfl:=Nat.eq_of_beq_eq_true h1
                                exact ⟨ec,x,hgc,hxv,by rw [h2]; exact hs⟩
                              · exact (hch i e he).1 hx pr (uw h3 pr hpr)
                            · cases h
                        split at hp
                        · rename_i b' hbv
                          simp only [Option.some.injEq] at hp
                          subst hp
                          show ρ t' = .bool b'
                          rw [(hV j ej hgj (hcl j hmb'.1) t' hdj).1 hxj,hbv]; rfl
                        · cases hp
                    · cases hp
                  · cases hp
                exact acb hop hcv (fun hxt=>branch hp hxt) (fun hxf=>branch hq hxf)
              · cases hpk
          · cases hpk
        · cases hpk
      rw [hv _ w c rfl (ai.nil _ _)]
      refine next (.bool v) η w c (Vn.agr_refl _ η) ?_ (.inr hx) ⟨fun _=>⟨by rw [hu]; rfl,fun f hf' => by rw [hu] at hf'; simp at hf'⟩,fun h=>absurd hx h⟩
      rw [hu]; exact Stp.refl w c
    · exact hsem hx η ρ hpE a _ w c _ Q rfl (ai.append hpF fun A hA=>hL.1 A (hL0.gl A hA)) fun y w' c' hst hF=>next _ y.1 w' c' y.2 hst (.inr hx) ⟨fun _=>⟨rfl,fun f hf' => hF _ (List.mem_map.2 ⟨f,hf',rfl⟩)⟩,fun h=>absurd hx h⟩
  have skip : ¬ eI e.ex→RJ B nt cls ops E F es L0 β (ng listed i) (a.put o.dst undef) w:=by
    intro hx
    have hκ:e.u.κ=[]:=by
      rcases b3 with h | ⟨_,_,h⟩
      · exact h
      · exfalso
        rw [h] at hx
        exact hx trivial
    exact next undef η w c (Vn.agr_refl _ η) (by rw [hκ]; exact Stp.refl w c) (.inl hκ) ⟨fun h=>absurd h hx,fun _=>rfl⟩
  unfold wpOp
  rw [show ops.toArray[i]? = some o by simpa using ho]
  simp only
  have hw:Region.wanted o (yielded ops.toArray a.tmps)=true↔eI e.ex:=by
    have key : ∀ {g0:List (Nat×Bool)} {ex0:Option Bool},zY (es.take i) o.guard=some (g0,ex0)→(Region.wanted o (yielded ops.toArray a.tmps)=true↔eI ex0):=by
     intro g0 ex0 hg
     cases hgo:o.guard with
     | none=>
       rw [hgo] at hg
       simp only [zY,Option.some.injEq,Prod.mk.injEq] at hg
       rw [← hg.2]
       simp [Region.wanted,hgo,eI]
     | some jw=>
       obtain ⟨j,want⟩:=jw
       obtain ⟨hjc,ej,dj,hej,hdj⟩:=b5 j want hgo
       rw [hgo] at hg
       unfold zY at hg
       simp only at hg
       split at hg
       · rename_i e' he'
         have hej' : es[j]? = some e' := by
           rw [List.getElem?_take] at he'
           split at he'
           · exact he'
           · cases he'
         rw [hej] at hej'
         simp only [Option.some.injEq] at hej'
         subst hej'
         split at hg
         · rename_i bv hbv
           simp only [Option.some.injEq,Prod.mk.injEq] at hg
           obtain ⟨_,hex⟩:=hg
           have hjl:j<ops.length:=by have:=(List.getElem?_eq_some_iff.1 hej).1; omega
           have hoj:ops[j]? = some ops[j]:=List.getElem?_eq_getElem hjl
           obtain ⟨hdo,_,_⟩:=hall j _ ej hoj hej
           have hy:=Pv (n:=nt) ha hoj (by rw [← hdo]; exact hdj) ((lN hb hoj hej).2.2.2.1 dj hdj)
           have hv:=hV j ej hej (hcl j hjc) dj hdj
           simp only [Region.wanted,hgo,hy]
           rw [← hex]
           by_cases hxe:eI ej.ex
           · rw [hv.1 hxe,hbv]
             have h1:=AC.1 hxe
             simp only [dI,AV.val,Lf.val]
             cases hee2:ej.ex with
             | none=>cases want <;> cases bv <;> simp [eI]
             | some x=>
               rw [hee2] at h1
               simp only [KA] at h1
               subst h1
               cases want <;> cases bv <;> simp [eI]
           · rw [hv.2 hxe]
             cases hee2:ej.ex with
             | none=>rw [hee2] at hxe; exact absurd trivial hxe
             | some x=>
               rw [hee2] at hxe
               have hxf:x=false:=by cases x <;> simp_all [eI]
               subst hxf
               simp [undef,eI]
         · cases hg
       · cases hg
    rcases hg with hg | ⟨⟨g0,hg⟩,_,hg2⟩
    · exact key hg
    · rw [hg2]
      exact ⟨fun _=>trivial,fun _=>(key hg).2 rfl⟩
  by_cases hx:eI e.ex
  · rw [if_pos (hw.2 hx)]
    exact .inl (run hx)
  · rw [if_neg fun h=>hx (hw.1 h)]
    exact skip hx
end
end
end Go.Sm
