/-
  The symbolic evaluator: regions, in the text's order or in any. Nothing of a program is named here; no condition.
-/
import Derived.Test.YtknnphhepnbaoaaGreatDoorRfI
namespace Go.Sm
set_option linter.unusedSectionVars false
section
variable [X:XTab] [G:GTab]
def uni:List Nat→List Nat→List Nat
  | [],b=>b
  | x::r,b=>bif mem x b then uni r b else x::uni r b
def clsGo:List Oper→List (List Nat)→List (List Nat)
  | [],acc=>acc
  | o::r,acc=>clsGo r (acc++[(preds o).foldr (fun k s=>uni (k::acc.getD k []) s) []])
def clsOf (draw:Bool) (l:List Oper):List (List Nat):=bif draw then clsGo l [] else (List.range l.length).map List.range
def eqG:List (Nat×Bool)→List (Nat×Bool)→Bool
  | [],[]=>true
  | (a,x)::r,(b,y)::s=>Nat.beq a b&&(x==y)&&eqG r s
  | _,_=>false
def sufx (a:List (Nat×Bool)):List (Nat×Bool)→Bool
  | []=>eqG a []
  | p::r=>eqG a (p::r)||sufx a r
theorem eqG_eq : ∀ {a b:List (Nat×Bool)},eqG a b=true→a=b
  | [],[],_=>rfl
  | (a,x)::r,(b,y)::s,h=>by
    simp only [eqG,Bool.and_eq_true,beq_iff_eq] at h
    rw [Nat.eq_of_beq_eq_true h.1.1,h.1.2,eqG_eq h.2]
  | [],_::_,h=>by cases h
  | _::_,[],h=>by cases h
structure Ent where
  d:Option Tmp
  g:List (Nat×Bool)
  ex:Option Bool
  u:Out
def exB:Option Bool→Bool
  | none=>true
  | some b=>b
theorem exT_iff {e:Option Bool}:exT e↔exB e=true:=by cases e <;> simp [exT,exB]
def visE (cl:List Nat) (g:List (Nat×Bool)):List Ent→Nat→SE
  | [],_=>[]
  | e::r,j=>match e.d with
    | some d=>bif mem j cl&&sufx e.g g then (d,e.u.av)::visE cl g r (j+1) else visE cl g r (j+1)
    | none=>visE cl g r (j+1)
def dsts (l:List Oper):List Nat:=l.filterMap fun o=>o.dst
def baseE (ds:List Nat) (E:SE):SE:=match E with
  | []=>[]
  | (t,v)::r=>bif mem t ds then baseE ds r else (t,v)::baseE ds r
def hits (κ:List Nat) (f:AF):Bool:=κ.any fun k=>mem k f.uses
def mayB (cls:List (List Nat)) (m i:Nat):Bool:=!(Nat.beq m i) && !(mem i (cls.getD m []))
def dstsI (cls:List (List Nat)) (i:Nat):List Oper→Nat→List Nat
  | [],_=>[]
  | o::r,m=>match o.dst with
    | some d=>bif mayB cls m i then d::dstsI cls i r (m+1) else dstsI cls i r (m+1)
    | none=>dstsI cls i r (m+1)
def hitBy (cls:List (List Nat)) (i:Nat) (clj:List Nat) (j:Nat) (f:AF):List Ent→Nat→Bool
  | [],_=>false
  | e::r,m=>(!(e.u.κ.isEmpty)&&mayB cls m i && !(Nat.beq m j) && !(mem m clj)&&hits e.u.κ f)||hitBy cls i clj j f r (m+1)
def visF (cls:List (List Nat)) (i:Nat) (cl:List Nat) (g:List (Nat×Bool)) (all:List Ent):List Ent→Nat→List AF
  | [],_=>[]
  | e::r,j=>(bif mem j cl&&sufx e.g g then e.u.fs.filter (fun f=>!(hitBy cls i (cls.getD j []) j f all 0)) else [])++visF cls i cl g all r (j+1)
def PC.mut:PC→Bool
  | .own _ _=>true
  | .box m _ _=>m
  | .prt _ _=>true
  | _=>false
def killer (C:Cx) (o:Oper):Bool:=match o.op with
  | .store _ _ _=>true
  | .call c=>match c.callee with
    | .builtin .append=>true
    | .value (.func f)=>(C.Γ f).any fun c=>c.ps.any PC.mut
    | .value _=>C.W
    | _=>false
  | _=>false
def appT (op:Op):Option Nat:=match op with
  | .call c=>match c.callee,c.args.toList with
    | .builtin .append, .tmp t::_=>some t
    | _,_=>none
  | _=>none
def softT (ops:List Oper):Nat→Nat→Bool
  | 0,_=>false
  | k+1,t=>ops.any fun p=>match p.dst,p.op with
    | some d, .buildSlice _ _ _=>Nat.beq t d
    | some d,op=>Nat.beq t d&&match appT op with
      | some t' => softT ops k t'
      | none=>false
    | none,_=>false
def softK (ops:List Oper) (o:Oper):Bool:=match appT o.op with
  | some t=>softT ops 3 t
  | none=>false
def lateS (C:Cx) (cls:List (List Nat)) (ops:List Oper) (i:Nat):List Oper→Nat→Bool
  | [],_=>false
  | o::r,m=>(Nat.blt i m&&killer C o&&softK ops o&&mayB cls m i)||lateS C cls ops i r (m+1)
def belowF (N:Nat) (f:AF):Bool:=f.uses.all fun k=>Nat.blt k N
def lateK (C:Cx) (cls:List (List Nat)) (ops:List Oper) (i:Nat):List Oper→Nat→Bool
  | [],_=>false
  | o::r,m=>(Nat.blt i m&&killer C o && !(softK ops o)&&mayB cls m i)||lateK C cls ops i r (m+1)
def safeF (f:AF):Bool:=f.uses.all fun k=>Nat.ble k 1
def factsI (C:Cx) (N:Nat) (cls:List (List Nat)) (ops:List Oper) (F:List AF) (i:Nat) (g:List (Nat×Bool)) (es:List Ent):List AF:=
  let L:=visF cls i (cls.getD i []) g es es 0++F.filter (fun f=>!(hitBy cls i [] ops.length f es 0))
  bif lateK C cls ops i ops 0 then L.filter safeF else bif lateS C cls ops i ops 0 then L.filter (belowF N) else L
def envI (cls:List (List Nat)) (ops:List Oper) (E:SE) (i:Nat) (g:List (Nat×Bool)) (es:List Ent):SE:=visE (cls.getD i []) g es 0++baseE (dstsI cls i ops 0) E
def gdI (es:List Ent):Option (Nat×Bool)→Option (List (Nat×Bool)×Option Bool)
  | none=>some ([],none)
  | some (j,want)=>match es[j]? with
    | some e=>match e.u.av with
      | .lf (.c .bool b)=>
        let lit:=bif want then b else !b
        some ((j,want)::e.g,some (match e.ex with | none=>lit | some x=>x&&lit))
      | _=>none
    | none=>none
def findD (t:Nat):List Ent→Nat→Option (Nat×Ent)
  | [],_=>none
  | e::r,j=>match e.d with
    | some d=>bif Nat.beq t d then some (j,e) else findD t r (j+1)
    | none=>findD t r (j+1)
def sideG (eg:List (Nat×Bool)) (jc:Nat) (side:Bool) (g:List (Nat×Bool)):Bool:=match eg with
  | (j',s)::g' => Nat.beq j' jc&&(s==side)&&sufx g' g
  | []=>false
def pickB (cl:List Nat) (g:List (Nat×Bool)) (es:List Ent) (jc:Nat) (side:Bool):Operand→Option Bool
  | .const (.bool b)=>some b
  | .tmp t=>match findD t es 0 with
    | some (j,e)=>bif mem j cl&&(sufx e.g g||sideG e.g jc side g) then match e.u.av with
        | .lf (.c .bool b)=>some b
        | _=>none
      else none
    | none=>none
  | _=>none
def pickI (cl:List Nat) (g:List (Nat×Bool)) (es:List Ent) (c a b:Operand):Option Bool:=match c with
  | .tmp t=>match findD t es 0 with
    | some (jc,e)=>bif mem jc cl&&sufx e.g g then match e.u.av,pickB cl g es jc true a,pickB cl g es jc false b with
        | .lf (.c .bool x),some p,some q=>some (bif x then p else q)
        | _,_,_=>none
      else none
    | none=>none
  | _=>none
def rgo {R:Type} (C:Cx) (n N:Nat) (cls:List (List Nat)) (ops:List Oper) (E:SE) (F:List AF):List Oper→Nat→List Ent→(List Ent→Option R)→Option R
  | [],_,es,k=>k es
  | o::r,i,es,k=>match gdI es o.guard with
    | none=>none
    | some (g,ex)=>match o.op with
      | .pick c a b=>match pickI (cls.getD i []) g es c a b with
        | some v=>rgo C n N cls ops E F r (i+1) (es++[⟨o.dst,g,ex,pureO (boolL v)⟩]) k
        | none=>none
      | op=>semOp C ex (n+64 * i) (N+64 * i) (envI cls ops E i g es) (factsI C N cls ops F i g es) op (fun u=>rgo C n N cls ops E F r (i+1) (es++[⟨o.dst,g,ex,u⟩]) k)
def EntOk (C:Cx) (P:Program) (n N:Nat) (cls:List (List Nat)) (ops:List Oper) (E:SE) (F:List AF) (o:Oper) (i:Nat) (es:List Ent) (e:Ent):Prop:=
  e.d=o.dst∧gdI es o.guard=some (e.g,e.ex) ∧
  ((∃ c a b v,o.op = .pick c a b∧pickI (cls.getD i []) e.g es c a b=some v∧e.u=pureO (boolL v)) ∨
   (exT e.ex→OpS P o (envI cls ops E i e.g es) (factsI C N cls ops F i e.g es) (n+64 * i) e.u))
theorem rgo_ok {R:Type} {P:Program} {C:Cx} (hC:C.ok P) {n N:Nat} {cls:List (List Nat)} {ops:List Oper} {E:SE} {F:List AF} {k:List Ent→Option R} {r:R} :
    ∀ {l:List Oper} {i:Nat} {es:List Ent},rgo C n N cls ops E F l i es k=some r→ops.drop i=l→es.length=i→(∀ j o e,ops[j]? = some o→es[j]? = some e→EntOk C P n N cls ops E F o j (es.take j) e) →
    ∃ es',k es' = some r∧es'.length=i+l.length∧∀ j o e,ops[j]? = some o→es'[j]? = some e→EntOk C P n N cls ops E F o j (es'.take j) e
  | [],i,es,h,hd,hl,hall=>⟨es,h,by simpa using hl,hall⟩
  | o::l,i,es,h,hd,hl,hall=>by
    simp only [rgo] at h
    have ho:ops[i]? = some o:=by
      have:=congrArg (·[0]?) hd
      simpa [List.getElem?_drop] using this
    have hd' : ops.drop (i+1)=l:=by
      have:=congrArg (List.drop 1) hd
      simpa [List.drop_drop] using this
    have next : ∀ {g:List (Nat×Bool)} {ex:Option Bool} {u:Out},gdI es o.guard=some (g,ex) →
        ((∃ c a b v,o.op = .pick c a b∧pickI (cls.getD i []) g es c a b=some v∧u=pureO (boolL v))∨(exT ex→OpS P o (envI cls ops E i g es) (factsI C N cls ops F i g es) (n+64 * i) u)) →
        rgo C n N cls ops E F l (i+1) (es++[⟨o.dst,g,ex,u⟩]) k=some r →
        ∃ es',k es' = some r∧es'.length=i+(o::l).length∧∀ j o e,ops[j]? = some o→es'[j]? = some e→EntOk C P n N cls ops E F o j (es'.take j) e:=by
      intro g ex u hg hu hr
      obtain ⟨es',h1,h2,h3⟩:=rgo_ok hC hr hd' (by simp [hl]) (fun j o' e hj he=>by
        by_cases hji:j<i
        · rw [List.getElem?_append_left (by omega)] at he
          rw [List.take_append_of_le_length (by omega)]
          exact hall j o' e hj he
        · have hlt:=(List.getElem?_eq_some_iff.1 he).1
          simp only [List.length_append,List.length_singleton] at hlt
          have hji' : j=i:=by omega
          subst hji'
          rw [List.getElem?_append_right (by omega),show j - es.length=0 by omega] at he
          simp only [List.getElem?_cons_zero,Option.some.injEq] at he
          subst he
          rw [ho] at hj
          simp only [Option.some.injEq] at hj
          subst hj
          rw [List.take_append_of_le_length (by omega),List.take_of_length_le (by omega)]
          exact ⟨rfl,hg,hu⟩)
      exact ⟨es',h1,by simp only [List.length_cons]; omega,h3⟩
    split at h
    · cases h
    · rename_i g ex hg
      split at h
      · rename_i c a b hop
        split at h
        · rename_i v hv
          exact next hg (.inl ⟨c,a,b,v,hop,hv,rfl⟩) h
        · cases h
      · obtain ⟨u,hu,hs⟩:=semOp_ok (P:=P) (o:=o) hC (ex:=ex) (n:=n+64 * i) (N:=N+64 * i) (E:=envI cls ops E i g es) (F:=factsI C N cls ops F i g es) (fun u=>rgo C n N cls ops E F l (i+1) (es++[⟨o.dst,g,ex,u⟩]) k) r (by assumption)
        exact next hg (.inr hs) hu
def okN (n:Nat) (cl:List Nat) (m:Nat):Bool:=Nat.blt m n||cl.any fun i=>Nat.ble (n+64 * i) m&&Nat.blt m (n+64 * i+64)
def Lf.okN (n:Nat) (cl:List Nat) (l:Lf):Bool:=match l with
  | .sl h=>Go.Sm.okN n cl h
  | .rp h _ _ _ _=>Go.Sm.okN n cl h
  | .bp b _=>Go.Sm.okN n cl b
  | .bq b _ _ _ _=>Go.Sm.okN n cl b
  | .clo _ b=>Go.Sm.okN n cl b
  | _=>true
def okNL (n:Nat) (cl:List Nat):List Lf→Bool
  | []=>true
  | l::r=>l.okN n cl&&okNL n cl r
mutual
def AV.okN (n:Nat) (cl:List Nat):AV→Bool
  | .lf l=>l.okN n cl
  | .ag ls=>okNL n cl ls
  | .tu vs=>AV.okNs n cl vs
def AV.okNs (n:Nat) (cl:List Nat):List AV→Bool
  | []=>true
  | v::r=>v.okN n cl&&AV.okNs n cl r
end
def AF.okN (n:Nat) (cl:List Nat):AF→Bool
  | .rep _ _ _ h=>Go.Sm.okN n cl h
  | .own _ _ _ _ _ h=>Go.Sm.okN n cl h
  | .box _ b cs=>Go.Sm.okN n cl b&&okNL n cl cs
  | .isn h _=>Go.Sm.okN n cl h
  | .prt h' h _ _ _=>Go.Sm.okN n cl h' && Go.Sm.okN n cl h
theorem okN_out {n:Nat} {cl:List Nat} {m i:Nat} (h:okN n cl m=true) (hi:i∉cl):out (n+64 * i) m=true:=by
  simp only [okN,Bool.or_eq_true] at h
  simp only [out,Bool.or_eq_true]
  rcases h with h | h
  · left
    have:m+1≤n:=Nat.le_of_ble_eq_true h
    exact Nat.ble_eq_true_of_le (by omega)
  · obtain ⟨j,hj,hb⟩:=List.any_eq_true.1 h
    simp only [Bool.and_eq_true] at hb
    have h1:=Nat.le_of_ble_eq_true hb.1
    have h2:m+1≤n+64 * j+64:=Nat.le_of_ble_eq_true hb.2
    have hne:i≠j:=fun e=>hi (e ▸ hj)
    rcases Nat.lt_or_ge i j with h3 | h3
    · right; exact Nat.ble_eq_true_of_le (by omega)
    · left; exact Nat.ble_eq_true_of_le (by omega)
theorem Lf.okN_free {n:Nat} {cl:List Nat} {i:Nat} (hi:i∉cl):(l:Lf)→l.okN n cl=true→l.free (n+64 * i)=true
  | .sl _,h=>okN_out h hi
  | .rp _ _ _ _ _,h=>okN_out h hi
  | .bp _ _,h=>okN_out h hi
  | .bq _ _ _ _ _,h=>okN_out h hi
  | .clo _ _,h=>okN_out h hi
  | .gp _ _ _ _ _,_=>rfl
  | .ars _ _,_=>rfl
  | .c _ _,_=>rfl
  | .ar _ _ _,_=>rfl
  | .nl,_=>rfl
  | .xt _ _,_=>rfl
  | .fn _,_=>rfl
  | .v _,_=>rfl
theorem okNL_free {n:Nat} {cl:List Nat} {i:Nat} (hi:i∉cl) : ∀ {ls:List Lf},okNL n cl ls=true→freeL (n+64 * i) ls=true
  | [],_=>rfl
  | l::r,h=>by
    simp only [okNL,Bool.and_eq_true] at h
    simp only [freeL,l.okN_free hi h.1,okNL_free hi h.2,Bool.and_self]
mutual
theorem AV.okN_free {n:Nat} {cl:List Nat} {i:Nat} (hi:i∉cl):(v:AV)→v.okN n cl=true→v.free (n+64 * i)=true
  | .lf l,h=>by simp only [AV.free]; exact l.okN_free hi h
  | .ag ls,h=>by simp only [AV.free]; exact okNL_free hi h
  | .tu vs,h=>by simp only [AV.free]; exact AV.okNs_free hi vs h
theorem AV.okNs_free {n:Nat} {cl:List Nat} {i:Nat} (hi:i∉cl):(vs:List AV)→AV.okNs n cl vs=true→AV.frees (n+64 * i) vs=true
  | [],_=>rfl
  | v::r,h=>by
    simp only [AV.okNs,Bool.and_eq_true] at h
    simp only [AV.frees,AV.okN_free hi v h.1,AV.okNs_free hi r h.2,Bool.and_self]
end
theorem AF.okN_free {n:Nat} {cl:List Nat} {i:Nat} (hi:i∉cl):(f:AF)→f.okN n cl=true→f.free (n+64 * i)=true
  | .rep _ _ _ _,h=>okN_out h hi
  | .own _ _ _ _ _ _,h=>okN_out h hi
  | .box _ b cs,h=>by
    simp only [AF.okN,Bool.and_eq_true] at h
    simp only [AF.free,okN_out h.1 hi,okNL_free hi h.2,Bool.and_self]
  | .isn _ _,h=>okN_out h hi
  | .prt _ _ _ _ _,h=>by
    simp only [AF.okN,Bool.and_eq_true] at h
    simp only [AF.free,okN_out h.1 hi,okN_out h.2 hi,Bool.and_self]
def entB (C:Cx) (n N nt:Nat) (cls:List (List Nat)) (ops:List Oper) (es:List Ent) (i:Nat):Bool:=match ops[i]?,es[i]? with
  | some o,some e=>e.u.av.okN n (i::cls.getD i [])&&e.u.fs.all (AF.okN n (i::cls.getD i []))&&(e.u.κ.isEmpty||(killer C o&&e.u.κ.all (fun k=>Nat.ble 2 k)&&match o.guard with | none=>true | some _=>false)) &&
      (match e.d with | some d=>Nat.blt d nt | none=>true)&&(!(softK ops o)||e.u.κ.all (fun k=>Nat.ble N k))&&(match o.guard with | some (j,_)=>mem j (cls.getD i [])&&(match es[j]? with | some e' => e'.d.isSome | none=>false) | none=>true)
  | _,_=>false
def nodupL:List Nat→Bool
  | []=>true
  | a::r=>!(mem a r)&&nodupL r
def baseB (n:Nat) (E:SE) (F:List AF):Bool:=E.all (fun p=>p.2.okN n [])&&F.all (AF.okN n [])
def regB (C:Cx) (n N nt:Nat) (draw:Bool) (cls:List (List Nat)) (ops:List Oper) (E:SE) (F:List AF) (es:List Ent):Bool:=
  (!draw||clOk ops cls)&&cls.all (fun c=>c.all fun j=>Nat.blt j ops.length)&&nodupL (dsts ops)&&baseB n E F&&(List.range ops.length).all (entB C n N nt cls ops es)
end
end Go.Sm
