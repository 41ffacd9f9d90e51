/-
  The symbolic evaluator: code as a whole. Nothing of a program is named here; no condition.
-/
import Derived.Test.YtknnphhepnbaoaaGreatDoorRfO
import Derived.Scope
namespace Go.Sm
set_option linter.unusedSectionVars false
section
variable [X:XTab] [G:GTab]
class Itr where
 it : {S R:Type}→(S→Option (S⊕R))→S→Option R
 ok : ∀ {S R:Type} (f:S→Option (S⊕R)) (s:S) (r:R),it f s=some r→∃ n,iter f n s=some r
def FUEL:Nat:=9223372036854775808
@[reducible] def itF:Itr:=⟨fun f s=>iter f FUEL s,fun _ _ _ h=>⟨FUEL,h⟩⟩
inductive An
 | z
 | s (a b:An)
 | u (a:An)
 | j (sh:Shp) (ne:Bool) (a b:An)
 | l (sh:Shp) (a:An)
def An.fst:An→An
 | .s a _=>a
 | .u a=>a
 | _=>.z
def An.snd:An→An
 | .s _ b=>b
 | _=>.z
structure Kn (R:Type) where
 n:SS→Option R
 r:SS→Option R
 x:Nat→SS→Option R
def selE (E:SE):List Nat→SE
 | []=>[]
 | t::r=>match look E t with
  | some v=>(t,v)::selE E r
  | none=>selE E r
def ownLf (F:List AF) (l:Lf):List Nat:=match l with
 | .sl h=>F.flatMap fun f=>match f with
  | .own _ _ i _ _ h' => bif Nat.beq h h' then [i] else []
  | _=>[]
 | _=>[]
def ownAV (F:List AF):AV→List Nat
 | .lf l=>ownLf F l
 | .ag ls=>ls.flatMap (ownLf F)
 | .tu _=>[]
def ownSlot (E:SE) (F:List AF) (t:Nat):List Nat:=match look E t with
 | some v=>ownAV F v
 | none=>[]
def ownBox (E:SE) (F KF:List AF) (t:Nat):List Nat:=match look E t with
 | some (.lf (.bp b 0))=>match boxI b F with
  | some (i,cs)=>i::cs.flatMap (ownLf F)
  | none=>[]
 | some (.lf (.sl h))=>match prtI h (F++KF) with
  | some (h0,_,_,_)=>ownLf F (.sl h0)
  | none=>[]
 | _=>[]
def chgC (sh:Shp) (KE:SE) (KF:List AF) (S:SS):List Nat:=(sh.vs.map (·.1)++sh.dead).flatMap (ownSlot S.E S.F)++(sh.bx.map (·.1)).flatMap (ownBox (S.E++KE) S.F KF)
def keptE (sh:Shp) (S:SS):SE:=selE S.E sh.keep
def AV.hs:AV→List Nat
 | .lf l=>l.hs
 | .ag ls=>ls.flatMap Lf.hs
 | .tu _=>[]
def hsSlot (E:SE) (t:Nat):List Nat:=match look E t with
 | some v=>v.hs
 | none=>[]
def hsBox (E:SE) (F:List AF) (t:Nat):List Nat:=match look E t with
 | some (.lf (.bp b 0))=>match boxI b F with
  | some (_,cs)=>cs.flatMap Lf.hs
  | none=>[]
 | _=>[]
def movH (sh:Shp) (KE:SE) (S:SS) (cs:List Nat):List Nat:=
 let out:=(keptE sh S).flatMap (fun p=>p.2.hs)++S.F.flatMap fun f=>match f with
  | .box i _ ls=>bif mem i cs then [] else ls.flatMap Lf.hs
  | _=>[]
 ((sh.vs.map (·.1)++sh.dead).flatMap (hsSlot S.E)++(sh.bx.map (·.1)).flatMap (hsBox (S.E++KE) S.F)).filter fun h=>!(mem h out)
def isH (m:List Nat) (f:AF):Bool:=match f with
 | .rep _ _ _ h=>mem h m
 | .own _ _ _ _ _ h=>mem h m
 | .isn h _=>mem h m
 | .box _ _ _=>false
 | .prt _ _ _ _ _=>false
def goesIn (cs m:List Nat) (f:AF):Bool:=hits cs f||isH m f
def keptF (sh:Shp) (KE:SE) (KF:List AF) (S:SS):List AF:=let cs:=chgC sh KE KF S; let m:=movH sh KE S cs; S.F.filter fun f=>!(goesIn cs m f)
def inS (sh:Shp) (KE:SE) (KF:List AF) (S:SS):SS:=let cs:=chgC sh KE KF S; let m:=movH sh KE S cs; ⟨selE S.E (sh.vs.map (·.1)++sh.dead),S.F.filter (goesIn cs m),S.nn+64,S.nc+256,[]⟩
def push (dd:List Nat) (kE:SE) (kF:List AF) (S:SS):SS:=⟨S.E++kE,S.F++live S.d kF,S.nn,S.nc,S.d++dd⟩
def disj (KE:SE) (S:SS):Bool:=KE.all fun p=>(look S.E p.1).isNone
def sem [Itr] (C:Cx) (nt:Nat):Code→(R:Type)→An→SE→List AF→SS→Kn R→Option R
 | .skip,_,_,_,_,S,K=>K.n S
 | .region _ ops draw,_,_,KE,KF,S,K=>semReg C nt draw ops.toList KE KF S K.n
 | .seq a b,R,an,KE,KF,S,K=>match an with
  | .j sh ne aa ab=>
   let kE:=keptE sh S
   let kF:=keptF sh KE KF S
   bif disj KE S then bif ne then
    (sem C nt a (DSp sh.ls) aa (kE++KE) (kF++live S.d KF) (inS sh KE KF S) ⟨meetS sh (kE++KE) (kF++live S.d KF) S.nn S.nc,fun _=>none,fun _ _=>none⟩).bind fun d=>
     sem C nt b R ab KE KF (push S.d kE kF (concS sh (kE++KE) (kF++live S.d KF) S.nn S.nc d)) K
   else
    (sem C nt a (DSp sh.ls⊕R) aa (kE++KE) (kF++live S.d KF) (inS sh KE KF S) ⟨fun S' => (meetS sh (kE++KE) (kF++live S.d KF) S.nn S.nc S').map .inl,fun S' => (K.r (push S.d kE kF S')).map .inr,fun i S' => (K.x i (push S.d kE kF S')).map .inr⟩).bind fun z=>
     match z with
     | .inl d=>sem C nt b R ab KE KF (push S.d kE kF (concS sh (kE++KE) (kF++live S.d KF) S.nn S.nc d)) K
     | .inr r=>some r
   else none
  | an=>sem C nt a R an.fst KE KF S ⟨fun S' => sem C nt b R an.snd KE KF S' K,K.r,K.x⟩
 | .cond c a b,R,an,KE,KF,S,K=>match ev (S.E++KE) c with
  | some (.lf (.c .bool x))=>bif x then sem C nt a R an.fst KE KF S K else sem C nt b R an.snd KE KF S K
  | _=>none
 | .block id a,R,an,KE,KF,S,K=>sem C nt a R an.fst KE KF S ⟨K.n,K.r,fun i S' => bif Nat.beq i id then K.n S' else K.x i S'⟩
 | .loop a,R,an,KE,KF,S,K=>match an with
  | .l sh aa=>
   let kE:=keptE sh S
   let kF:=keptF sh KE KF S
   bif disj KE S then
    (meetS sh (kE++KE) (kF++live S.d KF) S.nn S.nc (inS sh KE KF S)).bind fun d0=>
    Itr.it (fun d=>sem C nt a (DSp sh.ls⊕R) aa (kE++KE) (kF++live S.d KF) (concS sh (kE++KE) (kF++live S.d KF) S.nn S.nc d)
     ⟨fun S' => (meetS sh (kE++KE) (kF++live S.d KF) S.nn S.nc S').map .inl,fun S' => (K.r (push S.d kE kF S')).map .inr,fun i S' => (K.x i (push S.d kE kF S')).map .inr⟩) d0
   else none
  | _=>none
 | .exit id,_,_,_,_,S,K=>K.x id S
 | .ret,_,_,_,_,S,K=>K.r S
 | .label _,_,_,_,_,S,K=>K.n S
 | .scope a,R,an,KE,KF,S,K=>sem C nt a R an.fst KE KF S K
 | _,_,_,_,_,_,_=>none
section
variable {P:Program} {nt:Nat} {L0:List HA} {β:Vn} {C:Cx}
theorem Inv.push {KE kE:SE} {KF kF:List AF} {dd:List Nat} {S:SS} {a:Act} {w:World} (h:Inv nt L0 β (kE++KE) (kF++live dd KF) S a w):Inv nt L0 β KE KF (Go.Sm.push dd kE kF S) a w:=by
 obtain ⟨η,c,ρ,ha,hE,hF,hL⟩:=h
 exact ⟨η,c,ρ,ha,by simpa [Go.Sm.push,List.append_assoc] using hE,by simpa [Go.Sm.push,List.append_assoc,live_append,live_live] using hF,hL⟩
theorem selE_look {E:SE} {t:Nat} {v:AV} : ∀ {ts:List Nat},look (selE E ts) t=some v→look E t=some v
 | [],h=>by simp [selE,look] at h
 | s::r,h=>by
  simp only [selE] at h
  split at h
  ·rename_i u hu
   simp only [look] at h
   cases hb:Nat.beq t s
   ·rw [hb] at h; exact selE_look h
   ·rw [hb] at h
    simp only [cond_true,Option.some.injEq] at h
    rw [Nat.eq_of_beq_eq_true hb,← h]; exact hu
  ·exact selE_look h
theorem look_left {E E' : SE} {t:Nat} {v:AV} (h:look E t=some v):look (E++E') t=some v:=by
 induction E with
 | nil=>simp [look] at h
 | cons p r ih=>
  simp only [List.cons_append,look] at h ⊢
  cases hb:Nat.beq t p.1
  ·rw [hb] at h; exact ih h
  ·rw [hb] at h; exact h
theorem disj_look {KE:SE} {S:SS} (h:disj KE S=true) {t:Nat} {v:AV} (hl:look KE t=some v):look (S.E++KE) t=some v:=by
 have:=List.all_eq_true.1 h _ (look_mem hl)
 rw [look_right (by simpa using this)]
 exact hl
theorem Inv.split {sh:Shp} {KE:SE} {KF:List AF} {S:SS} (hd:disj KE S=true) {a:Act} {w:World} (h:Inv nt L0 β KE KF S a w):Inv nt L0 β (keptE sh S++KE) (keptF sh KE KF S++live S.d KF) (inS sh KE KF S) a w:=by
 obtain ⟨η,c,ρ,ha,hE,hF,hL⟩:=h
 refine ⟨η,c,ρ,ha,fun t v hl=>?_,fun A hA=>?_,hL⟩
 ·rcases look_append hl with hl | hl
  ·exact hE t v (look_left (selE_look hl))
  ·rcases look_append hl with hl | hl
   ·exact hE t v (look_left (selE_look hl))
   ·exact hE t v (disj_look hd hl)
 ·rw [show (inS sh KE KF S).d=[] from rfl,live_nil] at hA
  obtain ⟨f,hf,rfl⟩:=List.mem_map.1 hA
  refine hF _ (List.mem_map.2 ⟨f,?_,rfl⟩)
  rcases List.mem_append.1 hf with hf | hf
  ·exact List.mem_append_left _ (List.mem_filter.1 hf).1
  ·rcases List.mem_append.1 hf with hf | hf
   ·exact List.mem_append_left _ (List.mem_filter.1 hf).1
   ·exact List.mem_append_right _ hf
theorem sem_ok [Itr] (hC:C.ok P) (hm:P.follows .mixedOrders=true) (hL0:L0ok L0) : ∀ (cd:Code) {R:Type} {an:An} {KE:SE} {KF:List AF} {S:SS} {K:Kn R} {r:R},sem C nt cd R an KE KF S K=some r →
  ∀ {Q:Exit→Act→World→Prop} {a:Act} {w:World},Inv nt L0 β KE KF S a w →
   (∀ S',K.n S' = some r→∀ a w,Inv nt L0 β KE KF S' a w→Q .normal a w)→(∀ S',K.r S' = some r→∀ a w,Inv nt L0 β KE KF S' a w→Q .ret a w) →
   (∀ i S',K.x i S' = some r→∀ a w,Inv nt L0 β KE KF S' a w→Q (.exit i) a w)→cd.wp P Q a w
 | .skip,R,an,KE,KF,S,K,r,h,Q,a,w,hI,hn,hr,hx=>wp_skip (hn S h a w hI)
 | .exit id,R,an,KE,KF,S,K,r,h,Q,a,w,hI,hn,hr,hx=>wp_exit (hx id S h a w hI)
 | .ret,R,an,KE,KF,S,K,r,h,Q,a,w,hI,hn,hr,hx=>wp_ret (hr S h a w hI)
 | .region id ops draw,R,an,KE,KF,S,K,r,h,Q,a,w,hI,hn,hr,hx=>by
  obtain ⟨S',h1,h2⟩:=semReg_ok hC hm hL0 h
  have:=h2 id Q a w hI (hn S' h1)
  simpa using this
 | .cond c x y,R,an,KE,KF,S,K,r,h,Q,a,w,hI,hn,hr,hx=>by
  simp only [sem] at h
  split at h
  ·rename_i b hb
   have hI' := hI
   obtain ⟨η,cc,ρ,ha,hE,_,_⟩:=hI'
   refine wp_cond_split (t:=b) (by rw [ha.eval]; exact ev_ok hE hb) (fun ht=>?_) (fun hf=>?_)
   ·subst ht; exact sem_ok hC hm hL0 x h hI hn hr hx
   ·subst hf; exact sem_ok hC hm hL0 y h hI hn hr hx
  ·cases h
 | .block id x,R,an,KE,KF,S,K,r,h,Q,a,w,hI,hn,hr,hx=>by
  simp only [sem] at h
  refine wp_block (sem_ok hC hm hL0 x h hI (fun S' h' a w hI' => hn S' h' a w hI') (fun S' h' a w hI' => hr S' h' a w hI') fun i S' h' a w hI' => ?_)
  simp only at h'
  cases hb:Nat.beq i id
  ·rw [hb] at h'
   have:i≠id:=Nat.ne_of_beq_eq_false hb
   simp only [Exit.inBlock,if_neg this]
   exact hx i S' h' a w hI'
  ·rw [hb] at h'
   obtain rfl:=Nat.eq_of_beq_eq_true hb
   simp only [Exit.inBlock,if_true]
   exact hn S' h' a w hI'
 | .seq x y,R,an,KE,KF,S,K,r,h,Q,a,w,hI,hn,hr,hx=>by
  simp only [sem] at h
  split at h
  ·rename_i sh ne aa ab
   cases hd:disj KE S
   ·rw [hd] at h; cases h
   ·rw [hd] at h
    simp only [cond_true] at h
    have hI0:=hI.split (sh:=sh) hd
    have done : ∀ d,sem C nt y R ab KE KF (Go.Sm.push S.d (keptE sh S) (keptF sh KE KF S) (concS sh (keptE sh S++KE) (keptF sh KE KF S++live S.d KF) S.nn S.nc d)) K=some r →
      ∀ S' a w,meetS sh (keptE sh S++KE) (keptF sh KE KF S++live S.d KF) S.nn S.nc S' = some d→Inv nt L0 β (keptE sh S++KE) (keptF sh KE KF S++live S.d KF) S' a w→y.wp P Q a w:=
     fun d hy S' a w hms hI' => sem_ok hC hm hL0 y hy (meet_ok hL0 hms hI').push hn hr hx
    cases ne with
    | true=>
     simp only [cond_true] at h
     obtain ⟨d,h1,h2⟩:=bind_some h
     exact wp_seq (sem_ok hC hm hL0 x h1 hI0 (fun S' h' a w hI' => done d h2 S' a w h' hI') (fun S' h' => by cases h') (fun i S' h' => by cases h'))
    | false=>
     simp only [cond_false] at h
     obtain ⟨z,h1,h2⟩:=bind_some h
     refine wp_seq (sem_ok hC hm hL0 x h1 hI0 (fun S' h' a w hI' => ?_) (fun S' h' a w hI' => ?_) (fun i S' h' a w hI' => ?_))
     ·simp only [Option.map_eq_some_iff] at h'
      obtain ⟨d,hms,rfl⟩:=h'
      exact done d h2 S' a w hms hI'
     ·simp only [Option.map_eq_some_iff] at h'
      obtain ⟨r',hr',rfl⟩:=h'
      simp only [Option.some.injEq] at h2
      subst h2
      exact hr _ hr' a w hI'.push
     ·simp only [Option.map_eq_some_iff] at h'
      obtain ⟨r',hr',rfl⟩:=h'
      simp only [Option.some.injEq] at h2
      subst h2
      exact hx i _ hr' a w hI'.push
  ·exact wp_seq (sem_ok hC hm hL0 x h hI (fun S' h' a w hI' => sem_ok hC hm hL0 y h' hI' hn hr hx) hr hx)
 | .loop x,R,an,KE,KF,S,K,r,h,Q,a,w,hI,hn,hr,hx=>by
  simp only [sem] at h
  split at h
  ·rename_i sh aa
   cases hd:disj KE S
   ·rw [hd] at h; cases h
   ·rw [hd] at h
    simp only [cond_true] at h
    have hI0:=hI.split (sh:=sh) hd
    obtain ⟨d0,h1,h2⟩:=bind_some h
    have hI1:=meet_ok hL0 h1 hI0
    clear h hI hI0 h1
    generalize keptE sh S=kE at *
    generalize keptF sh KE KF S=kF at *
    replace h2:=Itr.ok _ _ _ h2
    obtain ⟨fuel,h2⟩:=h2
    refine wp_loop_rounds fuel ?_
    induction fuel generalizing d0 a w with
    | zero=>simp [iter] at h2
    | succ k ih=>
     simp only [iter] at h2
     obtain ⟨z,hz,hk⟩:=bind_some h2
     rw [rounds_succ]
     have h3:=sem_ok hC hm hL0 x hz (Q:=fun e a w=>match e with
      | .normal=>∃ d',z = .inl d' ∧ Inv nt L0 β (kE++KE) (kF++live S.d KF) (concS sh (kE++KE) (kF++live S.d KF) S.nn S.nc d') a w
      | e=>(∃ r',z = .inr r')∧(z = .inr r→Q e a w)) hI1 (fun S' h' a w hI' => ?_) (fun S' h' a w hI' => ?_) (fun i S' h' a w hI' => ?_)
     ·refine wp_mono h3 ?_
      intro e a' w' hq
      have other:(∃ r',z = .inr r')∧(z = .inr r→Q e a' w')→Q e a' w' := by
       rintro ⟨⟨r',rfl⟩,hq'⟩
       exact hq' (by simp at hk; rw [hk])
      cases e with
      | normal=>
       obtain ⟨d',rfl,hI'⟩:=hq
       exact ih a' w' d' hI' hk
      | exit id=>exact other hq
      | goto l=>exact other hq
      | ret=>exact other hq
      | panic ch=>exact other hq
      | outgrown=>exact other hq
     ·simp only [Option.map_eq_some_iff] at h'
      obtain ⟨d,hms,rfl⟩:=h'
      exact ⟨d,rfl,meet_ok hL0 hms hI'⟩
     ·simp only [Option.map_eq_some_iff] at h'
      obtain ⟨r',hr',rfl⟩:=h'
      exact ⟨⟨r',rfl⟩,fun e=>by cases e; exact hr _ hr' a w hI'.push⟩
     ·simp only [Option.map_eq_some_iff] at h'
      obtain ⟨r',hr',rfl⟩:=h'
      exact ⟨⟨r',rfl⟩,fun e=>by cases e; exact hx i _ hr' a w hI'.push⟩
  ·cases h
 | .rangeFunc _ _ _ _,R,an,KE,KF,S,K,r,h,Q,a,w,hI,hn,hr,hx=>by cases h
 | .scope x,R,an,KE,KF,S,K,r,h,Q,a,w,hI,hn,hr,hx=>wp_scope_straight (sem_ok hC hm hL0 x (by simpa only [sem] using h) hI hn hr hx)
 | .label _,R,an,KE,KF,S,K,r,h,Q,a,w,hI,hn,hr,hx=>wp_label (hn S h a w hI)
 | .goto _,R,an,KE,KF,S,K,r,h,Q,a,w,hI,hn,hr,hx=>by cases h
 | .refuse _,R,an,KE,KF,S,K,r,h,Q,a,w,hI,hn,hr,hx=>by cases h
end
end
end Go.Sm
