/-
  The symbolic evaluator: regions are as the evaluator says. Nothing of a program is named here; no condition.
-/
import Derived.Test.YtknnphhepnbaoaaGreatDoorRfJ
namespace Go.Sm
set_option linter.unusedSectionVars false
section
variable [X:XTab] [G:GTab]
theorem look_append {E E' : SE} {t:Nat} {v:AV} (h:look (E++E') t=some v):look E t=some v∨look E' t=some v:=by
 induction E with
 | nil=>exact .inr h
 | cons p r ih=>
  simp only [List.cons_append,look] at h ⊢
  cases hb:Nat.beq t p.1
  ·rw [hb] at h; exact ih h
  ·rw [hb] at h; exact .inl h
theorem look_mem {E:SE} {t:Nat} {v:AV} (h:look E t=some v):(t,v)∈E:=by
 induction E with
 | nil=>simp [look] at h
 | cons p r ih=>
  simp only [look] at h
  cases hb:Nat.beq t p.1
  ·rw [hb] at h; exact List.mem_cons_of_mem _ (ih h)
  ·rw [hb] at h
   simp only [cond_true,Option.some.injEq] at h
   rw [Nat.eq_of_beq_eq_true hb,← h]
   exact List.mem_cons_self
theorem visE_mem {cl:List Nat} {g:List (Nat×Bool)} {d:Nat} {v:AV} : ∀ {es:List Ent} {j0:Nat},(d,v)∈visE cl g es j0→∃ j e,es[j]? = some e∧e.d=some d∧v=e.u.av∧mem (j0+j) cl=true∧sufx e.g g=true
 | [],_,h=>by simp [visE] at h
 | e::r,j0,h=>by
  have again:(d,v)∈visE cl g r (j0+1)→∃ j e',(e::r)[j]? = some e' ∧ e'.d=some d∧v=e'.u.av∧mem (j0+j) cl=true∧sufx e'.g g=true:=fun h=>by
   obtain ⟨j,e',h1,h2,h3,h4,h5⟩:=visE_mem h
   exact ⟨j+1,e',by simpa using h1,h2,h3,by rwa [show j0+(j+1)=j0+1+j by omega],h5⟩
  simp only [visE] at h
  split at h
  ·rename_i d' hd
   cases hb:(mem j0 cl&&sufx e.g g)
   ·rw [hb] at h; exact again h
   ·rw [hb] at h
    simp only [cond_true] at h
    rcases List.mem_cons.1 h with h | h
    ·simp only [Prod.mk.injEq] at h
     obtain ⟨rfl,rfl⟩:=h
     simp only [Bool.and_eq_true] at hb
     exact ⟨0,e,rfl,hd,rfl,hb.1,hb.2⟩
    ·exact again h
  ·exact again h
theorem hitBy_false {cls:List (List Nat)} {i:Nat} {clj:List Nat} {j:Nat} {f:AF} : ∀ {es:List Ent} {m0:Nat},hitBy cls i clj j f es m0=false→∀ {m:Nat} {e:Ent},es[m]? = some e→mayB cls (m0+m) i=true→m0+m≠j→mem (m0+m) clj=false→hits e.u.κ f=false
 | [],_,_,m,e,he,_,_,_=>by simp at he
 | e' :: r,m0,h,0,e,he,hm,hj,hc=>by
  simp at he; subst he
  simp only [hitBy,Bool.or_eq_false_iff] at h
  rw [Nat.add_zero] at hm hj hc
  have hb:Nat.beq m0 j=false:=by
   cases hb:Nat.beq m0 j
   ·rfl
   ·exact absurd (Nat.eq_of_beq_eq_true hb) hj
  have h1:=h.1
  rw [hm,hb,hc] at h1
  cases hk:e'.u.κ with
  | nil=>simp [hits]
  | cons a l=>rw [hk] at h1; simpa using h1
 | e' :: r,m0,h,m+1,e,he,hm,hj,hc=>by
  simp only [hitBy,Bool.or_eq_false_iff] at h
  simp at he
  rw [show m0+(m+1)=m0+1+m by omega] at hm hj hc
  exact hitBy_false h.2 he hm hj hc
theorem visF_mem {cls:List (List Nat)} {i:Nat} {cl:List Nat} {g:List (Nat×Bool)} {all:List Ent} {f:AF} : ∀ {es:List Ent} {j0:Nat},f∈visF cls i cl g all es j0 →
  ∃ j e,es[j]? = some e∧f∈e.u.fs∧mem (j0+j) cl=true∧sufx e.g g=true∧hitBy cls i (cls.getD (j0+j) []) (j0+j) f all 0=false
 | [],_,h=>by simp [visF] at h
 | e::r,j0,h=>by
  simp only [visF,List.mem_append] at h
  rcases h with h | h
  ·cases hb:(mem j0 cl&&sufx e.g g)
   ·rw [hb] at h; simp at h
   ·rw [hb] at h
    simp only [cond_true,List.mem_filter,Bool.not_eq_true'] at h
    simp only [Bool.and_eq_true] at hb
    exact ⟨0,e,rfl,h.1,hb.1,hb.2,h.2⟩
  ·obtain ⟨j,e',h1,h2,h3,h4,h5⟩:=visF_mem h
   exact ⟨j+1,e',by simpa using h1,h2,by rwa [show j0+(j+1)=j0+1+j by omega],h4,by rwa [show j0+(j+1)=j0+1+j by omega]⟩
theorem baseE_look {ds:List Nat} {E:SE} {t:Nat} {v:AV} (h:look (baseE ds E) t=some v):look E t=some v∧mem t ds=false:=by
 induction E with
 | nil=>simp [baseE,look] at h
 | cons p r ih=>
  simp only [baseE] at h
  cases hb:mem p.1 ds
  ·rw [hb] at h
   simp only [cond_false,look] at h ⊢
   cases ht:Nat.beq t p.1
   ·rw [ht] at h; exact ih h
   ·rw [ht] at h
    refine ⟨h,?_⟩
    rw [Nat.eq_of_beq_eq_true ht]; exact hb
  ·rw [hb] at h
   simp only [cond_true] at h
   have:=ih h
   refine ⟨?_,this.2⟩
   simp only [look]
   cases ht:Nat.beq t p.1
   ·exact this.1
   ·exfalso
    rw [Nat.eq_of_beq_eq_true ht,hb] at this
    cases this.2
def chT (es:List Ent) (g:List (Nat×Bool)):Prop:=∀ p∈g,∃ e b,es[p.1]? = some e∧e.u.av=boolL b∧b=p.2
theorem sufx_sub : ∀ {a b:List (Nat×Bool)},sufx a b=true→∀ p∈a,p∈b
 | a,[],h=>by
  simp only [sufx] at h
  rw [eqG_eq h]; exact fun p hp=>hp
 | a,q::r,h=>by
  simp only [sufx,Bool.or_eq_true] at h
  rcases h with h | h
  ·rw [eqG_eq h]; exact fun p hp=>hp
  ·exact fun p hp=>List.mem_cons_of_mem _ (sufx_sub h p hp)
section
variable {C:Cx} {P:Program} {n N nt:Nat} {cls:List (List Nat)} {ops:List Oper} {E:SE} {F:List AF} {es:List Ent}
theorem ex_ch (hlen:es.length=ops.length) (hall : ∀ j o e,ops[j]? = some o→es[j]? = some e→EntOk C P n N cls ops E F o j (es.take j) e) : ∀ (i:Nat) (e:Ent),es[i]? = some e→(exT e.ex↔chT es e.g):=by
 intro i
 induction i using Nat.strongRecOn with
 | _ i ih=>
  intro e he
  have hi:=(List.getElem?_eq_some_iff.1 he).1
  have ho:ops[i]? = some (ops[i]'(by omega)):=List.getElem?_eq_getElem _
  obtain ⟨_,hg,_⟩:=hall i _ e ho he
  unfold gdI at hg
  split at hg
  ·simp only [Option.some.injEq,Prod.mk.injEq] at hg
   obtain ⟨h1,h2⟩:=hg
   rw [← h1,← h2]
   exact ⟨fun _ p hp=>by simp at hp,fun _=>trivial⟩
  ·rename_i j want _
   split at hg
   ·rename_i e' he'
    split at hg
    ·rename_i b hb
     simp only [Option.some.injEq,Prod.mk.injEq] at hg
     obtain ⟨h1,h2⟩:=hg
     have hji:j<i:=by
      rw [List.getElem?_take] at he'
      split at he'
      ·assumption
      ·cases he'
     have hej:es[j]? = some e' := by
      rw [List.getElem?_take,if_pos hji] at he'; exact he'
     have:=ih j hji e' hej
     rw [← h1,← h2]
     have hlit:((bif want then b else !b)=true)↔b=want:=by cases want <;> cases b <;> simp
     constructor
     ·intro hx p hp
      have hx' : exB e'.ex=true∧(bif want then b else !b)=true:=by
       cases hee:e'.ex with
       | none=>rw [hee] at hx; exact ⟨rfl,hx⟩
       | some x=>rw [hee] at hx; simpa [exT,exB] using hx
      rcases List.mem_cons.1 hp with rfl | hp
      ·exact ⟨e',b,hej,hb,hlit.1 hx'.2⟩
      ·exact this.1 (exT_iff.2 hx'.1) p hp
     ·intro hc
      obtain ⟨e2,b2,h3,h4,h5⟩:=hc (j,want) List.mem_cons_self
      rw [hej] at h3
      simp only [Option.some.injEq] at h3
      subst h3
      rw [hb] at h4
      have hbb:b=b2:=by simpa [boolL] using h4
      have hex:=exT_iff.1 (this.2 fun p hp=>hc p (List.mem_cons_of_mem _ hp))
      have hl:=hlit.2 (hbb.trans h5)
      cases hee:e'.ex with
      | none=>exact hl
      | some x=>rw [hee] at hex; simp only [exB] at hex; show (x&&_)=true; rw [hex,hl]; rfl
    ·cases hg
   ·cases hg
theorem ex_of {es:List Ent} {e e' : Ent} (h1:exT e.ex↔chT es e.g) (h2:exT e'.ex↔chT es e'.g) (hs:sufx e'.g e.g=true) (hx:exT e.ex):exT e'.ex:=
 h2.2 fun p hp=>h1.1 hx p (sufx_sub hs p hp)
def RJ (nt:Nat) (cls:List (List Nat)) (ops:List Oper) (E:SE) (F:List AF) (es:List Ent) (L0:List HA) (β:Vn) (listed:Nat→Bool) (a:Act) (w:World):Prop:=
 ∃ (η:Vn) (c:Col) (ρ:Env),Rel nt ρ a∧(∀ t v,look E t=some v→(∀ m o,ops[m]? = some o→listed m=true→o.dst≠some t)→ρ t=v.val η) ∧
  (∀ j e,es[j]? = some e→listed j=true→∀ d,e.d=some d→(exT e.ex→ρ d=e.u.av.val η)∧(¬ exT e.ex→ρ d=undef)) ∧
  (∀ f∈F,(∀ m e,es[m]? = some e→listed m=true→exT e.ex→hits e.u.κ f=false)→(f.ha η).holds w c) ∧
  ((∀ A∈L0,A.holds w c)∧∀ m,m<64→η.b m=β.b m∧η.h m=β.h m) ∧
  (∀ j e,es[j]? = some e→listed j=true→exT e.ex→∀ f∈e.u.fs,(∀ m e',es[m]? = some e' → listed m=true→exT e'.ex→m≠j→mem m (cls.getD j [])=false→hits e'.u.κ f=false)→(f.ha η).holds w c)
theorem hits_apart {κ:List Nat} {f:AF} (h:hits κ f=false) : ∀ k∈f.uses,k∉κ:=by
 intro k hk hκ
 have:=List.any_eq_false.1 h k hκ
 exact this (mem_iff.2 hk)
theorem dst_mem {i:Nat} {o:Oper} {d:Nat} (ho:ops[i]? = some o) (hd:o.dst=some d):d∈dsts ops:=
 List.mem_filterMap.2 ⟨o,List.mem_of_getElem? ho,hd⟩
theorem nodup_ne : ∀ {l:List Oper} {i j:Nat} {o o' : Oper} {d d' : Nat},nodupL (dsts l)=true→l[i]? = some o→l[j]? = some o' → o.dst=some d→o'.dst=some d' → i≠j→d≠d'
 | [],_,_,_,_,_,_,_,h,_,_,_,_=>by simp at h
 | q::l,0,0,_,_,_,_,_,_,_,_,_,hne=>absurd rfl hne
 | q::l,0,j+1,o,o',d,d',h,ho,ho',hd,hd',_=>by
  simp at ho ho'; subst ho
  have:dsts (q::l)=d::dsts l:=by simp [dsts,hd]
  rw [this] at h
  simp only [nodupL,Bool.and_eq_true,Bool.not_eq_true'] at h
  intro e
  have:=dst_mem ho' hd'
  rw [← e] at this
  rw [mem_iff.2 this] at h
  cases h.1
 | q::l,i+1,0,o,o',d,d',h,ho,ho',hd,hd',_=>by
  simp at ho ho'; subst ho'
  have:dsts (q::l)=d' :: dsts l:=by simp [dsts,hd']
  rw [this] at h
  simp only [nodupL,Bool.and_eq_true,Bool.not_eq_true'] at h
  intro e
  have:=dst_mem ho hd
  rw [e] at this
  rw [mem_iff.2 this] at h
  cases h.1
 | q::l,i+1,j+1,o,o',d,d',h,ho,ho',hd,hd',hne=>by
  simp at ho ho'
  refine nodup_ne (l:=l) ?_ ho ho' hd hd' (by omega)
  cases hq:q.dst with
  | none=>simpa [dsts,hq] using h
  | some dq=>
   have:dsts (q::l)=dq::dsts l:=by simp [dsts,hq]
   rw [this] at h
   simp only [nodupL,Bool.and_eq_true] at h
   exact h.2
theorem regB_ent {draw:Bool} (h:regB C n N nt draw cls ops E F es=true) {i:Nat} {o:Oper} {e:Ent} (ho:ops[i]? = some o) (he:es[i]? = some e) :
  e.u.av.okN n (i::cls.getD i [])=true∧(∀ f∈e.u.fs,f.okN n (i::cls.getD i [])=true)∧(e.u.κ=[]∨(killer C o=true∧(∀ k∈e.u.κ,2≤k)∧o.guard=none))∧(∀ d,e.d=some d→Nat.blt d nt=true) ∧
  (∀ j w,o.guard=some (j,w)→mem j (cls.getD i [])=true∧∃ e' d,es[j]? = some e' ∧ e'.d=some d)∧(softK ops o=true→∀ k∈e.u.κ,N≤k):=by
 simp only [regB,Bool.and_eq_true] at h
 have hi:=(List.getElem?_eq_some_iff.1 ho).1
 have h1:=List.all_eq_true.1 h.2 i (List.mem_range.2 hi)
 simp only [entB,ho,he,Bool.and_eq_true] at h1
 obtain ⟨⟨⟨⟨⟨a1,a2⟩,a3⟩,a4⟩,a6⟩,a5⟩:=h1
 refine ⟨a1,List.all_eq_true.1 a2,?_,?_,?_,fun hs k hk=>by
  rw [hs] at a6
  exact Nat.le_of_ble_eq_true (List.all_eq_true.1 (by simpa using a6) k hk)⟩
 ·simp only [Bool.or_eq_true,Bool.and_eq_true] at a3
  rcases a3 with a3 | ⟨⟨a3,a6⟩,a7⟩
  ·exact .inl (List.isEmpty_iff.1 a3)
  ·refine .inr ⟨a3,fun k hk=>Nat.le_of_ble_eq_true (List.all_eq_true.1 a6 k hk),?_⟩
   cases hg:o.guard with
   | none=>rfl
   | some g=>rw [hg] at a7; cases a7
 ·intro d hd
  rw [hd] at a4; exact a4
 ·intro j w hg
  rw [hg] at a5
  simp only [Bool.and_eq_true] at a5
  refine ⟨a5.1,?_⟩
  have a6:=a5.2
  split at a6
  ·rename_i e' he'
   obtain ⟨d,hd⟩:=Option.isSome_iff_exists.1 a6
   exact ⟨e',d,he',hd⟩
  ·cases a6
theorem dstsI_mem {cls:List (List Nat)} {i:Nat} {d:Nat} : ∀ {l:List Oper} {m0 m:Nat} {o:Oper},l[m]? = some o→o.dst=some d→mayB cls (m0+m) i=true→d∈dstsI cls i l m0
 | [],_,_,_,h,_,_=>by simp at h
 | q::l,m0,0,o,h,hd,hm=>by
  simp at h; subst h
  rw [Nat.add_zero] at hm
  simp [dstsI,hd,hm]
 | q::l,m0,m+1,o,h,hd,hm=>by
  simp at h
  have:=dstsI_mem (m0:=m0+1) h hd (by rwa [show m0+1+m=m0+(m+1) by omega])
  simp only [dstsI]
  split
  ·cases mayB cls m0 i
   ·exact this
   ·exact List.mem_cons_of_mem _ this
  ·exact this
theorem late_no {cls:List (List Nat)} {i:Nat} {ops:List Oper} : ∀ {l:List Oper} {m0:Nat},lateK C cls ops i l m0=false→∀ {m:Nat} {o:Oper},l[m]? = some o→i<m0+m→mayB cls (m0+m) i=true→killer C o=true→softK ops o=true
 | [],_,_,m,o,h,_,_=>by simp at h
 | q::r,m0,h,0,o,ho,hi,hm=>by
  simp at ho; subst ho
  simp only [lateK,Bool.or_eq_false_iff] at h
  rw [Nat.add_zero] at hi hm
  have h1:=h.1
  rw [hm,show Nat.blt i m0=true from Nat.ble_eq_true_of_le hi] at h1
  intro hk
  rw [hk] at h1
  simpa using h1
 | q::r,m0,h,m+1,o,ho,hi,hm=>by
  simp only [lateK,Bool.or_eq_false_iff] at h
  simp at ho
  rw [show m0+(m+1)=m0+1+m by omega] at hi hm
  exact late_no h.2 ho hi hm
theorem lateS_no {cls:List (List Nat)} {i:Nat} {ops:List Oper} : ∀ {l:List Oper} {m0:Nat},lateS C cls ops i l m0=false→∀ {m:Nat} {o:Oper},l[m]? = some o→i<m0+m→mayB cls (m0+m) i=true→killer C o=true→softK ops o=false
 | [],_,_,m,o,h,_,_=>by simp at h
 | q::r,m0,h,0,o,ho,hi,hm=>by
  simp at ho; subst ho
  simp only [lateS,Bool.or_eq_false_iff] at h
  rw [Nat.add_zero] at hi hm
  have h1:=h.1
  rw [hm,show Nat.blt i m0=true from Nat.ble_eq_true_of_le hi] at h1
  intro hk
  rw [hk] at h1
  simpa using h1
 | q::r,m0,h,m+1,o,ho,hi,hm=>by
  simp only [lateS,Bool.or_eq_false_iff] at h
  simp at ho
  rw [show m0+(m+1)=m0+1+m by omega] at hi hm
  exact lateS_no h.2 ho hi hm
theorem step_pre {draw:Bool} (hb:regB C n N nt draw cls ops E F es=true) (hlen:es.length=ops.length) (hall : ∀ j o e,ops[j]? = some o→es[j]? = some e→EntOk C P n N cls ops E F o j (es.take j) e)
  {listed:Nat→Bool} {i:Nat} {e:Ent} (he:es[i]? = some e) (hx:exT e.ex) (hf:listed i=false) (hcl : ∀ j,mem j (cls.getD i [])=true→listed j=true)
  (hun : ∀ m,m<ops.length→listed m=true→mem i (cls.getD m [])=false) {η:Vn} {ρ:Env} {w:World} {c:Col}
  (hE : ∀ t v,look E t=some v→(∀ m o,ops[m]? = some o→listed m=true→o.dst≠some t)→ρ t=v.val η)
  (hV : ∀ j e,es[j]? = some e→listed j=true→∀ d,e.d=some d→(exT e.ex→ρ d=e.u.av.val η)∧(¬ exT e.ex→ρ d=undef))
  (hB : ∀ f∈F,(∀ m e,es[m]? = some e→listed m=true→exT e.ex→hits e.u.κ f=false)→(f.ha η).holds w c)
  (hR : ∀ j e,es[j]? = some e→listed j=true→exT e.ex→∀ f∈e.u.fs,(∀ m e',es[m]? = some e' → listed m=true→exT e'.ex→m≠j→mem m (cls.getD j [])=false→hits e'.u.κ f=false)→(f.ha η).holds w c) :
  EnvOk η ρ (envI cls ops E i e.g (es.take i))∧Heap w c ((factsI C N cls ops F i e.g (es.take i)).map (AF.ha η)):=by
 have hch:=ex_ch hlen hall
 have take_get : ∀ {j:Nat} {e' : Ent},(es.take i)[j]? = some e' → es[j]? = some e' ∧ j<i:=fun {j e'} h=>by
  rw [List.getElem?_take] at h
  split at h
  ·exact ⟨h,by assumption⟩
  ·cases h
 have nohit : ∀ (f:AF) (clj:List Nat) (j:Nat),hitBy cls i clj j f (es.take i) 0=false→(lateK C cls ops i ops 0=true→safeF f=true)→(lateK C cls ops i ops 0=false→lateS C cls ops i ops 0=true→belowF N f=true)→∀ m e',es[m]? = some e' → listed m=true→m≠j→mem m clj=false→hits e'.u.κ f=false:=by
  intro f clj j hh hsafe hbel m e' hm hl hj hc
  have hml:m<ops.length:=by have:=(List.getElem?_eq_some_iff.1 hm).1; omega
  have hom:ops[m]? = some ops[m]:=List.getElem?_eq_getElem hml
  have hmi:m≠i:=fun e=>by rw [e,hf] at hl; cases hl
  have hmay:mayB cls m i=true:=by
   have h1:Nat.beq m i=false:=by
    cases hb:Nat.beq m i
    ·rfl
    ·exact absurd (Nat.eq_of_beq_eq_true hb) hmi
   simp only [mayB,h1,hun m hml hl,Bool.not_false,Bool.and_self]
  rcases Nat.lt_or_ge m i with h | h
  ·have h2:(es.take i)[m]? = some e' := by rw [List.getElem?_take,if_pos h]; exact hm
   have:=hitBy_false hh h2 (by rwa [Nat.zero_add]) (by rwa [Nat.zero_add]) (by rwa [Nat.zero_add])
   exact this
  ·rcases (regB_ent hb hom hm).2.2.1 with hk | ⟨hk,h2,_⟩
   ·rw [hk]; rfl
   ·cases hlt:lateK C cls ops i ops 0
    ·have hsoft:=late_no hlt hom (by omega) (by rwa [Nat.zero_add]) hk
     cases hls:lateS C cls ops i ops 0
     ·have:=lateS_no hls hom (by omega) (by rwa [Nat.zero_add]) hk
      rw [hsoft] at this; cases this
     ·have hs:=hbel hlt hls
      have h3:=(regB_ent hb hom hm).2.2.2.2.2 hsoft
      refine List.any_eq_false.2 fun k hk' hm' => ?_
      have h4:k+1≤N:=Nat.le_of_ble_eq_true (List.all_eq_true.1 hs k (mem_iff.1 hm'))
      have:=h3 k hk'
      omega
    ·have hs:=hsafe hlt
     refine List.any_eq_false.2 fun k hk' hm' => ?_
     have:=List.all_eq_true.1 hs k (mem_iff.1 hm')
     have:=Nat.le_of_ble_eq_true this
     have:=h2 k hk'
     omega
 constructor
 ·intro t v hl
  rcases look_append hl with h | h
  ·obtain ⟨j,e',h1,h2,rfl,h4,h5⟩:=visE_mem (look_mem h)
   rw [Nat.zero_add] at h4
   obtain ⟨h1',_⟩:=take_get h1
   exact (hV j e' h1' (hcl j h4) t h2).1 (ex_of (hch i e he) (hch j e' h1') h5 hx)
  ·have h:=baseE_look h
   refine hE t v h.1 fun m o hom hlm hdm=>?_
   have hml:=(List.getElem?_eq_some_iff.1 hom).1
   have hmi:m≠i:=fun e=>by rw [e,hf] at hlm; cases hlm
   have h1:Nat.beq m i=false:=by
    cases hb:Nat.beq m i
    ·rfl
    ·exact absurd (Nat.eq_of_beq_eq_true hb) hmi
   have:=dstsI_mem (cls:=cls) (i:=i) (m0:=0) hom hdm (by rw [Nat.zero_add]; simp only [mayB,h1,hun m hml hlm,Bool.not_false,Bool.and_self])
   rw [mem_iff.2 this] at h
   cases h.2
 ·intro A hA
  obtain ⟨f,hfm,rfl⟩:=List.mem_map.1 hA
  have hmem:f∈visF cls i (cls.getD i []) e.g (es.take i) (es.take i) 0++F.filter (fun f=>!(hitBy cls i [] ops.length f (es.take i) 0))∧(lateK C cls ops i ops 0=true→safeF f=true)∧(lateK C cls ops i ops 0=false→lateS C cls ops i ops 0=true→belowF N f=true):=by
   unfold factsI at hfm
   cases hlt:lateK C cls ops i ops 0
   ·rw [hlt] at hfm
    simp only [cond_false] at hfm
    cases hls:lateS C cls ops i ops 0
    ·rw [hls] at hfm; exact ⟨hfm,fun h=>(by cases h),fun _ h=>by cases h⟩
    ·rw [hls] at hfm
     simp only [cond_true,List.mem_filter] at hfm
     exact ⟨hfm.1,fun h=>(by cases h),fun _ _=>hfm.2⟩
   ·rw [hlt] at hfm
    simp only [cond_true,List.mem_filter] at hfm
    exact ⟨hfm.1,fun _=>hfm.2,fun h=>by cases h⟩
  obtain ⟨hmem,hsafe,hbel⟩:=hmem
  rcases List.mem_append.1 hmem with h | h
  ·obtain ⟨j,e',h1,h2,h4,h5,h6⟩:=visF_mem h
   rw [Nat.zero_add] at h4 h6
   obtain ⟨h1',_⟩:=take_get h1
   exact hR j e' h1' (hcl j h4) (ex_of (hch i e he) (hch j e' h1') h5 hx) f h2 fun m e2 hm hl _ hj hc=>nohit f _ j h6 hsafe hbel m e2 hm hl hj hc
  ·simp only [List.mem_filter,Bool.not_eq_true'] at h
   exact hB f h.1 fun m e2 hm hl _=>nohit f [] ops.length h.2 hsafe hbel m e2 hm hl (by have:=(List.getElem?_eq_some_iff.1 hm).1; omega) rfl
end
end
end Go.Sm
