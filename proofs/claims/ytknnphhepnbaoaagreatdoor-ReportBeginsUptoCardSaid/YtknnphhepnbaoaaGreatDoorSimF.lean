/-
  A region whose order is drawn: each operation is looked at once, whatever the order. Nothing of a program is named here; no condition.
-/
import Derived.Test.YtknnphhepnbaoaaGreatDoorSimE
namespace Go.Sm

/-- What an operation of such a region comes to: whether it is carried out, and a value of which assertions are known. -/
structure OSp : Type 1 where
  ex : Bool
  d : Nat
  pre : List Nat
  Y : Type
  val : Y → Value
  Φ : Y → List HA
  κ : List Nat
  eat : List Nat
  tl : List (Nat × (Y → Value))

/-- What is told of other slots. -/
def Tells {Y : Type} (ρ : Env) (tl : List (Nat × (Y → Value))) (y : Y) : Prop := ∀ p ∈ tl, ρ p.1 = p.2 y

theorem tells_nil {Y : Type} {ρ : Env} {y : Y} : Tells ρ [] y := fun _ h => by simp at h
theorem tells_cons {Y : Type} {ρ : Env} {tl : List (Nat × (Y → Value))} {y : Y} {t : Nat} {f : Y → Value} (h1 : ρ t = f y) (h : Tells ρ tl y) : Tells ρ ((t, f) :: tl) y := fun p hp => by
  rcases List.mem_cons.1 hp with rfl | hp
  · exact h1
  · exact h p hp

def updL {Y : Type} (ρ : Env) (y : Y) : List (Nat × (Y → Value)) → Env
  | [] => ρ
  | p :: r => updL (upd ρ p.1 (p.2 y)) y r

/-- The same where the assertions may be gone. -/
def OSp.okE (s : OSp) (live : Prop) (ρ : Env) (w : World) (c : Col) : Prop := (s.ex = true → ∃ y, ρ s.d = s.val y ∧ Tells ρ s.tl y ∧ (live → Heap w c (s.Φ y))) ∧ (s.ex = false → ρ s.d = undef)

def OSp.ok (s : OSp) (ρ : Env) (w : World) (c : Col) : Prop := (s.ex = true → ∃ y, ρ s.d = s.val y ∧ Tells ρ s.tl y ∧ Heap w c (s.Φ y)) ∧ (s.ex = false → ρ s.d = undef)

/-- An operation, behind those that it reads. -/
def Ob (P : Program) (o : Oper) (s : OSp) (es : List OSp) : List Nat → Env → List HA → Prop
  | [], ρ, L => OpOk P ρ o L s.κ s.val (fun y => .pure (Tells ρ s.tl y) :: s.Φ y)
  | j :: js, ρ, L => match es[j]? with
    | none => False
    | some e => (e.ex = true → ∀ y, Ob P o s es js (upd ρ e.d (e.val y)) (e.Φ y ++ L)) ∧ (e.ex = false → Ob P o s es js (upd ρ e.d undef) L)

/-- The code behind the region, from the results that it reads. -/
def Fin (R : Env → List HA → Prop) (es : List OSp) : List Nat → Env → List HA → Prop
  | [], ρ, L => R ρ L
  | j :: js, ρ, L => match es[j]? with
    | none => False
    | some e => (e.ex = true → ∀ y, Fin R es js (updL (upd ρ e.d (e.val y)) y e.tl) (e.Φ y ++ L)) ∧ (e.ex = false → Fin R es js (upd ρ e.d undef) L)

def mix (es : List OSp) (us ρ : Env) : Env := fun t => cond (es.any fun e => Nat.beq t e.d) (us t) (ρ t)

def preds (o : Oper) : List Nat := (o.after.toList.filter (Region.binds .any)).map (·.on)

def mem (j : Nat) (l : List Nat) : Bool := l.any fun k => Nat.beq j k

theorem mem_iff {j : Nat} {l : List Nat} : mem j l = true ↔ j ∈ l := by
  simp only [mem, List.any_eq_true]
  exact ⟨fun ⟨k, hk, he⟩ => (Nat.eq_of_beq_eq_true he) ▸ hk, fun h => ⟨j, h, by simp⟩⟩

/-- 'cl' tells of each operation some that must stand ahead of it. -/
def clOk (l : List Oper) (cl : List (List Nat)) : Bool :=
  (List.range l.length).all fun i => match l[i]?, cl[i]? with
    | some o, some c => (preds o).all (fun j => Nat.blt j i) && c.all fun j => mem j (preds o) || (preds o).any fun k => match cl[k]? with | some ck => mem j ck | none => false
    | _, _ => false

def opReads (o : Oper) (es : List OSp) (pre : List Nat) : Bool :=
  o.op.operands.toList.all fun x => match x with
    | .tmp t => !(es.any fun e => Nat.beq t e.d) || pre.any fun j => match es[j]? with | some e => Nat.beq t e.d | none => false
    | _ => true

def tlOk (s : OSp) (es : List OSp) : Bool := s.tl.all fun p => s.pre.any fun j => match es[j]? with | some e => Nat.beq p.1 e.d | none => false

def notSelect (o : Oper) : Bool := match o.op with | .select .. => false | _ => true

/-- A guard is met as the specification says. -/
def gdOk (n : Nat) (o : Oper) (s : OSp) (es : List OSp) (c : List Nat) : Prop :=
  match o.guard with
  | none => s.ex = true
  | some (j, want) => mem j c = true ∧ ∃ e b, es[j]? = some e ∧ Nat.blt e.d n = true ∧ (∀ y, e.val y = .bool b) ∧ s.ex = (e.ex && (b == want))

/-- Where an operation's value goes. -/
def dstOk (n : Nat) (o : Oper) (s : OSp) : Prop := (o.dst = some s.d ∧ Nat.blt s.d n = true) ∨ (o.dst = none ∧ Nat.ble n s.d = true ∧ ∀ y, s.val y = undef)

theorem dst_put {n : Nat} {o : Oper} {s : OSp} {ρ : Env} {a : Act} (hd : dstOk n o s) (ha : Rel n ρ a) (v : Value) (hv : (∃ y, v = s.val y) ∨ v = undef) : Rel n (upd ρ s.d v) (a.put o.dst v) := by
  rcases hd with ⟨h, hlt⟩ | ⟨h, hge, hu⟩
  · rw [h]; exact ha.put hlt v
  · have hge' := Nat.le_of_ble_eq_true hge
    have hv' : v = undef := by
      rcases hv with ⟨y, e⟩ | e
      · rw [e, hu y]
      · exact e
    have hr : upd ρ s.d v = ρ := by
      funext t
      unfold upd
      cases hb : Nat.beq t s.d
      · rfl
      · show v = ρ t
        rw [hv', Nat.eq_of_beq_eq_true hb, ← ha.val s.d]
        simp [Array.getD_eq_getD_getElem?, Array.getElem?_eq_none (show a.tmps.size ≤ s.d by rw [ha.size]; exact hge')]
    rw [hr, h]
    exact ha

/-- What is still there of the assertions ahead of the region, where operation i (the region's end, if there is no such one) comes. -/
def apartAll (i : Nat) (A : HA) : List OSp → List (List Nat) → Nat → Bool
  | e :: es, c :: cs, k => bif e.κ.isEmpty then apartAll i A es cs (k + 1) else bif Nat.beq k i || mem i c || apart e.κ A then apartAll i A es cs (k + 1) else false
  | _, _, _ => true

def sift (p : HA → Bool) : List HA → List HA
  | [] => []
  | A :: L => bif p A then A :: sift p L else sift p L

def baseFor (L : List HA) (es : List OSp) (cl : List (List Nat)) (i : Nat) : List HA :=
  bif es.all (fun e => e.κ.isEmpty) then L else sift (fun A => apartAll i A es cl 0) L

theorem sift_mem {p : HA → Bool} {A : HA} : ∀ {L : List HA}, A ∈ sift p L → A ∈ L ∧ p A = true
  | [], h => by simp [sift] at h
  | B :: L, h => by
    simp only [sift] at h
    cases hb : p B
    · rw [hb] at h
      have := sift_mem (p := p) (L := L) h
      exact ⟨List.mem_cons_of_mem _ this.1, this.2⟩
    · rw [hb] at h
      rcases List.mem_cons.1 h with rfl | h
      · exact ⟨by simp, hb⟩
      · have := sift_mem (p := p) (L := L) h
        exact ⟨List.mem_cons_of_mem _ this.1, this.2⟩

theorem apart_nil {κ : List Nat} (h : κ.isEmpty = true) (A : HA) : apart κ A = true := by
  cases κ with
  | nil => exact List.all_eq_true.2 fun _ _ => rfl
  | cons _ _ => cases h

theorem apartAll_at {i : Nat} {A : HA} : ∀ {es : List OSp} {cl : List (List Nat)} {k j : Nat} {e : OSp}, apartAll i A es cl k = true → es[j]? = some e → (∃ c, cl[j]? = some c) → k + j = i ∨ (match cl[j]? with | some c => mem i c | none => false) = true ∨ apart e.κ A = true
  | e' :: es, c :: cs, k, j, e, h, he, hc => by
    simp only [apartAll] at h
    cases j with
    | zero =>
      simp at he; subst he
      cases hk : e'.κ.isEmpty
      · rw [hk] at h
        cases h1 : Nat.beq k i || mem i c || apart e'.κ A
        · rw [h1] at h; cases h
        · simp only [Bool.or_eq_true] at h1
          rcases h1 with (h1 | h1) | h1
          · exact .inl (Nat.eq_of_beq_eq_true h1)
          · exact .inr (.inl (by simpa using h1))
          · exact .inr (.inr h1)
      · exact .inr (.inr (apart_nil hk A))
    | succ j =>
      have h' : apartAll i A es cs (k + 1) = true := by
        cases hk : e'.κ.isEmpty
        · rw [hk] at h
          cases h1 : Nat.beq k i || mem i c || apart e'.κ A
          · rw [h1] at h; cases h
          · rw [h1] at h; exact h
        · rw [hk] at h; exact h
      simp at he hc
      have := apartAll_at h' he hc
      rw [show k + 1 + j = k + (j + 1) by omega] at this
      simpa using this
  | [], _, _, _, _, _, he, _ => by simp at he
  | _ :: _, [], _, _, _, _, _, hc => by obtain ⟨c, hc⟩ := hc; simp at hc

/-- All that is asked of the operations that go in any order. -/
def AllOb (P : Program) (n : Nat) (es : List OSp) (ρ : Env) (B : Nat → List HA) : List Oper → List OSp → List (List Nat) → Nat → Prop
  | o :: l, s :: ss, c :: cs, i => (dstOk n o s ∧ notSelect o = true ∧ s.pre.all (fun j => mem j c) = true ∧ opReads o es s.pre = true ∧ tlOk s es = true ∧ gdOk n o s es c ∧ (s.ex = true → Ob P o s es s.pre ρ (B i))) ∧ AllOb P n es ρ B l ss cs (i + 1)
  | _, [], _, _ => True
  | _, _, _, _ => False

theorem AllOb.at {P : Program} {n : Nat} {es : List OSp} {ρ : Env} {B : Nat → List HA} : ∀ {l : List Oper} {ss : List OSp} {cs : List (List Nat)} {m i : Nat} {o : Oper} {s : OSp}, AllOb P n es ρ B l ss cs m → l[i]? = some o → ss[i]? = some s →
    ∃ c, cs[i]? = some c ∧ dstOk n o s ∧ notSelect o = true ∧ s.pre.all (fun j => mem j c) = true ∧ opReads o es s.pre = true ∧ tlOk s es = true ∧ gdOk n o s es c ∧ (s.ex = true → Ob P o s es s.pre ρ (B (m + i)))
  | o' :: l, s' :: ss, c' :: cs, m, 0, o, s, h, ho, hs => by
    simp at ho hs; subst ho; subst hs
    exact ⟨c', rfl, h.1⟩
  | o' :: l, s' :: ss, c' :: cs, m, i + 1, o, s, h, ho, hs => by
    simp at ho hs
    obtain ⟨c, hc, hr⟩ := AllOb.at h.2 ho hs
    rw [show m + 1 + i = m + (i + 1) by omega] at hr
    exact ⟨c, by simpa using hc, hr⟩
  | _, [], _, _, i, _, _, _, _, hs => by simp at hs
  | [], s :: ss, cs, _, i, _, _, h, _, _ => by cases cs <;> exact h.elim
  | o :: l, s :: ss, [], _, i, _, _, h, _, _ => h.elim

/-- What an operation uses up is used by no other one behind it. -/
def eatOk (es : List OSp) (cl : List (List Nat)) : Bool :=
  (List.range es.length).all fun i => match es[i]? with
    | some s => s.pre.all fun j => (List.range es.length).all fun k => match es[k]? with
      | some e => !(mem j e.eat) || Nat.beq k i || match cl[k]? with | some c => mem i c | none => false
      | none => true
    | none => true

def Aparts (κ eat : List Nat) : Nat → List OSp → Prop
  | _, [] => True
  | k, e :: r => (mem k eat = true ∨ ∀ y, (e.Φ y).all (apart κ) = true) ∧ Aparts κ eat (k + 1) r

/-- Those that stand behind an operation. -/
def behind (cl : List (List Nat)) (i : Nat) : List Nat := (List.range cl.length).filter fun k => match cl[k]? with | some c => mem i c | none => false

def AllAp (es : List OSp) (cl : List (List Nat)) : List OSp → Nat → Prop
  | [], _ => True
  | s :: r, i => (s.κ = [] ∨ Aparts s.κ (i :: (s.eat ++ behind cl i)) 0 es) ∧ AllAp es cl r (i + 1)

theorem Aparts.at {κ eat : List Nat} : ∀ {es : List OSp} {k j : Nat} {e : OSp}, Aparts κ eat k es → es[j]? = some e → mem (k + j) eat = true ∨ ∀ y, (e.Φ y).all (apart κ) = true
  | e' :: r, k, 0, e, h, he => by simp at he; subst he; exact h.1
  | e' :: r, k, j + 1, e, h, he => by
    simp at he
    have := Aparts.at h.2 he
    rwa [show k + 1 + j = k + (j + 1) by omega] at this
  | [], _, _, _, _, he => by simp at he

theorem AllAp.at {es : List OSp} {cl : List (List Nat)} : ∀ {ss : List OSp} {k i : Nat} {s : OSp}, AllAp es cl ss k → ss[i]? = some s → s.κ = [] ∨ Aparts s.κ ((k + i) :: (s.eat ++ behind cl (k + i))) 0 es
  | e' :: r, k, 0, e, h, he => by simp at he; subst he; exact h.1
  | e' :: r, k, j + 1, e, h, he => by
    simp at he
    have := AllAp.at h.2 he
    rwa [show k + 1 + j = k + (j + 1) by omega] at this
  | [], _, _, _, _, he => by simp at he

theorem keep_all {κ : List Nat} {L : List HA} (h : L.all (apart κ) = true) : keep κ L = L := List.filter_eq_self.2 (List.all_eq_true.1 h)

def eaten (es : List OSp) (listed : Array Bool) (j : Nat) : Prop := ∃ k e, es[k]? = some e ∧ mem j e.eat = true ∧ listed.getD k false = true

def nodupD : List OSp → Bool
  | [] => true
  | e :: r => (r.all fun f => !(Nat.beq e.d f.d)) && nodupD r

theorem nodupD_spec : ∀ {es : List OSp} {i j : Nat} {e f : OSp}, nodupD es = true → es[i]? = some e → es[j]? = some f → i ≠ j → e.d ≠ f.d
  | e' :: r, 0, j + 1, e, f, h, he, hf, _ => by
    simp at he hf; subst he
    simp only [nodupD, Bool.and_eq_true] at h
    have := List.all_eq_true.1 h.1 f (List.mem_of_getElem? hf)
    intro hd; rw [hd] at this; simp at this
  | e' :: r, i + 1, 0, e, f, h, he, hf, _ => by
    simp at he hf; subst hf
    simp only [nodupD, Bool.and_eq_true] at h
    have := List.all_eq_true.1 h.1 e (List.mem_of_getElem? he)
    intro hd; rw [hd] at this; simp at this
  | e' :: r, i + 1, j + 1, e, f, h, he, hf, hne => by
    simp at he hf
    simp only [nodupD, Bool.and_eq_true] at h
    exact nodupD_spec h.2 he hf (by omega)
  | _ :: _, 0, 0, _, _, _, _, _, hne => absurd rfl hne
  | [], _, _, _, _, _, he, _, _ => by simp at he

section
variable {P : Program} {n : Nat} {Q : Exit → Act → World → Prop}

theorem ob_use {o : Oper} {s : OSp} {es : List OSp} {ρ : Env} {w : World} {c : Col} {a : Act} {next : Act → World → Prop} (hsel : notSelect o = true) :
    ∀ (pre : List Nat) (ρ0 : Env) (L : List HA), Ob P o s es pre ρ0 L → Heap w c L → (∀ j ∈ pre, ∀ e, es[j]? = some e → e.ok ρ w c) →
      (∀ t, (.tmp t ∈ o.op.operands ∨ ∃ p ∈ s.tl, p.1 = t) → ρ0 t = ρ t ∨ ∃ j ∈ pre, ∃ e, es[j]? = some e ∧ e.d = t) →
      (∀ y w' c', Stp s.κ w c w' c' → Heap w' c' (s.Φ y) → Tells ρ s.tl y → next (a.put o.dst (s.val y)) w') → o.upon P a next Q ((execOp (evo ρ) o).run P w)
  | [], ρ0, L, h, hL, _, hag, hk => by
    have he : execOp (evo ρ) o = execOp (evo ρ0) o := execOp_congr o (fun cs b hb => by simp [notSelect, hb] at hsel) fun x hx => by
      cases x with
      | tmp t =>
        rcases hag t (.inl hx) with h | ⟨j, hj, _⟩
        · exact h.symm
        · simp at hj
      | _ => rfl
    rw [he]
    refine h a (evo ρ0) w c next Q rfl hL fun y w' c' hst hF => hk y w' c' hst (fun A hA => hF A (List.mem_cons_of_mem _ hA)) fun p hp => ?_
    have h1 : Tells ρ0 s.tl y := hF.at (k := 0) rfl
    rw [← h1 p hp]
    rcases hag p.1 (.inr ⟨p, hp, rfl⟩) with h | ⟨j, hj, _⟩
    · exact h.symm
    · simp at hj
  | j :: js, ρ0, L, h, hL, hok, hag, hk => by
    simp only [Ob] at h
    cases hj : es[j]? with
    | none => simp [hj] at h
    | some e =>
      simp only [hj] at h
      have hoke := hok j (by simp) e hj
      have hag' : ∀ v, ρ e.d = v → ∀ t, (.tmp t ∈ o.op.operands ∨ ∃ p ∈ s.tl, p.1 = t) → upd ρ0 e.d v t = ρ t ∨ ∃ j ∈ js, ∃ e, es[j]? = some e ∧ e.d = t := by
        intro v hv t ht
        unfold upd
        cases hb : Nat.beq t e.d
        · rcases hag t ht with h | ⟨j', hj', e', he', hd'⟩
          · exact .inl h
          · rcases List.mem_cons.1 hj' with rfl | hj'
            · rw [hj] at he'
              simp only [Option.some.injEq] at he'
              subst he'
              rw [hd'] at hb
              simp at hb
            · exact .inr ⟨j', hj', e', he', hd'⟩
        · left
          show v = ρ t
          rw [Nat.eq_of_beq_eq_true hb, hv]
      cases hex : e.ex
      · exact ob_use hsel js _ L (h.2 hex) hL (fun j' hj' => hok j' (by simp [hj'])) (hag' _ (hoke.2 hex)) hk
      · obtain ⟨y, hy, _, hF⟩ := hoke.1 hex
        exact ob_use hsel js _ _ (h.1 hex y) (hF.append hL) (fun j' hj' => hok j' (by simp [hj'])) (hag' _ hy) hk

theorem updL_same {Y : Type} {ρ : Env} {y : Y} : ∀ {tl : List (Nat × (Y → Value))}, Tells ρ tl y → updL ρ y tl = ρ
  | [], _ => rfl
  | p :: r, h => by
    have h1 := h p (by simp)
    have : upd ρ p.1 (p.2 y) = ρ := by
      funext t
      unfold upd
      cases hb : Nat.beq t p.1
      · rfl
      · show p.2 y = ρ t
        rw [Nat.eq_of_beq_eq_true hb, h1]
    simp only [updL, this]
    exact updL_same fun q hq => h q (by simp [hq])

theorem fin_use {R : Env → List HA → Prop} {es : List OSp} {ρ : Env} {w : World} {c : Col} {G : Prop} (hR : ∀ ρ' L, R ρ' L → ρ' = ρ → Heap w c L → G) :
    ∀ (js : List Nat) (L : List HA), Fin R es js ρ L → Heap w c L → (∀ j ∈ js, ∀ e, es[j]? = some e → e.ok ρ w c) → G
  | [], L, h, hL, _ => hR ρ L h rfl hL
  | j :: js, L, h, hL, hok => by
    simp only [Fin] at h
    cases hj : es[j]? with
    | none => simp [hj] at h
    | some e =>
      simp only [hj] at h
      have hoke := hok j (by simp) e hj
      have hupd : ∀ v, ρ e.d = v → upd ρ e.d v = ρ := by
        intro v hv
        funext t
        unfold upd
        cases hb : Nat.beq t e.d
        · rfl
        · show v = ρ t
          rw [Nat.eq_of_beq_eq_true hb, hv]
      cases hex : e.ex
      · have := h.2 hex
        rw [hupd _ (hoke.2 hex)] at this
        exact fin_use hR js L this hL fun j' hj' => hok j' (by simp [hj'])
      · obtain ⟨y, hy, ht, hF⟩ := hoke.1 hex
        have := h.1 hex y
        rw [hupd _ hy, updL_same ht] at this
        exact fin_use hR js _ this (hF.append hL) fun j' hj' => hok j' (by simp [hj'])

def cnt (f : Nat → Bool) : Nat → Nat
  | 0 => 0
  | k + 1 => cnt f k + cond (f k) 1 0

theorem cnt_same {f g : Nat → Bool} : ∀ {k : Nat}, (∀ j, j < k → f j = g j) → cnt f k = cnt g k
  | 0, _ => rfl
  | k + 1, h => by simp only [cnt, cnt_same (k := k) fun j hj => h j (by omega), h k (by omega)]

theorem cnt_dec {f g : Nat → Bool} {i : Nat} (hf : f i = true) (hg : g i = false) : ∀ {k : Nat}, i < k → (∀ j, j < k → j ≠ i → f j = g j) → cnt f k = cnt g k + 1
  | k + 1, hi, h => by
    simp only [cnt]
    by_cases he : i = k
    · subst he
      rw [cnt_same (k := i) fun j hj => h j (by omega) (by omega), hf, hg]; rfl
    · rw [cnt_dec hf hg (k := k) (by omega) fun j hj hne => h j (by omega) hne, h k (by omega) (by omega)]; omega

theorem cnt_zero {f : Nat → Bool} : ∀ {k : Nat}, cnt f k = 0 → ∀ i, i < k → f i = false
  | k + 1, h, i, hi => by
    simp only [cnt] at h
    by_cases he : i = k
    · subst he; cases hf : f i
      · rfl
      · rw [hf] at h; simp at h
    · exact cnt_zero (k := k) (by omega) i (by omega)

def unl (listed : Array Bool) (i : Nat) : Bool := !(listed.getD i false)

theorem base_nil {L : List HA} {es : List OSp} {cl : List (List Nat)} {i : Nat} (h : es.all (fun e => e.κ.isEmpty) = true) : baseFor L es cl i = L := by
  unfold baseFor; rw [h]; rfl

theorem base_mem {L : List HA} {es : List OSp} {cl : List (List Nat)} {i : Nat} {A : HA} (h : A ∈ baseFor L es cl i) : A ∈ L := by
  unfold baseFor at h
  cases hb : es.all (fun e => e.κ.isEmpty)
  · rw [hb] at h; exact (sift_mem h).1
  · rw [hb] at h; exact h

theorem base_apart {L : List HA} {es : List OSp} {cl : List (List Nat)} {i k : Nat} {e : OSp} {A : HA} (h : A ∈ baseFor L es cl i) (hc : ∃ c, cl[k]? = some c) (he : es[k]? = some e) :
    k = i ∨ (match cl[k]? with | some c => mem i c | none => false) = true ∨ apart e.κ A = true := by
  unfold baseFor at h
  cases hb : es.all (fun e => e.κ.isEmpty)
  · rw [hb] at h
    have := apartAll_at (sift_mem h).2 he hc
    simpa using this
  · exact .inr (.inr (apart_nil (List.all_eq_true.1 hb e (List.mem_of_getElem? he)) A))

theorem cl_some {l : List Oper} {cl : List (List Nat)} (hcl : clOk l cl = true) {k : Nat} (hk : k < l.length) : ∃ c, cl[k]? = some c := by
  have h := List.all_eq_true.1 hcl k (List.mem_range.2 hk)
  simp only [show l[k]? = some l[k] by simp [hk]] at h
  cases hc : cl[k]? with
  | none => simp [hc] at h
  | some c => exact ⟨c, rfl⟩

theorem cl_lt {l : List Oper} {cl : List (List Nat)} (hcl : clOk l cl = true) : ∀ {k : Nat} {c : List Nat}, k < l.length → cl[k]? = some c → ∀ j ∈ c, j < k := by
  intro k
  induction k using Nat.strongRecOn with
  | _ k ih =>
    intro c hk hc j hj
    have h := List.all_eq_true.1 hcl k (List.mem_range.2 hk)
    simp only [show l[k]? = some l[k] by simp [hk], hc, Bool.and_eq_true] at h
    have h2 := List.all_eq_true.1 h.2 j hj
    simp only [Bool.or_eq_true] at h2
    have hlt : ∀ m ∈ preds l[k], m < k := fun m hm => Nat.le_of_ble_eq_true (List.all_eq_true.1 h.1 m hm)
    rcases h2 with h2 | h2
    · exact hlt j (mem_iff.1 h2)
    · obtain ⟨m, hm, hmm⟩ := List.any_eq_true.1 h2
      have := hlt m hm
      cases hcm : cl[m]? with
      | none => simp [hcm] at hmm
      | some cm =>
        simp only [hcm] at hmm
        have := ih m this (by omega) hcm j (mem_iff.1 hmm)
        omega

/-- What is listed has all ahead of it listed. -/
def Down (l : List Oper) (listed : Array Bool) : Prop := ∀ (i : Nat) (o : Oper), l[i]? = some o → listed.getD i false = true → ∀ j ∈ preds o, listed.getD j false = true

theorem clos_listed {l : List Oper} {cl : List (List Nat)} (hcl : clOk l cl = true) {listed : Array Bool} (hd : Down l listed) : ∀ (i : Nat) (o : Oper) (c : List Nat), l[i]? = some o → cl[i]? = some c →
    (∀ j ∈ preds o, listed.getD j false = true) → ∀ j ∈ c, listed.getD j false = true := by
  intro i
  induction i using Nat.strongRecOn with
  | _ i ih =>
    intro o c ho hc hp j hj
    have hlt : i < l.length := (List.getElem?_eq_some_iff.1 ho).1
    have h := List.all_eq_true.1 hcl i (List.mem_range.2 hlt)
    simp only [ho, hc, Bool.and_eq_true] at h
    have h2 := List.all_eq_true.1 h.2 j hj
    simp only [Bool.or_eq_true] at h2
    rcases h2 with h2 | h2
    · exact hp j (mem_iff.1 h2)
    · obtain ⟨k, hk, hm⟩ := List.any_eq_true.1 h2
      have hki : k < i := Nat.le_of_ble_eq_true (List.all_eq_true.1 h.1 k hk)
      cases hck : cl[k]? with
      | none => simp [hck] at hm
      | some ck =>
        simp only [hck] at hm
        have hkl : k < l.length := by omega
        exact ih k hki l[k] ck (by simp [hkl]) hck (hd k l[k] (by simp [hkl]) (hp k hk)) j (mem_iff.1 hm)

theorem getD_tf {listed : Array Bool} {i : Nat} (h : i < listed.size) (b : Bool) : listed.getD i b = listed.getD i false := by
  simp [h]

theorem set_get {listed : Array Bool} {i j : Nat} (h : i < listed.size) : (listed.setIfInBounds i true).getD j false = (Nat.beq j i || listed.getD j false) := by
  by_cases hij : i = j
  · subst hij; simp [h]
  · have : Nat.beq j i = false := by
      cases hb : Nat.beq j i
      · rfl
      · exact absurd (Nat.eq_of_beq_eq_true hb).symm hij
    rw [getD_set_ne false hij, this]; rfl

theorem ready_spec {l : List Oper} {listed : Array Bool} (hsz : listed.size = l.length) {i : Nat} (h : i ∈ Region.ready .any l.toArray listed) :
    ∃ o, l[i]? = some o ∧ listed.getD i false = false ∧ ∀ j ∈ preds o, listed.getD j false = true := by
  rw [mem_ready] at h
  obtain ⟨h0, o, ho, hall⟩ := h
  have ho' : l[i]? = some o := by simpa using ho
  have hlt : i < l.length := (List.getElem?_eq_some_iff.1 ho').1
  refine ⟨o, ho', by rw [← getD_tf (by omega) true]; exact h0, fun j hj => ?_⟩
  obtain ⟨e, he, rfl⟩ := List.mem_map.1 hj
  simp only [List.mem_filter] at he
  exact hall e (by simpa using he.1) he.2

theorem none_ready {l : List Oper} {cl : List (List Nat)} (hcl : clOk l cl = true) {listed : Array Bool} (hsz : listed.size = l.length) (h : Region.ready .any l.toArray listed = []) :
    ∀ i, i < l.length → listed.getD i false = true := by
  intro i
  induction i using Nat.strongRecOn with
  | _ i ih =>
    intro hi
    cases hb : listed.getD i false
    · exfalso
      have hmem : i ∈ Region.ready .any l.toArray listed := by
        rw [mem_ready]
        have ho : l[i]? = some l[i] := by simp [hi]
        refine ⟨by rw [getD_tf (by omega)]; exact hb, l[i], by simp [hi], fun e he hbd => ?_⟩
        have hc := List.all_eq_true.1 hcl i (List.mem_range.2 hi)
        simp only [ho] at hc
        cases hci : cl[i]? with
        | none => simp [hci] at hc
        | some c =>
          simp only [hci, Bool.and_eq_true] at hc
          have hlt : e.on < i := Nat.le_of_ble_eq_true (List.all_eq_true.1 hc.1 e.on (List.mem_map.2 ⟨e, List.mem_filter.2 ⟨by simpa using he, hbd⟩, rfl⟩))
          exact ih e.on hlt (by omega)
      rw [h] at hmem
      simp at hmem
    · rfl

theorem down_set {l : List Oper} {listed : Array Bool} (hsz : listed.size = l.length) (hd : Down l listed) {i : Nat} {o : Oper} (ho : l[i]? = some o) (hp : ∀ j ∈ preds o, listed.getD j false = true) :
    Down l (listed.setIfInBounds i true) := by
  have hlt : i < l.length := (List.getElem?_eq_some_iff.1 ho).1
  intro k o' ho' hk j hj
  rw [set_get (by omega)] at hk ⊢
  by_cases hki : k = i
  · subst hki
    rw [ho] at ho'
    simp only [Option.some.injEq] at ho'
    subst ho'
    rw [hp j hj]; simp
  · have : Nat.beq k i = false := by
      cases hb : Nat.beq k i
      · rfl
      · exact absurd (Nat.eq_of_beq_eq_true hb) hki
    rw [this] at hk
    rw [hd k o' ho' (by simpa using hk) j hj]; simp

/-- Each operation from p on stands behind all that are ahead of it in the text. -/
def seqFrom (l : List Oper) (cl : List (List Nat)) (p : Nat) : Bool := (List.range l.length).all fun i => Nat.blt i p || match cl[i]? with | some c => (List.range i).all fun j => mem j c | none => false

theorem drop_get {l : List Oper} {k : Nat} (hk : k < l.length) : l.drop k = l[k] :: l.drop (k + 1) := by rw [List.drop_eq_getElem_cons hk]

theorem any_sound {l : List Oper} {cl : List (List Nat)} (hcl : clOk l cl = true) {p : Nat} (hseq : seqFrom l cl p = true) (hpl : p ≤ l.length)
    (J : Array Bool → Act → World → Prop) (hJend : ∀ listed a w, J listed a w → (∀ i, i < p → listed.getD i false = true) → (∀ i, p ≤ i → listed.getD i false = false) → wpList P l.toArray Q (l.drop p) a w)
    (hJ : ∀ listed a w i o, J listed a w → Down l listed → listed.size = l.length → i < p → l[i]? = some o → listed.getD i false = false → (∀ j ∈ preds o, listed.getD j false = true) →
      wpOp P l.toArray Q i (J (listed.setIfInBounds i true)) a w) :
    ∀ (fuel : Nat) (listed : Array Bool) (a : Act) (w : World), listed.size = l.length → Down l listed → cnt (unl listed) l.length ≤ fuel →
      ((J listed a w ∧ ∀ i, p ≤ i → listed.getD i false = false) ∨ ∃ k, p ≤ k ∧ k ≤ l.length ∧ (∀ i, listed.getD i false = decide (i < k)) ∧ wpList P l.toArray Q (l.drop k) a w) →
      wpAny P .any l.toArray Q fuel listed a w := by
  intro fuel
  induction fuel with
  | zero =>
    intro listed a w hsz hd hc hst
    have hall : ∀ i, i < l.length → listed.getD i false = true := fun i hi => by
      have := cnt_zero (Nat.le_zero.1 hc) i hi
      simpa [unl] using this
    have hready : Region.ready .any l.toArray listed = [] := by
      cases hr : Region.ready .any l.toArray listed with
      | nil => rfl
      | cons x xs =>
        obtain ⟨o, ho, hf, _⟩ := ready_spec hsz (i := x) (by rw [hr]; simp)
        rw [hall x (List.getElem?_eq_some_iff.1 ho).1] at hf
        cases hf
    refine ⟨hready, ?_⟩
    rcases hst with ⟨hj, hrest⟩ | ⟨k, hpk, hkl, hk, hw⟩
    · have hpe : p = l.length := by
        rcases Nat.lt_or_ge p l.length with h | h
        · have := hall p h; rw [hrest p (Nat.le_refl _)] at this; cases this
        · omega
      have := hJend listed a w hj (fun i hi => hall i (by omega)) hrest
      rw [hpe, List.drop_length] at this
      exact this
    · have hke : k = l.length := by
        rcases Nat.lt_or_ge k l.length with h | h
        · have := hall k h; rw [hk k] at this; simp at this
        · omega
      rw [hke, List.drop_length] at hw
      exact hw
  | succ fuel ih =>
    intro listed a w hsz hd hc hst
    -- if all that goes in any order is listed, the second form holds
    have hst' : (J listed a w ∧ (∀ i, p ≤ i → listed.getD i false = false) ∧ ∃ i, i < p ∧ listed.getD i false = false) ∨
        ∃ k, p ≤ k ∧ k ≤ l.length ∧ (∀ i, listed.getD i false = decide (i < k)) ∧ wpList P l.toArray Q (l.drop k) a w := by
      rcases hst with ⟨hj, hrest⟩ | h
      · by_cases hex : ∃ i, i < p ∧ listed.getD i false = false
        · exact .inl ⟨hj, hrest, hex⟩
        · have hall : ∀ i, i < p → listed.getD i false = true := fun i hi => by
            cases hb : listed.getD i false
            · exact absurd ⟨i, hi, hb⟩ hex
            · rfl
          refine .inr ⟨p, Nat.le_refl _, hpl, fun i => ?_, hJend listed a w hj hall hrest⟩
          by_cases hi : i < p
          · rw [hall i hi]; simp [hi]
          · rw [hrest i (by omega)]; simp [hi]
      · exact .inr h
    have hdec : ∀ i, i < l.length → listed.getD i false = false → cnt (unl (listed.setIfInBounds i true)) l.length ≤ fuel := by
      intro i hi hf
      have := cnt_dec (f := unl listed) (g := unl (listed.setIfInBounds i true)) (i := i) (by simp [unl, hf]) (by simp only [unl]; rw [set_get (by omega)]; simp) hi (fun j _ hne => by
        simp only [unl]
        rw [getD_set_ne false (Ne.symm hne)])
      omega
    rcases hst' with ⟨hj, hrest, i0, hi0, hf0⟩ | ⟨k, hpk, hkl, hk, hw⟩
    · refine ⟨fun hr => absurd (none_ready hcl hsz hr i0 (by omega)) (by rw [hf0]; simp), fun i hi => ?_⟩
      obtain ⟨o, ho, hf, hp⟩ := ready_spec hsz hi
      have hlt : i < l.length := (List.getElem?_eq_some_iff.1 ho).1
      have hip : i < p := by
        rcases Nat.lt_or_ge i p with h | h
        · exact h
        · exfalso
          have hs := List.all_eq_true.1 hseq i (List.mem_range.2 hlt)
          have : Nat.blt i p = false := by
            cases hb : Nat.blt i p
            · rfl
            · have := Nat.le_of_ble_eq_true hb; omega
          rw [this] at hs
          cases hci : cl[i]? with
          | none => simp [hci] at hs
          | some c =>
            simp only [hci, Bool.false_or] at hs
            have hm := List.all_eq_true.1 hs i0 (List.mem_range.2 (by omega))
            have := clos_listed hcl hd i o c ho hci hp i0 (mem_iff.1 hm)
            rw [hf0] at this; cases this
      refine wpOp_mono (fun a' w' hj' => ih _ a' w' (by simpa using hsz) (down_set hsz hd ho hp) (hdec i hlt hf) (.inl ⟨hj', fun j hpj => ?_⟩)) (hJ listed a w i o hj hd hsz hip ho hf hp)
      rw [getD_set_ne false (by omega)]; exact hrest j hpj
    · refine ⟨fun hr => ?_, fun i hi => ?_⟩
      · have hke : k = l.length := by
          rcases Nat.lt_or_ge k l.length with h | h
          · have := none_ready hcl hsz hr k h; rw [hk k] at this; simp at this
          · omega
        rw [hke, List.drop_length] at hw
        exact hw
      · obtain ⟨o, ho, hf, hp⟩ := ready_spec hsz hi
        have hlt : i < l.length := (List.getElem?_eq_some_iff.1 ho).1
        have hik : i = k := by
          rw [hk i] at hf
          have hge : k ≤ i := by simpa using hf
          rcases Nat.lt_or_ge k i with h | h
          · exfalso
            have hs := List.all_eq_true.1 hseq i (List.mem_range.2 hlt)
            have : Nat.blt i p = false := by
              cases hb : Nat.blt i p
              · rfl
              · have := Nat.le_of_ble_eq_true hb; omega
            rw [this] at hs
            cases hci : cl[i]? with
            | none => simp [hci] at hs
            | some c =>
              simp only [hci, Bool.false_or] at hs
              have hm := List.all_eq_true.1 hs k (List.mem_range.2 h)
              have := clos_listed hcl hd i o c ho hci hp k (mem_iff.1 hm)
              rw [hk k] at this; simp at this
          · omega
        subst hik
        rw [drop_get hlt] at hw
        have hoe : l[i] = o := by
          have := List.getElem?_eq_getElem hlt
          rw [ho] at this
          simpa using this.symm
        rw [hoe] at hw
        have hnext : ∀ a' w', wpList P l.toArray Q (l.drop (i + 1)) a' w' → wpAny P .any l.toArray Q fuel (listed.setIfInBounds i true) a' w' := fun a' w' hw' =>
          ih _ a' w' (by simpa using hsz) (down_set hsz hd ho hp) (hdec i hlt hf) (.inr ⟨i + 1, by omega, by omega, fun j => by
            rw [set_get (by omega), hk j]
            by_cases hj : j = i
            · subst hj; simp
            · have : Nat.beq j i = false := by
                cases hb : Nat.beq j i
                · rfl
                · exact absurd (Nat.eq_of_beq_eq_true hb) hj
              rw [this]
              by_cases h : j < i
              · simp [h, show j < i + 1 by omega]
              · simp [h, show ¬ j < i + 1 by omega], hw'⟩)
        unfold wpOp
        rw [show l.toArray[i]? = some o by simpa using ho]
        unfold wpList at hw
        simp only
        split
        · rename_i hwd
          rw [if_pos hwd] at hw
          exact hw.imp (fun h => Oper.wp_mono hnext h) id
        · rename_i hwd
          rw [if_neg hwd] at hw
          exact hnext _ _ hw

theorem yields_of {ρ : Env} {a : Act} (ha : Rel n ρ a) {l : List Oper} {j d : Nat} {o : Oper} (ho : l[j]? = some o) (hd : o.dst = some d) (hlt : Nat.blt d n = true) :
    yielded l.toArray a.tmps j = match ρ d with | .bool b => some b | _ => none := by
  have hlt' : d < a.tmps.size := by rw [ha.size]; exact Nat.le_of_ble_eq_true hlt
  have hv := ha.val d
  simp only [yielded, List.getElem?_toArray, ho, Option.bind_some, hd]
  simp only [Array.getD_eq_getD_getElem?, Array.getElem?_eq_getElem hlt', Option.getD_some] at hv ⊢
  rw [hv]
  cases ρ d <;> rfl

theorem OSp.ok_step {s : OSp} {ρ ρ' : Env} {w w' : World} {c c' : Col} {κ : List Nat} {A B : Prop} (h : s.okE A ρ w c) (hρ : ρ' s.d = ρ s.d) (ht : ∀ p ∈ s.tl, ρ' p.1 = ρ p.1) (hs : Stp κ w c w' c') (hAB : B → A) (hk : B → ∀ y, (s.Φ y).all (apart κ) = true) : s.okE B ρ' w' c' :=
  ⟨fun hex => let ⟨y, hy, htl, hF⟩ := h.1 hex; ⟨y, hρ.trans hy, fun p hp => (ht p hp).trans (htl p hp), fun hb => by have := Heap.stp hs (hF (hAB hb)); rwa [keep_all (hk hb y)] at this⟩, fun hex => hρ.trans (h.2 hex)⟩

theorem stp_refl (κ : List Nat) (w : World) (c : Col) : Stp κ w c w c := .mk0 (Nat.le_refl _) (fun _ _ => rfl) (fun _ _ _ => rfl) (fun b h1 h2 => by omega) (Same3.refl w)

theorem stp_drew {w : World} {c : Col} : Stp [] w c { w with drawn := w.drawn + 1 } c := .mk0 (Nat.le_refl _) (fun _ _ => rfl) (fun _ _ _ => rfl) (fun _ h1 h2 => absurd (Nat.lt_of_le_of_lt h1 h2) (Nat.lt_irrefl _)) ⟨rfl, rfl, rfl⟩

theorem rep_false (k i : Nat) : (Array.replicate k false).getD i false = false := by
  rw [Array.getD_eq_getD_getElem?, Array.getElem?_replicate]; split <;> rfl

theorem cnt_le (f : Nat → Bool) : ∀ k, cnt f k ≤ k
  | 0 => by simp [cnt]
  | k + 1 => by
    have := cnt_le f k
    simp only [cnt]
    cases f k
    · exact Nat.le_succ_of_le this
    · exact Nat.succ_le_succ this

/-- A region whose order is drawn: those of 'es' in any order, then the rest in the text's order. -/
theorem s_any {ρ : Env} {L : List HA} {l : List Oper} (_hm : P.follows .mixedOrders = true) (es : List OSp) (cl : List (List Nat)) (hcl : clOk l cl = true) (hseq : seqFrom l cl es.length = true)
    (hlen : Nat.ble es.length l.length = true) (hnd : nodupD es = true) (hea : eatOk es cl = true) (hap : AllAp es cl es 0) (hob : AllOb P n es ρ (baseFor L es cl) l es cl 0) (outs : List Nat) (houts : outs.all (fun j => Nat.blt j es.length && es.all fun e => !(mem j e.eat)) = true) {rest : List Oper} (hrest : l.drop es.length = rest)
    (hfin : ∀ us, Fin (fun ρ' L' => SimL P n rest l.toArray Q ρ' L') es outs (mix es us ρ) (baseFor L es cl es.length)) :
    ∀ a w c, Rel n ρ a → Heap w c L → wpAny P .any l.toArray Q l.toArray.size (Array.replicate l.toArray.size false) a w := by
  intro a w c ha hL
  have hpl := Nat.le_of_ble_eq_true hlen
  refine (any_sound hcl hseq hpl
    (fun listed a' w' => ∃ ρ' c', Rel n ρ' a' ∧ (∀ t, (es.any fun e => Nat.beq t e.d) = false → ρ' t = ρ t) ∧ (∀ A ∈ L, (∀ k e, es[k]? = some e → listed.getD k false = true → apart e.κ A = true) → A.holds w' c') ∧ ∀ i e, es[i]? = some e → listed.getD i false = true → e.okE (¬ eaten es listed i) ρ' w' c')
    ?_ ?_ _ _ _ _ (by simp) (fun i o _ hi => by rw [rep_false] at hi; cases hi) (by simpa using cnt_le _ _) (.inl ⟨⟨ρ, c, ha, fun _ _ => rfl, fun A hA _ => hL A hA, fun i e _ hi => by rw [rep_false] at hi; cases hi⟩, fun i _ => rep_false _ i⟩))
  · rintro listed a' w' ⟨ρ', c', ha', hag, hL', hok⟩ hall _
    rw [hrest]
    have hmix : mix es ρ' ρ = ρ' := by
      funext t
      unfold mix
      cases hb : es.any fun e => Nat.beq t e.d
      · exact (hag t hb).symm
      · rfl
    have hf := hfin ρ'
    rw [hmix] at hf
    refine fin_use (G := wpList P l.toArray Q rest a' w') (fun ρ'' L'' hR he hH => ?_) outs (baseFor L es cl es.length) hf (fun A hA => hL' A (base_mem hA) fun k e hk hlk => ?_) fun j hj e he => ?_
    · subst he
      exact hR a' w' c' ha' hH
    · have hkl : k < es.length := (List.getElem?_eq_some_iff.1 hk).1
      rcases base_apart hA (cl_some hcl (show k < l.length by omega)) hk with h | h | h
      · omega
      · exfalso
        cases hck : cl[k]? with
        | none => simp [hck] at h
        | some c =>
          simp only [hck] at h
          have h1 := List.all_eq_true.1 hcl k (List.mem_range.2 (by omega))
          have h3 := cl_lt hcl (show k < l.length by omega) hck es.length (mem_iff.1 h)
          omega
      · exact h
    · have h2 := List.all_eq_true.1 houts j hj
      rw [Bool.and_eq_true] at h2
      have h3 := hok j e he (hall j (Nat.le_of_ble_eq_true h2.1))
      refine ⟨fun hx => let ⟨y, hy, ht, hF⟩ := h3.1 hx; ⟨y, hy, ht, hF ?_⟩, h3.2⟩
      rintro ⟨k, e', hk, hm, _⟩
      have := List.all_eq_true.1 h2.2 e' (List.mem_of_getElem? hk)
      rw [hm] at this; cases this
  · rintro listed a' w' i o ⟨ρ', c', ha', hag, hL', hok⟩ hd hsz hip ho hf hp
    have hs : es[i]? = some es[i] := by simp [hip]
    generalize hse : es[i] = s at hs
    obtain ⟨ci, hci, hdst, hsel, hpre, hrd, htlk, hgd, hex⟩ := hob.at ho hs
    rw [Nat.zero_add] at hex
    have hcl' : ∀ j ∈ ci, listed.getD j false = true := clos_listed hcl hd i o ci ho hci hp
    have hil : i < es.length := hip
    have hlive : ∀ j ∈ s.pre, ¬ eaten es listed j := by
      rintro j hj ⟨k, e, hk, hm, hlk⟩
      have hkl : k < es.length := (List.getElem?_eq_some_iff.1 hk).1
      have h1 := List.all_eq_true.1 hea i (List.mem_range.2 hil)
      simp only [hs] at h1
      have h2 := List.all_eq_true.1 (List.all_eq_true.1 h1 j hj) k (List.mem_range.2 hkl)
      simp only [hk, hm, Bool.not_true, Bool.false_or, Bool.or_eq_true] at h2
      rcases h2 with h2 | h2
      · rw [Nat.eq_of_beq_eq_true h2] at hlk; rw [hf] at hlk; cases hlk
      · cases hck : cl[k]? with
        | none => simp [hck] at h2
        | some ck =>
          simp only [hck] at h2
          have hkl' : k < l.length := by omega
          have hok' : l[k]? = some l[k] := by simp [hkl']
          have := clos_listed hcl hd k l[k] ck hok' hck (hd k l[k] hok' hlk) i (mem_iff.1 h2)
          rw [hf] at this; cases this
    have hap' := hap.at hs
    rw [Nat.zero_add] at hap'
    have hLi : Heap w' c' (baseFor L es cl i) := fun A hA => hL' A (base_mem hA) fun k e hk hlk => by
      have hkl : k < es.length := (List.getElem?_eq_some_iff.1 hk).1
      rcases base_apart hA (cl_some hcl (show k < l.length by omega)) hk with h | h | h
      · rw [h, hf] at hlk; cases hlk
      · exfalso
        cases hck : cl[k]? with
        | none => simp [hck] at h
        | some ck =>
          simp only [hck] at h
          have hkl' : k < l.length := by omega
          have hok' : l[k]? = some l[k] := by simp [hkl']
          have := clos_listed hcl hd k l[k] ck hok' hck (hd k l[k] hok' hlk) i (mem_iff.1 h)
          rw [hf] at this; cases this
      · exact h
    have htl : ∀ e : OSp, tlOk e es = true → (∀ j ∈ e.pre, listed.getD j false = true) → ∀ (v : Value) (p : Nat × (e.Y → Value)), p ∈ e.tl → upd ρ' s.d v p.1 = ρ' p.1 := by
      intro e htk hpl' v p hp
      have h1 := List.all_eq_true.1 htk p hp
      obtain ⟨k, hk, hm⟩ := List.any_eq_true.1 h1
      cases hek : es[k]? with
      | none => simp [hek] at hm
      | some ek =>
        simp only [hek] at hm
        have hki : k ≠ i := fun h => by have := hpl' k hk; rw [h, hf] at this; cases this
        have hne := nodupD_spec hnd hek hs hki
        have : Nat.beq p.1 s.d = false := by
          rw [Nat.eq_of_beq_eq_true hm]
          cases hb : Nat.beq ek.d s.d
          · rfl
          · exact absurd (Nat.eq_of_beq_eq_true hb) hne
        simp [upd, this]
    -- what stands behind the operation
    have next : ∀ (v : Value) (w'' : World) (c'' : Col), Stp s.κ w' c' w'' c'' → ((s.ex = true → ∃ y, v = s.val y ∧ Tells ρ' s.tl y ∧ Heap w'' c'' (s.Φ y)) ∧ (s.ex = false → v = undef)) →
        ∃ ρ'' c'', Rel n ρ'' (a'.put o.dst v) ∧ (∀ t, (es.any fun e => Nat.beq t e.d) = false → ρ'' t = ρ t) ∧ (∀ A ∈ L, (∀ k e, es[k]? = some e → (listed.setIfInBounds i true).getD k false = true → apart e.κ A = true) → A.holds w'' c'') ∧ ∀ j e, es[j]? = some e → (listed.setIfInBounds i true).getD j false = true → e.okE (¬ eaten es (listed.setIfInBounds i true) j) ρ'' w'' c'' := by
      intro v w'' c'' hst hv
      have hmono : ∀ j, ¬ eaten es (listed.setIfInBounds i true) j → ¬ eaten es listed j := fun j h ⟨k, e, hk, hm, hl⟩ => h ⟨k, e, hk, hm, by rw [set_get (by omega), hl]; simp⟩
      refine ⟨upd ρ' s.d v, c'', dst_put hdst ha' v (by cases hx : s.ex; exact .inr (hv.2 hx); obtain ⟨y, hy, _⟩ := hv.1 hx; exact .inl ⟨y, hy⟩), fun t ht => ?_, fun A hA hk => HA.stp hst A (fun k hkA hκ => ?_) (hL' A hA fun k e he hl => hk k e he (by rw [set_get (by omega), hl]; simp)), fun j e he hj => ?_⟩
      rotate_left
      · have h1 := hk i s hs (by rw [set_get (by omega)]; simp)
        have := List.all_eq_true.1 (List.all_eq_true.1 h1 k hkA) k hκ
        simp at this
      rotate_left
      · unfold upd
        cases hb : Nat.beq t s.d
        · exact hag t ht
        · exfalso
          have : (es.any fun e => Nat.beq t e.d) = true := List.any_eq_true.2 ⟨s, List.mem_of_getElem? hs, hb⟩
          rw [ht] at this; cases this
      · rw [set_get (by omega)] at hj
        by_cases hji : j = i
        · subst hji
          rw [hs] at he
          simp only [Option.some.injEq] at he
          subst he
          have hu : upd ρ' s.d v s.d = v := by simp [upd]
          exact ⟨fun hx => let ⟨y, hy, ht, hF⟩ := hv.1 hx; ⟨y, hu.trans hy, fun p hp => (htl s htlk (fun q hq => hcl' q (mem_iff.1 (List.all_eq_true.1 hpre q hq))) v p hp).trans (ht p hp), fun _ => hF⟩, fun hx => hu.trans (hv.2 hx)⟩
        · have hb : Nat.beq j i = false := by
            cases hb : Nat.beq j i
            · rfl
            · exact absurd (Nat.eq_of_beq_eq_true hb) hji
          rw [hb] at hj
          have htj : ∀ p ∈ e.tl, upd ρ' s.d v p.1 = ρ' p.1 := by
            have hjl : j < l.length := by have := (List.getElem?_eq_some_iff.1 he).1; omega
            have hoj : l[j]? = some l[j] := by simp [hjl]
            obtain ⟨cj, hcj, _, _, hprej, _, htkj, _⟩ := hob.at hoj he
            have hlj : listed.getD j false = true := by simpa using hj
            exact htl e htkj (fun q hq => clos_listed hcl hd j l[j] cj hoj hcj (hd j l[j] hoj hlj) q (mem_iff.1 (List.all_eq_true.1 hprej q hq))) v
          refine OSp.ok_step (hok j e he (by simpa using hj)) ?_ htj hst (hmono j) (fun hlv y => ?_)
          rotate_left
          · rcases hap' with h | h
            · rw [h]; exact List.all_eq_true.2 fun A _ => List.all_eq_true.2 fun _ _ => rfl
            · rcases h.at he with h3 | h3
              · rw [Nat.zero_add] at h3
                have h4 := mem_iff.1 h3
                rcases List.mem_cons.1 h4 with h5 | h5
                · exact absurd h5 hji
                · rcases List.mem_append.1 h5 with h5 | h5
                  · exact absurd ⟨i, s, hs, mem_iff.2 h5, by rw [set_get (by omega)]; simp⟩ hlv
                  · exfalso
                    have h6 := (List.mem_filter.1 h5).2
                    have hjl : j < l.length := by have := (List.getElem?_eq_some_iff.1 he).1; omega
                    have hoj : l[j]? = some l[j] := by simp [hjl]
                    cases hcj : cl[j]? with
                    | none => simp [hcj] at h6
                    | some cj =>
                      simp only [hcj] at h6
                      have hlj : listed.getD j false = true := by simpa using hj
                      have := clos_listed hcl hd j l[j] cj hoj hcj (hd j l[j] hoj hlj) i (mem_iff.1 h6)
                      rw [hf] at this; cases this
              · exact h3 y
          have hne := nodupD_spec hnd he hs hji
          have hb' : Nat.beq e.d s.d = false := by
            cases hb' : Nat.beq e.d s.d
            · rfl
            · exact absurd (Nat.eq_of_beq_eq_true hb') hne
          simp [upd, hb']
    have run : s.ex = true → o.wp P a' w' (fun a'' w'' => ∃ ρ'' c'', Rel n ρ'' a'' ∧ (∀ t, (es.any fun e => Nat.beq t e.d) = false → ρ'' t = ρ t) ∧ (∀ A ∈ L, (∀ k e, es[k]? = some e → (listed.setIfInBounds i true).getD k false = true → apart e.κ A = true) → A.holds w'' c'') ∧ ∀ j e, es[j]? = some e → (listed.setIfInBounds i true).getD j false = true → e.okE (¬ eaten es (listed.setIfInBounds i true) j) ρ'' w'' c'') Q := by
      intro hx
      unfold Oper.wp
      rw [ha'.eval]
      refine ob_use hsel s.pre ρ (baseFor L es cl i) (hex hx) hLi (fun j hj e he => have h3 := hok j e he (hcl' j (mem_iff.1 (List.all_eq_true.1 hpre j hj))); ⟨fun hx => let ⟨y, hy, ht, hF⟩ := h3.1 hx; ⟨y, hy, ht, hF (hlive j hj)⟩, h3.2⟩) (fun t ht => ?_) fun y w'' c'' hst hF ht => next (s.val y) w'' c'' hst ⟨fun _ => ⟨y, rfl, ht, hF⟩, fun h => by rw [hx] at h; cases h⟩
      rcases ht with ht | ⟨p, hp, rfl⟩
      rotate_left
      · right
        obtain ⟨j, hj, hm'⟩ := List.any_eq_true.1 (List.all_eq_true.1 htlk p hp)
        cases hje : es[j]? with
        | none => simp [hje] at hm'
        | some e =>
          simp only [hje] at hm'
          exact ⟨j, hj, e, hje, (Nat.eq_of_beq_eq_true hm').symm⟩
      have := List.all_eq_true.1 hrd (.tmp t) (by simpa using ht)
      simp only [Bool.or_eq_true, Bool.not_eq_true'] at this
      rcases this with h | h
      · exact .inl (hag t h).symm
      · right
        obtain ⟨j, hj, hm'⟩ := List.any_eq_true.1 h
        cases hje : es[j]? with
        | none => simp [hje] at hm'
        | some e =>
          simp only [hje] at hm'
          exact ⟨j, hj, e, hje, (Nat.eq_of_beq_eq_true hm').symm⟩
    unfold wpOp
    rw [show l.toArray[i]? = some o by simpa using ho]
    simp only
    unfold gdOk at hgd
    cases hg : o.guard with
    | none =>
      simp only [hg] at hgd
      rw [if_pos (by simp [Region.wanted, hg])]
      exact .inl (run hgd)
    | some jw =>
      obtain ⟨j, want⟩ := jw
      simp only [hg] at hgd
      obtain ⟨hjc, e, b, hej, hedn, hval, hexe⟩ := hgd
      have hje := hok j e hej (hcl' j (mem_iff.1 hjc))
      have hjp : j < es.length := (List.getElem?_eq_some_iff.1 hej).1
      have hoj : l[j]? = some l[j] := by simp [show j < l.length by omega]
      obtain ⟨cj, _, hdj0, _⟩ := hob.at hoj hej
      obtain ⟨hdj, hdjn⟩ : l[j].dst = some e.d ∧ Nat.blt e.d n = true := by
        rcases hdj0 with h | ⟨_, h, _⟩
        · exact h
        · have h1 := Nat.le_of_ble_eq_true h; have h2 := Nat.le_of_ble_eq_true hedn; omega
      have hy := yields_of ha' hoj hdj hdjn
      cases hx : s.ex
      · have hw : Region.wanted o (yielded l.toArray a'.tmps) = false := by
          simp only [Region.wanted, hg, hy]
          rw [hx] at hexe
          cases hee : e.ex
          · rw [hje.2 hee]; rfl
          · obtain ⟨y, hy', _, _⟩ := hje.1 hee
            rw [hy', hval y]
            rw [hee] at hexe
            simp only [Bool.true_and] at hexe
            cases b <;> cases want <;> first | rfl | simp at hexe
        rw [if_neg (by rw [hw]; simp)]
        exact next undef w' c' (stp_refl _ w' c') ⟨fun h => by (rw [hx] at h; cases h), fun _ => rfl⟩
      · have hw : Region.wanted o (yielded l.toArray a'.tmps) = true := by
          simp only [Region.wanted, hg, hy]
          rw [hx] at hexe
          cases hee : e.ex
          · rw [hee] at hexe; simp at hexe
          · obtain ⟨y, hy', _, _⟩ := hje.1 hee
            rw [hy', hval y]
            rw [hee] at hexe
            simp only [Bool.true_and] at hexe
            cases b <;> cases want <;> first | rfl | simp at hexe
        rw [if_pos hw]
        exact .inl (run hx)

/-- A region whose order is drawn: those of 'es' in any order, then the rest in the text's order. -/
theorem s_draw {ρ : Env} {L : List HA} {id : Nat} {l : List Oper} (hm : P.follows .mixedOrders = true) (es : List OSp) (cl : List (List Nat)) (hcl : clOk l cl = true) (hseq : seqFrom l cl es.length = true)
    (hlen : Nat.ble es.length l.length = true) (hnd : nodupD es = true) (hea : eatOk es cl = true) (hap : AllAp es cl es 0) (hob : AllOb P n es ρ (baseFor L es cl) l es cl 0) (outs : List Nat) (houts : outs.all (fun j => Nat.blt j es.length && es.all fun e => !(mem j e.eat)) = true) {rest : List Oper} (hrest : l.drop es.length = rest)
    (hfin : ∀ us, Fin (fun ρ' L' => SimL P n rest l.toArray Q ρ' L') es outs (mix es us ρ) (baseFor L es cl es.length)) : Sim P n (.region id l.toArray true) Q ρ L := by
  intro a w c ha hL
  exact wp_region_any hm (s_any hm es cl hcl hseq hlen hnd hea hap hob outs houts hrest hfin a _ c ha (Heap.stp0 stp_drew hL))

theorem any_text {l : List Oper} {cl : List (List Nat)} (hcl : clOk l cl = true) : ∀ (m k : Nat) (listed : Array Bool) (a : Act) (w : World), k + m = l.length → listed.size = l.length → (∀ i, listed.getD i false = decide (i < k)) →
    wpAny P .any l.toArray Q m listed a w → wpOps P l.toArray Q (List.range' k m) a w := by
  intro m
  induction m with
  | zero => intro k listed a w hk hsz hls h; exact h.2
  | succ m ih =>
    intro k listed a w hk hsz hls h
    rw [List.range'_succ, wpOps_cons]
    have hkl : k < l.length := by omega
    have hmem : k ∈ Region.ready .any l.toArray listed := by
      rw [mem_ready]
      refine ⟨by rw [getD_tf (by omega), hls k]; simp, l[k], by simp [hkl], fun e he hb => ?_⟩
      have hc := List.all_eq_true.1 hcl k (List.mem_range.2 hkl)
      simp only [show l[k]? = some l[k] by simp [hkl]] at hc
      cases hci : cl[k]? with
      | none => simp [hci] at hc
      | some c =>
        simp only [hci, Bool.and_eq_true] at hc
        have hlt : e.on < k := Nat.le_of_ble_eq_true (List.all_eq_true.1 hc.1 e.on (List.mem_map.2 ⟨e, List.mem_filter.2 ⟨by simpa using he, hb⟩, rfl⟩))
        rw [hls]; simpa using hlt
    refine wpOp_mono (fun a' w' h' => ih (k + 1) _ a' w' (by omega) (by simpa using hsz) (fun i => ?_) h') (h.2 k hmem)
    rw [set_get (by omega), hls i]
    by_cases hik : i = k
    · subst hik; simp
    · have : Nat.beq i k = false := by
        cases hb : Nat.beq i k
        · rfl
        · exact absurd (Nat.eq_of_beq_eq_true hb) hik
      rw [this]
      by_cases h : i < k
      · simp [h, show i < k + 1 by omega]
      · simp [h, show ¬ i < k + 1 by omega]

end
section
variable {P : Program} {n : Nat} {Q : Exit → Act → World → Prop} {ρ : Env} {L : List HA} {o : Oper}

theorem ob_nil {s : OSp} {es : List OSp} (ht : s.tl = []) (h : OpOk P ρ o L s.κ s.val s.Φ) : Ob P o s es [] ρ L := by
  intro a ev w c next Q ha hL hk
  refine h a ev w c next Q ha hL fun y w' c' hst hF => hk y w' c' hst (Heap.cons ?_ hF)
  show Tells ρ s.tl y
  rw [ht]; exact tells_nil
/-- What is known of other things is carried on. -/
theorem ob_carry {s : OSp} {es : List OSp} {Y : Type} {val : Y → Value} {Φ : Y → List HA} (y' : Y → s.Y) (h : OpOk P ρ o L s.κ val Φ) (hv : ∀ y, val y = s.val (y' y)) (is : List Nat) (M : List HA) (he : is.filterMap ((keep s.κ L)[·]?) = M) (hΦ : ∀ y, Φ y ++ M = s.Φ (y' y))
    (ht : ∀ y, Tells ρ s.tl (y' y)) : Ob P o s es [] ρ L := by
  intro a ev w c next Q ha hL hk
  refine h a ev w c next Q ha hL fun y w' c' hst hF => ?_
  rw [hv y]
  refine hk (y' y) w' c' hst (Heap.cons (ht y) ?_)
  rw [← hΦ y]
  exact hF.append ((Heap.stp hst hL).sub is he)
theorem ob_one {s e : OSp} {es : List OSp} {j : Nat} {js : List Nat} (hj : es[j]? = some e) (hx : e.ex = true) (h : ∀ y, Ob P o s es js (upd ρ e.d (e.val y)) (e.Φ y ++ L)) : Ob P o s es (j :: js) ρ L := by
  simp only [Ob, hj]; exact ⟨fun _ => h, fun hf => by rw [hx] at hf; cases hf⟩
theorem ob_two {s e : OSp} {es : List OSp} {j : Nat} {js : List Nat} (hj : es[j]? = some e) (h : e.ex = true → ∀ y, Ob P o s es js (upd ρ e.d (e.val y)) (e.Φ y ++ L)) (h' : e.ex = false → Ob P o s es js (upd ρ e.d undef) L) : Ob P o s es (j :: js) ρ L := by
  simp only [Ob, hj]; exact ⟨h, h'⟩
theorem fin_nil {R : Env → List HA → Prop} {es : List OSp} (h : R ρ L) : Fin R es [] ρ L := h
theorem fin_one {R : Env → List HA → Prop} {e : OSp} {es : List OSp} {j : Nat} {js : List Nat} (hj : es[j]? = some e) (hx : e.ex = true) (h : ∀ y, Fin R es js (updL (upd ρ e.d (e.val y)) y e.tl) (e.Φ y ++ L)) : Fin R es (j :: js) ρ L := by
  simp only [Fin, hj]; exact ⟨fun _ => h, fun hf => by rw [hx] at hf; cases hf⟩
theorem gd_none {n : Nat} {s : OSp} {es : List OSp} {c : List Nat} (hg : o.guard = none) (h : s.ex = true) : gdOk n o s es c := by
  simp only [gdOk, hg]; exact h
theorem gd_some {n : Nat} {s e : OSp} {es : List OSp} {c : List Nat} {j : Nat} {want : Bool} (b : Bool) (hg : o.guard = some (j, want)) (hj : es[j]? = some e) (hm : mem j c = true) (hn : Nat.blt e.d n = true) (hv : ∀ y, e.val y = .bool b) (h : s.ex = (e.ex && (b == want))) : gdOk n o s es c := by
  simp only [gdOk, hg]; exact ⟨hm, e, b, hj, hn, hv, h⟩
theorem all_nil {es : List OSp} {l : List Oper} {cl : List (List Nat)} {B : Nat → List HA} {i : Nat} : AllOb P n es ρ B l [] cl i := by
  cases l <;> cases cl <;> trivial
theorem dst_some {n : Nat} {s : OSp} (h1 : o.dst = some s.d) (h2 : Nat.blt s.d n = true) : dstOk n o s := .inl ⟨h1, h2⟩
theorem dst_none {n : Nat} {s : OSp} (h1 : o.dst = none) (h2 : Nat.ble n s.d = true) (h3 : ∀ y, s.val y = undef) : dstOk n o s := .inr ⟨h1, h2, h3⟩
theorem all_cons {es : List OSp} {l : List Oper} {s : OSp} {ss : List OSp} {c : List Nat} {cs : List (List Nat)} {B : Nat → List HA} {i : Nat} (Li : List HA) (hB : B i = Li) (h1 : dstOk n o s) (h3 : notSelect o = true) (h4 : s.pre.all (fun j => mem j c) = true) (h5 : opReads o es s.pre = true) (h5' : tlOk s es = true)
    (h6 : gdOk n o s es c) (h7 : s.ex = true → Ob P o s es s.pre ρ Li) (h : AllOb P n es ρ B l ss cs (i + 1)) : AllOb P n es ρ B (o :: l) (s :: ss) (c :: cs) i := ⟨⟨h1, h3, h4, h5, h5', h6, hB ▸ h7⟩, h⟩
theorem fin_base {R : Env → List HA → Prop} {es : List OSp} {js : List Nat} {L0 : List HA} (L : List HA) (hB : L0 = L) (h : Fin R es js ρ L) : Fin R es js ρ L0 := hB ▸ h

/-- A value that is known, with assertions that are there. -/
theorem ok_known {Y : Type} {val : Y → Value} {Φ : Y → List HA} (y : Y) {v : Value} (h : PureOk P ρ o L v) (hv : v = val y) (is : List Nat) (he : is.filterMap (L[·]?) = Φ y) : OpOk P ρ o L [] val Φ := by
  intro a ev w c next Q ha hL hk
  rw [h ev w c ha hL, hv]
  exact hk y w c (Stp.refl w c) (hL.sub is he)

/-- Slots are told anew. -/
theorem s_env {cd : Code} (slots : List (Nat × Value)) (hs : SlotsOk ρ slots) (h : ∀ ρ', Sim P n cd Q (sets ρ' slots) L) : Sim P n cd Q ρ L := by
  have := h ρ
  rwa [sets_eq hs] at this

theorem s_absurd {cd : Code} (k : Nat) (hk : L[k]? = some (.pure False)) : Sim P n cd Q ρ L := fun _ _ _ _ hL => (hL.at hk).elim

/-- The same in the text's order. -/
theorem s_text {id : Nat} {l : List Oper} (hm : P.follows .mixedOrders = true) (es : List OSp) (cl : List (List Nat)) (hcl : clOk l cl = true) (hseq : seqFrom l cl es.length = true)
    (hlen : Nat.ble es.length l.length = true) (hnd : nodupD es = true) (hea : eatOk es cl = true) (hap : AllAp es cl es 0) (hob : AllOb P n es ρ (baseFor L es cl) l es cl 0) (outs : List Nat) (houts : outs.all (fun j => Nat.blt j es.length && es.all fun e => !(mem j e.eat)) = true) {rest : List Oper} (hrest : l.drop es.length = rest)
    (hfin : ∀ us, Fin (fun ρ' L' => SimL P n rest l.toArray Q ρ' L') es outs (mix es us ρ) (baseFor L es cl es.length)) : Sim P n (.region id l.toArray false) Q ρ L := by
  intro a w c ha hL
  have h := s_any hm es cl hcl hseq hlen hnd hea hap hob outs houts hrest hfin a w c ha hL
  refine wp_region ?_
  rw [List.range_eq_range']
  exact any_text hcl _ 0 _ a w (by simp) (by simp) (fun i => by rw [rep_false]; simp) h
end
end Go.Sm
