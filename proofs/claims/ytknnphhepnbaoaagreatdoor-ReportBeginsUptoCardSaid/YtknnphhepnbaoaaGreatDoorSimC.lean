/-
  Colours changed, loops, joins of ways, entering and leaving a function, calls by contract. Nothing of a program is named here; no condition.
-/
import Derived.Test.YtknnphhepnbaoaaGreatDoorSimB
namespace Go.Sm

def HA.ren (g : Nat → Nat) : HA → HA
  | .rep t K xs v => .rep t (K.map g) xs v
  | .own t e i K xs v => .own t e (g i) (K.map g) xs v
  | .box i b cs => .box (g i) b cs
  | .elem t K x p => .elem t (K.map g) x p
  | .old w0 S => .old w0 S
  | .pure p => .pure p
  | .gl g n cs => .gl g n cs

/-- A change of colours: the old ones stay, the others become others from 2 on. -/
structure Gd (g : Nat → Nat) : Prop where
  z : g 0 = 0
  o : g 1 = 1
  two : ∀ k, 2 ≤ k → 2 ≤ g k

theorem HA.ren_holds {g : Nat → Nat} (hg : Gd g) {w : World} {c : Col} : (A : HA) → A.holds w c → (A.ren g).holds w (fun b => g (c b))
  | .rep t K xs v, h => RepR.keep (S := fun b => c b ∈ K) (fun b _ hb => ⟨List.mem_map.2 ⟨_, hb, rfl⟩, rfl⟩) (.slice t) xs v h
  | .own t e i K xs v, ⟨ys, h1, h2, h3⟩ => ⟨ys, h1.mono (RepR.keep (S := fun b => c b ∈ K) (fun b _ hb => ⟨List.mem_map.2 ⟨_, hb, rfl⟩, rfl⟩) t), h2, fun b hb => by show g (c b) = g i; rw [h3 b hb]⟩
  | .box i b cs, ⟨h1, h2⟩ => ⟨h1, by show g (c b) = g i; rw [h2]⟩
  | .elem t K x p, ⟨y, b, off, arr, ty, fz, hp, hc, h1, h2, h3, h4⟩ =>
    ⟨y, b, off, arr, ty, fz, hp, List.mem_map.2 ⟨_, hc, rfl⟩, h1, h2, h3, RepR.keep (S := fun b => c b ∈ K) (fun b _ hb => ⟨List.mem_map.2 ⟨_, hb, rfl⟩, rfl⟩) t x y h4⟩
  | .old w0 c0, ⟨h1, h2, h3, h4⟩ => ⟨h1, fun b hb h01 => ⟨(h2 b hb h01).1, by
      show g (c b) = _
      rw [(h2 b hb h01).2]
      rcases (show c0 b = 0 ∨ c0 b = 1 by omega) with e | e <;> rw [e]
      · exact hg.z
      · exact hg.o⟩, fun b hb hb' => hg.two _ (h3 b hb hb'), h4⟩
  | .pure _, h => h
  | .gl b n cs, ⟨h1, h2, h3⟩ => ⟨h1, by
      show g (c b) ≤ 1
      rcases (show c b = 0 ∨ c b = 1 by omega) with e | e <;> rw [e]
      · rw [hg.z]; omega
      · rw [hg.o]; omega, h3⟩

theorem Heap.ren {g : Nat → Nat} (hg : Gd g) {w : World} {c : Col} {L : List HA} (h : Heap w c L) : Heap w (fun b => g (c b)) (L.map (HA.ren g)) := by
  intro A hA
  obtain ⟨B, hB, rfl⟩ := List.mem_map.1 hA
  exact B.ren_holds hg (h B hB)

/-- The change of colours that a list tells; all others become d. -/
def mkg (l : List (Nat × Nat)) (d : Nat) (k : Nat) : Nat :=
  match k with
  | 0 => 0
  | 1 => 1
  | _ => match l with
    | [] => d
    | (a, b) :: r => cond (Nat.beq k a) b (mkg r d k)

theorem mkg_gd {l : List (Nat × Nat)} {d : Nat} (h : (d :: l.map (·.2)).all (fun x => Nat.ble 2 x) = true) : Gd (mkg l d) := by
  have hd : 2 ≤ d := Nat.le_of_ble_eq_true (List.all_eq_true.1 h d (by simp))
  have hl : ∀ p ∈ l, 2 ≤ p.2 := fun p hp => Nat.le_of_ble_eq_true (List.all_eq_true.1 h p.2 (by simp only [List.mem_cons, List.mem_map]; exact .inr ⟨p, hp, rfl⟩))
  refine ⟨by simp [mkg], by simp [mkg], ?_⟩
  intro k hk
  clear h
  induction l with
  | nil =>
    match k, hk with
    | k + 2, _ => exact hd
  | cons p r ih =>
    obtain ⟨a, b⟩ := p
    match k, hk with
    | k + 2, hk =>
      simp only [mkg]
      cases hb : Nat.beq (k + 2) a
      · exact ih fun q hq => hl q (List.mem_cons_of_mem _ hq)
      · exact hl (a, b) (by simp)

theorem subK {K Ka : List Nat} (h : K.all (fun k => Ka.any fun j => Nat.beq k j) = true) {k : Nat} (hk : k ∈ K) : k ∈ Ka := by
  obtain ⟨j, hj, he⟩ := List.any_eq_true.1 (List.all_eq_true.1 h k hk)
  exact (Nat.eq_of_beq_eq_true he) ▸ hj

theorem own_rep {w : World} {c : Col} {t : Ty} {e : TypeId} {i : Nat} {K : List Nat} {xs : List t.den} {v : Hd} (h : HA.holds w c (.own t e i K xs v)) : HA.holds w c (.rep t (i :: K) xs v) := by
  obtain ⟨ys, h1, h2, h3⟩ := h
  obtain ⟨a, n, cap⟩ := v
  refine ⟨ys, h1.mono (RepR.keep (fun b _ hb => ⟨List.mem_cons_of_mem _ hb, rfl⟩) t), ?_⟩
  rcases h2.2 with ⟨hv, hn⟩ | ⟨g, cap', cur, ty, fz, hv, hg, _, hle, hm, hsz, hcells⟩
  · simp only [Hd.val, Value.slice.injEq] at hv
    obtain ⟨rfl, rfl, rfl⟩ := hv
    exact ⟨by simp [hn], by simp [hn], by simp [maxLen], .inl ⟨trivial, rfl⟩⟩
  · simp only [Hd.val, Value.slice.injEq] at hv
    obtain ⟨rfl, rfl, rfl⟩ := hv
    exact ⟨rfl, hle, hm, .inr ⟨g, 0, cur, ty, fz, rfl, by show c g ∈ i :: K; rw [h3 g rfl]; simp, hg, by simp [hsz], by simpa using hcells⟩⟩

/-- An assertion that is weaker. -/
def Weak (A A' : HA) : Prop := ∀ w c, A.holds w c → A'.holds w c
theorem weak_rep {t : Ty} {K K' : List Nat} {xs : List t.den} {v : Hd} (h : K.all (fun k => K'.any fun j => Nat.beq k j) = true) : Weak (.rep t K xs v) (.rep t K' xs v) :=
  fun _ _ hA => RepR.keep (fun _ _ hb => ⟨subK h hb, rfl⟩) (.slice t) xs v hA
theorem weak_own {t : Ty} {e : TypeId} {i : Nat} {K K' : List Nat} {xs : List t.den} {v : Hd} (h : (i :: K).all (fun k => K'.any fun j => Nat.beq k j) = true) : Weak (.own t e i K xs v) (.rep t K' xs v) :=
  fun w c hA => weak_rep h w c (own_rep hA)
theorem weak_ownK {t : Ty} {e : TypeId} {i : Nat} {K K' : List Nat} {xs : List t.den} {v : Hd} (h : K.all (fun k => K'.any fun j => Nat.beq k j) = true) : Weak (.own t e i K xs v) (.own t e i K' xs v) :=
  fun _ _ ⟨ys, h1, h2, h3⟩ => ⟨ys, h1.mono (RepR.keep (fun _ _ hb => ⟨subK h hb, rfl⟩) t), h2, h3⟩
theorem weak_slim {t : Ty} {e : TypeId} {i : Nat} {K K' : List Nat} {xs : List t.den} {v : Hd} (h : t.pureB = true) : Weak (.own t e i K xs v) (.own t e i K' xs v) :=
  fun _ _ ⟨ys, h1, h2, h3⟩ => ⟨ys, h1.mono (fun x y _ => RepR.pure t x y h), h2, h3⟩
theorem weak_same {A : HA} : Weak A A := fun _ _ h => h

/-- An assertion that always holds. -/
def Free (A : HA) : Prop := ∀ w c, A.holds w c
theorem free_rep {t : Ty} {K : List Nat} : Free (.rep t K [] ⟨none, 0, 0⟩) := fun _ _ => ⟨[], trivial, rfl, by simp, by simp [maxLen], .inl ⟨trivial, rfl⟩⟩
theorem free_own {t : Ty} {e : TypeId} {i : Nat} {K : List Nat} : Free (.own t e i K [] ⟨none, 0, 0⟩) := fun _ _ => ⟨[], trivial, ⟨by simp [cellsOf], .inl ⟨rfl, rfl⟩⟩, fun g hg => by simp [Value.ownBlock] at hg⟩

/-- Each of the assertions is paid by one of L, or holds always. -/
def PaidL (L : List HA) : List HA → Prop
  | [] => True
  | A' :: r => ((∃ (k : Nat) (A : HA), L[k]? = some A ∧ Weak A A') ∨ Free A') ∧ PaidL L r
theorem PaidL.heap {w : World} {c : Col} {L : List HA} (hL : Heap w c L) : ∀ {l : List HA}, PaidL L l → Heap w c l
  | [], _ => Heap.nil _ _
  | _ :: _, ⟨.inl ⟨_, _, hk, hc⟩, hr⟩ => Heap.cons (hc w c (hL.at hk)) (hr.heap hL)
  | _ :: _, ⟨.inr hf, hr⟩ => Heap.cons (hf w c) (hr.heap hL)

def sets (ρ : Env) : List (Nat × Value) → Env
  | [] => ρ
  | (d, v) :: l => upd (sets ρ l) d v

def SlotsOk (ρ : Env) : List (Nat × Value) → Prop
  | [] => True
  | (d, v) :: l => ρ d = v ∧ SlotsOk ρ l

theorem sets_eq {ρ : Env} : ∀ {l : List (Nat × Value)}, SlotsOk ρ l → sets ρ l = ρ
  | [], _ => rfl
  | (d, v) :: l, ⟨h1, h2⟩ => by
    funext t
    simp only [sets, sets_eq h2, upd]
    cases hb : Nat.beq t d
    · rfl
    · obtain rfl := Nat.eq_of_beq_eq_true hb
      exact h1.symm

/-- A state as a list of slots and a list of assertions tell it. -/
def LS (n : Nat) (slots : List (Nat × Value)) (L : List HA) (a : Act) (w : World) : Prop :=
  ∃ ρ c, Rel n ρ a ∧ SlotsOk ρ slots ∧ Heap w c L

def iter {S R : Type} (f : S → Option (S ⊕ R)) : Nat → S → Option R
  | 0, _ => none
  | k + 1, s => (f s).bind fun | .inl s' => iter f k s' | .inr r => some r

def LQ {S R W : Type} (n : Nat) (sl : S → W → List (Nat × Value)) (hp : S → W → List HA) (Q : Exit → Act → World → Prop) (r : R) (z : S ⊕ R) : Exit → Act → World → Prop
  | .normal, a, w => ∃ s' y', z = .inl s' ∧ LS n (sl s' y') (hp s' y') a w
  | e, a, w => (∃ r', z = .inr r') ∧ (z = .inr r → Q e a w)

section
variable {P : Program} {n : Nat} {Q : Exit → Act → World → Prop} {ρ : Env} {L : List HA}

theorem bind_some {α β : Type} {m : Option α} {k : α → Option β} {r : β} (h : m.bind k = some r) : ∃ s, m = some s ∧ k s = some r := Option.bind_eq_some_iff.1 h

/-- The state is as told, colours changed, assertions chosen. -/
theorem ls_of {a : Act} {w : World} {c : Col} (ha : Rel n ρ a) (hL : Heap w c L) {slots : List (Nat × Value)} (hs : SlotsOk ρ slots)
    {g : Nat → Nat} (hg : Gd g) {L' : List HA} (he : PaidL (L.map (HA.ren g)) L') : LS n slots L' a w :=
  ⟨ρ, fun b => g (c b), ha, hs, he.heap (hL.ren hg)⟩

theorem s_loop {S R W : Type} (sl : S → W → List (Nat × Value)) (hp : S → W → List HA) {body : S → Option (S ⊕ R)} {c : Code} {r : R}
    (hb : ∀ s y ρ' z, body s = some z → Sim P n c (LQ n sl hp Q r z) (sets ρ' (sl s y)) (hp s y)) :
    ∀ (fuel : Nat) (s0 : S) (y0 : W), iter body fuel s0 = some r → ∀ a w, LS n (sl s0 y0) (hp s0 y0) a w → (Code.loop c).wp P Q a w := by
  intro fuel s0 y0 h a w hls
  refine wp_loop_rounds fuel ?_
  induction fuel generalizing s0 y0 a w with
  | zero => simp [iter] at h
  | succ k ih =>
    simp only [iter] at h
    obtain ⟨z, hz, hk⟩ := bind_some h
    obtain ⟨ρ', c', ha, hs, hL⟩ := hls
    have h1 := hb s0 y0 ρ' z hz a w c' (by rw [sets_eq hs]; exact ha) hL
    rw [rounds_succ]
    refine wp_mono h1 ?_
    intro e a' w' hq
    have other : (∃ r', z = .inr r') ∧ (z = .inr r → Q e a' w') → Q e a' w' := by
      rintro ⟨⟨r', rfl⟩, hq'⟩
      exact hq' (by simp at hk; rw [hk])
    cases e with
    | normal =>
      obtain ⟨s', y', rfl, hls'⟩ := hq
      exact ih s' y' hk a' w' hls'
    | exit id => exact other hq
    | goto l => exact other hq
    | ret => exact other hq
    | panic ch => exact other hq
    | outgrown => exact other hq

/-- A loop: 'body' is what a round comes to. -/
theorem sim_loop {S R W : Type} (sl : S → W → List (Nat × Value)) (hp : S → W → List HA) {body : S → Option (S ⊕ R)} {c : Code} {r : R} {fuel : Nat} {s0 : S} (y0 : W) (H : iter body fuel s0 = some r)
    (g : List (Nat × Nat)) (d : Nat) (hg : (d :: g.map (·.2)).all (fun x => Nat.ble 2 x) = true) (hs : SlotsOk ρ (sl s0 y0)) 
    (he : PaidL (L.map (HA.ren (mkg g d))) (hp s0 y0))
    (hb : ∀ s y ρ' z, body s = some z → Sim P n c (LQ n sl hp Q r z) (sets ρ' (sl s y)) (hp s y)) : Sim P n (.loop c) Q ρ L :=
  fun a w _ ha hL => s_loop sl hp hb fuel s0 y0 H a w (ls_of ha hL hs (mkg_gd hg) he)

/-- A round's end. -/
theorem x_next {S R W : Type} {sl : S → W → List (Nat × Value)} {hp : S → W → List HA} {r : R} {z : S ⊕ R} {s' : S} (y' : W) (hz : some (Sum.inl s') = some z)
    (g : List (Nat × Nat)) (d : Nat) (hg : (d :: g.map (·.2)).all (fun x => Nat.ble 2 x) = true) (hs : SlotsOk ρ (sl s' y')) 
    (he : PaidL (L.map (HA.ren (mkg g d))) (hp s' y')) : SimX n .normal (LQ n sl hp Q r z) ρ L :=
  fun _ _ _ ha hL => ⟨s', y', by simpa using hz.symm, ls_of ha hL hs (mkg_gd hg) he⟩

/-- A way out of a loop. -/
theorem x_out {S R W : Type} {sl : S → W → List (Nat × Value)} {hp : S → W → List HA} {r r' : R} {z : S ⊕ R} {id : Nat} (hz : some (Sum.inr r') = some z)
    (h : r' = r → SimX n (.exit id) Q ρ L) : SimX n (.exit id) (LQ n sl hp Q r z) ρ L :=
  fun a w c ha hL => ⟨⟨r', by simpa using hz.symm⟩, fun e => h (by simp at hz; rw [e] at hz; simpa using hz) a w c ha hL⟩

theorem x_out_ret {S R W : Type} {sl : S → W → List (Nat × Value)} {hp : S → W → List HA} {r r' : R} {z : S ⊕ R} (hz : some (Sum.inr r') = some z)
    (h : r' = r → SimX n .ret Q ρ L) : SimX n .ret (LQ n sl hp Q r z) ρ L :=
  fun a w c ha hL => ⟨⟨r', by simpa using hz.symm⟩, fun e => h (by simp at hz; rw [e] at hz; simpa using hz) a w c ha hL⟩

/-- What stands behind a piece of code at which several ways meet. -/
def JQ {W : Type} (n : Nat) (sl : W → List (Nat × Value)) (hp : W → List HA) (Q : Exit → Act → World → Prop) : Exit → Act → World → Prop
  | .normal, a, w => ∃ y, LS n (sl y) (hp y) a w
  | e, a, w => Q e a w

theorem s_join {W : Type} {x y : Code} (sl : W → List (Nat × Value)) (hp : W → List HA) (hx : Sim P n x (JQ n sl hp Q) ρ L)
    (hy : ∀ u ρ', Sim P n y Q (sets ρ' (sl u)) (hp u)) : Sim P n (.seq x y) Q ρ L := by
  refine s_seq fun a w c ha hL => wp_mono (hx a w c ha hL) ?_
  intro e a' w' hq
  cases e with
  | normal =>
    obtain ⟨u, ρ', c', ha', hs, hL'⟩ := hq
    exact hy u ρ' a' w' c' (by rw [sets_eq hs]; exact ha') hL'
  | _ => exact hq

theorem x_join {W : Type} {sl : W → List (Nat × Value)} {hp : W → List HA} (y : W)
    (g : List (Nat × Nat)) (d : Nat) (hg : (d :: g.map (·.2)).all (fun x => Nat.ble 2 x) = true) (hs : SlotsOk ρ (sl y)) 
    (he : PaidL (L.map (HA.ren (mkg g d))) (hp y)) : SimX n .normal (JQ n sl hp Q) ρ L :=
  fun _ _ _ ha hL => ⟨y, ls_of ha hL hs (mkg_gd hg) he⟩
theorem x_join_ret {W : Type} {sl : W → List (Nat × Value)} {hp : W → List HA} (h : SimX n .ret Q ρ L) : SimX n .ret (JQ n sl hp Q) ρ L := h
theorem x_join_exit {W : Type} {sl : W → List (Nat × Value)} {hp : W → List HA} {id : Nat} (h : SimX n (.exit id) Q ρ L) : SimX n (.exit id) (JQ n sl hp Q) ρ L := h

/-- What a call leaves: its value, the old blocks as they were, new ones with colours from 2 on, and assertions on them. -/
def Post (w0 : World) (S : Nat → Prop) {Y : Type} (val : Y → Value) (facts : Y → List HA) (e : Ending) (w' : World) : Prop :=
  ∃ y c', e = .returned (val y) ∧ Same3 w0 w' ∧ w0.heap.size ≤ w'.heap.size ∧ (∀ b, b < w0.heap.size → w'.heap[b]? = w0.heap[b]? ∧ c' b = oldc S b) ∧
    (∀ b, w0.heap.size ≤ b → b < w'.heap.size → 2 ≤ c' b) ∧ Heap w' c' (facts y)

theorem s_enter {f : FuncId} {fn : Func} {cd : Code} {R : Ending → World → Prop} (hf : P.funcs[f]? = some fn) (hb : fn.body = some cd) (hn : fn.ntmps = n) (args : List Value) {w0 : World} {c0 : Col}
    (hargs : Nat.ble args.length n = true) (hL : Heap w0 c0 L) (h : Sim P n cd (bodyPost P fn R) (fun t => args.getD t undef) (.old w0 c0 :: L)) : Calls P f args.toArray w0 R := by
  refine calls_of_wp hf hb (h _ w0 c0 ⟨rfl, ?_, fun t => ?_⟩ (Heap.cons ⟨Nat.le_refl _, fun b _ _ => ⟨rfl, rfl⟩, fun b h1 h2 => h2 h1, Same3.refl _⟩ hL))
  · have := Nat.le_of_ble_eq_true hargs
    simp [hn]; omega
  · simp only [Array.getD_eq_getD_getElem?, List.getD_eq_getElem?_getD, Array.getElem?_append, Array.getElem?_replicate, List.size_toArray, List.getElem?_toArray]
    split
    · rfl
    · rename_i hge
      rw [List.getElem?_eq_none (by omega)]
      split <;> rfl

def ResOk (P : Program) (n : Nat) (ρ : Env) (L : List HA) (fn : Func) (v : Value) : Prop := ∀ (a : Act) (w : World) (c : Col), Rel n ρ a → Heap w c L → (results fn a.tmps).run P w = .ok v w

theorem x_ret {fn : Func} {w0 : World} {S : Nat → Prop} {Y : Type} {val : Y → Value} {facts : Y → List HA} {v : Value} (y : Y) (hr : ResOk P n ρ L fn v) (hv : v = val y)
    (k : Nat) (hold : L[k]? = some (.old w0 (oldc S))) (g : List (Nat × Nat)) (d : Nat) (hg : (d :: g.map (·.2)).all (fun x => Nat.ble 2 x) = true) 
    (he : PaidL (L.map (HA.ren (mkg g d))) (facts y)) : SimX n .ret (bodyPost P fn (Post w0 S val facts)) ρ L := by
  intro a w c ha hL
  refine ⟨ha.defers, v, hr a w c ha hL, y, fun b => mkg g d (c b), by rw [hv], ?_⟩
  have hg' := mkg_gd hg
  obtain ⟨h1, h2, h3, h4⟩ := hL.at hold
  have hle : ∀ b, oldc S b ≤ 1 := fun b => by rcases oldc_le S b with e | e <;> omega
  refine ⟨h4, h1, fun b hb => ⟨(h2 b hb (hle b)).1, ?_⟩, fun b hb hb' => hg'.two _ (h3 b hb' (fun h => by omega)), he.heap (hL.ren hg')⟩
  show mkg g d (c b) = _
  rw [(h2 b hb (hle b)).2]
  rcases oldc_le S b with e | e <;> rw [e]
  · exact hg'.z
  · exact hg'.o

/-- An assertion of the caller's pays one that a callee asks. -/
def Covers (K : List Nat) (A A' : HA) : Prop := ∀ w c, A.holds w c → A'.holds w (oldc fun b => c b ∈ K)

theorem oldc_mem {S : Nat → Prop} {b : Nat} (h : S b) : oldc S b ∈ [1] := by simp [oldc, h]

theorem cov_rep {Ka : List Nat} {t : Ty} {K : List Nat} {xs : List t.den} {v : Hd} (h : K.all (fun k => Ka.any fun j => Nat.beq k j) = true) : Covers Ka (.rep t K xs v) (.rep t [1] xs v) :=
  fun _ _ hA => RepR.keep (fun _ _ hb => ⟨oldc_mem (subK h hb), rfl⟩) (.slice t) xs v hA

theorem cov_own {Ka : List Nat} {t : Ty} {e : TypeId} {i : Nat} {K : List Nat} {xs : List t.den} {v : Hd} (h : (i :: K).all (fun k => Ka.any fun j => Nat.beq k j) = true) : Covers Ka (.own t e i K xs v) (.rep t [1] xs v) :=
  fun w c hA => cov_rep h w c (own_rep hA)

def PreOk (L : List HA) (Ka : List Nat) : List HA → Prop
  | [] => True
  | A' :: r => ((∃ (k : Nat) (A : HA), L[k]? = some A ∧ Covers Ka A A') ∨ Free A') ∧ PreOk L Ka r

theorem PreOk.heap {Ka : List Nat} {w : World} {c : Col} (hL : Heap w c L) : ∀ {l : List HA}, PreOk L Ka l → Heap w (oldc fun b => c b ∈ Ka) l
  | [], _ => Heap.nil _ _
  | _ :: _, ⟨.inl ⟨_, _, hk, hc⟩, hr⟩ => Heap.cons (hc w c (hL.at hk)) (hr.heap hL)
  | _ :: _, ⟨.inr hf, hr⟩ => Heap.cons (hf w _) (hr.heap hL)

def instK (N : Nat) (Ka : List Nat) : List Nat → List Nat
  | [] => []
  | 0 :: r => instK N Ka r
  | 1 :: r => Ka ++ instK N Ka r
  | (k + 2) :: r => (N + k) :: instK N Ka r

def HA.inst (N : Nat) (Ka : List Nat) : HA → HA
  | .rep t K xs v => .rep t (instK N Ka K) xs v
  | .own t e i K xs v => .own t e (N + (i - 2)) (instK N Ka K) xs v
  | .box i b cs => .box (N + (i - 2)) b cs
  | .elem t K x p => .elem t (instK N Ka K) x p
  | .old w0 S => .old w0 S
  | .pure p => .pure p
  | .gl g n cs => .gl g n cs

/-- Assertions that a contract may leave. -/
def HA.leaves : HA → Bool
  | .rep _ K _ _ => K.all fun k => Nat.ble 1 k
  | .own _ _ i K _ _ => Nat.ble 2 i && K.all fun k => Nat.ble 1 k
  | .box i _ _ => Nat.ble 2 i
  | .elem _ K _ _ => K.all fun k => Nat.ble 1 k
  | .old _ _ => false
  | .pure _ => true
  | .gl _ _ _ => false

/-- The colours of a caller behind a call. -/
def colAt (w : World) (c : Col) (N : Nat) (c' : Col) : Col := fun b => if b < w.heap.size then c b else N + (c' b - 2)

theorem instK_mem {N : Nat} {Ka : List Nat} : ∀ {K : List Nat} {k : Nat}, k + 2 ∈ K → N + k ∈ instK N Ka K
  | 0 :: r, k, h => by
    rcases List.mem_cons.1 h with h | h
    · omega
    · exact instK_mem (K := r) h
  | 1 :: r, k, h => by
    rcases List.mem_cons.1 h with h | h
    · omega
    · exact List.mem_append_right _ (instK_mem (K := r) h)
  | (j + 2) :: r, k, h => by
    rcases List.mem_cons.1 h with h | h
    · simp only [instK]; rw [show k = j by omega]; exact List.mem_cons_self
    · exact List.mem_cons_of_mem _ (instK_mem (K := r) h)

theorem instK_one {N : Nat} {Ka : List Nat} : ∀ {K : List Nat} {k : Nat}, 1 ∈ K → k ∈ Ka → k ∈ instK N Ka K
  | 0 :: r, k, h, hk => by
    rcases List.mem_cons.1 h with h | h
    · omega
    · exact instK_one (K := r) h hk
  | 1 :: r, k, _, hk => List.mem_append_left _ hk
  | (j + 2) :: r, k, h, hk => by
    rcases List.mem_cons.1 h with h | h
    · omega
    · exact List.mem_cons_of_mem _ (instK_one (K := r) h hk)

theorem inst_holds {N : Nat} {w w' : World} {c c' : Col} {Ka : List Nat} (hold : ∀ b, b < w.heap.size → c' b = oldc (fun b => c b ∈ Ka) b) (hnew : ∀ b, w.heap.size ≤ b → b < w'.heap.size → 2 ≤ c' b) :
    (A : HA) → A.leaves = true → A.holds w' c' → (A.inst N Ka).holds w' (colAt w c N c') := by
  have hK : ∀ K : List Nat, K.all (fun k => Nat.ble 1 k) = true → Keeps w' w' (fun b => c' b ∈ K) (fun b => colAt w c N c' b ∈ instK N Ka K) := by
    intro K hK b hb hc
    refine ⟨?_, rfl⟩
    show colAt w c N c' b ∈ _
    unfold colAt
    split
    · rename_i hlt
      have h1 : 1 ≤ c' b := Nat.le_of_ble_eq_true (List.all_eq_true.1 hK _ hc)
      have ho := hold b hlt
      have hS : c b ∈ Ka := by
        by_cases hS : c b ∈ Ka
        · exact hS
        · simp [oldc, hS] at ho; omega
      have : c' b = 1 := by simp [ho, oldc, hS]
      exact instK_one (this ▸ hc) hS
    · rename_i hge
      have h2 := hnew b (by omega) hb
      have : c' b = (c' b - 2) + 2 := by omega
      exact instK_mem (this ▸ hc)
  have hi : ∀ i b, 2 ≤ i → b < w'.heap.size → c' b = i → colAt w c N c' b = N + (i - 2) := by
    intro i b h2 hb hc
    unfold colAt
    split
    · rename_i hlt
      have := hold b hlt
      rcases oldc_le (fun b => c b ∈ Ka) b with e | e <;> omega
    · rw [hc]
  intro A hl hA
  cases A with
  | rep t K xs v => exact RepR.keep (hK K hl) (.slice t) xs v hA
  | own t e i K xs v =>
    simp only [HA.leaves, Bool.and_eq_true] at hl
    obtain ⟨ys, h1, h2, h3⟩ := hA
    exact ⟨ys, h1.mono (RepR.keep (hK K hl.2) t), h2, fun g hg => hi i g (Nat.le_of_ble_eq_true hl.1) (h2.lt g hg) (h3 g hg)⟩
  | box i b cs =>
    obtain ⟨⟨ty, hb⟩, hc⟩ := hA
    exact ⟨⟨ty, hb⟩, hi i b (Nat.le_of_ble_eq_true hl) (Array.getElem?_eq_some_iff.1 hb).1 hc⟩
  | elem t K x p =>
    obtain ⟨y, b, off, arr, ty, fz, hp, hc, hb, h1, h2, h3⟩ := hA
    exact ⟨y, b, off, arr, ty, fz, hp, (hK K hl b (Array.getElem?_eq_some_iff.1 hb).1 hc).1, hb, h1, h2, RepR.keep (hK K hl) t x y h3⟩
  | old w0 S => simp [HA.leaves] at hl
  | pure p => exact hA
  | gl g n cs => simp [HA.leaves] at hl

/-- A call by its callee's contract. -/
theorem ok_call {o : Oper} {x : Operand} {xs : Array Operand} {ts : Array TypeId} {f : FuncId} {fn : Func} {args : List Value} {Y : Type} {val : Y → Value} {facts : Y → List HA} {pre : List HA} {cd : Code}
    (hc : ∀ w S, Heap w (oldc S) pre → Calls P f args.toArray w (Post w S val facts))
    (ho : o.op = .call { callee := .value x, args := xs, argTypes := ts }) (hx : evo ρ x = .func (.func f) #[] #[]) (hargs : xs.toList.map (evo ρ) = args)
    (hf : P.funcs[f]? = some fn) (hb : fn.body = some cd) (hname : (fn.name == "runtime.NumGoroutine") = false) (Ka : List Nat) (hpre : PreOk L Ka pre)
    (hl : ∀ y, (facts y).all HA.leaves = true) {N : Nat} {Φ : Y → List HA} (hΦ : ∀ y, (facts y).map (HA.inst N Ka) = Φ y) (hN : Nat.ble 2 N = true) :
    OpOk P ρ o L [] val Φ := by
  intro a ev w c next Q ha hL hk
  have h2 : 2 ≤ N := Nat.le_of_ble_eq_true hN
  have hn' : ¬ fn.name = "runtime.NumGoroutine" := by simpa using hname
  have hargs' : xs.map (evo ρ) = args.toArray := by rw [← hargs]; exact Array.ext' (by simp)
  have hrun : (execOp ev o).run P w = .ok (.enter f args.toArray) w := by
    simp [execOp, ho, resolve, ha, hx, Deferred.ofValue, invoke, callFunc, hf, hb, hn', hargs', Result.andThen]
  rw [hrun, Oper.upon_enter]
  refine (hc w (fun b => c b ∈ Ka) (hpre.heap hL)).mono ?_
  rintro e w' ⟨y, c', rfl, henv, h1, hold, hnew, hF⟩
  refine hk y w' (colAt w c N c') (.mk0 h1 (fun b hb => by simp [colAt, hb]) (fun b hb _ => (hold b hb).1) (fun b hb hb' => ?_) henv) ?_
  · have := hnew b hb hb'
    simp only [colAt, if_neg (show ¬ b < w.heap.size by omega)]; omega
  · rw [← hΦ y]
    intro A hA
    obtain ⟨B, hB, rfl⟩ := List.mem_map.1 hA
    exact inst_holds (fun b hb => (hold b hb).2) hnew B (List.all_eq_true.1 (hl y) B hB) (hF B hB)
end
end Go.Sm
