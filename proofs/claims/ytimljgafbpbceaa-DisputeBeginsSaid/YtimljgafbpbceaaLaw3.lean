/-
  Plain laws of halving games to their ends. No program is walked here.
-/
import Derived.Test.YtimljgafbpbceaaLaw2
namespace Go.Proofs.Ytimljgafbpbceaa
open Go.Sm

abbrev Gm := Int × Int × List Int

theorem mid_in {g : Gm} (h : g.1 + 1 < g.2.1) : g.1 < mid g ∧ mid g < g.2.1 ∧ 2 * (mid g - g.1) ≤ g.2.1 - g.1 ∧ 2 * (g.2.1 - mid g) ≤ g.2.1 - g.1 + 1 := by
  have e2 : (g.2.1 - g.1).tdiv 2 = (g.2.1 - g.1) / 2 := Int.tdiv_eq_ediv_of_nonneg (by omega)
  unfold mid
  rw [e2]
  omega

theorem diff_mid {a b : List (List Int)} {m h : Int} (hm : 0 ≤ m) (hlt : m < h) (hd : sameI a b h = false) (hs : shownI a b m = false) : sameI a b m = false := by
  cases hx : idx a m with
  | some v => simpa [shownI, hx] using hs
  | none =>
    have ha : (a.length : Int) ≤ m := by
      rcases Int.lt_or_le m a.length with h1 | h1
      · obtain ⟨v, hv, _⟩ := idx_lt hm h1
        rw [hv] at hx; cases hx
      · exact h1
    have hb : m < b.length := by
      rcases Int.lt_or_le m b.length with h1 | h1
      · exact h1
      · rw [sameI_out (.inr ⟨by omega, by omega⟩)] at hd; cases hd
    obtain ⟨v, hv, _⟩ := idx_lt hm hb
    simp [sameI, hx, hv, sameD]

/-- What a step of halving does to a proper game that is not over. -/
theorem halve_step {g : Gm} {a b : List (List Int)} (hl : long a b = false) (hp : proper g a b = true) (hn : g.2.1 ≠ g.1 + 1) :
    (halve g a b).2 = 0 ∧ proper (halve g a b).1 a b = true ∧ g.1 ≤ (halve g a b).1.1 ∧ (halve g a b).1.2.1 ≤ g.2.1 ∧ (halve g a b).1.2.2.length = g.2.2.length + 1 ∧ 2 * ((halve g a b).1.2.1 - (halve g a b).1.1) ≤ g.2.1 - g.1 + 1 := by
  obtain ⟨p1, p2, p3, p4, p5⟩ := proper_in hp
  obtain ⟨m1, m2, m3, m4⟩ := mid_in (g := g) (by omega)
  unfold halve
  rw [if_neg (by simp [hl]), if_neg (by simp [hp]), if_neg hn]
  cases hs : shownI a b (mid g)
  · have hd := diff_mid (a := a) (b := b) (m := mid g) (h := g.2.1) (by omega) m2 p4 hs
    simp only [Bool.false_eq_true, if_false]
    refine ⟨trivial, ?_, by omega, by omega, by simp, by omega⟩
    simp only [proper, Bool.and_eq_true, Bool.or_eq_true, decide_eq_true_eq, Bool.not_eq_true', beq_iff_eq]
    exact ⟨⟨p5, m1⟩, hd⟩
  · simp only [if_true]
    refine ⟨trivial, ?_, by omega, by omega, by simp, by omega⟩
    simp only [proper, Bool.and_eq_true, Bool.or_eq_true, decide_eq_true_eq, Bool.not_eq_true', beq_iff_eq]
    exact ⟨⟨.inr hs, m2⟩, p4⟩

theorem halve_over {g : Gm} {a b : List (List Int)} (hl : long a b = false) (hp : proper g a b = true) (hn : g.2.1 = g.1 + 1) : halve g a b = ((0, 0, []), 8) := by
  unfold halve
  rw [if_neg (by simp [hl]), if_neg (by simp [hp]), if_pos hn]

/-- The game at the end of halving. -/
def go (a b : List (List Int)) : Nat → Gm → Gm
  | 0, g => g
  | k + 1, g => if g.2.1 = g.1 + 1 then g else go a b k (halve g a b).1

theorem go_over (a b : List (List Int)) (g : Gm) (h : g.2.1 = g.1 + 1) : ∀ k, go a b k g = g
  | 0 => rfl
  | k + 1 => by simp [go, h]

theorem go_spec {a b : List (List Int)} (hl : long a b = false) : ∀ (k : Nat) (g : Gm), proper g a b = true → g.2.1 - g.1 ≤ 2 ^ k →
    proper (go a b k g) a b = true ∧ (go a b k g).2.1 = (go a b k g).1 + 1 ∧ (go a b k g).2.2.length ≤ g.2.2.length + k ∧ g.2.2.length ≤ (go a b k g).2.2.length
  | 0, g, hp, hw => by
    have := (proper_in hp).2.1
    simp only [Int.pow_zero] at hw
    exact ⟨hp, by show g.2.1 = g.1 + 1; omega, by simp [go], by simp [go]⟩
  | k + 1, g, hp, hw => by
    by_cases hn : g.2.1 = g.1 + 1
    · rw [go_over a b g hn]; exact ⟨hp, hn, by omega, Nat.le_refl _⟩
    · obtain ⟨h1, h2, h3, h4, h5, h6⟩ := halve_step hl hp hn
      have hw' : (halve g a b).1.2.1 - (halve g a b).1.1 ≤ 2 ^ k := by
        have : (2 : Int) ^ (k + 1) = 2 * 2 ^ k := by rw [Int.pow_succ]; omega
        omega
      have ih := go_spec hl k (halve g a b).1 h2 hw'
      simp only [go, if_neg hn]
      exact ⟨ih.1, ih.2.1, by omega, by omega⟩

theorem go_stable {a b : List (List Int)} (hl : long a b = false) : ∀ (k : Nat) (g : Gm) (m : Nat), proper g a b = true → g.2.1 - g.1 ≤ 2 ^ k → k ≤ m → go a b m g = go a b k g
  | 0, g, m, hp, hw, _ => by
    have := (proper_in hp).2.1
    simp only [Int.pow_zero] at hw
    exact go_over a b g (by omega) m
  | k + 1, g, 0, _, _, h => by omega
  | k + 1, g, m + 1, hp, hw, h => by
    by_cases hn : g.2.1 = g.1 + 1
    · rw [go_over a b g hn, go_over a b g hn]
    · obtain ⟨h1, h2, h3, h4, h5, h6⟩ := halve_step hl hp hn
      have hw' : (halve g a b).1.2.1 - (halve g a b).1.1 ≤ 2 ^ k := by
        have : (2 : Int) ^ (k + 1) = 2 * 2 ^ k := by rw [Int.pow_succ]; omega
        omega
      simp only [go, if_neg hn]
      exact go_stable hl k _ m h2 hw' (by omega)

theorem parts_loop {a b : List (List Int)} (hl : long a b = false) : ∀ (k : Nat) (g : Gm) (fuel : Nat), proper g a b = true → g.2.1 - g.1 ≤ 2 ^ k → k + 1 ≤ fuel → g.2.2.length + k ≤ 900000000 →
    iter (dispute_Parts_loop1 a b) fuel g = some ((go a b k g).1, ((go a b k g).2.2.length : Int), 0) := by
  intro k
  induction k with
  | zero =>
    intro g fuel hp hw hf hlen
    obtain ⟨fuel, rfl⟩ : ∃ f, fuel = f + 1 := ⟨fuel - 1, by omega⟩
    have := (proper_in hp).2.1
    simp only [Int.pow_zero] at hw
    have hh := halve_over hl hp (by omega)
    have e : ((g.1, g.2.1, g.2.2) : Gm) = g := rfl
    simp [iter, dispute_Parts_loop1, e, halve_eq g a b (by omega), hh, go]
  | succ k ih =>
    intro g fuel hp hw hf hlen
    obtain ⟨fuel, rfl⟩ : ∃ f, fuel = f + 1 := ⟨fuel - 1, by omega⟩
    have e : ((g.1, g.2.1, g.2.2) : Gm) = g := rfl
    by_cases hn : g.2.1 = g.1 + 1
    · have hh := halve_over hl hp hn
      rw [go_over a b g hn]
      simp [iter, dispute_Parts_loop1, e, halve_eq g a b (by omega), hh]
    · obtain ⟨h1, h2, h3, h4, h5, h6⟩ := halve_step hl hp hn
      have hw' : (halve g a b).1.2.1 - (halve g a b).1.1 ≤ 2 ^ k := by
        have : (2 : Int) ^ (k + 1) = 2 * 2 ^ k := by rw [Int.pow_succ]; omega
        omega
      have := ih (halve g a b).1 fuel h2 hw' (by omega) (by omega)
      simp only [iter, dispute_Parts_loop1, e, halve_eq g a b (by omega), Option.bind_some, h1, go, if_neg hn]
      exact this

theorem refParts_loop {a b : List (List Int)} (hl : long a b = false) : ∀ (k : Nat) (g : Gm) (fuel : Nat), proper g a b = true → g.2.1 - g.1 ≤ 2 ^ k → (g.2.1 - g.1).toNat ≤ fuel → g.2.2.length + k ≤ 900000000 →
    iter (culpritref32_Parts_loop1 a b) fuel g = some (go a b k g) := by
  intro k
  have over : ∀ (g : Gm) (fuel : Nat), proper g a b = true → g.2.1 = g.1 + 1 → (g.2.1 - g.1).toNat ≤ fuel → iter (culpritref32_Parts_loop1 a b) fuel g = some g := by
    intro g fuel hp hn hf
    obtain ⟨p1, p2, p3, _, _⟩ := proper_in hp
    obtain ⟨q1, q2⟩ := not_long hl
    obtain ⟨fuel, rfl⟩ : ∃ f, fuel = f + 1 := ⟨fuel - 1, by omega⟩
    have hw : w64 (g.1 + 1) = g.1 + 1 := w64_id (by omega) (by omega)
    have hc : ¬ g.1 + 1 < g.2.1 := by omega
    simp [iter, culpritref32_Parts_loop1, hw, hc]
  induction k with
  | zero =>
    intro g fuel hp hw hf hlen
    have := (proper_in hp).2.1
    simp only [Int.pow_zero] at hw
    exact over g fuel hp (by omega) hf
  | succ k ih =>
    intro g fuel hp hw hf hlen
    by_cases hn : g.2.1 = g.1 + 1
    · rw [go_over a b g hn]; exact over g fuel hp hn hf
    · obtain ⟨p1, p2, p3, _, _⟩ := proper_in hp
      obtain ⟨q1, q2⟩ := not_long hl
      obtain ⟨fuel, rfl⟩ : ∃ f, fuel = f + 1 := ⟨fuel - 1, by omega⟩
      obtain ⟨h1, h2, h3, h4, h5, h6⟩ := halve_step hl hp hn
      have hw' : (halve g a b).1.2.1 - (halve g a b).1.1 ≤ 2 ^ k := by
        have : (2 : Int) ^ (k + 1) = 2 * 2 ^ k := by rw [Int.pow_succ]; omega
        omega
      have e : ((g.1, g.2.1, g.2.2) : Gm) = g := rfl
      have hw1 : w64 (g.1 + 1) = g.1 + 1 := w64_id (by omega) (by omega)
      have hc : g.1 + 1 < g.2.1 := by omega
      have := ih (halve g a b).1 fuel h2 hw' (by omega) (by omega)
      simp only [iter, culpritref32_Parts_loop1, hw1, hc, decide_true, cond_true, e, refHalve_eq g a b (by omega), Option.bind_some, go, if_neg hn]
      exact this

def parts (a b : List (List Int)) : Int × Int × Int :=
  if (begin0 a b).2 = 0 then ((go a b 10 (begin0 a b).1).1, ((go a b 10 (begin0 a b).1).2.2.length : Int), 0) else (0, 0, (begin0 a b).2)

theorem begin_proper {a b : List (List Int)} (h : (begin0 a b).2 = 0) : long a b = false ∧ proper (begin0 a b).1 a b = true ∧ (begin0 a b).1.2.2 = [] ∧ (begin0 a b).1.2.1 - (begin0 a b).1.1 ≤ big a b ∧ (begin0 a b).1.1 = -1 ∧ (begin0 a b).1.2.1 = topN a b (big a b) := by
  unfold begin0 at h ⊢
  cases hl : long a b
  · simp only [hl, Bool.false_eq_true, if_false] at h ⊢
    by_cases ht : topN a b (big a b) < 0
    · simp [ht] at h
    · simp only [ht, if_false]
      have h1 := topN_lt a b (big a b)
      refine ⟨trivial, ?_, trivial, by omega, trivial, trivial⟩
      have hd := topN_diff a b (big a b) (by omega)
      simp only [proper, Bool.and_eq_true, Bool.or_eq_true, decide_eq_true_eq, Bool.not_eq_true', beq_iff_eq]
      exact ⟨⟨.inl trivial, by omega⟩, hd⟩
  · simp [hl] at h

theorem parts_eq (a b : List (List Int)) : dispute_Parts a b = some (parts a b) := by
  unfold dispute_Parts parts
  simp only [begin_eq, Option.bind_some]
  by_cases h : (begin0 a b).2 = 0
  · obtain ⟨hl, hp, hasked, hw, _, _⟩ := begin_proper h
    obtain ⟨h1, h2⟩ := not_long hl
    have := parts_loop hl 10 (begin0 a b).1 64 hp (by unfold big at hw; omega) (by omega) (by rw [hasked]; simp)
    have hb : ((begin0 a b).2 != 0) = false := by simp [h]
    rw [hb, if_pos h]
    exact this
  · have hb : ((begin0 a b).2 != 0) = true := by simpa using h
    rw [hb, if_neg h]
    rfl

theorem refParts_eq (a b : List (List Int)) : culpritref32_Parts a b = some (parts a b) := by
  unfold culpritref32_Parts parts
  simp only [refBegin_eq, Option.bind_some]
  by_cases h : (begin0 a b).2 = 0
  · obtain ⟨hl, hp, hasked, hw, hlow, _⟩ := begin_proper h
    obtain ⟨h1, h2⟩ := not_long hl
    have e1 : w64 ((begin0 a b).1.1 + 1) = (begin0 a b).1.1 + 1 := by rw [hlow]; exact w64_id (by omega) (by omega)
    have := refParts_loop hl 10 (begin0 a b).1 (((begin0 a b).1.2.1 - w64 ((begin0 a b).1.1 + 1)).toNat + 2) hp (by unfold big at hw; omega) (by rw [e1]; omega) (by rw [hasked]; simp)
    have hb : ((begin0 a b).2 != 0) = false := by simp [h]
    rw [hb, if_pos h]
    show Option.bind (iter (culpritref32_Parts_loop1 a b) (((begin0 a b).1.2.1 - w64 ((begin0 a b).1.1 + 1)).toNat + 2) (begin0 a b).1) _ = _
    rw [this]
    rfl
  · have hb : ((begin0 a b).2 != 0) = true := by simpa using h
    rw [hb, if_neg h]
    rfl

theorem lives_eq : culpritlaw32_lives = some true := by decide +kernel

end Go.Proofs.Ytimljgafbpbceaa
