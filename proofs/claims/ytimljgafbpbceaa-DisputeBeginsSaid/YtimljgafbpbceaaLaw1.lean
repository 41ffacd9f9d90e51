/-
  Plain laws of the functions of claimants and games. No program is walked here.
-/
import Derived.Test.YtimljgafbpbceaaFn
namespace Go.Proofs.Ytimljgafbpbceaa
open Go.Sm

theorem w64_id {x : Int} (h1 : -9223372036854775808 ≤ x) (h2 : x ≤ 9223372036854775807) : w64 x = x := by
  rw [w64, IntKind.wrap_i64]; omega

theorem idx_lt {α : Type} {a : List α} {i : Int} (h0 : 0 ≤ i) (h1 : i < a.length) : ∃ v, idx a i = some v ∧ a[i.toNat]? = some v := by
  have h : i.toNat < a.length := by omega
  exact ⟨a[i.toNat], by simp [idx, h0, h], by simp [h]⟩

theorem idx_none {α : Type} {a : List α} {i : Int} (h : i < 0 ∨ (a.length : Int) ≤ i) : idx a i = none := by
  unfold idx
  split
  · exact List.getElem?_eq_none (by omega)
  · rfl

def sameD : Option (List Int) → Option (List Int) → Bool
  | some a, some b => arrEq 16 a b
  | none, none => true
  | _, _ => false

def sameI (a b : List (List Int)) (i : Int) : Bool := sameD (idx a i) (idx b i)
def shownI (a b : List (List Int)) (i : Int) : Bool := (idx a i).isSome && sameI a b i

theorem says_eq (a : List (List Int)) (i : Int) : dispute_Claimant_says a i = some (idx a i) := by
  unfold dispute_Claimant_says
  by_cases h0 : i < 0
  · simp [h0, idx_none (a := a) (.inl h0)]
  · by_cases h1 : (a.length : Int) ≤ i
    · simp [h1, idx_none (a := a) (.inr h1)]
    · obtain ⟨v, hv, _⟩ := idx_lt (a := a) (i := i) (by omega) (by omega)
      simp [h0, h1, hv]

theorem same_eq (x y : Option (List Int)) : dispute_same x y = some (sameD x y) := by
  cases x <;> cases y <;> simp [dispute_same, sameD]

theorem shown_eq (a b : List (List Int)) (i : Int) : dispute_shown a b i = some (shownI a b i) := by
  unfold dispute_shown shownI sameI
  cases h : idx a i <;> simp [says_eq, same_eq, h]

theorem refSays_eq (a : List (List Int)) (i : Int) : culpritref32_Says a i = some ((idx a i).getD (List.replicate 16 0), (idx a i).isSome) := by
  unfold culpritref32_Says
  by_cases h0 : i < 0
  · simp [h0, idx_none (a := a) (.inl h0)]
  · by_cases h1 : (a.length : Int) ≤ i
    · simp [h1, idx_none (a := a) (.inr h1)]
    · obtain ⟨v, hv, _⟩ := idx_lt (a := a) (i := i) (by omega) (by omega)
      simp [h0, h1, hv]

theorem arrEq_refl (n : Nat) (x : List Int) : arrEq n x x = true := by simp [arrEq]

theorem refSame_eq (a b : List (List Int)) (i : Int) : culpritref32_Same a b i = some (sameI a b i) := by
  unfold culpritref32_Same sameI
  simp only [refSays_eq, Option.bind_some]
  cases idx a i <;> cases idx b i <;> simp [sameD, arrEq_refl]

theorem refBoth_eq (a b : List (List Int)) (i : Int) : culpritref32_both a b i = some (shownI a b i) := by
  unfold culpritref32_both shownI
  simp only [refSays_eq, refSame_eq, Option.bind_some]
  cases h : (idx a i).isSome <;> simp

theorem sameI_out {a b : List (List Int)} {i : Int} (h : i < 0 ∨ ((a.length : Int) ≤ i ∧ (b.length : Int) ≤ i)) : sameI a b i = true := by
  unfold sameI
  rw [idx_none (a := a) (by omega), idx_none (a := b) (by omega)]; rfl

theorem sameI_self (a : List (List Int)) (i : Int) : sameI a a i = true := by
  unfold sameI; cases idx a i <;> simp [sameD, arrEq_refl]

theorem shownI_in {a b : List (List Int)} {i : Int} (h : shownI a b i = true) : 0 ≤ i ∧ i < a.length := by
  unfold shownI at h
  simp only [Bool.and_eq_true] at h
  rcases Int.lt_or_le i 0 with h0 | h0
  · rw [idx_none (a := a) (.inl h0)] at h; simp at h
  · rcases Int.lt_or_le i a.length with h1 | h1
    · exact ⟨h0, h1⟩
    · rw [idx_none (a := a) (.inr h1)] at h; simp at h

/-- A game is proper. -/
def proper (g : Int × Int × List Int) (a b : List (List Int)) : Bool := (g.1 == -1 || shownI a b g.1) && decide (g.1 < g.2.1) && !sameI a b g.2.1

theorem refProper_eq (g : Int × Int × List Int) (a b : List (List Int)) : culpritref32_Proper g a b = some (proper g a b) := by
  unfold culpritref32_Proper proper
  simp only [refBoth_eq, refSame_eq]
  cases h1 : (g.1 == -1)
  · cases h2 : shownI a b g.1 <;> cases h3 : decide (g.1 < g.2.1) <;> simp
  · cases h3 : decide (g.1 < g.2.1) <;> simp

def long (a b : List (List Int)) : Bool := decide (1000 < a.length) || decide (1000 < b.length)

theorem long_eq (a b : List (List Int)) : dispute_long a b = some (long a b) := by
  unfold dispute_long long
  congr 1
  rw [Bool.eq_iff_iff]
  simp only [decide_eq_true_eq, Bool.or_eq_true]
  split <;> omega

theorem proper_in {g : Int × Int × List Int} {a b : List (List Int)} (h : proper g a b = true) : -1 ≤ g.1 ∧ g.1 < g.2.1 ∧ (g.2.1 < a.length ∨ g.2.1 < b.length) ∧ sameI a b g.2.1 = false ∧ (g.1 = -1 ∨ shownI a b g.1 = true) := by
  unfold proper at h
  simp only [Bool.and_eq_true, Bool.or_eq_true, Bool.not_eq_true', decide_eq_true_eq, beq_iff_eq] at h
  obtain ⟨⟨h1, h2⟩, h3⟩ := h
  have hl : -1 ≤ g.1 := by
    rcases h1 with h1 | h1
    · omega
    · have := (shownI_in h1).1; omega
  refine ⟨hl, h2, ?_, h3, h1⟩
  rcases Int.lt_or_le g.2.1 a.length with h4 | h4
  · exact .inl h4
  · rcases Int.lt_or_le g.2.1 b.length with h5 | h5
    · exact .inr h5
    · rw [sameI_out (.inr ⟨h4, h5⟩)] at h3; cases h3

/-- The number between. -/
def mid (g : Int × Int × List Int) : Int := g.1 + (g.2.1 - g.1).tdiv 2

def halve (g : Int × Int × List Int) (a b : List (List Int)) : (Int × Int × List Int) × Int :=
  if long a b then ((0, 0, []), 4) else if !proper g a b then ((0, 0, []), 1) else if g.2.1 = g.1 + 1 then ((0, 0, []), 8)
  else if shownI a b (mid g) then ((mid g, g.2.1, g.2.2 ++ [mid g]), 0) else ((g.1, mid g, g.2.2 ++ [mid g]), 0)

theorem not_long {a b : List (List Int)} (h : long a b = false) : a.length ≤ 1000 ∧ b.length ≤ 1000 := by
  unfold long at h
  simp only [Bool.or_eq_false_iff, decide_eq_false_iff_not] at h
  omega

theorem mid_w {g : Int × Int × List Int} {a b : List (List Int)} (hl : long a b = false) (h : proper g a b = true) :
    w64 (g.1 + w64 ((w64 (g.2.1 - g.1)).tdiv 2)) = mid g ∧ w64 (g.1 + 1) = g.1 + 1 ∧ -1 ≤ mid g ∧ mid g ≤ 1000 := by
  obtain ⟨h1, h2, h3, _, _⟩ := proper_in h
  obtain ⟨h4, h5⟩ := not_long hl
  have e1 : w64 (g.2.1 - g.1) = g.2.1 - g.1 := w64_id (by omega) (by omega)
  have e2 : (g.2.1 - g.1).tdiv 2 = (g.2.1 - g.1) / 2 := Int.tdiv_eq_ediv_of_nonneg (by omega)
  unfold mid
  rw [e1, e2, w64_id (x := (g.2.1 - g.1) / 2) (by omega) (by omega), w64_id (x := g.1 + (g.2.1 - g.1) / 2) (by omega) (by omega)]
  exact ⟨rfl, w64_id (by omega) (by omega), by omega, by omega⟩

theorem appOk_small {m k b : Nat} (hb : b ≤ 16) (h : m + k ≤ 1000000000) : appOk m k b = true := by
  unfold appOk
  rw [decide_eq_true_eq]
  refine ⟨?_, by simp [maxLen]; omega⟩
  calc (m + k) * b ≤ 1000000000 * 16 := Nat.mul_le_mul h hb
    _ ≤ _ := by omega

theorem refHalve_eq (g : Int × Int × List Int) (a b : List (List Int)) (hg : g.2.2.length ≤ 900000000) : culpritref32_Halve g a b = some (halve g a b) := by
  unfold culpritref32_Halve halve
  have e : (bif decide (1000 < (a.length : Int)) then true else decide (1000 < (b.length : Int))) = long a b := by
    unfold long
    rw [Bool.eq_iff_iff]
    cases h : decide (1000 < (a.length : Int)) <;> simp at h ⊢ <;> omega
  rw [e]
  cases hl : long a b
  · simp only [cond_false, refProper_eq, Option.bind_some]
    cases hp : proper g a b
    · have : proper (g.1, g.2.1, g.2.2) a b = false := hp
      simp [this]
    · have hp' : proper (g.1, g.2.1, g.2.2) a b = true := hp
      obtain ⟨m1, m2, m3, m4⟩ := mid_w hl hp
      rw [m1, m2]
      by_cases hs : g.2.1 = g.1 + 1
      · simp [hs]
      · have hs' : (g.2.1 == g.1 + 1) = false := by simpa using hs
        have k1 : appOk ([] : List Int).length g.2.2.length 8 = true := appOk_small (by omega) (by simp; omega)
        have k2 : appOk (([] : List Int) ++ g.2.2).length [mid g].length 8 = true := appOk_small (by omega) (by simp; omega)
        simp only [Bool.not_true, cond_false, hs', chk, k1, k2, cond_true, refBoth_eq, Option.bind_some, hs, if_false, Bool.false_eq_true]
        cases shownI a b (mid g) <;> simp
  · simp

theorem clone_eq (x : List Int) (h : x.length ≤ 1000000000) : slices_Clone_int_int x = some x := by
  unfold slices_Clone_int_int
  rw [chk, appOk_small (by omega) (by simp; omega)]
  simp

theorem halve_eq (g : Int × Int × List Int) (a b : List (List Int)) (hg : g.2.2.length ≤ 900000000) : dispute_Halve g a b = some (halve g a b) := by
  unfold dispute_Halve halve
  rw [long_eq]
  cases hl : long a b
  · simp only [Option.bind_some, cond_false, shown_eq, says_eq, same_eq]
    have hneg : g.1 < -1 → shownI a b g.1 = false := fun h => by
      cases hs : shownI a b g.1
      · rfl
      · have := (shownI_in hs).1; omega
    cases hp : proper g a b
    · -- not proper
      simp only [proper] at hp
      by_cases h1 : g.1 < -1
      · simp [h1]
      · by_cases h2 : 0 ≤ g.1
        · cases h3 : shownI a b g.1
          · simp [h1, h2, h3]
          · by_cases h4 : g.2.1 ≤ g.1
            · simp [h1, h2, h3, h4]
            · have h5 : sameI a b g.2.1 = true := by
                have : g.1 < g.2.1 := by omega
                simpa [h3, this] using hp
              have h5' : sameD (idx a g.2.1) (idx b g.2.1) = true := h5
              simp [h1, h2, h3, h4, h5']
        · have h6 : g.1 = -1 := by omega
          by_cases h4 : g.2.1 ≤ g.1
          · simp [h1, h2, h4]
          · have h5 : sameI a b g.2.1 = true := by
              have : g.1 < g.2.1 := by omega
              simpa [h6, show (-1 : Int) < g.2.1 by omega] using hp
            have h5' : sameD (idx a g.2.1) (idx b g.2.1) = true := h5
            simp [h1, h2, h4, h5']
    · obtain ⟨p1, p2, p3, p4, p5⟩ := proper_in hp
      obtain ⟨m1, m2, m3, m4⟩ := mid_w hl hp
      have h1 : ¬ g.1 < -1 := by omega
      have h4 : ¬ g.2.1 ≤ g.1 := by omega
      have p4' : sameD (idx a g.2.1) (idx b g.2.1) = false := p4
      rw [m1, m2]
      have k2 : appOk g.2.2.length [mid g].length 8 = true := appOk_small (by omega) (by simp; omega)
      have hsh : (bif decide (0 ≤ g.1) then !(shownI a b g.1) else false) = false := by
        rcases p5 with p5 | p5
        · simp [p5]
        · simp [p5]
      by_cases h2 : 0 ≤ g.1
      · have h7 : shownI a b g.1 = true := by
          rcases p5 with p5 | p5
          · omega
          · exact p5
        by_cases hs : g.2.1 = g.1 + 1
        · have p4'' : sameD (idx a (g.1 + 1)) (idx b (g.1 + 1)) = false := by rw [← hs]; exact p4'
          have h4' : ¬ g.1 + 1 ≤ g.1 := by omega
          simp [h1, h2, h7, hs, p4'', h4']
        · simp only [h1, h2, h4, h7, p4', hs, decide_false, decide_true, Bool.not_false, Bool.true_and, cond_true, cond_false, Option.bind_some, Bool.not_true, if_false, Bool.false_eq_true, clone_eq g.2.2 (by omega), chk, k2, show (g.2.1 == g.1 + 1) = false by simpa using hs]
          cases shownI a b (mid g) <;> simp
      · by_cases hs : g.2.1 = g.1 + 1
        · have p4'' : sameD (idx a (g.1 + 1)) (idx b (g.1 + 1)) = false := by rw [← hs]; exact p4'
          have h4' : ¬ g.1 + 1 ≤ g.1 := by omega
          simp [h1, h2, hs, p4'', h4']
        · simp only [h1, h2, h4, p4', hs, decide_false, Bool.not_false, Bool.true_and, cond_true, cond_false, Option.bind_some, Bool.not_true, if_false, Bool.false_eq_true, clone_eq g.2.2 (by omega), chk, k2, show (g.2.1 == g.1 + 1) = false by simpa using hs]
          cases shownI a b (mid g) <;> simp
  · simp

end Go.Proofs.Ytimljgafbpbceaa
