/-
  Plain laws of the first game of two claimants, and of the numbers that are asked. No program is walked here.
-/
import Derived.Test.YtimljgafbpbceaaLaw1
namespace Go.Proofs.Ytimljgafbpbceaa
open Go.Sm

/-- The greatest number below n of which two claimants say other things, or -1. -/
def topN (a b : List (List Int)) : Nat → Int
  | 0 => -1
  | n + 1 => if sameI a b n then topN a b n else n

theorem topN_lt (a b : List (List Int)) : ∀ n, topN a b n < n ∧ -1 ≤ topN a b n
  | 0 => by simp [topN]
  | n + 1 => by
    have := topN_lt a b n
    simp only [topN]; split <;> omega

theorem topN_diff (a b : List (List Int)) : ∀ n, 0 ≤ topN a b n → sameI a b (topN a b n) = false
  | 0, h => by simp [topN] at h
  | n + 1, h => by
    simp only [topN] at h ⊢
    split
    · rename_i hs
      rw [if_pos hs] at h
      exact topN_diff a b n h
    · rename_i hs
      simpa using hs

theorem topN_same (a b : List (List Int)) : ∀ n, topN a b n < 0 → ∀ i : Nat, i < n → sameI a b i = true
  | n + 1, h, i, hi => by
    simp only [topN] at h
    split at h
    · rename_i hs
      by_cases he : i = n
      · subst he; exact hs
      · exact topN_same a b n h i (by omega)
    · omega

def big (a b : List (List Int)) : Nat := max a.length b.length

theorem begin_loop (a b : List (List Int)) : ∀ (n : Nat) (fuel : Nat), n ≤ 100000 → n + 1 ≤ fuel →
    iter (dispute_Begin_loop1 a b) fuel ((n : Int) - 1) = some (if topN a b n < 0 then Sum.inl () else Sum.inr ((-1, topN a b n, []), 0))
  | 0, fuel + 1, _, _ => by simp [iter, dispute_Begin_loop1, topN]
  | n + 1, fuel + 1, hn, hf => by
    have e : ((n + 1 : Nat) : Int) - 1 = n := by omega
    rw [e]
    have ih := begin_loop a b n fuel (by omega) (by omega)
    have hw : w64 ((n : Int) - 1) = n - 1 := w64_id (by omega) (by omega)
    have h0 : (0 : Int) ≤ n := by omega
    have hs : sameD (idx a (n : Int)) (idx b (n : Int)) = sameI a b n := rfl
    simp only [iter, dispute_Begin_loop1, says_eq, same_eq, Option.bind_some, h0, decide_true, cond_true, hw, hs, topN]
    rcases Bool.eq_false_or_eq_true (sameI a b n) with hc | hc
    · simp [hc, ih]
    · simp [hc, show ¬ (n : Int) < 0 by omega]

def begin0 (a b : List (List Int)) : (Int × Int × List Int) × Int :=
  if long a b then ((0, 0, []), 4) else if topN a b (big a b) < 0 then ((0, 0, []), 6) else ((-1, topN a b (big a b), []), 0)

theorem begin_eq (a b : List (List Int)) : dispute_Begin a b = some (begin0 a b) := by
  unfold dispute_Begin begin0
  rw [long_eq]
  cases hl : long a b
  · obtain ⟨h1, h2⟩ := not_long hl
    have e : (if (b.length : Int) > (a.length : Int) then (b.length : Int) else (a.length : Int)) = (big a b : Int) := by
      unfold big; split <;> omega
    have hb : big a b ≤ 1000 := by unfold big; omega
    simp only [Option.bind_some, cond_false, e]
    rw [w64_id (x := (big a b : Int) - 1) (by omega) (by omega), begin_loop a b (big a b) _ (by omega) (by omega)]
    by_cases ht : topN a b (big a b) < 0
    · simp [ht]
    · simp [ht]
  · simp

theorem refBegin_loop (a b : List (List Int)) : ∀ (d i : Nat) (fuel : Nat), i + d = big a b → big a b ≤ 100000 → d + 1 ≤ fuel →
    iter (culpritref32_Begin_loop1 a b) fuel (topN a b i, (i : Int)) = some (topN a b (big a b))
  | 0, i, fuel + 1, hi, _, _ => by
    have h1 : ¬ (i : Int) < a.length := by unfold big at hi; omega
    have h2 : ¬ (i : Int) < b.length := by unfold big at hi; omega
    have e : big a b = i := by omega
    rw [e]
    simp only [iter, culpritref32_Begin_loop1, h1, h2, decide_false, cond_false, Option.bind_some]
  | d + 1, i, fuel + 1, hi, hb, hf => by
    have ih := refBegin_loop a b d (i + 1) fuel (by omega) hb (by omega)
    have hc : (bif decide ((i : Int) < a.length) then true else decide ((i : Int) < b.length)) = true := by
      by_cases h : (i : Int) < a.length
      · simp [h]
      · have : (i : Int) < b.length := by unfold big at hi; omega
        simp [this]
    have hw : w64 ((i : Int) + 1) = ((i + 1 : Nat) : Int) := by rw [w64_id (by omega) (by omega)]; omega
    simp only [iter, culpritref32_Begin_loop1, hc, cond_true, refSame_eq, Option.bind_some, hw]
    simp only [topN] at ih
    rcases Bool.eq_false_or_eq_true (sameI a b i) with hs | hs
    · simp only [hs, Bool.not_true, cond_false, if_true, Option.bind_some] at ih ⊢
      exact ih
    · simp only [hs, Bool.not_false, cond_true, Option.bind_some, Bool.false_eq_true, if_false] at ih ⊢
      exact ih

theorem refBegin_eq (a b : List (List Int)) : culpritref32_Begin a b = some (begin0 a b) := by
  unfold culpritref32_Begin begin0
  have e : (bif decide (1000 < (a.length : Int)) then true else decide (1000 < (b.length : Int))) = long a b := by
    unfold long
    rw [Bool.eq_iff_iff]
    cases h : decide (1000 < (a.length : Int)) <;> simp at h ⊢ <;> omega
  rw [e]
  cases hl : long a b
  · obtain ⟨h1, h2⟩ := not_long hl
    have hb : big a b ≤ 1000 := by unfold big; omega
    have := refBegin_loop a b (big a b) 0 (a.length + b.length + 2) (by omega) (by omega) (by unfold big; omega)
    simp only [topN, Int.natCast_zero] at this
    simp only [cond_false]
    rw [this]
    by_cases ht : topN a b (big a b) < 0
    · simp [ht]
    · simp [ht]
  · simp

theorem agree_loop (a b : List (List Int)) : ∀ (d i : Nat) (fuel : Nat), i + d = big a b → big a b ≤ 100000 → d + 1 ≤ fuel → (∀ j : Nat, j < i → sameI a b j = true) →
    iter (culpritref32_Agree_loop1 a b) fuel (i : Int) = some (if topN a b (big a b) < 0 then Sum.inl () else Sum.inr false)
  | 0, i, fuel + 1, hi, _, _, hall => by
    have h1 : ¬ (i : Int) < a.length := by unfold big at hi; omega
    have h2 : ¬ (i : Int) < b.length := by unfold big at hi; omega
    have ht : topN a b (big a b) < 0 := by
      rcases Int.lt_or_le (topN a b (big a b)) 0 with h | h
      · exact h
      · have h3 := topN_diff a b (big a b) h
        have h4 := (topN_lt a b (big a b)).1
        have := hall (topN a b (big a b)).toNat (by omega)
        rw [show ((topN a b (big a b)).toNat : Int) = topN a b (big a b) by omega, h3] at this
        cases this
    simp [iter, culpritref32_Agree_loop1, h1, h2, ht]
  | d + 1, i, fuel + 1, hi, hb, hf, hall => by
    have hc : (bif decide ((i : Int) < a.length) then true else decide ((i : Int) < b.length)) = true := by
      by_cases h : (i : Int) < a.length
      · simp [h]
      · have : (i : Int) < b.length := by unfold big at hi; omega
        simp [this]
    have hw : w64 ((i : Int) + 1) = ((i + 1 : Nat) : Int) := by rw [w64_id (by omega) (by omega)]; omega
    simp only [iter, culpritref32_Agree_loop1, hc, cond_true, refSame_eq, Option.bind_some, hw]
    rcases (Bool.eq_false_or_eq_true (sameI a b i)).symm with hs | hs
    · have ht : ¬ topN a b (big a b) < 0 := fun h => by
        have := topN_same a b (big a b) h i (by omega)
        rw [hs] at this; cases this
      simp [ht, hs]
    · simp only [hs, Bool.not_true, cond_false]
      exact agree_loop a b d (i + 1) fuel (by omega) hb (by omega) fun j hj => by
        by_cases he : j = i
        · subst he; exact hs
        · exact hall j (by omega)

theorem agree_eq (a b : List (List Int)) (hl : long a b = false) : culpritref32_Agree a b = some (decide (topN a b (big a b) < 0)) := by
  obtain ⟨h1, h2⟩ := not_long hl
  have hb : big a b ≤ 1000 := by unfold big; omega
  have := agree_loop a b (big a b) 0 (a.length + b.length + 2) (by omega) (by omega) (by unfold big; omega) (fun j hj => by omega)
  rw [show ((0 : Nat) : Int) = 0 from rfl] at this
  unfold culpritref32_Agree
  rw [this]
  by_cases ht : topN a b (big a b) < 0
  · simp [ht]
  · simp [ht]

theorem sameInts_loop (x : List Int) : ∀ (d i : Nat) (fuel : Nat), i + d = x.length → x.length ≤ 1000000000 → d + 1 ≤ fuel → iter (culpritref01_SameInts_loop1 x x) fuel (i : Int) = some (Sum.inl ())
  | 0, i, fuel + 1, hi, _, _ => by
    have h1 : ¬ (i : Int) < x.length := by omega
    simp [iter, culpritref01_SameInts_loop1, h1]
  | d + 1, i, fuel + 1, hi, hb, hf => by
    have ih := sameInts_loop x d (i + 1) fuel (by omega) hb (by omega)
    have h1 : (i : Int) < x.length := by omega
    obtain ⟨v, hv, _⟩ := idx_lt (a := x) (i := (i : Int)) (by omega) h1
    have hw : w64 ((i : Int) + 1) = ((i + 1 : Nat) : Int) := by rw [w64_id (by omega) (by omega)]; omega
    simp [iter, culpritref01_SameInts_loop1, h1, hv, hw]
    exact ih

theorem sameInts_self (x : List Int) (h : x.length ≤ 1000000000) : culpritref01_SameInts x x = some true := by
  unfold culpritref01_SameInts
  have := sameInts_loop x x.length 0 (((x.length : Int) - 0).toNat + 2) (by omega) h (by omega)
  rw [show ((0 : Nat) : Int) = 0 from rfl] at this
  simp only [bne_self_eq_false, cond_false]
  rw [this]; rfl

theorem sameGame_self (g : Int × Int × List Int) (h : g.2.2.length ≤ 1000000000) : culpritref32_SameGame g g = some true := by
  unfold culpritref32_SameGame
  simp [sameInts_self g.2.2 h]

theorem own_eq (a : List (List Int)) : culpritlaw32_own a = some a := rfl
theorem game_eq (g : Int × Int × List Int) : culpritlaw32_game g = some g := rfl

end Go.Proofs.Ytimljgafbpbceaa
