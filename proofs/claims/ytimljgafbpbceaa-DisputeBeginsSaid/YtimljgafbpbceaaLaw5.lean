/-
  DisputeHalves answers true for all numbers. No program is walked here.
-/
import Derived.Test.YtimljgafbpbceaaLaw4
namespace Go.Proofs.Ytimljgafbpbceaa
open Go.Sm

theorem halves_loop1 (far : Int) (q : Int) (hq : culpritref01_Around far 40 = some q) (h40 : 0 ≤ q ∧ q < 40) : ∀ (d : Nat) (i : Int) (fuel : Nat) (l : List (List Int)), 0 ≤ i → i ≤ 41 → (40 - i).toNat ≤ d → d + 1 ≤ fuel → l.length + d ≤ 100000 →
    ∃ r, iter (culpritlaw32_DisputeHalves_loop1 far) fuel (i, l) = some r ∧ r.length ≤ l.length + d
  | d, i, 0, l, _, _, _, h, _ => by omega
  | 0, i, fuel + 1, l, h0, hi, hd, hf, _ => by
    have h1 : ¬ i < q := by omega
    exact ⟨l, by simp only [iter, culpritlaw32_DisputeHalves_loop1, hq, h1, decide_false, cond_false, Option.bind_some], by omega⟩
  | d + 1, i, fuel + 1, l, h0, hi, hd, hf, hl => by
    by_cases h1 : i < q
    · have hw2 : w64 (i + 1) = i + 1 := w64_id (by omega) (by omega)
      have ha : ∀ z : List Int, appOk l.length [z].length 16 = true := fun z => appOk_small (by omega) (by simp; omega)
      obtain ⟨r, hr, hrl⟩ := halves_loop1 far q hq h40 d (i + 1) fuel (l ++ [(((List.replicate 16 0).set 0 (IntKind.u8.wrap i)).set 1 7)]) (by omega) (by omega) (by omega) (by omega) (by simp; omega)
      refine ⟨r, ?_, by simp at hrl; omega⟩
      simp only [iter, culpritlaw32_DisputeHalves_loop1, hq, h1, decide_true, cond_true, Option.bind_some, chk, ha, hw2]
      exact hr
    · exact ⟨l, by simp only [iter, culpritlaw32_DisputeHalves_loop1, hq, h1, decide_false, cond_false, Option.bind_some], by omega⟩

theorem halves_loop2 {a b : List (List Int)} (hl : long a b = false) : ∀ (k : Nat) (g : Gm) (fuel : Nat), proper g a b = true → g.2.1 - g.1 ≤ 2 ^ k → (g.2.1 - g.1).toNat ≤ fuel → g.2.2.length + k ≤ 20 →
    iter (culpritlaw32_DisputeHalves_loop2 a b) fuel ((g.2.2.length : Int), g) = some (Sum.inl (((go a b k g).2.2.length : Int), b, go a b k g)) := by
  intro k
  have over : ∀ (g : Gm) (fuel : Nat), proper g a b = true → g.2.1 = g.1 + 1 → (g.2.1 - g.1).toNat ≤ fuel →
      iter (culpritlaw32_DisputeHalves_loop2 a b) fuel ((g.2.2.length : Int), g) = some (Sum.inl ((g.2.2.length : Int), b, g)) := by
    intro g fuel hp hn hf
    obtain ⟨p1, p2, p3, _, _⟩ := proper_in hp
    obtain ⟨q1, q2⟩ := not_long hl
    obtain ⟨fuel, rfl⟩ : ∃ f, fuel = f + 1 := ⟨fuel - 1, by omega⟩
    have hw : w64 (g.1 + 1) = g.1 + 1 := w64_id (by omega) (by omega)
    have hc : ¬ g.1 + 1 < g.2.1 := by omega
    simp only [iter, culpritlaw32_DisputeHalves_loop2, hw, hc, decide_false, cond_false, Option.bind_some]
  induction k with
  | zero =>
    intro g fuel hp hw hf hlen
    have := (proper_in hp).2.1
    simp only [Int.pow_zero] at hw
    exact over g fuel hp (by omega) hf
  | succ k ih =>
    intro g fuel hp hw hf hlen
    by_cases hn : g.2.1 = g.1 + 1
    · rw [go_over a b g hn]; exact over g fuel hp hn hf
    · obtain ⟨p1, p2, p3, _, _⟩ := proper_in hp
      obtain ⟨q1, q2⟩ := not_long hl
      obtain ⟨fuel, rfl⟩ : ∃ f, fuel = f + 1 := ⟨fuel - 1, by omega⟩
      obtain ⟨h1, h2, h3, h4, h5, h6⟩ := halve_step hl hp hn
      have h7 := (proper_in h2).2.1
      have hw' : (halve g a b).1.2.1 - (halve g a b).1.1 ≤ 2 ^ k := by
        have : (2 : Int) ^ (k + 1) = 2 * 2 ^ k := by rw [Int.pow_succ]; omega
        omega
      have e : ((g.1, g.2.1, g.2.2) : Gm) = g := rfl
      have hw1 : w64 (g.1 + 1) = g.1 + 1 := w64_id (by omega) (by omega)
      have hc : g.1 + 1 < g.2.1 := by omega
      have h20 : ¬ (20 : Int) < g.2.2.length := by omega
      have w1 : w64 (g.2.1 - g.1) = g.2.1 - g.1 := w64_id (by omega) (by omega)
      have w2 : w64 (g.2.1 - g.1 + 1) = g.2.1 - g.1 + 1 := w64_id (by omega) (by omega)
      have w3 : w64 ((halve g a b).1.2.1 - (halve g a b).1.1) = (halve g a b).1.2.1 - (halve g a b).1.1 := w64_id (by omega) (by omega)
      have w4 : w64 (2 * ((halve g a b).1.2.1 - (halve g a b).1.1)) = 2 * ((halve g a b).1.2.1 - (halve g a b).1.1) := w64_id (by omega) (by omega)
      have w5 : w64 ((g.2.2.length : Int) + 1) = ((halve g a b).1.2.2.length : Int) := by rw [w64_id (by omega) (by omega)]; omega
      have c1 : ¬ g.2.1 - g.1 + 1 < 2 * ((halve g a b).1.2.1 - (halve g a b).1.1) := by omega
      have c2 : ¬ (halve g a b).1.1 < g.1 := by omega
      have c3 : ¬ g.2.1 < (halve g a b).1.2.1 := by omega
      have := ih (halve g a b).1 fuel h2 hw' (by omega) (by omega)
      simp only [iter, culpritlaw32_DisputeHalves_loop2, hw1, hc, decide_true, cond_true, e, game_eq, own_eq, refProper_eq, hp, halve_eq g a b (by omega), Option.bind_some, Bool.not_true, cond_false, h20, decide_false, h1, w1, w2, w3, w4, w5, c1, c2, c3, bne_self_eq_false,
        go, if_neg hn]
      exact this

theorem halves_true (x0 : List Int) (how by_ far : Int) (hh : In how) (hb : In by_) (hf : In far) : culpritlaw32_DisputeHalves x0 how by_ far = some true := by
  unfold culpritlaw32_DisputeHalves
  obtain ⟨a0, ha0, hla0⟩ := small_some x0
  obtain ⟨q, hq, q1, q2⟩ := around_in hf (m := 40) (by omega)
  obtain ⟨a, ha, hla⟩ := halves_loop1 far q hq ⟨q1, q2⟩ 40 0 42 a0 (by omega) (by omega) (by omega) (by omega) (by omega)
  obtain ⟨b, hb', hlb⟩ := bent_some a how by_ (by omega) hh hb
  have hl : long a b = false := by unfold long; simp; omega
  rw [ha0]
  simp only [Option.bind_some]
  rw [ha]
  simp only [Option.bind_some, hb', own_eq, begin_eq, agree_eq a b hl]
  have hbig : big a b ≤ 120 := by unfold big; omega
  by_cases ht : topN a b (big a b) < 0
  · have h6 : (begin0 a b).2 = 6 := by unfold begin0; rw [if_neg (by simp [hl]), if_pos ht]
    rw [h6]
    simp only [ht, lives_eq]
    rfl
  · have h0 : (begin0 a b).2 = 0 := by unfold begin0; rw [if_neg (by simp [hl]), if_neg ht]
    obtain ⟨_, hp, hasked, hw, hlow, htop⟩ := begin_proper h0
    have hlt := topN_lt a b (big a b)
    rw [h0]
    simp only [ht, decide_false]
    have e1 : w64 ((begin0 a b).1.1 + 1) = (begin0 a b).1.1 + 1 := by rw [hlow]; exact w64_id (by omega) (by omega)
    have hloop := halves_loop2 hl 10 (begin0 a b).1 (((begin0 a b).1.2.1 - w64 ((begin0 a b).1.1 + 1)).toNat + 2) hp (by omega) (by rw [e1]; omega) (by rw [hasked]; simp)
    rw [hasked] at hloop
    have hloop' : iter (culpritlaw32_DisputeHalves_loop2 a b) (((begin0 a b).1.2.1 - w64 ((begin0 a b).1.1 + 1)).toNat + 2) (0, (begin0 a b).1.1, (begin0 a b).1.2.1, (begin0 a b).1.2.2) = _ := hloop
    obtain ⟨g1, g2, g3, g4⟩ := go_spec hl 10 (begin0 a b).1 hp (by omega)
    have hparts : dispute_Parts a b = some ((go a b 10 (begin0 a b).1).1, ((go a b 10 (begin0 a b).1).2.2.length : Int), 0) := by
      rw [parts_eq]; unfold parts; rw [if_pos h0]
    obtain ⟨m, hm1, hm2⟩ := most_small (big a b) hbig
    have hmost : (go a b 10 (begin0 a b).1).2.2.length ≤ m := by
      by_cases h10 : m ≤ 10
      · have hwm : (begin0 a b).1.2.1 - (begin0 a b).1.1 ≤ 2 ^ m := by
          have : ((big a b : Nat) : Int) ≤ ((2 ^ m : Nat) : Int) := by omega
          rw [Int.natCast_pow] at this
          simpa using Int.le_trans hw this
        rw [go_stable hl m (begin0 a b).1 10 hp hwm h10]
        have := (go_spec hl m (begin0 a b).1 hp hwm).2.2.1
        rw [hasked] at this
        simpa using this
      · rw [hasked] at g3
        simp at g3
        omega
    have hbn : (if (b.length : Int) > (a.length : Int) then (b.length : Int) else (a.length : Int)) = (big a b : Int) := by
      unfold big; split <;> omega
    obtain ⟨p1, p2, p3, _, _⟩ := proper_in g1
    obtain ⟨q3, q4⟩ := not_long hl
    have hwl : w64 ((go a b 10 (begin0 a b).1).1 + 1) = (go a b 10 (begin0 a b).1).1 + 1 := w64_id (by omega) (by omega)
    have hle : decide (((go a b 10 (begin0 a b).1).2.2.length : Int) ≤ (m : Int)) = true := by rw [decide_eq_true_eq]; omega
    generalize hG : go a b 10 (begin0 a b).1 = G at *
    have e : ((G.1, G.2.1, G.2.2) : Gm) = G := rfl
    rw [hloop']
    simp only [Option.bind_some, hparts, hbn, hm1, hle, hwl, g2, game_eq, refProper_eq, lives_eq, beq_self_eq_true, cond_true, bne_self_eq_false, cond_false]
    have hpr : proper (G.1, G.1 + 1, G.2.2) a b = true := by rw [← g2]; exact g1
    simp [hpr]

end Go.Proofs.Ytimljgafbpbceaa
