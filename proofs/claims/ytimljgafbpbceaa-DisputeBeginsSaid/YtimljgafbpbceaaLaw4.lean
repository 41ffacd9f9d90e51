/-
  Plain laws of the claimants that are made of numbers, and of the greatest number of questions. No program is walked here.
-/
import Derived.Test.YtimljgafbpbceaaLaw3
namespace Go.Proofs.Ytimljgafbpbceaa
open Go.Sm

/-- A number of an int variable. -/
def In (x : Int) : Prop := -9223372036854775808 ≤ x ∧ x ≤ 9223372036854775807

theorem around_some (x m : Int) (hm : m ≠ 0) : ∃ r, culpritref01_Around x m = some r := by
  unfold culpritref01_Around
  have h : (!(m == 0)) = true := by simpa using hm
  rw [h]
  by_cases hx : x < 0
  · exact ⟨_, by simp [hx, chk]; rfl⟩
  · exact ⟨_, by simp [hx, chk]; rfl⟩

theorem around_in {x m : Int} (hx : In x) (hm : 0 < m) : ∃ r, culpritref01_Around x m = some r ∧ 0 ≤ r ∧ r < m := by
  unfold culpritref01_Around
  have h : (!(m == 0)) = true := by simp; omega
  rw [h]
  obtain ⟨h1, h2⟩ := hx
  by_cases hx : x < 0
  · have e1 : w64 (x + 1) = x + 1 := w64_id (by omega) (by omega)
    have e2 : w64 (0 - (x + 1)) = -(x + 1) := by rw [w64_id (by omega) (by omega)]; omega
    refine ⟨(-(x + 1)).tmod m, by simp only [hx, decide_true, cond_true, Option.bind_some, chk, e1, e2], ?_, ?_⟩
    · exact Int.tmod_nonneg _ (by omega)
    · exact Int.tmod_lt_of_pos _ hm
  · refine ⟨x.tmod m, by simp only [hx, decide_false, cond_false, Option.bind_some, chk, cond_true], ?_, ?_⟩
    · exact Int.tmod_nonneg _ (by omega)
    · exact Int.tmod_lt_of_pos _ hm

theorem small_loop (x : List Int) : ∀ (d i : Nat) (fuel : Nat) (l : List (List Int)), i + d = x.length → d + 1 ≤ fuel → l.length = i → l.length ≤ 24 →
    ∃ r, iter (culpritref32_Small_loop1 x) fuel ((i : Int), l) = some r ∧ r.length ≤ 24
  | 0, i, fuel + 1, l, hi, _, hli, hl => by
    have h1 : ¬ (i : Int) < x.length := by omega
    exact ⟨l, by simp [iter, culpritref32_Small_loop1, h1], hl⟩
  | d + 1, i, fuel + 1, l, hi, hf, hli, hl => by
    have h1 : (i : Int) < x.length := by omega
    by_cases h2 : (i : Int) < 24
    · obtain ⟨v, hv, _⟩ := idx_lt (a := x) (i := (i : Int)) (by omega) h1
      obtain ⟨k, hk⟩ := around_some v 4 (by omega)
      have hw : w64 ((i : Int) + 1) = ((i + 1 : Nat) : Int) := by rw [w64_id (by omega) (by omega)]; omega
      have ha : ∀ z : List Int, appOk l.length [z].length 16 = true := fun z => appOk_small (by omega) (by simp; omega)
      obtain ⟨r, hr, hrl⟩ := small_loop x d (i + 1) fuel (l ++ [((List.replicate 16 0).set 0 (IntKind.u8.wrap k))]) (by omega) (by omega) (by simp; omega) (by simp; omega)
      refine ⟨r, ?_, hrl⟩
      simp only [iter, culpritref32_Small_loop1, h1, h2, decide_true, cond_true, hv, Option.bind_some, hk, chk, ha, hw]
      exact hr
    · exact ⟨l, by simp only [iter, culpritref32_Small_loop1, h1, h2, decide_true, decide_false, cond_true, cond_false, Option.bind_some], hl⟩

theorem small_some (x : List Int) : ∃ r, culpritref32_Small x = some r ∧ r.length ≤ 24 := by
  obtain ⟨r, hr, hl⟩ := small_loop x x.length 0 (((x.length : Int) - 0).toNat + 2) [] (by omega) (by omega) rfl (by simp)
  rw [show ((0 : Nat) : Int) = 0 from rfl] at hr
  exact ⟨r, by unfold culpritref32_Small; rw [hr]; rfl, hl⟩

theorem chk_true {α : Type} {b : Bool} (m : Option α) (h : b = true) : chk b m = m := by subst h; rfl

theorem bent_loop1 (x : List (List Int)) (by_ : Int) (hx : x.length ≤ 1000) : ∀ (d : Nat) (i : Int) (fuel : Nat) (l : List (List Int)), 0 ≤ i → (x.length - i).toNat ≤ d → d + 1 ≤ fuel → l.length = x.length → i ≤ 1001 →
    ∃ r, iter (culpritref32_Bent_loop1 x by_) fuel (i, l) = some r ∧ r.length = x.length
  | d, i, 0, l, _, _, h, _, _ => by omega
  | 0, i, fuel + 1, l, h0, hi, hf, hl, _ => by
    have h1 : ¬ i < (([] : List (List Int)) ++ x).length := by simp; omega
    exact ⟨l, by simp only [iter, culpritref32_Bent_loop1, h1, decide_false, cond_false, Option.bind_some], hl⟩
  | d + 1, i, fuel + 1, l, h0, hi, hf, hl, hi' => by
    by_cases h1 : i < (([] : List (List Int)) ++ x).length
    · have h1' : i < x.length := by simpa using h1
      obtain ⟨v, hv, _⟩ := idx_lt (a := l) (i := i) h0 (by omega)
      have hw : w64 (i + 1) = i + 1 := w64_id (by omega) (by omega)
      have hc : decide ((0 : Int) ≤ 0 ∧ (0 : Int) < 16) = true := by decide
      obtain ⟨r, hr, hrl⟩ := bent_loop1 x by_ hx d (i + 1) fuel (l.set i.toNat (arrSet 16 0 v (0 : Int).toNat (IntKind.u8.wrap ((v.getD (0 : Int).toNat 0) + (IntKind.u8.wrap (w64 (1 + (Int.tmod by_ 200)))))))) (by omega) (by omega) (by omega) (by simpa using hl) (by omega)
      refine ⟨r, ?_, hrl⟩
      simp only [iter, culpritref32_Bent_loop1, h1, decide_true, cond_true, hv, Option.bind_some, hw]
      exact hr
    · exact ⟨l, by simp only [iter, culpritref32_Bent_loop1, h1, decide_false, cond_false, Option.bind_some], hl⟩

theorem bent_loop3 (x : List (List Int)) (hx : x.length ≤ 1000) : ∀ (d : Nat) (i : Int) (fuel : Nat) (l : List (List Int)), 0 ≤ i → (x.length - i).toNat ≤ d → d + 1 ≤ fuel → l.length = x.length → i ≤ 1002 →
    ∃ r, iter (culpritref32_Bent_loop3 x) fuel (i, l) = some r ∧ r.length = x.length
  | d, i, 0, l, _, _, h, _, _ => by omega
  | 0, i, fuel + 1, l, h0, hi, hf, hl, _ => by
    have h1 : ¬ i < (([] : List (List Int)) ++ x).length := by simp; omega
    exact ⟨l, by simp only [iter, culpritref32_Bent_loop3, h1, decide_false, cond_false, Option.bind_some], hl⟩
  | d + 1, i, fuel + 1, l, h0, hi, hf, hl, hi' => by
    by_cases h1 : i < (([] : List (List Int)) ++ x).length
    · have h1' : i < x.length := by simpa using h1
      obtain ⟨v, hv, _⟩ := idx_lt (a := l) (i := i) h0 (by omega)
      have hw : w64 (i + 2) = i + 2 := w64_id (by omega) (by omega)
      obtain ⟨r, hr, hrl⟩ := bent_loop3 x hx d (i + 2) fuel (l.set i.toNat (arrSet 16 0 v (1 : Int).toNat (IntKind.u8.wrap ((v.getD (1 : Int).toNat 0) + 1)))) (by omega) (by omega) (by omega) (by simpa using hl) (by omega)
      refine ⟨r, ?_, hrl⟩
      simp only [iter, culpritref32_Bent_loop3, h1, decide_true, cond_true, hv, Option.bind_some, hw]
      exact hr
    · exact ⟨l, by simp only [iter, culpritref32_Bent_loop3, h1, decide_false, cond_false, Option.bind_some], hl⟩

theorem bent_loop2 (by_ : Int) (r9 : Int) (hr9 : culpritref01_Around by_ 9 = some r9) (h9 : 0 ≤ r9 ∧ r9 < 9) : ∀ (d : Nat) (i : Int) (fuel : Nat) (l : List (List Int)), 0 ≤ i → i ≤ 10 → (10 - i).toNat ≤ d → d + 1 ≤ fuel → l.length + d ≤ 100000 →
    ∃ r, iter (culpritref32_Bent_loop2 by_) fuel (i, l) = some r ∧ r.length ≤ l.length + d
  | d, i, 0, l, _, _, _, h, _ => by omega
  | 0, i, fuel + 1, l, h0, hi, hd, hf, _ => by
    have hw : w64 (1 + r9) = 1 + r9 := w64_id (by omega) (by omega)
    have h1 : ¬ i < 1 + r9 := by omega
    exact ⟨l, by simp only [iter, culpritref32_Bent_loop2, hr9, hw, h1, decide_false, cond_false, Option.bind_some], by omega⟩
  | d + 1, i, fuel + 1, l, h0, hi, hd, hf, hl => by
    have hw : w64 (1 + r9) = 1 + r9 := w64_id (by omega) (by omega)
    by_cases h1 : i < 1 + r9
    · have hw2 : w64 (i + 1) = i + 1 := w64_id (by omega) (by omega)
      have ha : ∀ z : List Int, appOk l.length [z].length 16 = true := fun z => appOk_small (by omega) (by simp; omega)
      obtain ⟨r, hr, hrl⟩ := bent_loop2 by_ r9 hr9 h9 d (i + 1) fuel (l ++ [(((List.replicate 16 0).set 0 (IntKind.u8.wrap by_)).set 1 (IntKind.u8.wrap i))]) (by omega) (by omega) (by omega) (by omega) (by simp; omega)
      refine ⟨r, ?_, by simp at hrl; omega⟩
      simp only [iter, culpritref32_Bent_loop2, hr9, hw, h1, decide_true, cond_true, Option.bind_some, chk, ha, hw2]
      exact hr
    · exact ⟨l, by simp only [iter, culpritref32_Bent_loop2, hr9, hw, h1, decide_false, cond_false, Option.bind_some], by omega⟩

theorem bent_some (x : List (List Int)) (how by_ : Int) (hx : x.length ≤ 1000) (hh : In how) (hb : In by_) : ∃ r, culpritref32_Bent x how by_ = some r ∧ r.length ≤ x.length + 12 := by
  unfold culpritref32_Bent
  have k0 : appOk ([] : List (List Int)).length x.length 16 = true := appOk_small (by omega) (by simp; omega)
  simp only [List.nil_append]
  have hm : (if 1 > (x.length : Int) then 1 else (x.length : Int)) = max 1 (x.length : Int) := by split <;> omega
  rw [chk_true _ k0, hm]
  obtain ⟨k, hk, k1, k2⟩ := around_in hb (m := max 1 (x.length : Int)) (by omega)
  obtain ⟨c, hc, c1, c2⟩ := around_in hh (m := 7) (by omega)
  rw [hk, hc]
  simp only [Option.bind_some]
  have hpair : (bif c == 0 then some (c == 0, x) else some (c == 1, x)) = some (decide (c = 0 ∨ c = 1), x) := by
    by_cases h : c = 0
    · simp [h]
    · have : (c == 0) = false := by simpa using h
      rw [this]
      by_cases h1 : c = 1 <;> simp [h1, h]
  rw [hpair]
  simp only [Option.bind_some]
  by_cases h01 : c = 0 ∨ c = 1
  · obtain ⟨r, hr, hrl⟩ := bent_loop1 x by_ hx (x.length - k).toNat k (((x.length : Int) - k).toNat + 2) x k1 (by omega) (by omega) rfl (by omega)
    refine ⟨r, ?_, by omega⟩
    simp only [h01, decide_true, cond_true]
    rw [hr]; rfl
  · simp only [h01, decide_false, cond_false]
    by_cases h2 : c = 2
    · subst h2
      simp only [beq_self_eq_true, cond_true]
      by_cases hn : (0 : Int) < x.length
      · have hq : In (w64 (by_.tdiv 16)) := by
          have := hb.1; have := hb.2
          rcases Int.le_total 0 by_ with h | h
          · rw [Int.tdiv_eq_ediv_of_nonneg h]; rw [w64_id (by omega) (by omega)]; constructor <;> omega
          · have e : by_.tdiv 16 = -((-by_) / 16) := by
              rw [← Int.tdiv_eq_ediv_of_nonneg (by omega : 0 ≤ -by_), Int.neg_tdiv, Int.neg_neg]
            rw [e, w64_id (by omega) (by omega)]; constructor <;> omega
        obtain ⟨q, hq1, q1, q2⟩ := around_in hq (m := 16) (by omega)
        obtain ⟨v, hv, _⟩ := idx_lt (a := x) (i := k) k1 (by omega)
        have hc16 : decide (0 ≤ q ∧ q < 16) = true := by simp [q1, q2]
        simp only [hn, decide_true, cond_true, hq1, hv, Option.bind_some, chk, hc16]
        exact ⟨_, rfl, by simp⟩
      · simp only [hn, decide_false, cond_false, Option.bind_some]
        exact ⟨_, rfl, by omega⟩
    · have b2 : (c == 2) = false := by simpa using h2
      simp only [b2, cond_false]
      by_cases h3 : c = 3
      · subst h3
        simp only [beq_self_eq_true, cond_true]
        have hmin : decide (0 ≤ (if (x.length : Int) < k then (x.length : Int) else k) ∧ (if (x.length : Int) < k then (x.length : Int) else k) ≤ x.length) = true := by
          rw [decide_eq_true_eq]; split <;> omega
        simp only [chk, hmin, cond_true, Option.bind_some]
        exact ⟨_, rfl, by simp; omega⟩
      · have b3 : (c == 3) = false := by simpa using h3
        simp only [b3, cond_false]
        by_cases h4 : c = 4
        · subst h4
          simp only [beq_self_eq_true, cond_true]
          obtain ⟨r9, hr9, n1, n2⟩ := around_in hb (m := 9) (by omega)
          obtain ⟨r, hr, hrl⟩ := bent_loop2 by_ r9 hr9 ⟨n1, n2⟩ 10 0 12 x (by omega) (by omega) (by omega) (by omega) (by omega)
          rw [hr]
          exact ⟨r, rfl, by omega⟩
        · have b4 : (c == 4) = false := by simpa using h4
          simp only [b4, cond_false]
          by_cases h5 : c = 5
          · subst h5
            simp only [beq_self_eq_true, cond_true]
            by_cases hn : (1 : Int) < x.length
            · have hw : w64 ((x.length : Int) - 1) = x.length - 1 := w64_id (by omega) (by omega)
              obtain ⟨v, hv, _⟩ := idx_lt (a := x) (i := k) k1 (by omega)
              obtain ⟨u, hu, _⟩ := idx_lt (a := x) (i := (x.length : Int) - 1) (by omega) (by omega)
              obtain ⟨t, ht, _⟩ := idx_lt (a := x.set k.toNat u) (i := (x.length : Int) - 1) (by omega) (by simp; omega)
              simp only [hn, decide_true, cond_true, hw, hu, hv, ht, Option.bind_some]
              exact ⟨_, rfl, by simp⟩
            · simp only [hn, decide_false, cond_false, Option.bind_some]
              exact ⟨_, rfl, by omega⟩
          · have b5 : (c == 5) = false := by simpa using h5
            simp only [b5, cond_false]
            obtain ⟨r, hr, hrl⟩ := bent_loop3 x hx x.length 0 (((x.length : Int) - 0).toNat + 2) x (by omega) (by omega) (by omega) rfl (by omega)
            rw [hr]
            exact ⟨r, rfl, by omega⟩

theorem most_small : ∀ n : Nat, n ≤ 120 → ∃ m : Nat, dispute_Most n = some (m : Int) ∧ n ≤ 2 ^ m := by
  have h : ∀ n : Fin 121, (match dispute_Most (n.1 : Int) with | some m => decide (0 ≤ m) && decide (n.1 ≤ 2 ^ m.toNat) | none => false) = true := by decide +kernel
  intro n hn
  have := h ⟨n, by omega⟩
  cases hm : dispute_Most (n : Int) with
  | none => simp [hm] at this
  | some m =>
    simp only [hm, Bool.and_eq_true, decide_eq_true_eq] at this
    exact ⟨m.toNat, by rw [Int.toNat_of_nonneg this.1], this.2⟩

end Go.Proofs.Ytimljgafbpbceaa
