/-
  ReportCosts: the plain law: what the function computes is true. No program is walked here.
-/
import Derived.Test.YtknnphhepnbaoaaGreatDoorLawA
namespace Go.Proofs.YtknnphhepnbaoaaGreatDoor
open Go.Sm

/-- An integer of 64 bits. -/
def i64 (n : Int) : Prop := -9223372036854775808 ≤ n ∧ n ≤ 9223372036854775807

theorem xItoa_eq {n : Int} (h : i64 n) : xItoa n = some (itoaL n) := by
  unfold xItoa
  exact chk_t (by simp [h.1, h.2])

theorem digs_len : ∀ (k n : Nat), (digs k n).length ≤ k
  | 0, n => by simp [digs]
  | k + 1, n => by
    simp only [digs]
    split
    · simp
    · have := digs_len k (n / 10)
      simp; omega

theorem itoaL_len (n : Int) : (itoaL n).length ≤ 21 := by
  unfold itoaL
  split
  · have := digs_len 20 n.natAbs; simp; omega
  · have := digs_len 20 n.toNat; omega

theorem digs_fuel : ∀ (k k' n : Nat), n < 10 ^ k → n < 10 ^ k' → 1 ≤ k → 1 ≤ k' → digs k n = digs k' n
  | 0, _, _, _, _, h, _ => by omega
  | _, 0, _, _, _, _, h => by omega
  | k + 1, k' + 1, n, h, h', _, _ => by
    simp only [digs]
    split
    · rfl
    · rw [Nat.pow_succ] at h h'
      have hk : 1 ≤ k := by cases k with | zero => simp at h; omega | succ k => omega
      have hk' : 1 ≤ k' := by cases k' with | zero => simp at h'; omega | succ k => omega
      rw [digs_fuel k k' (n / 10) (by omega) (by omega) hk hk']

/-- What is left to do while the digits of m are laid ahead of out. -/
def signedRest (s : List UInt8 × Int) : List UInt8 := if s.2 = 0 ∧ s.1 ≠ [] then s.1 else digs 20 s.2.natAbs ++ s.1

theorem digit_slice {d : Nat} (h1 : d ≤ 9) : (S_0123456789_84d8.take (w64 ((d : Int) + 1)).toNat).drop (d : Int).toNat = [UInt8.ofNat (48 + d)] := by
  rw [w64_id (by omega) (by omega)]
  rcases (show d = 0 ∨ d = 1 ∨ d = 2 ∨ d = 3 ∨ d = 4 ∨ d = 5 ∨ d = 6 ∨ d = 7 ∨ d = 8 ∨ d = 9 by omega) with rfl | rfl | rfl | rfl | rfl | rfl | rfl | rfl | rfl | rfl <;> rfl

theorem tmod10 (m : Int) : Int.tmod m 10 = if 0 ≤ m then m % 10 else -((-m) % 10) := by
  split
  · rename_i h; exact Int.tmod_eq_emod_of_nonneg h
  · rename_i h
    rw [← Int.neg_neg m, Int.neg_tmod, Int.tmod_eq_emod_of_nonneg (by omega)]
    simp

theorem tdiv10 (m : Int) : Int.tdiv m 10 = if 0 ≤ m then m / 10 else -((-m) / 10) := by
  split
  · rename_i h; exact Int.tdiv_eq_ediv_of_nonneg h
  · rename_i h
    rw [← Int.neg_neg m, Int.neg_tdiv, Int.tdiv_eq_ediv_of_nonneg (by omega)]
    simp

theorem digit_abs (m : Int) : (bif decide (Int.tmod m 10 < 0) then some (w64 (0 - Int.tmod m 10)) else some (Int.tmod m 10) : Option Int) = some ((m.natAbs % 10 : Nat) : Int) := by
  rw [tmod10]
  by_cases h : 0 ≤ m
  · rw [if_pos h, dec_f (by omega)]
    simp only [cond_false]
    congr 1; omega
  · rw [if_neg h]
    by_cases h2 : -(-m % 10) < 0
    · rw [dec_t h2, cond_true, w64_id (by omega) (by omega)]
      congr 1; omega
    · rw [dec_f h2, cond_false]
      congr 1; omega

theorem signed_exit {out : List UInt8} (ho : out ≠ []) : culpritref37_Signed_loop1 (out, 0) = some (.inr out) := by
  cases out with
  | nil => exact absurd rfl ho
  | cons b r => rfl

theorem signed_step {out : List UInt8} {m : Int} (hm : i64 m) (ho : out.length ≤ 100) (hc : ¬ (m = 0 ∧ out ≠ [])) :
    culpritref37_Signed_loop1 (out, m) = some (.inl (UInt8.ofNat (48 + m.natAbs % 10) :: out, Int.tdiv m 10)) := by
  have hcond : (bif m != (0 : Int) then true else out == ([] : List UInt8)) = true := by
    cases h1 : (m != 0)
    · have : m = 0 := by simpa using h1
      have : out = [] := by
        by_cases he : out = []
        · exact he
        · exact absurd ⟨this, he⟩ hc
      simp [this]
    · rfl
  unfold culpritref37_Signed_loop1
  simp only [hcond, cond_true, digit_abs, Option.bind_some]
  have hd : m.natAbs % 10 ≤ 9 := by omega
  rw [digit_slice hd, w64_id (x := ((m.natAbs % 10 : Nat) : Int) + 1) (by omega) (by omega)]
  have hl : S_0123456789_84d8.length = 10 := rfl
  rw [chk_t (by rfl), chk_d (by rw [hl]; omega), chk_d (by simp; omega), chk_t (by rfl)]
  obtain ⟨h1, h2⟩ := hm
  rw [w64_id (x := Int.tdiv m 10) (by rw [tdiv10]; split <;> omega) (by rw [tdiv10]; split <;> omega)]
  simp

theorem signed_iter : ∀ (k : Nat) (out : List UInt8) (m : Int), i64 m → m.natAbs < 10 ^ k → k ≤ 20 → out.length + k ≤ 50 → ∀ n, k + 2 ≤ n → iter culpritref37_Signed_loop1 n (out, m) = some (signedRest (out, m)) := by
  intro k
  induction k with
  | zero =>
    intro out m hm hk _ hl n hn
    have h0 : m = 0 := by simp at hk; exact hk
    subst h0
    match n, hn with
    | n + 2, _ =>
      by_cases ho : out = []
      · subst ho
        have e := signed_step (out := []) (m := 0) hm (by simp) (by simp)
        simp only [iter, e, Option.bind_some]
        rfl
      · simp only [iter, signed_exit ho, Option.bind_some, signedRest]
        simp [ho]
  | succ k ih =>
    intro out m hm hk hk20 hl n hn
    match n, hn with
    | n + 1, hn =>
      by_cases hc : m = 0 ∧ out ≠ []
      · obtain ⟨rfl, ho⟩ := hc
        simp only [iter, signed_exit ho, Option.bind_some, signedRest]
        simp [ho]
      · have hd : (Int.tdiv m 10).natAbs = m.natAbs / 10 := by rw [tdiv10]; split <;> omega
        have hm' : i64 (Int.tdiv m 10) := by
          obtain ⟨h1, h2⟩ := hm
          unfold i64
          rw [tdiv10]
          split <;> omega
        simp only [iter, signed_step hm (by omega) hc, Option.bind_some]
        rw [ih _ _ hm' (by rw [hd]; rw [Nat.pow_succ] at hk; omega) (by omega) (by simp; omega) n (by omega)]
        congr 1
        unfold signedRest
        simp only
        rw [if_neg hc]
        by_cases hz : Int.tdiv m 10 = 0
        · have h9 : m.natAbs < 10 := by
            have : m.natAbs / 10 = 0 := by rw [← hd, hz]; rfl
            omega
          rw [if_pos ⟨hz, by simp⟩]
          simp only [digs, h9, if_true]
          rw [Nat.mod_eq_of_lt h9]
          rfl
        · rw [if_neg (fun h => hz h.1), hd]
          have h10 : ¬ m.natAbs < 10 := by
            intro h
            have : (Int.tdiv m 10).natAbs = 0 := by rw [hd]; omega
            exact hz (by omega)
          have hlt : m.natAbs / 10 < 10 ^ 19 := by
            obtain ⟨h1, h2⟩ := hm
            omega
          rw [show digs 20 m.natAbs = digs 19 (m.natAbs / 10) ++ [UInt8.ofNat (48 + m.natAbs % 10)] by simp only [digs, h10, if_false], digs_fuel 20 19 _ (by omega) hlt (by omega) (by omega)]
          simp

theorem signed_eq {n : Int} (h : i64 n) : culpritref37_Signed n = some (itoaL n) := by
  have h1 : Itr.it culpritref37_Signed_loop1 (([] : List UInt8), n) = some (digs 20 n.natAbs) := by
    obtain ⟨h1, h2⟩ := h
    have := signed_iter 20 [] n ⟨h1, h2⟩ (by omega) (by omega) (by simp) FUEL (by simp [FUEL])
    rw [show Itr.it culpritref37_Signed_loop1 (([] : List UInt8), n) = iter culpritref37_Signed_loop1 FUEL ([], n) from rfl, this]
    simp [signedRest]
  unfold culpritref37_Signed itoaL
  rw [h1]
  simp only [Option.bind_some]
  have hl := digs_len 20 n.natAbs
  by_cases hn : n < 0
  · rw [dec_t hn, cond_true, if_pos hn, chk_d (by simp [S__3973]; omega)]
    rfl
  · rw [dec_f hn, cond_false, if_neg hn, Option.bind_some, show n.toNat = n.natAbs by omega]

theorem printedInt_eq (l : List Int) (hl : l.length ≤ 1000000) (h : ∀ n ∈ l, i64 n) : report_printed_int l = some (l.map itoaL) := by
  unfold report_printed_int
  have := it_fold (f := report_printed_int_loop1 l) (fun i (a : List (List UInt8)) => (a, i)) l (fun a n => a ++ [itoaL n]) id (fun i a => a.length = i) (by omega)
    (fun i x a hx ha => ⟨by
      have hlt := lt_of_at hx
      unfold report_printed_int_loop1
      simp only [dec_t (show (i : Int) < (l.length : Int) by omega), cond_true, idx_nat hx, Option.bind_some, xItoa_eq (h x (List.mem_of_getElem? hx))]
      rw [chk_t (appOk_le (by simp; omega) (by omega)), w64_id (by omega) (by omega)], by simp [ha]⟩)
    (fun a ha => by
      unfold report_printed_int_loop1
      simp [dec_f (show ¬ (l.length : Int) < (l.length : Int) by omega)])
    (a := []) rfl
  rw [show ((([] : List (List UInt8)), (0 : Int))) = (fun i (a : List (List UInt8)) => (a, i)) 0 [] from rfl, this]
  simp only [Option.bind_some, id]
  congr 1
  have gen : ∀ (l : List Int) (a : List (List UInt8)), l.foldl (fun a n => a ++ [itoaL n]) a = a ++ l.map itoaL := by
    intro l
    induction l with
    | nil => intro a; simp
    | cons x l ih => intro a; simp [ih]
  simpa using gen l []

abbrev Ans : Type := Int × Int × (List Int × List UInt8 × (Int × Int × Int) × Int) × (Int × List UInt8 × Int × (Int × Int × Int) × List Int) × List UInt8
def costOf (a : Ans) : Int × Int × Int := a.2.2.2.1.2.2.2.1
def addCost (s : Int × Int × Int) (a : Ans) : Int × Int × Int := (w64 (s.1 + (costOf a).1), w64 (s.2.1 + (costOf a).2.1), w64 (s.2.2 + (costOf a).2.2))
def sumCost (l : List Ans) : Int × Int × Int := l.foldl addCost (0, 0, 0)
def ok3 (s : Int × Int × Int) : Prop := i64 s.1 ∧ i64 s.2.1 ∧ i64 s.2.2

theorem ok_add (s : Int × Int × Int) (a : Ans) : ok3 (addCost s a) := ⟨w64_range _, w64_range _, w64_range _⟩
theorem ok_fold : ∀ (l : List Ans) (s : Int × Int × Int), ok3 s → ok3 (l.foldl addCost s)
  | [], _, h => h
  | a :: l, s, _ => ok_fold l _ (ok_add s a)
theorem ok_sum (l : List Ans) : ok3 (sumCost l) := ok_fold l _ ⟨by simp [i64], by simp [i64], by simp [i64]⟩

def costText (n : Int) (c : Int × Int × Int) : List UInt8 :=
  ((((((((S_it_cost_ee99 ++ itoaL n) ++ S_runs_285b) ++ itoaL c.1) ++ S_steps_d8c5) ++ itoaL c.2.1) ++ S_allocations_a_c960) ++ itoaL c.2.2) ++ S_waits_f3ea)

theorem cost_eq (l : List Ans) (hl : l.length ≤ 1000000) : report_Cost l = some (costText l.length (sumCost l)) := by
  unfold report_Cost
  have := it_fold (f := report_Cost_loop1 l) (fun i (a : Int × Int × Int) => (i, a)) l addCost id (fun _ _ => True) (by omega)
    (fun i x a hx _ => ⟨by
      have hlt := lt_of_at hx
      unfold report_Cost_loop1
      simp only [dec_t (show (i : Int) < (l.length : Int) by omega), cond_true, idx_nat hx, Option.bind_some]
      rw [w64_id (x := (i : Int) + 1) (by omega) (by omega)]
      rfl, trivial⟩)
    (fun a _ => by
      unfold report_Cost_loop1
      simp [dec_f (show ¬ (l.length : Int) < (l.length : Int) by omega)])
    (a := (0, 0, 0)) trivial
  rw [show ((0, 0, 0, 0) : Int × Int × Int × Int) = (fun i (a : Int × Int × Int) => (i, a)) 0 (0, 0, 0) from rfl, this]
  obtain ⟨h1, h2, h3⟩ := ok_sum l
  simp only [Option.bind_some, id]
  show (report_printed_int [(l.length : Int), (sumCost l).1, (sumCost l).2.1, (sumCost l).2.2]).bind _ = _
  rw [printedInt_eq _ (by simp) (by
    intro n hn
    simp only [List.mem_cons, List.not_mem_nil, or_false] at hn
    rcases hn with rfl | rfl | rfl | rfl
    · unfold i64; omega
    · exact h1
    · exact h2
    · exact h3)]
  have e0 := itoaL_len (l.length : Int)
  have e1 := itoaL_len (sumCost l).1
  have e2 := itoaL_len (sumCost l).2.1
  have e3 := itoaL_len (sumCost l).2.2
  simp only [Option.bind_some, List.map_cons, List.map_nil, idx, show (0 : Int) ≤ 0 from by omega, show (0 : Int) ≤ 1 from by omega, show (0 : Int) ≤ 2 from by omega, show (0 : Int) ≤ 3 from by omega, if_true, Int.toNat_zero,
    show (1 : Int).toNat = 1 from rfl, show (2 : Int).toNat = 2 from rfl, show (3 : Int).toNat = 3 from rfl, List.getElem?_cons_zero, List.getElem?_cons_succ]
  have k : ∀ {α : Type} {n : Nat} {m : Option α}, n ≤ 1000 → chk (decide (n ≤ 9223372036854775807)) m = m := fun h => chk_d (by omega)
  have l1 : S_it_cost_ee99.length = 8 := rfl
  have l2 : S_runs_285b.length = 7 := rfl
  have l3 : S_steps_d8c5.length = 8 := rfl
  have l4 : S_allocations_a_c960.length = 17 := rfl
  have l5 : S_waits_f3ea.length = 7 := rfl
  repeat rw [k (by simp only [List.length_append, l1, l2, l3, l4, l5]; omega)]
  rfl

theorem refCost_eq (l : List Ans) (hl : l.length ≤ 1000000) : culpritref37_Cost l = some (costText l.length (sumCost l)) := by
  unfold culpritref37_Cost
  have := it_fold (f := culpritref37_Cost_loop1 l) (fun i (a : Int × Int × Int) => (i, a)) l addCost id (fun _ _ => True) (by omega)
    (fun i x a hx _ => ⟨by
      have hlt := lt_of_at hx
      unfold culpritref37_Cost_loop1
      simp only [dec_t (show (i : Int) < (l.length : Int) by omega), cond_true, idx_nat hx, Option.bind_some]
      rw [w64_id (x := (i : Int) + 1) (by omega) (by omega)]
      rfl, trivial⟩)
    (fun a _ => by
      unfold culpritref37_Cost_loop1
      simp [dec_f (show ¬ (l.length : Int) < (l.length : Int) by omega)])
    (a := (0, 0, 0)) trivial
  rw [show ((0, 0, 0, 0) : Int × Int × Int × Int) = (fun i (a : Int × Int × Int) => (i, a)) 0 (0, 0, 0) from rfl, this]
  obtain ⟨h1, h2, h3⟩ := ok_sum l
  simp only [Option.bind_some, id]
  rw [signed_eq (show i64 (l.length : Int) by unfold i64; omega), Option.bind_some]
  have e0 := itoaL_len (l.length : Int)
  have e1 := itoaL_len (sumCost l).1
  have e2 := itoaL_len (sumCost l).2.1
  have e3 := itoaL_len (sumCost l).2.2
  have k : ∀ {α : Type} {n : Nat} {m : Option α}, n ≤ 1000 → chk (decide (n ≤ 9223372036854775807)) m = m := fun h => chk_d (by omega)
  have l1 : S_it_cost_ee99.length = 8 := rfl
  have l2 : S_runs_285b.length = 7 := rfl
  have l3 : S_steps_d8c5.length = 8 := rfl
  have l4 : S_allocations_a_c960.length = 17 := rfl
  have l5 : S_waits_f3ea.length = 7 := rfl
  change i64 (l.foldl addCost (0, 0, 0)).1 at h1
  change i64 (l.foldl addCost (0, 0, 0)).2.1 at h2
  change i64 (l.foldl addCost (0, 0, 0)).2.2 at h3
  change (itoaL (l.foldl addCost (0, 0, 0)).1).length ≤ 21 at e1
  change (itoaL (l.foldl addCost (0, 0, 0)).2.1).length ≤ 21 at e2
  change (itoaL (l.foldl addCost (0, 0, 0)).2.2).length ≤ 21 at e3
  rw [k (by simp only [List.length_append, l1]; omega), k (by simp only [List.length_append, l1, l2]; omega), signed_eq h1, Option.bind_some, k (by simp only [List.length_append, l1, l2]; omega), k (by simp only [List.length_append, l1, l2, l3]; omega),
    signed_eq h2, Option.bind_some, k (by simp only [List.length_append, l1, l2, l3]; omega), k (by simp only [List.length_append, l1, l2, l3, l4]; omega), signed_eq h3, Option.bind_some,
    k (by simp only [List.length_append, l1, l2, l3, l4]; omega), k (by simp only [List.length_append, l1, l2, l3, l4, l5]; omega)]
  rfl

end Go.Proofs.YtknnphhepnbaoaaGreatDoor
