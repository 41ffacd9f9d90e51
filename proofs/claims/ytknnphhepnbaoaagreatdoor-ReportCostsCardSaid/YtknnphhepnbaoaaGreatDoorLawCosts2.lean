/-
  ReportCosts: what the function computes is true. No program is walked here.
-/
import Derived.Test.YtknnphhepnbaoaaGreatDoorLawCosts
import Derived.Test.YtknnphhepnbaoaaGreatDoorLawLives
namespace Go.Proofs.YtknnphhepnbaoaaGreatDoor
open Go.Sm

/-- The first fifty. -/
def few (x : List Ans) : List Ans := (x.take (if (50 : Int) < (x.length : Int) then (50 : Int) else (x.length : Int)).toNat).drop (0 : Int).toNat

theorem few_len (x : List Ans) : (few x).length ≤ 50 := by
  unfold few
  split <;> simp <;> omega

def zeroA (c : Int × Int × Int) : Ans := (0, 0, ([], [], (0, 0, 0), 0), (0, [], 0, c, []), [])
def sums (n : Nat) (c : Int × Int × Int) : List Ans := (List.replicate n (zeroA (0, 0, 0))).set 0 (zeroA c)

theorem w64_i64 {x : Int} (h : i64 x) : w64 x = x := w64_id h.1 h.2

theorem sum_zeros : ∀ (n : Nat) (c : Int × Int × Int), ok3 c → (List.replicate n (zeroA (0, 0, 0))).foldl addCost c = c
  | 0, c, _ => rfl
  | n + 1, c, h => by
    rw [List.replicate_succ, List.foldl_cons]
    have e : addCost c (zeroA (0, 0, 0)) = c := by
      obtain ⟨h1, h2, h3⟩ := h
      simp only [addCost, zeroA, costOf, Int.add_zero, w64_i64 h1, w64_i64 h2, w64_i64 h3]
    rw [e, sum_zeros n c h]

theorem sum_sums (n : Nat) (c : Int × Int × Int) (h : ok3 c) (h0 : n = 0 → c = (0, 0, 0)) : sumCost (sums n c) = c := by
  unfold sumCost sums
  cases n with
  | zero => rw [h0 rfl]; rfl
  | succ n =>
    rw [List.replicate_succ, List.set_cons_zero, List.foldl_cons]
    have e : addCost (0, 0, 0) (zeroA c) = c := by
      obtain ⟨h1, h2, h3⟩ := h
      simp only [addCost, zeroA, costOf, Int.zero_add, w64_i64 h1, w64_i64 h2, w64_i64 h3]
    rw [e, sum_zeros n c h]

theorem sums_len (n : Nat) (c : Int × Int × Int) : (sums n c).length = n := by simp [sums]

theorem sum_append (a b : List Ans) : sumCost (a ++ b) = b.foldl addCost (sumCost a) := by simp [sumCost, List.foldl_append]

theorem sums_loop (x : List Ans) : Itr.it (culpritlaw37_ReportCosts_loop1 x) (List.replicate ((few x).length : Int).toNat (zeroA (0, 0, 0)), 0) = some (sums (few x).length (sumCost (few x))) := by
  have hl := few_len x
  have := it_fold (f := culpritlaw37_ReportCosts_loop1 x) (fun i (a : Int × Int × Int) => (sums (few x).length a, i)) (few x) addCost (fun a => sums (few x).length a) (fun _ _ => True) (by omega)
    (fun i a c hx _ => ⟨by
      have hlt := lt_of_at hx
      unfold culpritlaw37_ReportCosts_loop1
      have hh : idx (sums (few x).length c) 0 = some (zeroA c) := by
        have h0 : 0 < (few x).length := by omega
        have : (sums (few x).length c)[0]? = some (zeroA c) := by
          unfold sums
          rw [List.getElem?_set_self (by simpa using h0)]
        exact idx_nat this
      have hx' : idx ((x.take (if (50 : Int) < (x.length : Int) then (50 : Int) else (x.length : Int)).toNat).drop (0 : Int).toNat) (i : Int) = some a := idx_nat hx
      have hlen : ((((x.take (if (50 : Int) < (x.length : Int) then (50 : Int) else (x.length : Int)).toNat).drop (0 : Int).toNat).length : Nat) : Int) = ((few x).length : Int) := rfl
      simp only [hlen, dec_t (show (i : Int) < ((few x).length : Int) by omega), cond_true, hx', hh, Option.bind_some]
      rw [w64_id (x := (i : Int) + 1) (by omega) (by omega)]
      congr 2
      simp [sums, zeroA, addCost, costOf], trivial⟩)
    (fun a _ => by
      unfold culpritlaw37_ReportCosts_loop1
      have hlen : ((((x.take (if (50 : Int) < (x.length : Int) then (50 : Int) else (x.length : Int)).toNat).drop (0 : Int).toNat).length : Nat) : Int) = ((few x).length : Int) := rfl
      simp only [hlen, dec_f (show ¬ ((few x).length : Int) < ((few x).length : Int) by omega), cond_false])
    (a := (0, 0, 0)) trivial
  refine Eq.trans ?_ this
  congr 2
  unfold sums
  rw [Int.toNat_natCast]
  cases (few x).length with
  | zero => rfl
  | succ n => rw [List.replicate_succ, List.set_cons_zero]

theorem costs_true (x y : List Ans) : culpritlaw37_ReportCosts x y = some true := by
  have hx := few_len x
  have hy := few_len y
  unfold culpritlaw37_ReportCosts
  have fx : (x.take (if (50 : Int) < (x.length : Int) then (50 : Int) else (x.length : Int)).toNat).drop (0 : Int).toNat = few x := rfl
  have fy : (y.take (if (50 : Int) < (y.length : Int) then (50 : Int) else (y.length : Int)).toNat).drop (0 : Int).toNat = few y := rfl
  rw [fx, fy]
  rw [chk_d (by refine ⟨by omega, ?_, ?_⟩ <;> split <;> omega), chk_d (by refine ⟨by omega, ?_, ?_⟩ <;> split <;> omega)]
  rw [cost_eq (few x) (by omega), refCost_eq (few x) (by omega)]
  simp only [Option.bind_some, beq_self_eq_true, Bool.not_true, cond_false]
  rw [chk_d (by refine ⟨by omega, by omega, ?_⟩; simp only [maxLen]; omega)]
  have hs := sums_loop x
  unfold zeroA at hs
  rw [hs]
  simp only [Option.bind_some, List.nil_append]
  rw [chk_t (appOk_le (by simp; omega) (by omega)), chk_t (appOk_le (by omega) (by omega)), cost_eq (few x ++ few y) (by simp; omega)]
  simp only [Option.bind_some]
  rw [chk_t (appOk_le (by rw [sums_len]; omega) (by omega)), cost_eq (sums (few x).length (sumCost (few x)) ++ few y) (by rw [List.length_append, sums_len]; omega)]
  simp only [Option.bind_some]
  have e : costText ((sums (few x).length (sumCost (few x)) ++ few y).length : Int) (sumCost (sums (few x).length (sumCost (few x)) ++ few y)) = costText ((few x ++ few y).length : Int) (sumCost (few x ++ few y)) := by
    rw [sum_append, sum_append, sum_sums _ _ (ok_sum _) (fun h => by rw [List.eq_nil_of_length_eq_zero h]; rfl), List.length_append, List.length_append, sums_len]
  rw [e]
  simp only [beq_self_eq_true, cond_true, lives_true, Option.bind_some]

end Go.Proofs.YtknnphhepnbaoaaGreatDoor
