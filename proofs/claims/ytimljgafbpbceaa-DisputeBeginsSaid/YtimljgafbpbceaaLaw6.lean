/-
  The greatest number of questions, told in two ways. No program is walked here.
-/
import Derived.Test.YtimljgafbpbceaaLaw5
namespace Go.Proofs.Ytimljgafbpbceaa
open Go.Sm

/-- How many bits a number has. -/
def bl (x : Nat) : Nat := if x = 0 then 0 else Nat.log2 x + 1

theorem bl_le (x k : Nat) : bl x ≤ k ↔ x < 2 ^ k := by
  unfold bl
  by_cases h : x = 0
  · subst h; simp [Nat.two_pow_pos]
  · rw [if_neg h, ← Nat.log2_lt h]; omega

theorem bl_shift {x k : Nat} (h : 2 ^ k ≤ x) : bl x = bl (x / 2 ^ k) + k := by
  have hp := Nat.two_pow_pos k
  apply Nat.le_antisymm
  · rw [bl_le]
    have h1 := (bl_le (x / 2 ^ k) (bl (x / 2 ^ k))).1 (Nat.le_refl _)
    rw [Nat.div_lt_iff_lt_mul hp, ← Nat.pow_add] at h1
    exact h1
  · have hk : k ≤ bl x := by
      rcases Nat.lt_or_ge (bl x) k with h1 | h1
      · have := (bl_le x k).1 (Nat.le_of_lt h1); omega
      · exact h1
    have : bl (x / 2 ^ k) ≤ bl x - k := by
      rw [bl_le, Nat.div_lt_iff_lt_mul hp, ← Nat.pow_add, Nat.sub_add_cancel hk]
      exact (bl_le x (bl x)).1 (Nat.le_refl _)
    omega

theorem shr_nat (x k : Nat) (hk : k ≤ 64) : shrI .u64 (x : Int) (k : Int) = ((x / 2 ^ k : Nat) : Int) := by
  have e : min ((k : Int)).toNat IntKind.u64.bits = k := by simp [IntKind.bits]; omega
  unfold shrI
  rw [e, Int.fdiv_eq_ediv_of_nonneg _ (Int.le_of_lt (Int.pow_pos (by omega)))]
  simp

theorem bl_table : ∀ b : Fin 256, (idx str1 (b.1 : Int)).map (fun x => x.toNat) = some (bl b.1) := by decide +kernel

theorem len64_eq (x : Nat) (h : x < 2 ^ 64) : math_bits_Len64 (x : Int) = some ((bl x : Nat) : Int) := by
  unfold math_bits_Len64
  have s1 : ∃ y c : Nat, (bif decide ((4294967296 : Int) ≤ x) then some (shrI .u64 (x : Int) 32, (32 : Int)) else some ((x : Int), 0)) = some ((y : Int), (c : Int)) ∧ y < 4294967296 ∧ bl x = bl y + c ∧ c ≤ 32 := by
    by_cases hx : (4294967296 : Int) ≤ x
    · have e := shr_nat x 32 (by omega)
      refine ⟨x / 2 ^ 32, 32, ?_, ?_, bl_shift (by omega), by omega⟩
      · simp only [hx, decide_true, cond_true]; rw [← e]; rfl
      · omega
    · exact ⟨x, 0, by simp [hx], by omega, by omega, by omega⟩
  obtain ⟨y1, c1, e1, h1, b1, k1⟩ := s1
  rw [e1]
  simp only [Option.bind_some]
  have s2 : ∃ y c : Nat, (bif decide ((65536 : Int) ≤ y1) then some (shrI .u64 (y1 : Int) 16, w64 ((c1 : Int) + 16)) else some ((y1 : Int), (c1 : Int))) = some ((y : Int), (c : Int)) ∧ y < 65536 ∧ bl x = bl y + c ∧ c ≤ 48 := by
    by_cases hx : (65536 : Int) ≤ y1
    · have e := shr_nat y1 16 (by omega)
      refine ⟨y1 / 2 ^ 16, c1 + 16, ?_, ?_, by rw [b1, bl_shift (x := y1) (k := 16) (by omega)]; omega, by omega⟩
      · simp only [hx, decide_true, cond_true]; rw [← e, w64_id (by omega) (by omega)]; rfl
      · omega
    · exact ⟨y1, c1, by simp [hx], by omega, by omega, by omega⟩
  obtain ⟨y2, c2, e2, h2, b2, k2⟩ := s2
  rw [e2]
  simp only [Option.bind_some]
  have s3 : ∃ y c : Nat, (bif decide ((256 : Int) ≤ y2) then some (shrI .u64 (y2 : Int) 8, w64 ((c2 : Int) + 8)) else some ((y2 : Int), (c2 : Int))) = some ((y : Int), (c : Int)) ∧ y < 256 ∧ bl x = bl y + c ∧ c ≤ 56 := by
    by_cases hx : (256 : Int) ≤ y2
    · have e := shr_nat y2 8 (by omega)
      refine ⟨y2 / 2 ^ 8, c2 + 8, ?_, ?_, by rw [b2, bl_shift (x := y2) (k := 8) (by omega)]; omega, by omega⟩
      · simp only [hx, decide_true, cond_true]; rw [← e, w64_id (by omega) (by omega)]; rfl
      · omega
    · exact ⟨y2, c2, by simp [hx], by omega, by omega, by omega⟩
  obtain ⟨y3, c3, e3, h3, b3, k3⟩ := s3
  rw [e3]
  simp only [Option.bind_some]
  have hw : IntKind.u8.wrap (y3 : Int) = y3 := by
    simp [IntKind.wrap, IntKind.signed, IntKind.bits]; omega
  rw [hw]
  have ht := bl_table ⟨y3, h3⟩
  cases hi : idx str1 (y3 : Int) with
  | none => simp [hi] at ht
  | some v =>
    simp only [hi, Option.map_some, Option.some.injEq] at ht
    have hb : bl y3 ≤ 8 := (bl_le y3 8).2 (by omega)
    simp only [Option.bind_some, ht]
    rw [w64_id (x := ((bl y3 : Nat) : Int)) (by omega) (by omega), w64_id (by omega) (by omega), b3]
    congr 1
    omega

theorem most_eq (n : Int) (hn : In n) : dispute_Most n = some (if n < 1 then 0 else ((bl (n - 1).toNat : Nat) : Int)) := by
  unfold dispute_Most
  by_cases h : n < 1
  · simp [h]
  · have := hn.1; have := hn.2
    have e : IntKind.u64.wrap (w64 (n - 1)) = (((n - 1).toNat : Nat) : Int) := by
      rw [w64_id (by omega) (by omega)]
      simp [IntKind.wrap, IntKind.signed, IntKind.bits]; omega
    simp only [h, decide_false, cond_false, if_false]
    rw [e, len64_eq _ (by omega)]
    rfl

theorem refMost_loop (n : Int) (h1 : 1 ≤ n) (h2 : n ≤ 9223372036854775807) : ∀ (d h fuel : Nat), h + d = 62 → d + 1 ≤ fuel → h ≤ bl (n - 1).toNat →
    iter (culpritref32_Most_loop1 n) fuel (h : Int) = some (((min 62 (bl (n - 1).toNat) : Nat)) : Int)
  | d, h, 0, _, hf, _ => by omega
  | 0, h, fuel + 1, hd, _, hb => by
    have hc : ¬ (h : Int) < 62 := by omega
    simp only [iter, culpritref32_Most_loop1, hc, decide_false, Bool.not_false, Bool.true_or, chk, cond_true, cond_false, Option.bind_some]
    congr 1
    omega
  | d + 1, h, fuel + 1, hd, hf, hb => by
    have hc : (h : Int) < 62 := by omega
    have hu : IntKind.u64.wrap (h : Int) = h := by simp [IntKind.wrap, IntKind.signed, IntKind.bits]; omega
    have hpos : (0 : Int) ≤ h := by omega
    have hp : (2 : Nat) ^ h ≤ 2 ^ 61 := Nat.pow_le_pow_right (by omega) (by omega)
    have hs : shlI .i64 1 (h : Int) = ((2 ^ h : Nat) : Int) := by
      have e : min ((h : Int)).toNat IntKind.i64.bits = h := by simp [IntKind.bits]; omega
      unfold shlI
      rw [e, Int.one_mul]
      have e2 : ((2 : Int) ^ h) = ((2 ^ h : Nat) : Int) := by simp
      rw [e2]
      generalize (2 : Nat) ^ h = y at hp
      exact w64_id (by omega) (by omega)
    simp only [iter, culpritref32_Most_loop1, hc, decide_true, Bool.not_true, Bool.false_or, hu, hpos, chk, cond_true, hs]
    by_cases hlt : (((2 ^ h : Nat)) : Int) < n
    · have hb' : h + 1 ≤ bl (n - 1).toNat := by
        rcases Nat.lt_or_ge h (bl (n - 1).toNat) with h3 | h3
        · exact h3
        · have := (bl_le (n - 1).toNat h).1 h3; omega
      have hw : w64 ((h : Int) + 1) = ((h + 1 : Nat) : Int) := by rw [w64_id (by omega) (by omega)]; omega
      simp only [hlt, decide_true, cond_true, Option.bind_some, hw]
      exact refMost_loop n h1 h2 d (h + 1) fuel (by omega) (by omega) hb'
    · have hb' : bl (n - 1).toNat = h := by
        have := (bl_le (n - 1).toNat h).2 (by omega); omega
      simp only [hlt, decide_false, cond_false, Option.bind_some]
      congr 1
      omega

theorem refMost_eq (n : Int) (hn : In n) : culpritref32_Most n = some (if n < 1 then 0 else ((bl (n - 1).toNat : Nat) : Int)) := by
  unfold culpritref32_Most
  have := hn.1; have := hn.2
  by_cases h : n < 1
  · have hu : IntKind.u64.wrap (0 : Int) = 0 := by decide
    have hs : shlI .i64 1 (0 : Int) = 1 := by decide
    have hc : ¬ (1 : Int) < n := by omega
    have e : iter (culpritref32_Most_loop1 n) (((62 : Int) - 0).toNat + 2) 0 = some 0 := by
      show Option.bind (culpritref32_Most_loop1 n 0) _ = some 0
      have e0 : culpritref32_Most_loop1 n 0 = some (Sum.inr 0) := by
        unfold culpritref32_Most_loop1
        simp only [hu, hs, hc]
        rfl
      rw [e0]
      rfl
    rw [e]
    simp [h]
  · have e := refMost_loop n (by omega) (by omega) 62 0 (((62 : Int) - 0).toNat + 2) (by omega) (by omega) (by omega)
    rw [show ((0 : Nat) : Int) = 0 from rfl] at e
    rw [e]
    have h63 : bl (n - 1).toNat ≤ 63 := (bl_le _ 63).2 (by omega)
    simp only [Option.bind_some, h, if_false]
    by_cases hb : bl (n - 1).toNat ≤ 62
    · have hm : min 62 (bl (n - 1).toNat) = bl (n - 1).toNat := by omega
      rw [hm]
      have hn' : ¬ (4611686018427387904 : Int) < n := by
        have := (bl_le (n - 1).toNat 62).1 hb; omega
      simp only [hn', decide_false]
      by_cases h62 : (((bl (n - 1).toNat : Nat) : Int) == 62) = true
      · simp
      · simp
    · have hm : min 62 (bl (n - 1).toNat) = 62 := by omega
      have hn' : (4611686018427387904 : Int) < n := by
        rcases Int.lt_or_le 4611686018427387904 n with h3 | h3
        · exact h3
        · have := (bl_le (n - 1).toNat 62).2 (by omega); omega
      rw [hm]
      have hw : w64 63 = 63 := by decide
      have e63 : bl (n - 1).toNat = 63 := by omega
      rw [e63]
      simp [hn', hw]

end Go.Proofs.Ytimljgafbpbceaa
