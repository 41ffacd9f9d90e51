/-
  The reference models' small functions: numbers drawn from a list, lists compared. Over Fn of all seven laws. No program is walked here.
  The reference models' comparison of verdicts. Over Fn of all seven laws. No program is walked here.
-/
import Derived.Test.YtknnphhepnbaoaaGreatDoorLawsA
namespace Go.Proofs.YtknnphhepnbaoaaGreatDoor
open Go.Sm
theorem around_eq {x m : Int} (hx : i64 x) (hm : 0 < m) : ∃ r, culpritref01_Around x m = some r ∧ 0 ≤ r ∧ r < m := by
 unfold culpritref01_Around
 have hz : (m == 0) = false := by rw [beq_eq_false_iff_ne]; omega
 obtain ⟨h1, h2⟩ := hx
 have key : ∀ y : Int, 0 ≤ y → 0 ≤ Int.tmod y m ∧ Int.tmod y m < m := fun y hy => by
  rw [Int.tmod_eq_emod_of_nonneg hy]
  exact ⟨Int.emod_nonneg _ (by omega), Int.emod_lt_of_pos _ hm⟩
 by_cases h0 : x < 0
 ·have e1 : w64 (0 - w64 (x + 1)) = -(x + 1) := by
   rw [w64_id (x := x + 1) (by omega) (by omega), w64_id (by omega) (by omega)]; omega
  rw [dec_t h0, cond_true, e1, hz]
  exact ⟨_, rfl, key _ (by omega)⟩
 ·rw [dec_f h0, cond_false, hz]
  exact ⟨_, rfl, key _ (by omega)⟩
theorem at_eq {l : List Int} {k m : Int} (hl : ∀ n ∈ l, i64 n) (hm : 0 < m) : ∃ r, culpritref01_At l k m = some r ∧ 0 ≤ r ∧ r < m := by
 unfold culpritref01_At
 by_cases h0 : k < 0
 ·rw [dec_t h0]
  exact ⟨0, rfl, by omega, hm⟩
 by_cases h1 : (l.length : Int) ≤ k
 ·rw [dec_f h0, dec_t h1]
  exact ⟨0, rfl, by omega, hm⟩
 ·obtain ⟨v, hv, hv2⟩ := idx_lt (a := l) (i := k) (by omega) (by omega)
  obtain ⟨r, e1, e2⟩ := around_eq (hl v (List.mem_of_getElem? hv2)) hm
  rw [dec_f h0, dec_f h1, hv]
  simp only [cond_false, Option.bind_some, e1]
  exact ⟨r, rfl, e2⟩
theorem sameNames_eq (a b : List Edit) (hn : Small a) : culpritref22_SameNames a b = some (decide (a = b)) := by
 unfold culpritref22_SameNames
 by_cases hl : a.length = b.length
 ·have e0 : ((a.length : Int) != (b.length : Int)) = false := by simp [hl]
  rw [e0, cond_false]
  have h := it_all (f := culpritref22_SameNames_loop1 a b) (z := false) a (fun i x => decide (b[i]? = some x)) hn
   (fun i x hx => by
    have hlt := lt_of_at hx
    have hb : b[i]? = some b[i] := List.getElem?_eq_getElem (by omega)
    unfold culpritref22_SameNames_loop1
    rw [dec_t (show (i : Int) < (a.length : Int) by omega), cond_true, idx_nat hx, idx_nat hb]
    simp only [Option.bind_some, hb, Option.some.injEq]
    generalize b[i] = y
    obtain ⟨x1, x2⟩ := x
    obtain ⟨y1, y2⟩ := y
    have e1 : ((x1 : Int) == y1) = decide (y1 = x1) := by rw [Bool.eq_iff_iff, beq_iff_eq, decide_eq_true_eq]; exact eq_comm
    have e2 : ((x2 : Int) == y2) = decide (y2 = x2) := by rw [Bool.eq_iff_iff, beq_iff_eq, decide_eq_true_eq]; exact eq_comm
    rw [e1, e2]
    by_cases h1 : y1 = x1 <;> by_cases h2 : y2 = x2 <;> simp [h1, h2, succ64 hn hx])
   (by unfold culpritref22_SameNames_loop1; simp)
  rw [h, allI_eq hl]
  cases decide (a = b) <;> rfl
 ·have e0 : ((a.length : Int) != (b.length : Int)) = true := by simp; omega
  rw [e0, cond_true, dec_f (show ¬ a = b from fun e => hl (by rw [e]))]
end Go.Proofs.YtknnphhepnbaoaaGreatDoor
namespace Go.Proofs.YtknnphhepnbaoaaGreatDoor
open Go.Sm
set_option synthInstance.maxSize 1000
set_option synthInstance.maxHeartbeats 400000
instance decVd : DecidableEq Vd := instDecidableEqProd (α := Int) (β := List UInt8 × List (List Edit) × List Int × Int × (List Int × List Int))
theorem sameInts_eq (a b : List Int) (hn : Small a) : culpritref01_SameInts a b = some (decide (a = b)) := by
 unfold culpritref01_SameInts
 by_cases hl : a.length = b.length
 ·have e0 : ((a.length : Int) != (b.length : Int)) = false := by simp [hl]
  rw [e0, cond_false]
  have h := it_all (f := culpritref01_SameInts_loop1 a b) (z := false) a (fun i x => decide (b[i]? = some x)) hn
   (fun i x hx => by
    have hlt := lt_of_at hx
    have hb : b[i]? = some b[i] := List.getElem?_eq_getElem (by omega)
    unfold culpritref01_SameInts_loop1
    rw [dec_t (show (i : Int) < (a.length : Int) by omega), cond_true, idx_nat hx, idx_nat hb]
    simp only [Option.bind_some, hb, Option.some.injEq]
    generalize b[i] = y
    have e1 : ((x : Int) != y) = !decide (y = x) := by
     rw [bne, Bool.not_inj_iff, Bool.eq_iff_iff, beq_iff_eq, decide_eq_true_eq]; exact eq_comm
    rw [e1]
    by_cases h1 : y = x <;> simp [h1, succ64 hn hx])
   (by unfold culpritref01_SameInts_loop1; simp)
  rw [h, allI_eq hl]
  cases decide (a = b) <;> rfl
 ·have e0 : ((a.length : Int) != (b.length : Int)) = true := by simp; omega
  rw [e0, cond_true, dec_f (show ¬ a = b from fun e => hl (by rw [e]))]
theorem sameLimbs_eq (a b : List Int) (hn : Small a) : culpritref05_SameLimbs a b = some (decide (a = b)) := by
 unfold culpritref05_SameLimbs
 by_cases hl : a.length = b.length
 ·have e0 : ((a.length : Int) != (b.length : Int)) = false := by simp [hl]
  rw [e0, cond_false]
  have h := it_all (f := culpritref05_SameLimbs_loop1 a b) (z := false) a (fun i x => decide (b[i]? = some x)) hn
   (fun i x hx => by
    have hlt := lt_of_at hx
    have hb : b[i]? = some b[i] := List.getElem?_eq_getElem (by omega)
    unfold culpritref05_SameLimbs_loop1
    rw [dec_t (show (i : Int) < (a.length : Int) by omega), cond_true, idx_nat hx, idx_nat hb]
    simp only [Option.bind_some, hb, Option.some.injEq]
    generalize b[i] = y
    have e1 : ((x : Int) != y) = !decide (y = x) := by
     rw [bne, Bool.not_inj_iff, Bool.eq_iff_iff, beq_iff_eq, decide_eq_true_eq]; exact eq_comm
    rw [e1]
    by_cases h1 : y = x <;> simp [h1, succ64 hn hx])
   (by unfold culpritref05_SameLimbs_loop1; simp)
  rw [h, allI_eq hl]
  cases decide (a = b) <;> rfl
 ·have e0 : ((a.length : Int) != (b.length : Int)) = true := by simp; omega
  rw [e0, cond_true, dec_f (show ¬ a = b from fun e => hl (by rw [e]))]
theorem sameRatio_eq {a b : List Int × List Int} (h1 : Small a.1) (h2 : Small a.2) : culpritref05_Same (a.1, a.2) (b.1, b.2) = some (decide (a = b)) := by
 unfold culpritref05_Same
 simp only
 rw [sameLimbs_eq _ _ h1]
 simp only [Option.bind_some]
 by_cases e1 : a.1 = b.1
 ·rw [dec_t e1, cond_true, sameLimbs_eq _ _ h2]
  simp only [Option.bind_some, cond_true]
  congr 1
  rw [Bool.eq_iff_iff, decide_eq_true_eq, decide_eq_true_eq]
  exact ⟨fun e2 => Prod.ext e1 e2, fun e => by rw [e]⟩
 ·rw [dec_f e1, dec_f (fun e => e1 (by rw [e]))]
  rfl
structure SmallV (v : Vd) : Prop where
 sets : Small v.2.2.1
 each : ∀ l ∈ v.2.2.1, Small l
 word : Small v.2.2.2.1
 n : Small v.2.2.2.2.2.1
 d : Small v.2.2.2.2.2.2
theorem same_eq {v w : Vd} (h : SmallV v) : culpritref36_Same v w = some (decide (v = w)) := by
 unfold culpritref36_Same
 obtain ⟨k, t, ss, wd, m, n, d⟩ := v
 obtain ⟨k', t', ss', wd', m', n', d'⟩ := w
 obtain ⟨g1, g2, g3, g4, g5⟩ := h
 simp only at g1 g2 g3 g4 g5 ⊢
 have hr := sameRatio_eq (a := (n, d)) (b := (n', d')) g4 g5
 simp only at hr
 have bi : ∀ a b : Int, (a != b) = !decide (a = b) := fun a b => by by_cases h : a = b <;> simp [h]
 have bt : (t == t') = decide (t = t') := by by_cases h : t = t' <;> simp [h]
 rw [bi k k', bt, bi m m', sameInts_eq _ _ g3, hr]
 by_cases e1 : k = k'
 ·by_cases e2 : t = t'
  ·by_cases e3 : ss.length = ss'.length
   ·have b3 : ((ss.length : Int) != (ss'.length : Int)) = false := by simp [e3]
    rw [dec_t e1, dec_t e2, b3]
    by_cases e4 : wd = wd'
    ·by_cases e5 : m = m'
     ·by_cases e6 : ((n, d) : List Int × List Int) = (n', d')
      ·rw [dec_t e4, dec_t e5, dec_t e6]
       have hl := it_all (f := culpritref36_Same_loop1 (k, t, ss, wd, m, n, d) (k', t', ss', wd', m', n', d')) (z := false) ss (fun i x => decide (ss'[i]? = some x)) g1
        (fun i x hx => by
         have hlt := lt_of_at hx
         have hb : ss'[i]? = some ss'[i] := List.getElem?_eq_getElem (by omega)
         unfold culpritref36_Same_loop1
         simp only
         rw [dec_t (show (i : Int) < (ss.length : Int) by omega), cond_true, idx_nat hx, idx_nat hb]
         simp only [Option.bind_some, hb, Option.some.injEq]
         generalize ss'[i] = y
         rw [sameNames_eq x y (g2 x (List.mem_of_getElem? hx))]
         simp only [Option.bind_some]
         by_cases h1 : x = y
         ·simp [h1, succ64 g1 hx]
         ·have h2 : ¬ y = x := fun e => h1 e.symm
          simp [h1, h2])
        (by unfold culpritref36_Same_loop1; simp)
       simp only [Bool.not_true, cond_false, Bool.not_false, cond_true, Option.bind_some, hl, allI_eq e3]
       have e7 : ((k, t, ss, wd, m, n, d) : Vd) = (k', t', ss', wd', m', n', d') ↔ ss = ss' := by
        simp only [Prod.mk.injEq] at e6 ⊢
        exact ⟨fun q => q.2.2.1, fun q => ⟨e1, e2, q, e4, e5, e6.1, e6.2⟩⟩
       by_cases e8 : ss = ss'
       ·rw [dec_t e8, dec_t (e7.2 e8)]; rfl
       ·rw [dec_f e8, dec_f (fun q => e8 (e7.1 q))]; rfl
      ·have hne : ¬ ((k, t, ss, wd, m, n, d) : Vd) = (k', t', ss', wd', m', n', d') := fun q => e6 (congrArg (fun v : Vd => v.2.2.2.2.2) q)
       rw [dec_t e4, dec_t e5, dec_f e6, dec_f hne]
       rfl
     ·have hne : ¬ ((k, t, ss, wd, m, n, d) : Vd) = (k', t', ss', wd', m', n', d') := fun q => e5 (congrArg (fun v : Vd => v.2.2.2.2.1) q)
      rw [dec_t e4, dec_f e5, dec_f hne]
      rfl
    ·have hne : ¬ ((k, t, ss, wd, m, n, d) : Vd) = (k', t', ss', wd', m', n', d') := fun q => e4 (congrArg (fun v : Vd => v.2.2.2.1) q)
     rw [dec_f e4, dec_f hne]
     rfl
   ·have b3 : ((ss.length : Int) != (ss'.length : Int)) = true := by simp; omega
    have hne : ¬ ((k, t, ss, wd, m, n, d) : Vd) = (k', t', ss', wd', m', n', d') := fun q => e3 (congrArg (fun v : Vd => v.2.2.1.length) q)
    rw [dec_t e1, dec_t e2, b3, dec_f hne]
    rfl
  ·have hne : ¬ ((k, t, ss, wd, m, n, d) : Vd) = (k', t', ss', wd', m', n', d') := fun q => e2 (congrArg (fun v : Vd => v.2.1) q)
   rw [dec_t e1, dec_f e2, dec_f hne]
   rfl
 ·have hne : ¬ ((k, t, ss, wd, m, n, d) : Vd) = (k', t', ss', wd', m', n', d') := fun q => e1 (congrArg (fun v : Vd => v.1) q)
  rw [dec_f e1, dec_f hne]
  rfl
end Go.Proofs.YtknnphhepnbaoaaGreatDoor
