/-
  ReportBegins: what the function computes is true, for sentences of at most 1000000000 signs. No program is walked here.
-/
import Derived.Test.YtknnphhepnbaoaaGreatDoorLawsG
import Derived.Test.YtknnphhepnbaoaaGreatDoorLawLives

namespace Go.Proofs.YtknnphhepnbaoaaGreatDoor
open Go.Sm
theorem runP_begin : ∀ (r : List (List UInt8)) (k : Nat) (v : Vd) (i : Nat), runP r k v = .inr i → ∃ j w, i = k + j + 1 ∧ j < r.length ∧ runP (r.take j) k v = .inl w
  | [], _, _, _, h => by simp [runP] at h
  | s :: r, k, v, i, h => by
    simp only [runP] at h
    cases hs : stepP s v with
    | none =>
      rw [hs] at h
      simp only [Sum.inr.injEq] at h
      exact ⟨0, v, by omega, by simp, rfl⟩
    | some w =>
      rw [hs] at h
      obtain ⟨j, u, h1, h2, h3⟩ := runP_begin r (k + 1) w i h
      refine ⟨j + 1, u, by omega, by simp only [List.length_cons]; omega, ?_⟩
      simp only [List.take_succ_cons, runP, hs]
      exact h3
theorem parseL_begin {x : List (List UInt8)} {v : Vd} {n : Int} (h : parseL x = (v, n, 2)) : ∃ k : Nat, n = (k : Int) ∧ k < x.length ∧ ∃ w e, parseL (x.take k) = (w, n, e) ∧ (e = 0 ∨ e = 3) := by
  match x, h with
  | [], h => simp [parseL] at h
  | s :: r, h =>
    simp only [parseL] at h
    split at h
    · rename_i hf
      cases hr : runP r 0 (firstL s).1 with
      | inl w =>
        rw [hr] at h
        simp only at h
        split at h <;> simp at h
      | inr i =>
        rw [hr] at h
        simp only [Prod.mk.injEq] at h
        obtain ⟨j, w, h1, h2, h3⟩ := runP_begin r 0 _ i hr
        refine ⟨i, h.2.1.symm, by simp only [List.length_cons]; omega, ?_⟩
        rw [show i = j + 1 by omega, List.take_succ_cons]
        simp only [parseL]
        rw [if_pos hf, h3]
        have hlen : (((s :: r.take j).length : Nat) : Int) = n := by
          rw [← h.2.1]
          simp only [List.length_cons, List.length_take]
          omega
        simp only
        split
        · exact ⟨_, _, by rw [hlen], .inl rfl⟩
        · exact ⟨_, _, by rw [hlen], .inr rfl⟩
    · simp only [Prod.mk.injEq] at h
      exact ⟨0, h.2.1.symm, by simp, vd0, 3, by rw [← h.2.1]; rfl, .inr rfl⟩
theorem begins_true {l : List Int} {a h b : Int} {raw : List (List UInt8)} (hl : ∀ n ∈ l, i64 n) (ia : i64 a) (ih : i64 h) (ib : i64 b) (hr : ∀ s ∈ raw, s.length ≤ 1000000000) : culpritlaw37_ReportBegins l a h b raw = some true := by
  obtain ⟨v, hv, mv⟩ := made_eq hl
  have PV := properB_iff.1 mv.p
  have pv1 := PV.many
  have pv2 := (possB_ok PV.word).1
  obtain ⟨t, t1, t2, t3⟩ := n37_Print_eq mv.r (by show v.2.2.1.length < _; omega) (fun l hl => by have := (rising_ok (setsB_mem _ _ PV.sets l hl)).1; show l.length < _; omega) (by show v.2.2.2.1.length < _; omega)
  rw [if_pos mv.p] at t3
  obtain ⟨x1, x2⟩ := textL_len mv.p t2
  obtain ⟨c, c1, c2, c3⟩ := changed_eq (x := textL t v) (K := 13000) (by omega) x2 (by omega) (by omega) ia ih ib
  obtain ⟨d, d1, d2, d3⟩ := changed_eq (x := c) (K := 13000) (by omega) c3 (by omega) (by omega) ib (i64_w64 (Int.tdiv h 6)) ia
  unfold culpritlaw37_ReportBegins
  rw [hv]
  simp only [Option.bind_some]
  rw [show (v.1, v.2.1, v.2.2.1, v.2.2.2.1, v.2.2.2.2.1, (v.2.2.2.2.2.1, v.2.2.2.2.2.2)) = v from rfl, t3]
  simp only [Option.bind_some]
  rw [c1]
  simp only [Option.bind_some]
  rw [show (!((6 : Int) == 0)) = true from rfl, chk_t rfl, d1]
  simp only [Option.bind_some, List.nil_append]
  obtain ⟨q, hq, hq1, hq2⟩ : ∃ q : Nat, (if (8 : Int) < (raw.length : Int) then (8 : Int) else (raw.length : Int)) = (q : Int) ∧ q ≤ 8 ∧ q ≤ raw.length := by
    by_cases h8 : 8 < raw.length
    · exact ⟨8, by rw [if_pos (by omega)]; rfl, by omega, by omega⟩
    · exact ⟨raw.length, by rw [if_neg (by omega)], by omega, by omega⟩
  rw [hq]
  simp only [Int.toNat_natCast, Int.toNat_zero, List.drop_zero]
  rw [chk_t (appOk_le (by simp only [List.length_nil]; omega) (by omega)), chk_d ⟨by omega, by omega, by omega⟩, chk_t (appOk_le (by rw [List.length_take]; omega) (by omega))]
  obtain ⟨ls, hls⟩ : ∃ ls, ls = [c, d, textL t v ++ raw.take q] := ⟨_, rfl⟩
  have hok : ∀ x ∈ ls, Small x ∧ ∀ s ∈ x, s.length ≤ 1000000000 := fun x hx => by
    rw [hls] at hx
    simp only [List.mem_cons, List.not_mem_nil, or_false] at hx
    rcases hx with e | e | e <;> rw [e]
    · exact ⟨by show c.length < _; omega, fun s hs => by have := c3 s hs; omega⟩
    · exact ⟨by show d.length < _; omega, fun s hs => by have := d3 s hs; omega⟩
    · refine ⟨by show (textL t v ++ raw.take q).length < _; rw [List.length_append, List.length_take]; omega, fun s hs => ?_⟩
      rcases List.mem_append.1 hs with hs | hs
      · have := x2 s hs; omega
      · exact hr s (List.mem_of_mem_take hs)
  have hloop := it_all (f := culpritlaw37_ReportBegins_loop1 raw (textL t v, 0) c d) (z := false) ls (fun _ _ => true) (by rw [hls]; show (3 : Nat) < _; omega)
    (fun i x hx => by
      have hlt := lt_of_at hx
      obtain ⟨o1, o2⟩ := hok x (List.mem_of_getElem? hx)
      unfold culpritlaw37_ReportBegins_loop1
      simp only [List.nil_append]
      rw [hq]
      simp only [Int.toNat_natCast, Int.toNat_zero, List.drop_zero]
      rw [← hls, dec_t (show (i : Int) < (ls.length : Int) by omega), cond_true, idx_nat hx]
      simp only [Option.bind_some]
      rw [parse_all o2 o1]
      simp only [Option.bind_some]
      have hi3 : w64 ((i : Int) + 1) = (i : Int) + 1 := by
        have : ls.length = 3 := by rw [hls]; rfl
        exact w64_id (by omega) (by omega)
      obtain ⟨y, n, e, he⟩ : ∃ y n e, parseL x = (y, n, e) := ⟨_, _, _, rfl⟩
      rw [he]
      simp only
      by_cases h2 : e = 2
      · subst h2
        obtain ⟨k, rfl, hk, w, e', hw, he'⟩ := parseL_begin he
        rw [show ((2 : Int) != 2) = false from rfl, cond_false, dec_f (show ¬ (k : Int) < 0 by omega)]
        simp only [Bool.not_false, cond_true, Option.bind_some, cond_false]
        rw [dec_f (show ¬ (x.length : Int) ≤ (k : Int) by omega), cond_false, chk_d ⟨by omega, by omega, by omega⟩]
        rw [Int.toNat_natCast, parse_all (fun s hs => o2 s (List.mem_of_mem_take hs)) (by show (x.take k).length < _; rw [List.length_take]; have : x.length < 4611686018427387904 := o1; omega), hw]
        simp only [Option.bind_some]
        have e1 : (((k : Int)) != (k : Int)) = false := by simp
        rw [e1]
        rcases he' with rfl | rfl
        · simp only [cond_false]
          rw [hi3]; rfl
        · simp only [cond_false]
          rw [hi3]; rfl
      · rw [show (e != 2) = true by simp [h2], cond_true]
        simp only [Option.bind_some, cond_true]
        rw [hi3])
    (by
      unfold culpritlaw37_ReportBegins_loop1
      simp only [List.nil_append]
      rw [hq]
      simp only [Int.toNat_natCast, Int.toNat_zero, List.drop_zero]
      rw [← hls, dec_f (show ¬ (ls.length : Int) < (ls.length : Int) by omega)]
      rfl)
  have hall : allI (fun (_ : Nat) (_ : List (List UInt8)) => true) 0 ls = true := by rw [hls]; rfl
  rw [hall] at hloop
  rw [hloop]
  simp only [cond_true, Option.bind_some]
  rw [lives_true]
  rfl
end Go.Proofs.YtknnphhepnbaoaaGreatDoor
