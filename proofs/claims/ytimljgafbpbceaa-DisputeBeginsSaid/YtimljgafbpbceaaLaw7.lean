/-
  DisputeBegins answers true for all numbers. No program is walked here.
-/
import Derived.Test.YtimljgafbpbceaaLaw6
namespace Go.Proofs.Ytimljgafbpbceaa
open Go.Sm

theorem halve_asked (g : Gm) (a b : List (List Int)) : (halve g a b).1.2.2.length ≤ g.2.2.length + 1 := by
  unfold halve
  repeat' split
  all_goals simp

theorem begins_step3 {x4 x5 x6 : Int} {s36 : (List (List (List Int))) × Int} {s45 : Int} {a b c : List (List Int)} {r80 : Gm × Int} {q1 q2 t : Int} {g : Gm}
    (hx : idx s36.1 s36.2 = some a) (hy : idx s36.1 s45 = some b)
    (hg : idx [(r80.1.1, r80.1.2.1, r80.1.2.2), (x4, x5, ([] : List Int)), (w64 (q1 - 1), q2, [x6]), (-1, (c.length : Int), ([] : List Int))] t = some g) (hl : g.2.2.length ≤ 1) :
    culpritlaw32_DisputeBegins_loop3 x4 x5 x6 s36 s45 a b r80 q1 q2 c t = some (Sum.inl (w64 (t + 1))) := by
  have hlt := (idx_some hg).2.2
  have h0 := (idx_some hg).1
  have hlt' : t < ([(r80.1.1, r80.1.2.1, r80.1.2.2), (x4, x5, ([] : List Int)), (w64 (q1 - 1), q2, [x6]), (-1, (c.length : Int), ([] : List Int))].length : Int) := by omega
  have e : ((g.1, g.2.1, g.2.2) : Gm) = g := rfl
  have ha := halve_asked g a b
  have hs := sameGame_self (halve g a b).1 (by omega)
  unfold culpritlaw32_DisputeBegins_loop3
  simp only [hlt', decide_true, cond_true, hg, Option.bind_some, e, halve_eq g a b (by omega), hx, hy, refHalve_eq g a b (by omega), bne_self_eq_false, Bool.not_false, game_eq]
  have e2 : (((halve g a b).1.1, (halve g a b).1.2.1, (halve g a b).1.2.2) : Gm) = (halve g a b).1 := rfl
  simp only [e2, hs, Option.bind_some, cond_false, Bool.not_true]

theorem begins_loop3 {x4 x5 x6 : Int} {s36 : (List (List (List Int))) × Int} {s45 : Int} {a b c : List (List Int)} {r80 : Gm × Int} {q1 q2 : Int}
    (hx : idx s36.1 s36.2 = some a) (hy : idx s36.1 s45 = some b) (h8 : r80.1.2.2 = []) :
    iter (culpritlaw32_DisputeBegins_loop3 x4 x5 x6 s36 s45 a b r80 q1 q2 c) (((([(r80.1.1, r80.1.2.1, r80.1.2.2), (x4, x5, ([] : List Int)), (w64 (q1 - 1), q2, [x6]), (-1, (c.length : Int), ([] : List Int))].length : Int) : Int) - 0).toNat + 2) 0 = some (Sum.inl ()) := by
  have s0 := begins_step3 (x4 := x4) (x5 := x5) (x6 := x6) (c := c) (r80 := r80) (q1 := q1) (q2 := q2) (t := 0) hx hy rfl (by simp [h8])
  have s1 := begins_step3 (x4 := x4) (x5 := x5) (x6 := x6) (c := c) (r80 := r80) (q1 := q1) (q2 := q2) (t := 1) hx hy rfl (by simp)
  have s2 := begins_step3 (x4 := x4) (x5 := x5) (x6 := x6) (c := c) (r80 := r80) (q1 := q1) (q2 := q2) (t := 2) hx hy rfl (by simp)
  have s3 := begins_step3 (x4 := x4) (x5 := x5) (x6 := x6) (c := c) (r80 := r80) (q1 := q1) (q2 := q2) (t := 3) hx hy rfl (by simp)
  have s4 : culpritlaw32_DisputeBegins_loop3 x4 x5 x6 s36 s45 a b r80 q1 q2 c 4 = some (Sum.inr (Sum.inl ())) := by
    unfold culpritlaw32_DisputeBegins_loop3
    simp
  have w0 : w64 (0 + 1) = 1 := by decide
  have w1 : w64 (1 + 1) = 2 := by decide
  have w2 : w64 (2 + 1) = 3 := by decide
  have w3 : w64 (3 + 1) = 4 := by decide
  rw [w0] at s0; rw [w1] at s1; rw [w2] at s2; rw [w3] at s3
  show iter _ 6 0 = _
  simp only [iter, s0, s1, s2, s3, s4, Option.bind_some]

theorem begin0_asked (a b : List (List Int)) : (begin0 a b).1.2.2 = [] := by
  unfold begin0
  repeat' split
  all_goals rfl

theorem begins_step2 {x4 x5 x6 : Int} {s36 : (List (List (List Int))) × Int} {s45 : Int} {a b : List (List Int)} (h4 : In x4) (h5 : In x5)
    (hx : idx s36.1 s36.2 = some a) (hy : idx s36.1 s45 = some b) :
    culpritlaw32_DisputeBegins_loop2 x4 x5 x6 s36 s45 = some (Sum.inl (w64 (s45 + 1))) := by
  have hlt := (idx_some hy).2.2
  have h0 := (idx_some hy).1
  have hlt' : s45 < (s36.1.length : Int) := by omega
  obtain ⟨q1, e1, _, _⟩ := around_in h4 (m := 9) (by omega)
  obtain ⟨q2, e2, _, _⟩ := around_in h5 (m := 26) (by omega)
  have hs := sameGame_self (begin0 a b).1 (by rw [begin0_asked]; simp)
  have e3 : (((begin0 a b).1.1, (begin0 a b).1.2.1, (begin0 a b).1.2.2) : Gm) = (begin0 a b).1 := rfl
  have hl := begins_loop3 (x4 := x4) (x5 := x5) (x6 := x6) (s36 := s36) (s45 := s45) (a := a) (b := b) (c := a) (r80 := begin0 a b) (q1 := q1) (q2 := q2) hx hy (begin0_asked a b)
  unfold culpritlaw32_DisputeBegins_loop2
  simp only [hlt', decide_true, cond_true, hx, hy, own_eq, Option.bind_some, begin_eq, refBegin_eq, parts_eq, refParts_eq, bne_self_eq_false, Bool.not_false, game_eq, e3, hs, cond_false, Bool.not_true, e1, e2]
  simp only [e3] at hl
  rw [hl]
  rfl

theorem begins_loop2 {x4 x5 x6 : Int} {s36 : (List (List (List Int))) × Int} {a : List (List Int)} (h4 : In x4) (h5 : In x5) (hx : idx s36.1 s36.2 = some a) (hn : s36.1.length ≤ 1000) : ∀ (d k fuel : Nat), k + d = s36.1.length → d + 1 ≤ fuel →
    iter (culpritlaw32_DisputeBegins_loop2 x4 x5 x6 s36) fuel (k : Int) = some (Sum.inl ())
  | d, k, 0, _, h => by omega
  | 0, k, fuel + 1, hk, _ => by
    have h1 : ¬ (k : Int) < (s36.1.length : Int) := by omega
    simp only [iter, culpritlaw32_DisputeBegins_loop2, h1, decide_false, cond_false, Option.bind_some]
  | d + 1, k, fuel + 1, hk, hf => by
    obtain ⟨b, hb, _⟩ := idx_lt (a := s36.1) (i := (k : Int)) (by omega) (by omega)
    have hw : w64 ((k : Int) + 1) = ((k + 1 : Nat) : Int) := by rw [w64_id (by omega) (by omega)]; omega
    simp only [iter, begins_step2 h4 h5 hx hb, Option.bind_some, hw]
    exact begins_loop2 h4 h5 hx hn d (k + 1) fuel (by omega) (by omega)

theorem begins_loop1 {x4 x5 x6 : Int} (h4 : In x4) (h5 : In x5) (l : List (List (List Int))) (hn : l.length ≤ 1000) : ∀ (d i fuel : Nat), i + d = l.length → d + 1 ≤ fuel →
    iter (culpritlaw32_DisputeBegins_loop1 x4 x5 x6) fuel (l, (i : Int)) = some (Sum.inl ())
  | d, i, 0, _, h => by omega
  | 0, i, fuel + 1, hi, _ => by
    have h1 : ¬ (i : Int) < (l.length : Int) := by omega
    simp only [iter, culpritlaw32_DisputeBegins_loop1, h1, decide_false, cond_false, Option.bind_some]
  | d + 1, i, fuel + 1, hi, hf => by
    obtain ⟨a, ha, _⟩ := idx_lt (a := l) (i := (i : Int)) (by omega) (by omega)
    have h1 : (i : Int) < (l.length : Int) := by omega
    have hw : w64 ((i : Int) + 1) = ((i + 1 : Nat) : Int) := by rw [w64_id (by omega) (by omega)]; omega
    have hl := begins_loop2 (x6 := x6) (s36 := (l, (i : Int))) h4 h5 ha hn l.length 0 ((((l.length : Int) : Int) - 0).toNat + 2) (by simp) (by omega)
    rw [show ((0 : Nat) : Int) = 0 from rfl] at hl
    have step : culpritlaw32_DisputeBegins_loop1 x4 x5 x6 (l, (i : Int)) = some (Sum.inl (l, ((i + 1 : Nat) : Int))) := by
      unfold culpritlaw32_DisputeBegins_loop1
      simp only [h1, decide_true, cond_true]
      rw [hl]
      simp only [Option.bind_some, hw]
    simp only [iter, step, Option.bind_some]
    exact begins_loop1 h4 h5 l hn d (i + 1) fuel (by omega) (by omega)

theorem begins_true (x0 x1 : List Int) (how by_ low high n : Int) (hh : In how) (hb : In by_) (h4 : In low) (h5 : In high) (h6 : In n) : culpritlaw32_DisputeBegins x0 x1 how by_ low high n = some true := by
  unfold culpritlaw32_DisputeBegins
  obtain ⟨a0, ha0, hla0⟩ := small_some x0
  obtain ⟨a1, ha1, hla1⟩ := small_some x1
  obtain ⟨b, hb', hlb⟩ := bent_some a0 how by_ (by omega) hh hb
  obtain ⟨q, hq, q1, q2⟩ := around_in hb (m := 3) (by omega)
  obtain ⟨p, hp, p1, p2⟩ := around_in h6 (m := 40) (by omega)
  have hw : w64 (999 + q) = 999 + q := w64_id (by omega) (by omega)
  have hc : decide (0 ≤ 999 + q ∧ (999 + q) * 16 ≤ 281474976710656 ∧ 999 + q ≤ maxLen) = true := by
    rw [decide_eq_true_eq]; simp only [maxLen]; omega
  have hl := begins_loop1 (x6 := n) h4 h5 [a0, a1, b, List.replicate (999 + q).toNat (List.replicate 16 0), ([] : List (List Int))] (by simp) 5 0 7 (by simp) (by omega)
  rw [show ((0 : Nat) : Int) = 0 from rfl] at hl
  simp only [ha0, ha1, hb', hq, Option.bind_some, hw, chk, hc, cond_true]
  have e7 : (((([a0, a1, b, List.replicate (999 + q).toNat (List.replicate 16 0), ([] : List (List Int))].length : Int) : Int) - 0).toNat + 2) = 7 := rfl
  rw [e7, hl]
  have hp' : In p := ⟨by omega, by omega⟩
  simp only [Option.bind_some, most_eq n h6, refMost_eq n h6, beq_self_eq_true, cond_true, hp, most_eq p hp', refMost_eq p hp', lives_eq]

end Go.Proofs.Ytimljgafbpbceaa
