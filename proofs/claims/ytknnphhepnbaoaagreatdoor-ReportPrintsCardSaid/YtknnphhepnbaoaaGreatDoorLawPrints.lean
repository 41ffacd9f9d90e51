/-
  ReportPrints: the law holds, in plain terms. No program is walked here.
-/
import Derived.Test.YtknnphhepnbaoaaGreatDoorLawsV
import Derived.Test.YtknnphhepnbaoaaGreatDoorLawLives
namespace Go.Proofs.YtknnphhepnbaoaaGreatDoor
open Go.Sm
structure Lim (K : Nat) (v : Vd) : Prop where
 n : limbs v.2.2.2.2.2.1
 d : limbs v.2.2.2.2.2.2
 sets : v.2.2.1.length ≤ K
 each : ∀ l ∈ v.2.2.1, l.length ≤ K
 word : v.2.2.2.1.length ≤ K
theorem Lim.any {K : Nat} {v : Vd} (h : Lim K v) (hK : K ≤ 1000000) : AnyV v :=
 ⟨h.n, h.d, by have := h.sets; show v.2.2.1.length < _; omega, fun l hl => by have := h.each l hl; show l.length < _; omega, by have := h.word; show v.2.2.2.1.length < _; omega⟩
theorem tmod_nat (a b : Nat) : Int.tmod (a : Int) (b : Int) = ((a % b : Nat) : Int) := by
 rw [Int.tmod_eq_emod_of_nonneg (by omega)]; omega
theorem idx_some {α : Type} {xs : List α} {k : Nat} (h : k < xs.length) : ∃ x, idx xs (k : Int) = some x ∧ x ∈ xs := ⟨xs[k], idx_nat (List.getElem?_eq_getElem h), List.getElem_mem h⟩
theorem limbs_lit : ∀ r ∈ [(([] : List Int), ([] : List Int)), ([1], ([] : List Int)), ([2], ([] : List Int)), ([2], [4]), ([1], [3])], limbs r.1 ∧ limbs r.2 := by
 unfold limbs; decide
theorem spoilt_eq {v : Vd} {a b : Int} {K : Nat} (h : Lim K v) (hK : K ≤ 900000) (ia : i64 a) (ib : i64 b) : ∃ w, culpritref37_Spoilt v a b = some w ∧ Lim (K + 1) w := by
 obtain ⟨r1, e1, p1, p2⟩ := around_eq ib (m := 64) (by omega)
 obtain ⟨r3, e3, p3, p4⟩ := around_eq ia (m := 8) (by omega)
 obtain ⟨i, rfl⟩ : ∃ i : Nat, r1 = i := ⟨r1.toNat, by omega⟩
 obtain ⟨j, rfl⟩ : ∃ j : Nat, r3 = j := ⟨r3.toNat, by omega⟩
 obtain ⟨hn, hd, h1, h2, h3⟩ := h
 have up : ∀ {w : Vd}, limbs w.2.2.2.2.2.1 → limbs w.2.2.2.2.2.2 → w.2.2.1 = v.2.2.1 → w.2.2.2.1 = v.2.2.2.1 → Lim (K + 1) w := fun {w} q1 q2 q3 q4 => ⟨q1, q2, by rw [q3]; omega, fun l hl => by rw [q3] at hl; have := h2 l hl; omega, by rw [q4]; omega⟩
 unfold culpritref37_Spoilt
 rw [e1]
 simp only [Option.bind_some, List.nil_append]
 rw [chk_t (b := !((6 : Int) == 0)) rfl, chk_t (appOk_le (by simp only [List.length_nil]; omega) (by omega)), chk_t (appOk_le (by simp only [List.length_nil]; omega) (by omega)), e3]
 simp only [Option.bind_some]
 have t6 : Int.tmod (i : Int) 6 = ((i % 6 : Nat) : Int) := tmod_nat i 6
 have t5 : Int.tmod (i : Int) 5 = ((i % 5 : Nat) : Int) := tmod_nat i 5
 have tl : Int.tmod (i : Int) (v.2.2.1.length : Int) = ((i % v.2.2.1.length : Nat) : Int) := tmod_nat i _
 rcases (show j = 0 ∨ j = 1 ∨ j = 2 ∨ j = 3 ∨ j = 4 ∨ j = 5 ∨ j = 6 ∨ j = 7 by omega) with rfl | rfl | rfl | rfl | rfl | rfl | rfl | rfl
 ·exact ⟨_, rfl, up hn hd rfl rfl⟩
 ·rw [t6]
  obtain ⟨x, hx, _⟩ := idx_some (xs := [([] : List UInt8), S_T_e632, S_a_b_c868, S_abcdefghijklmn_918a, S_9a_66e2, S_u_0bfe]) (k := i % 6) (by show i % 6 < 6; omega)
  rw [hx]
  exact ⟨_, rfl, up hn hd rfl rfl⟩
 ·exact ⟨_, rfl, up hn hd rfl rfl⟩
 ·rw [chk_t (appOk_le (by simp only [List.length_singleton]; omega) (by omega))]
  refine ⟨_, rfl, hn, hd, ?_, fun l hl => ?_, by show v.2.2.2.1.length ≤ _; omega⟩
  ·show (v.2.2.1 ++ [_]).length ≤ _
   rw [List.length_append, List.length_singleton]; omega
  ·rcases List.mem_append.1 hl with hl | hl
   ·have := h2 l hl; omega
   ·rw [List.mem_singleton.1 hl]; simp
 ·rw [show (((4 : Nat) : Int) == 0) = false from rfl, show (((4 : Nat) : Int) == 1) = false from rfl, show (((4 : Nat) : Int) == 2) = false from rfl, show (((4 : Nat) : Int) == 3) = false from rfl, show (((4 : Nat) : Int) == 4) = true from rfl, cond_false, cond_false, cond_false, cond_false, cond_true]
  by_cases h0 : v.2.2.1 = []
  ·rw [h0]
   exact ⟨_, rfl, hn, hd, by simp, fun l hl => (by cases hl), by show v.2.2.2.1.length ≤ _; omega⟩
  ·have hp := List.length_pos_iff.2 h0
   obtain ⟨x, hx, hm⟩ := idx_some (xs := v.2.2.1) (k := i % v.2.2.1.length) (Nat.mod_lt _ hp)
   rw [dec_t (show (0 : Int) < (v.2.2.1.length : Int) by omega), show ((v.2.2.1.length : Int) == 0) = false by rw [beq_eq_false_iff_ne]; omega, tl, hx, chk_t (b := !false) rfl]
   simp only [Option.bind_some]
   rw [chk_t (b := appOk _ _ _) (appOk_le (by simp only [List.length_singleton]; omega) (by omega))]
   refine ⟨_, rfl, hn, hd, ?_, fun l hl => ?_, by show v.2.2.2.1.length ≤ _; omega⟩
   ·show (v.2.2.1 ++ [x]).length ≤ _
    rw [List.length_append, List.length_singleton]; omega
   ·rcases List.mem_append.1 hl with hl | hl
    ·have := h2 l hl; omega
    ·rw [List.mem_singleton.1 hl]; have := h2 x hm; omega
 ·rw [show (((5 : Nat) : Int) == 0) = false from rfl, show (((5 : Nat) : Int) == 1) = false from rfl, show (((5 : Nat) : Int) == 2) = false from rfl, show (((5 : Nat) : Int) == 3) = false from rfl, show (((5 : Nat) : Int) == 4) = false from rfl, show (((5 : Nat) : Int) == 5) = true from rfl, cond_false, cond_false, cond_false, cond_false, cond_false, cond_true]
  by_cases h0 : v.2.2.1 = []
  ·rw [h0]
   exact ⟨_, rfl, hn, hd, by simp, fun l hl => (by cases hl), by show v.2.2.2.1.length ≤ _; omega⟩
  ·have hp := List.length_pos_iff.2 h0
   obtain ⟨x, hx, hm⟩ := idx_some (xs := v.2.2.1) (k := i % v.2.2.1.length) (Nat.mod_lt _ hp)
   have hxl := h2 x hm
   rw [dec_t (show (0 : Int) < (v.2.2.1.length : Int) by omega), show ((v.2.2.1.length : Int) == 0) = false by rw [beq_eq_false_iff_ne]; omega, tl, hx]
   simp only [Bool.not_false, Option.bind_some]
   have c1 : ∀ {α : Type} (m : Option α), chk true m = m := fun m => rfl
   rw [c1, c1, chk_t (b := appOk _ _ _) (appOk_le (by simp only [List.length_nil]; omega) (by omega)), chk_t (b := appOk _ _ _) (appOk_le (by simp only [List.length_singleton]; omega) (by omega))]
   refine ⟨_, rfl, hn, hd, ?_, fun l hl => ?_, by show v.2.2.2.1.length ≤ _; omega⟩
   ·show (v.2.2.1.set _ _).length ≤ _
    rw [List.length_set]; omega
   ·rcases List.mem_or_eq_of_mem_set hl with hl | hl
    ·have := h2 l hl; omega
    ·rw [hl, List.length_append, List.length_singleton]; omega
 ·rw [show (((6 : Nat) : Int) == 0) = false from rfl, show (((6 : Nat) : Int) == 1) = false from rfl, show (((6 : Nat) : Int) == 2) = false from rfl, show (((6 : Nat) : Int) == 3) = false from rfl, show (((6 : Nat) : Int) == 4) = false from rfl, show (((6 : Nat) : Int) == 5) = false from rfl, show (((6 : Nat) : Int) == 6) = true from rfl, cond_false, cond_false, cond_false, cond_false, cond_false, cond_false, cond_true]
  rw [t5]
  obtain ⟨x, hx, _⟩ := idx_some (xs := [(0 : Int), 1, 999, 1000, -1]) (k := i % 5) (by show i % 5 < 5; omega)
  rw [hx]
  simp only [Option.bind_some]
  rw [chk_t (b := appOk _ _ _) (appOk_le (by simp only [List.length_singleton]; omega) (by omega))]
  refine ⟨_, rfl, hn, hd, by show v.2.2.1.length ≤ _; omega, fun l hl => by have := h2 l hl; omega, ?_⟩
  show (v.2.2.2.1 ++ [x]).length ≤ _
  rw [List.length_append, List.length_singleton]; omega
 ·rw [t5]
  obtain ⟨x, hx, hm⟩ := idx_some (xs := [(([] : List Int), ([] : List Int)), ([1], ([] : List Int)), ([2], ([] : List Int)), ([2], [4]), ([1], [3])]) (k := i % 5) (by show i % 5 < 5; omega)
  rw [hx]
  have := limbs_lit x hm
  exact ⟨_, rfl, up this.1 this.2 rfl rfl⟩
theorem of_zero : ∀ d < 25, culpritref05_Of (0 : Int) (((d + 1 : Nat) : Int)) = some ((([] : List Int), ([] : List Int)), 0) := by decide +kernel
theorem part_eq {a b : Int} (ia : i64 a) (ib : i64 b) : ∃ r, culpritref05_Part a b = some r ∧ limbs r.1 ∧ limbs r.2 := by
 obtain ⟨r1, e1, p1, p2⟩ := around_eq ib (m := 24) (by omega)
 obtain ⟨i, rfl⟩ : ∃ i : Nat, r1 = i := ⟨r1.toNat, by omega⟩
 have hw1 : w64 ((1 : Int) + (i : Int)) = ((i + 1 : Nat) : Int) := by rw [w64_id (by omega) (by omega)]; omega
 have hw2 : w64 (((i + 1 : Nat) : Int) + 1) = ((i + 2 : Nat) : Int) := by rw [w64_id (by omega) (by omega)]; omega
 obtain ⟨r2, e2, p3, p4⟩ := around_eq ia (m := ((i + 2 : Nat) : Int)) (by omega)
 obtain ⟨j, rfl⟩ : ∃ j : Nat, r2 = j := ⟨r2.toNat, by omega⟩
 unfold culpritref05_Part
 rw [e1]
 simp only [Option.bind_some]
 rw [hw1, hw2, e2]
 simp only [Option.bind_some]
 by_cases h0 : j = 0
 ·subst h0
  have := of_zero i (by omega)
  rw [show (((0 : Nat) : Int)) = 0 from rfl, this]
  exact ⟨_, rfl, by simp [limbs], by simp [limbs]⟩
 ·obtain ⟨r, f1, f2, _⟩ := of_ok (n := j) (d := i + 1) (by omega) (by omega) (by omega)
  rw [f1]
  exact ⟨_, rfl, f2.n.1, f2.d.1⟩
theorem n36_inner {l : List Int} {st : Int × Vd} (hl : ∀ n ∈ l, i64 n) : ∃ s, Itr.it (culpritref36_Verdict_loop2 l st) (([] : List Edit), (0 : Int)) = some s ∧ s.length ≤ 4 := by
 refine it_inv (f := culpritref36_Verdict_loop2 l st) (fun s => 4 - s.2.toNat) (fun s => ∃ k : Nat, s.2 = (k : Int) ∧ k ≤ 4 ∧ s.1.length = k) (fun s => s.length ≤ 4)
  (fun s hs => by
   obtain ⟨o, i⟩ := s
   obtain ⟨k, e, hk, ho⟩ := hs
   simp only at e ho
   subst e
   obtain ⟨r, e1, p1, p2⟩ := at_eq hl (k := w64 ((4 : Int) + st.1)) (m := 4) (by omega)
   obtain ⟨r2, e2, _, _⟩ := at_eq hl (k := w64 ((7 : Int) + st.1)) (m := 3) (by omega)
   obtain ⟨r3, e3, _, _⟩ := at_eq hl (k := w64 ((10 : Int) + st.1)) (m := 5) (by omega)
   unfold culpritref36_Verdict_loop2
   simp only
   rw [e1, e2, e3]
   simp only [Option.bind_some]
   by_cases hlt : (k : Int) < r
   ·right
    rw [dec_t hlt, cond_true, chk_t (appOk_le (by simp only [List.length_singleton]; omega) (by omega)), w64_id (x := (k : Int) + 1) (by omega) (by omega)]
    exact ⟨_, rfl, ⟨k + 1, by simp only; omega, by omega, by simp only [List.length_append, List.length_singleton]; omega⟩, by simp only; omega⟩
   ·left
    rw [dec_f hlt]
    exact ⟨_, rfl, by omega⟩)
  (s := (([] : List Edit), (0 : Int))) ⟨0, rfl, by omega, rfl⟩ (by simp only; omega)
theorem n36_Verdict_eq {l : List Int} (hl : ∀ n ∈ l, i64 n) : ∃ w, culpritref36_Verdict l = some w ∧ Lim 4 w := by
 obtain ⟨r1, e1, _, _⟩ := at_eq hl (k := 0) (m := 7) (by omega)
 obtain ⟨r2, e2, p1, p2⟩ := at_eq hl (k := 1) (m := 3) (by omega)
 obtain ⟨i, rfl⟩ : ∃ i : Nat, r2 = i := ⟨r2.toNat, by omega⟩
 obtain ⟨x, hx, _⟩ := idx_some (xs := [S_t0_512f, S_t_e3b9, ([] : List UInt8)]) (k := i) (by show i < 3; omega)
 obtain ⟨r5, e5, _, _⟩ := at_eq hl (k := 2) (m := 4) (by omega)
 obtain ⟨q8, f8, g8, h8⟩ := at_eq hl (k := 3) (m := 4) (by omega)
 obtain ⟨q17, f17, g17, h17⟩ := at_eq hl (k := 13) (m := 4) (by omega)
 obtain ⟨r19, e19, _, _⟩ := at_eq hl (k := 18) (m := 25) (by omega)
 obtain ⟨r20, e20, _, _⟩ := at_eq hl (k := 19) (m := 24) (by omega)
 obtain ⟨r21, e21, z1, z2⟩ := part_eq (a := r19) (b := r20) ⟨by omega, by omega⟩ ⟨by omega, by omega⟩
 obtain ⟨u, u1, u2, u3, u4⟩ : ∃ u : Vd, Itr.it (culpritref36_Verdict_loop1 l) (0, r1, x, ([] : List (List Edit)), ([] : List Int), r5, ([] : List Int), ([] : List Int)) = some u ∧ u.2.2.1.length ≤ 4 ∧ (∀ s ∈ u.2.2.1, s.length ≤ 4) ∧ u.2.2.2.1 = [] := by
  refine it_inv (f := culpritref36_Verdict_loop1 l) (fun s => 4 - s.1.toNat) (fun s => ∃ k : Nat, s.1 = (k : Int) ∧ k ≤ 4 ∧ s.2.2.2.1.length = k ∧ (∀ q ∈ s.2.2.2.1, q.length ≤ 4) ∧ s.2.2.2.2.1 = []) (fun u => u.2.2.1.length ≤ 4 ∧ (∀ s ∈ u.2.2.1, s.length ≤ 4) ∧ u.2.2.2.1 = [])
   (fun s hs => by
    obtain ⟨a, u⟩ := s
    obtain ⟨k, e, hk, ho, hq, hw⟩ := hs
    simp only at e ho hq hw
    subst e
    unfold culpritref36_Verdict_loop1
    simp only
    rw [f8]
    simp only [Option.bind_some]
    by_cases hlt : (k : Int) < q8
    ·right
     obtain ⟨o, o1, o2⟩ := n36_inner (l := l) (st := ((k : Int), u)) hl
     rw [dec_t hlt, cond_true, o1]
     simp only [Option.bind_some]
     rw [chk_t (appOk_le (by simp only [List.length_singleton]; omega) (by omega)), w64_id (x := (k : Int) + 1) (by omega) (by omega)]
     refine ⟨_, rfl, ⟨k + 1, by simp only; omega, by omega, ?_, fun q hq' => ?_, hw⟩, by simp only; omega⟩
     ·show (u.2.2.1 ++ [o]).length = _
      rw [List.length_append, List.length_singleton]; omega
     ·rcases List.mem_append.1 hq' with h | h
      ·exact hq q h
      ·rw [List.mem_singleton.1 h]; exact o2
    ·left
     rw [dec_f hlt]
     exact ⟨_, rfl, by show u.2.2.1.length ≤ 4; omega, hq, hw⟩)
   (s := ((0 : Int), r1, x, ([] : List (List Edit)), ([] : List Int), r5, ([] : List Int), ([] : List Int))) ⟨0, rfl, by omega, rfl, fun q h => (by cases h), rfl⟩ (by simp only; omega)
 obtain ⟨t, t1, t2, t3, t4⟩ : ∃ t : Vd, Itr.it (culpritref36_Verdict_loop3 l) (0, u.1, u.2.1, u.2.2.1, u.2.2.2.1, u.2.2.2.2.1, u.2.2.2.2.2.1, u.2.2.2.2.2.2) = some t ∧ t.2.2.1.length ≤ 4 ∧ (∀ s ∈ t.2.2.1, s.length ≤ 4) ∧ t.2.2.2.1.length ≤ 4 := by
  refine it_inv (f := culpritref36_Verdict_loop3 l) (fun s => 4 - s.1.toNat) (fun s => ∃ k : Nat, s.1 = (k : Int) ∧ k ≤ 4 ∧ s.2.2.2.1.length ≤ 4 ∧ (∀ q ∈ s.2.2.2.1, q.length ≤ 4) ∧ s.2.2.2.2.1.length = k) (fun u => u.2.2.1.length ≤ 4 ∧ (∀ s ∈ u.2.2.1, s.length ≤ 4) ∧ u.2.2.2.1.length ≤ 4)
   (fun s hs => by
    obtain ⟨a, u⟩ := s
    obtain ⟨k, e, hk, ho, hq, hw⟩ := hs
    simp only at e ho hq hw
    subst e
    obtain ⟨r, e1, _, _⟩ := at_eq hl (k := w64 ((14 : Int) + (k : Int))) (m := 3) (by omega)
    unfold culpritref36_Verdict_loop3
    simp only
    rw [f17]
    simp only [Option.bind_some]
    by_cases hlt : (k : Int) < q17
    ·right
     rw [dec_t hlt, cond_true, e1]
     simp only [Option.bind_some]
     rw [chk_t (appOk_le (by simp only [List.length_singleton]; omega) (by omega)), w64_id (x := (k : Int) + 1) (by omega) (by omega)]
     refine ⟨_, rfl, ⟨k + 1, by simp only; omega, by omega, ho, hq, ?_⟩, by simp only; omega⟩
     show (u.2.2.2.1 ++ [r]).length = _
     rw [List.length_append, List.length_singleton]; omega
    ·left
     rw [dec_f hlt]
     exact ⟨_, rfl, ho, hq, by show u.2.2.2.1.length ≤ 4; omega⟩)
   (s := ((0 : Int), u)) ⟨0, rfl, by omega, u2, u3, by show u.2.2.2.1.length = 0; rw [u4]; rfl⟩ (by simp only; omega)
 unfold culpritref36_Verdict
 rw [e1, e2]
 simp only [Option.bind_some]
 rw [hx, e5]
 simp only [Option.bind_some]
 rw [u1]
 simp only [Option.bind_some]
 rw [t1, e19, e20]
 simp only [Option.bind_some]
 rw [e21]
 exact ⟨_, rfl, z1, z2, t2, t3, t4⟩
theorem prints_true {l : List Int} {h b : Int} {raw : Vd} (hl : ∀ n ∈ l, i64 n) (ih : i64 h) (ib : i64 b) (hr : AnyV raw) : culpritlaw37_ReportPrints l h b raw = some true := by
 obtain ⟨v, hv, mv⟩ := made_eq hl
 have PV := properB_iff.1 mv.p
 have pv1 := PV.many
 have pv2 := (possB_ok PV.word).1
 have L0 : Lim 1024 v := ⟨mv.r.n.1, mv.r.d.1, pv1, fun s hs => by have := (rising_ok (setsB_mem _ _ PV.sets s hs)).1; omega, by omega⟩
 obtain ⟨w, w1, w2⟩ := spoilt_eq L0 (by omega) ih ib
 obtain ⟨z, z1, z2⟩ := spoilt_eq w2 (by omega) ib ih
 obtain ⟨y, y1, y2⟩ := n36_Verdict_eq hl
 have re : ∀ u : Vd, (u.1, u.2.1, u.2.2.1, u.2.2.2.1, u.2.2.2.2.1, (u.2.2.2.2.2.1, u.2.2.2.2.2.2)) = u := fun _ => rfl
 unfold culpritlaw37_ReportPrints
 rw [hv]
 simp only [Option.bind_some, re]
 rw [w1]
 simp only [Option.bind_some, re]
 rw [z1]
 simp only [Option.bind_some, re]
 rw [y1]
 simp only [Option.bind_some, re]
 obtain ⟨ls, hls, hlen, hok⟩ : ∃ ls, (bif decide ((raw.2.2.1.length : Int) ≤ (8 : Int)) then chk (appOk [v, w, z, y].length [raw].length 128) (some ([v, w, z, y] ++ [raw])) else some [v, w, z, y] : Option (List Vd)) = some ls ∧ ls.length ≤ 5 ∧ ∀ u ∈ ls, AnyV u := by
  have h4 : ∀ u ∈ [v, w, z, y], AnyV u := fun u hu => by
   simp only [List.mem_cons, List.not_mem_nil, or_false] at hu
   rcases hu with rfl | rfl | rfl | rfl
   ·exact L0.any (by omega)
   ·exact w2.any (by omega)
   ·exact z2.any (by omega)
   ·exact y2.any (by omega)
  by_cases h8 : (raw.2.2.1.length : Int) ≤ 8
  ·rw [dec_t h8, cond_true, chk_t (appOk_le (by simp) (by omega))]
   refine ⟨_, rfl, by simp, fun u hu => ?_⟩
   rcases List.mem_append.1 hu with hu | hu
   ·exact h4 u hu
   ·rw [List.mem_singleton.1 hu]; exact hr
  ·rw [dec_f h8]
   exact ⟨_, rfl, by simp, h4⟩
 rw [hls]
 simp only [Option.bind_some]
 have hloop := it_all (f := culpritlaw37_ReportPrints_loop1 ls) (z := false) ls (fun _ _ => true) (by show ls.length < _; omega)
  (fun i x hx => by
   have hlt := lt_of_at hx
   have ok := hok x (List.mem_of_getElem? hx)
   obtain ⟨a, a1, a2, a3⟩ := print_any ok
   obtain ⟨c, c1, c2, c3⟩ := facts_any ok
   obtain ⟨d, d1, d2, d3⟩ := change_any ok
   unfold culpritlaw37_ReportPrints_loop1
   rw [dec_t (show (i : Int) < (ls.length : Int) by omega), cond_true, idx_nat hx]
   simp only [Option.bind_some, re]
   rw [a1, a2]
   simp only [Option.bind_some]
   rw [c1, c2]
   simp only [Option.bind_some]
   rw [d1, d2]
   simp only [Option.bind_some]
   have b1 : ∀ q : Int, (q != q) = false := fun q => by simp
   have s1 : culpritref01_SameTexts a.1 a.1 = some true := by rw [sameTexts_eq (by show a.1.length < _; omega)]; simp
   have s2 : culpritref01_SameTexts c.1 c.1 = some true := by rw [sameTexts_eq (by show c.1.length < _; omega)]; simp
   have s3 : culpritref01_SameTexts d.1 d.1 = some true := by rw [sameTexts_eq (by show d.1.length < _; omega)]; simp
   rw [b1, b1, b1, s1, s2, s3]
   simp only [cond_true, cond_false, Bool.not_true, Bool.not_false, Option.bind_some]
   rw [w64_id (by omega) (by omega)])
  (by unfold culpritlaw37_ReportPrints_loop1; rw [dec_f (show ¬ (ls.length : Int) < (ls.length : Int) by omega)]; rfl)
 have hat : ls.all (fun _ => true) = true := List.all_eq_true.2 fun _ _ => rfl
 rw [allI_const, hat] at hloop
 rw [hloop]
 simp only [cond_true, Option.bind_some]
 rw [lives_true]
 rfl
end Go.Proofs.YtknnphhepnbaoaaGreatDoor
