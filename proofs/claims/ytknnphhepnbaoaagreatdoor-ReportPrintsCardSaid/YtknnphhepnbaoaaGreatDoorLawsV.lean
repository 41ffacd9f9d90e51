/-
  Any verdict, proper or not: both models call the same ones proper, and print the same. No program is walked here.
  Any verdict, proper or not: what would change it, by both models. No program is walked here.
-/
import Derived.Test.YtknnphhepnbaoaaGreatDoorLawsG
import Derived.Test.YtknnphhepnbaoaaGreatDoorLawsC
namespace Go.Proofs.YtknnphhepnbaoaaGreatDoor
open Go.Sm
theorem ratOk_any {z y : List Int} (c1 : canon z) (d1 : canon y) (c2 : z.length ≤ 64) (d2 : y.length ≤ 64) (hv : validB (nat32 z) (nat32 y) = true) : RatOk (z, y) :=
 ⟨c1, d1, c2, d2, fun q1 q2 => gcdAll (nat32 y + 1) z y c1 d1 c2 d2 (by omega) q1 q2, hv⟩
theorem canon_of_trim {l : List Int} (h : limbs l) (he : ¬ (trimL l).length < l.length) : canon l := by
 have h1 := trimL_len l
 have h2 : trimL l = l := by
  unfold trimL at he h1 ⊢
  rw [List.length_take] at he h1
  exact List.take_of_length_le (by omega)
 rw [← h2]
 exact trimL_canon h
theorem valid_any {n d : List Int} (hn : limbs n) (hd : limbs d) : RatOk (n, d) ∨ ∃ e f, ratio_Valid (n, d) = some e ∧ e ≠ 0 ∧ culpritref05_Valid (n, d) = some f ∧ f ≠ 0 := by
 by_cases hl : n.length ≤ 64 ∧ d.length ≤ 64
 ·obtain ⟨ln, ld⟩ := hl
  by_cases hc : (trimL n).length < n.length ∨ (trimL d).length < d.length
  ·right
   refine ⟨1, 1, ?_, by omega, ?_, by omega⟩
   ·unfold ratio_Valid
    simp only
    rw [dec_f (show ¬ (64 : Int) < (n.length : Int) by omega), dec_f (show ¬ (64 : Int) < (d.length : Int) by omega)]
    simp only [cond_false]
    rw [ratio_trim_eq (by show n.length < _; omega), ratio_trim_eq (by show d.length < _; omega)]
    simp only [Option.bind_some]
    have e1 : (bif decide (((trimL n).length : Int) < (n.length : Int)) then true else decide (((trimL d).length : Int) < (d.length : Int))) = true := by
     rcases hc with h | h
     ·rw [dec_t (show ((trimL n).length : Int) < (n.length : Int) by omega)]; rfl
     ·rw [dec_t (show ((trimL d).length : Int) < (d.length : Int) by omega)]; cases decide (((trimL n).length : Int) < (n.length : Int)) <;> rfl
    rw [e1]
    rfl
   ·unfold culpritref05_Valid
    simp only
    rw [dec_f (show ¬ (64 : Int) < (n.length : Int) by omega), dec_f (show ¬ (64 : Int) < (d.length : Int) by omega)]
    simp only [cond_false]
    rw [f5_Trim_eq (by omega), f5_Trim_eq (by omega)]
    simp only [Option.bind_some]
    have tn := trimL_len n
    have td := trimL_len d
    by_cases h1 : (trimL n).length = n.length
    ·have h2 : ¬ (trimL d).length = d.length := by omega
     rw [show (((trimL n).length : Int) == (n.length : Int)) = true by rw [beq_iff_eq]; omega]
     simp only [cond_true, Option.bind_some]
     rw [show (((trimL d).length : Int) == (d.length : Int)) = false by rw [beq_eq_false_iff_ne]; omega]
     rfl
    ·rw [show (((trimL n).length : Int) == (n.length : Int)) = false by rw [beq_eq_false_iff_ne]; omega]
     rfl
  ·have cn := canon_of_trim hn (fun h => hc (.inl h))
   have cd := canon_of_trim hd (fun h => hc (.inr h))
   by_cases hv : validB (nat32 n) (nat32 d) = true
   ·exact .inl (ratOk_any cn cd ln ld hv)
   ·right
    refine ⟨1, 1, ?_, by omega, ?_, by omega⟩
    ·rw [ratio_Valid_eq cn cd ln ld (fun q1 q2 => gcdAll (nat32 d + 1) n d cn cd ln ld (by omega) q1 q2), if_neg hv]
    ·rw [f5_Valid_eq cn cd ln ld, if_neg hv]
 ·right
  refine ⟨4, 4, ?_, by omega, ?_, by omega⟩
  ·unfold ratio_Valid
   simp only
   have e1 : (bif decide ((64 : Int) < (n.length : Int)) then true else decide ((64 : Int) < (d.length : Int))) = true := by
    by_cases h : 64 < n.length
    ·rw [dec_t (show (64 : Int) < (n.length : Int) by omega)]; rfl
    ·rw [dec_t (show (64 : Int) < (d.length : Int) by omega)]; cases decide ((64 : Int) < (n.length : Int)) <;> rfl
   rw [e1, cond_true]
  ·unfold culpritref05_Valid
   simp only
   have e1 : (bif decide ((64 : Int) < (n.length : Int)) then true else decide ((64 : Int) < (d.length : Int))) = true := by
    by_cases h : 64 < n.length
    ·rw [dec_t (show (64 : Int) < (n.length : Int) by omega)]; rfl
    ·rw [dec_t (show (64 : Int) < (d.length : Int) by omega)]; cases decide ((64 : Int) < (n.length : Int)) <;> rfl
   rw [e1, cond_true]
theorem within_bad {n d : List Int} {e : Int} (h : ratio_Valid (n, d) = some e) (he : e ≠ 0) : report_within (n, d) = some false := by
 have hl : ratio_valid [(n, d), (([1], []) : List Int × List Int)] = some e := by
  unfold ratio_valid
  have h1 := it_find (f := ratio_valid_loop1 [(n, d), (([1], []) : List Int × List Int)]) 0 (fun _ => none) (.inr e) (by omega) (fun i hi => by omega) (by
   unfold ratio_valid_loop1
   have hi : idx [(n, d), (([1], []) : List Int × List Int)] (((0 : Nat) : Int)) = some (n, d) := idx_nat rfl
   rw [hi]
   simp only [Option.bind_some, h]
   have e0 : (e != (0 : Int)) = true := by rw [bne_iff_ne]; exact he
   rw [e0]
   rfl)
  rw [h1]
  rfl
 unfold report_within ratio_Cmp
 simp only
 rw [hl]
 simp only [Option.bind_some]
 have e0 : (e != (0 : Int)) = true := by rw [bne_iff_ne]; exact he
 have e1 : (e == (0 : Int)) = false := by rw [beq_eq_false_iff_ne]; exact he
 rw [e0, cond_true]
 simp only [Option.bind_some]
 rw [e1, cond_false]
theorem n37_Proper_bad {v : Vd} {f : Int} (h : culpritref05_Valid (v.2.2.2.2.2.1, v.2.2.2.2.2.2) = some f) (hf : f ≠ 0) : culpritref37_Proper v = some false := by
 unfold culpritref37_Proper
 rw [n20_Named_eq, h]
 simp only [Option.bind_some]
 have e0 : (f != (0 : Int)) = true := by rw [bne_iff_ne]; exact hf
 cases namedB v.2.1
 ·rfl
 ·by_cases h2 : v.1 < 0
  ·rw [dec_t h2]; rfl
  ·by_cases h3 : 5 < v.1
   ·rw [dec_t h3, dec_f h2]; rfl
   ·rw [dec_f h2, dec_f h3]
    simp only [Bool.not_true, cond_false, Bool.not_false, cond_true, Option.bind_some]
    rw [e0]
    rfl
structure AnyV (v : Vd) : Prop where
 n : limbs v.2.2.2.2.2.1
 d : limbs v.2.2.2.2.2.2
 sets : Small v.2.2.1
 each : ∀ l ∈ v.2.2.1, Small l
 word : Small v.2.2.2.1
theorem properB_false (v : Vd) : properB false v = false := by
 cases h : properB false v
 ·rfl
 ·have := (properB_iff.1 h).w
  cases this
theorem proper_any {v : Vd} (h : AnyV v) : (RatOk v.2.2.2.2.2 ∧ properB (leB v) v = true ∧ report_proper v = some true ∧ culpritref37_Proper v = some true) ∨ (report_proper v = some false ∧ culpritref37_Proper v = some false) := by
 rcases valid_any h.n h.d with hr | ⟨e, f, h1, h2, h3, h4⟩
 ·have e1 := report_proper_eq (report_within_eq (r := v.2.2.2.2.2) hr) h.sets h.each
  have e2 := n37_Proper_eq (v := v) hr h.sets h.each h.word
  have e3 : properB (decide (nat32 v.2.2.2.2.2.1 ≤ denN (nat32 v.2.2.2.2.2.2))) v = properB (leB v) v := rfl
  rw [e3] at e1
  cases hp : properB (leB v) v
  ·right; rw [hp] at e1 e2; exact ⟨e1, e2⟩
  ·left; rw [hp] at e1 e2; exact ⟨hr, rfl, e1, e2⟩
 ·right
  refine ⟨?_, n37_Proper_bad h3 h4⟩
  rw [report_proper_eq (w := false) (within_bad h1 h2) h.sets h.each, properB_false]
theorem print_any {v : Vd} (h : AnyV v) : ∃ r, report_Print v = some r ∧ culpritref37_Print v = some r ∧ r.1.length ≤ 1100 := by
 rcases proper_any h with ⟨hr, hp, _, _⟩ | ⟨h1, h2⟩
 ·obtain ⟨t, t1, t2, t3⟩ := ratio_Print_eq hr
  obtain ⟨u, u1, u2, u3⟩ := n37_Print_eq hr h.sets h.each h.word
  have : t = u := RatText.inj t2 u1
  subst this
  have e := report_Print_eq hr t1 t3 h.sets h.each
  have hp2 : properB (decide (nat32 v.2.2.2.2.2.1 ≤ denN (nat32 v.2.2.2.2.2.2))) v = true := hp
  rw [if_pos hp2] at e
  rw [if_pos hp] at u3
  exact ⟨_, e, u3, by have := (textL_len hp t3).1; show (textL t v).length ≤ _; omega⟩
 ·have hv : (v.1, v.2.1, v.2.2.1, v.2.2.2.1, v.2.2.2.2.1, (v.2.2.2.2.2.1, v.2.2.2.2.2.2)) = v := rfl
  refine ⟨([], 1), ?_, ?_, by simp⟩
  ·unfold report_Print; rw [hv, h1]; rfl
  ·unfold culpritref37_Print; rw [hv, h2]; rfl
theorem rowJ_spaced (f : List UInt8) : ∀ l : List (List UInt8), rowJ f l = f ++ (l.map fun x => S__36a9 ++ x).flatten
 | [] => by simp [rowJ, joinL]
 | x :: l => by
  have := rowJ_spaced x l
  unfold rowJ at this ⊢
  simp only [joinL, this, List.map_cons, List.flatten_cons, List.append_assoc]
theorem n37_spaced_eq {l : List (List UInt8)} (hn : l.length ≤ 1000000) (h : ∀ x ∈ l, x.length ≤ 1000) : culpritref37_spaced l = some (l.map fun x => S__36a9 ++ x).flatten := by
 have hs : S__36a9.length = 1 := rfl
 have hf := it_fold (f := culpritref37_spaced_loop1 l) (fun i (a : List UInt8) => (a, i)) l (fun a x => a ++ S__36a9 ++ x) id (fun k a => a.length ≤ 1001 * k) (by omega)
  (fun i x a hx ha => by
   have hlt := lt_of_at hx
   have hxl := h x (List.mem_of_getElem? hx)
   refine ⟨?_, by simp only [List.length_append]; omega⟩
   show culpritref37_spaced_loop1 l (a, (i : Int)) = _
   unfold culpritref37_spaced_loop1
   simp only
   rw [dec_t (show (i : Int) < (l.length : Int) by omega), cond_true, chk_d (by omega), idx_nat hx]
   simp only [Option.bind_some]
   rw [chk_d (by simp only [List.length_append]; omega), w64_id (by omega) (by omega)])
  (fun a _ => by
   show culpritref37_spaced_loop1 l (a, (l.length : Int)) = _
   unfold culpritref37_spaced_loop1
   simp only
   rw [dec_f (show ¬ (l.length : Int) < (l.length : Int) by omega)]
   rfl) (a := []) (by simp)
 have e : ∀ (l : List (List UInt8)) (a : List UInt8), l.foldl (fun a x => a ++ S__36a9 ++ x) a = a ++ (l.map fun x => S__36a9 ++ x).flatten := by
  intro l
  induction l with
  | nil => intro a; simp
  | cons x l ih => intro a; simp [ih]
 unfold culpritref37_spaced
 rw [hf, e]
 rfl
theorem fact_words : ∀ k < 6, ∀ m < 4, S_verdict_858d ++ (([S_undecided_06be, S_innocent_4c95, S_guilty_5199, S_flaky_bdbb, S_slower_ccf1, S_machine_bc02].getD k []) ++ (if k = 5 then S__36a9 ++ itoaL ((m : Nat) : Int) else [])) = S_verdict_11e2 ++ S__36a9 ++ machL (kindOf ((k : Nat) : Int)).2.1 ((m : Nat) : Int) := by decide +kernel
theorem spaced_len {l : List (List UInt8)} (h : ∀ x ∈ l, x.length ≤ 1000) : ((l.map fun x => S__36a9 ++ x).flatten).length ≤ 1001 * l.length := by
 induction l with
 | nil => simp
 | cons x l ih =>
  have h1 := h x (by simp)
  have h2 := ih fun y hy => h y (List.mem_cons_of_mem _ hy)
  have hs : S__36a9.length = 1 := rfl
  simp only [List.map_cons, List.flatten_cons, List.length_append, List.length_cons]
  omega
theorem n37_Facts_eq {v : Vd} (hr : RatOk v.2.2.2.2.2) (hn : Small v.2.2.1) (hs : ∀ l ∈ v.2.2.1, Small l) (hw : Small v.2.2.2.1) (hp : properB (leB v) v = true) :
  ∃ t, RatText v.2.2.2.2.2 t ∧ t.length ≤ 1235 ∧ culpritref37_Facts v = some (factsL t v, 0) := by
 obtain ⟨t, t1, t2, t3⟩ := f5_Print_eq hr
 refine ⟨t, t2, t3, ?_⟩
 have P := properB_iff.1 hp
 have hk0 := P.k0
 have hk1 := P.k1
 have hm0 := P.m0
 have hm1 := P.m1
 have hmany := P.many
 have hnl := namedB_len P.named
 have hwd := possB_ok P.word
 obtain ⟨k, hk⟩ : ∃ k : Nat, v.1 = k := ⟨v.1.toNat, by omega⟩
 obtain ⟨m, hm⟩ : ∃ m : Nat, v.2.2.2.2.1 = m := ⟨v.2.2.2.2.1.toNat, by omega⟩
 have hk6 : k < 6 := by omega
 obtain ⟨w, hwk⟩ : ∃ w, [S_undecided_06be, S_innocent_4c95, S_guilty_5199, S_flaky_bdbb, S_slower_ccf1, S_machine_bc02][k]? = some w := ⟨_, List.getElem?_eq_getElem (by show k < 6; exact hk6)⟩
 have hww : [S_undecided_06be, S_innocent_4c95, S_guilty_5199, S_flaky_bdbb, S_slower_ccf1, S_machine_bc02].getD k [] = w := by rw [List.getD_eq_getElem?_getD, hwk]; rfl
 have hwl : w.length ≤ 9 := by
  have : ∀ x ∈ [S_undecided_06be, S_innocent_4c95, S_guilty_5199, S_flaky_bdbb, S_slower_ccf1, S_machine_bc02], x.length ≤ 9 := by decide
  exact this w (List.mem_of_getElem? hwk)
 have hfw := fact_words k hk6 m (by omega)
 rw [hww, ← hk, ← hm] at hfw
 have v8 : S_verdict_858d.length = 8 := rfl
 have s1 : S__36a9.length = 1 := rfl
 unfold culpritref37_Facts
 have hv : (v.1, v.2.1, v.2.2.1, v.2.2.2.1, v.2.2.2.2.1, (v.2.2.2.2.2.1, v.2.2.2.2.2.2)) = v := rfl
 rw [hv, n37_Proper_eq hr hn hs hw, hp]
 simp only [Option.bind_some, Bool.not_true, cond_false]
 rw [chk_d (by omega), chk_d (by simp only [List.length_append]; omega), hk, idx_nat hwk]
 simp only [Option.bind_some]
 rw [chk_d (by simp only [List.length_append]; omega)]
 have hd := n20_Decimal_eq (n := v.2.2.2.2.1) hm0 (by omega)
 have hil := itoaL_len v.2.2.2.2.1
 have hfirst : (bif ((k : Int) == (5 : Int)) then
   chk (decide ((((S_verdict_858d ++ v.2.1) ++ S__36a9) ++ w).length + S__36a9.length ≤ 9223372036854775807)) (
    (culpritref20_Decimal v.2.2.2.2.1).bind fun r5 =>
    chk (decide (((((S_verdict_858d ++ v.2.1) ++ S__36a9) ++ w) ++ S__36a9).length + r5.length ≤ 9223372036854775807)) (
     some (((((S_verdict_858d ++ v.2.1) ++ S__36a9) ++ w) ++ S__36a9) ++ r5)))
   else some (((S_verdict_858d ++ v.2.1) ++ S__36a9) ++ w) : Option (List UInt8)) = some (rowJ S_verdict_11e2 [v.2.1, machL (kindOf v.1).2.1 v.2.2.2.2.1]) := by
  have hrow : rowJ S_verdict_11e2 [v.2.1, machL (kindOf v.1).2.1 v.2.2.2.2.1] = S_verdict_11e2 ++ (S__36a9 ++ (v.2.1 ++ (S__36a9 ++ machL (kindOf v.1).2.1 v.2.2.2.2.1))) := by
   unfold rowJ; simp [joinL]
  have e0 : S_verdict_858d = S_verdict_11e2 ++ S__36a9 := rfl
  by_cases h5 : k = 5
  ·rw [if_pos h5] at hfw
   rw [show ((k : Int) == 5) = true by rw [beq_iff_eq]; omega, cond_true, chk_d (by simp only [List.length_append]; omega), hd]
   simp only [Option.bind_some]
   rw [chk_d (by simp only [List.length_append]; omega), hrow]
   rw [e0] at hfw ⊢
   simp only [List.append_assoc, List.append_cancel_left_eq] at hfw
   simp only [List.append_assoc, hfw]
  ·rw [if_neg h5, List.append_nil] at hfw
   rw [show ((k : Int) == 5) = false by rw [beq_eq_false_iff_ne]; omega, cond_false, hrow]
   rw [e0] at hfw ⊢
   simp only [List.append_assoc, List.append_cancel_left_eq] at hfw
   simp only [List.append_assoc, hfw]
 rw [hfirst]
 simp only [Option.bind_some]
 have hloop := printed_loop2 (f := culpritref37_Facts_loop1 v) (one := fun s => (culpritref37_names s).bind fun r10 => (culpritref37_spaced r10).bind fun r11 => chk (decide (S_set_6ee0.length + r11.length ≤ 9223372036854775807)) (some (S_set_6ee0 ++ r11))) (t := fun s => rowJ S_set_6ee0 (s.map nameL)) v.2.2.1 [rowJ S_verdict_11e2 [v.2.1, machL (kindOf v.1).2.1 v.2.2.2.2.1]] (by simp only [List.length_singleton]; omega)
  (fun s hs' => by
   have hset := setsB_mem _ _ P.sets s hs'
   have ho := rising_ok hset
   have hnm : ∀ x ∈ s.map nameL, x.length ≤ 1000 := fun x hx => by
    obtain ⟨n, _, rfl⟩ := List.mem_map.1 hx
    have := nameL_len n; omega
   have hsl := spaced_len hnm
   rw [List.length_map] at hsl
   have s3 : S_set_6ee0.length = 3 := rfl
   show (culpritref37_names s).bind _ = _
   rw [n37_names_eq (by omega) ho.2]
   simp only [Option.bind_some]
   rw [n37_spaced_eq (by rw [List.length_map]; omega) hnm]
   simp only [Option.bind_some]
   rw [chk_d (by omega), rowJ_spaced])
  (fun i x a hx => by
   have hlt := lt_of_at hx
   unfold culpritref37_Facts_loop1
   simp only
   rw [dec_t (show (i : Int) < (v.2.2.1.length : Int) by omega), cond_true, idx_nat hx]
   simp only [Option.bind_some]
   cases culpritref37_names x with
   | none => rfl
   | some r =>
    simp only [Option.bind_some]
    cases culpritref37_spaced r with
    | none => rfl
    | some r2 =>
     simp only [Option.bind_some]
     cases hc : decide (S_set_6ee0.length + r2.length ≤ 9223372036854775807) <;> rfl)
  (fun a => by unfold culpritref37_Facts_loop1; simp)
 rw [hloop]
 simp only [Option.bind_some]
 have hlen : ([rowJ S_verdict_11e2 [v.2.1, machL (kindOf v.1).2.1 v.2.2.2.2.1]] ++ v.2.2.1.map fun s => rowJ S_set_6ee0 (s.map nameL)).length ≤ 1025 := by
  simp only [List.length_append, List.length_singleton, List.length_map]; omega
 unfold factsL
 have e9 : (rowJ S_verdict_11e2 [v.2.1, machL (kindOf v.1).2.1 v.2.2.2.2.1] :: v.2.2.1.map (fun s => rowJ S_set_6ee0 (s.map nameL))) = [rowJ S_verdict_11e2 [v.2.1, machL (kindOf v.1).2.1 v.2.2.2.2.1]] ++ v.2.2.1.map (fun s => rowJ S_set_6ee0 (s.map nameL)) := rfl
 rw [e9]
 generalize [rowJ S_verdict_11e2 [v.2.1, machL (kindOf v.1).2.1 v.2.2.2.2.1]] ++ v.2.2.1.map (fun s => rowJ S_set_6ee0 (s.map nameL)) = A at hlen ⊢
 have m8 : S_measure_7cea.length = 8 := rfl
 have w4 : S_word_98c1.length = 4 := rfl
 have hmeas : ∀ t, S_measure_7cea ++ t = rowJ S_measure_1501 [t] := fun t => by
  unfold rowJ; simp only [joinL]; rw [← List.append_assoc]; rfl
 have hword : ∀ B : List (List UInt8), B.length ≤ 1026 → (bif decide ((0 : Int) < (v.2.2.2.1.length : Int)) then
   (culpritref37_numbers v.2.2.2.1).bind fun r15 =>
   (culpritref37_spaced r15).bind fun r16 =>
   chk (decide (S_word_98c1.length + r16.length ≤ 9223372036854775807)) (
    chk (appOk B.length [S_word_98c1 ++ r16].length 16) (
     some (B ++ [S_word_98c1 ++ r16])))
   else some B : Option (List (List UInt8))) = some (B ++ (if v.2.2.2.1 = [] then [] else [rowJ S_word_98c1 (v.2.2.2.1.map itoaL)])) := fun B hB => by
  by_cases hW : v.2.2.2.1 = []
  ·rw [dec_f (show ¬ (0 : Int) < (v.2.2.2.1.length : Int) by rw [hW]; simp), if_pos hW, cond_false, List.append_nil]
  ·have hWp : 0 < v.2.2.2.1.length := List.length_pos_iff.2 hW
   have hnm : ∀ x ∈ v.2.2.2.1.map itoaL, x.length ≤ 1000 := fun x hx => by
    obtain ⟨n, _, rfl⟩ := List.mem_map.1 hx
    have := itoaL_len n; omega
   have hsl := spaced_len hnm
   rw [List.length_map] at hsl
   rw [dec_t (show (0 : Int) < (v.2.2.2.1.length : Int) by omega), if_neg hW, cond_true, n37_numbers_eq (by omega) (fun n hn => (hwd.2 n hn).2)]
   simp only [Option.bind_some]
   rw [n37_spaced_eq (by rw [List.length_map]; omega) hnm]
   simp only [Option.bind_some]
   rw [chk_d (by omega), chk_t (appOk_le (by simp only [List.length_singleton]; omega) (by omega)), rowJ_spaced]
 by_cases hN : v.2.2.2.2.2.1 = []
 ·rw [dec_f (show ¬ (0 : Int) < (v.2.2.2.2.2.1.length : Int) by rw [hN]; simp), if_pos hN]
  simp only [cond_false, Option.bind_some, List.append_nil]
  rw [hword A (by omega)]
  rfl
 ·have hNp : 0 < v.2.2.2.2.2.1.length := List.length_pos_iff.2 hN
  have t1' : culpritref05_Print (v.2.2.2.2.2.1, v.2.2.2.2.2.2) = some (t, 0) := t1
  rw [dec_t (show (0 : Int) < (v.2.2.2.2.2.1.length : Int) by omega), if_neg hN, cond_true, t1']
  simp only [Option.bind_some]
  rw [chk_d (by omega), chk_t (appOk_le (by simp only [List.length_singleton]; omega) (by omega)), hmeas]
  simp only [Option.bind_some]
  rw [hword _ (by simp only [List.length_append, List.length_singleton]; omega)]
  rfl
theorem facts_any {v : Vd} (h : AnyV v) : ∃ r, report_Facts v = some r ∧ culpritref37_Facts v = some r ∧ r.1.length ≤ 1100 := by
 rcases proper_any h with ⟨hr, hp, _, _⟩ | ⟨h1, h2⟩
 ·obtain ⟨t, t1, t2, t3⟩ := ratio_Print_eq hr
  obtain ⟨u, u1, u2, u3⟩ := n37_Facts_eq hr h.sets h.each h.word hp
  have : t = u := RatText.inj t2 u1
  subst this
  have e := report_Facts_eq hr t1 t3 h.sets h.each
  have hp2 : properB (decide (nat32 v.2.2.2.2.2.1 ≤ denN (nat32 v.2.2.2.2.2.2))) v = true := hp
  rw [if_pos hp2] at e
  refine ⟨_, e, u3, ?_⟩
  have hm := (properB_iff.1 hp).many
  show (factsL t v).length ≤ _
  unfold factsL
  simp only [List.length_append, List.length_cons, List.length_map]
  split <;> split <;> simp <;> omega
 ·have hv : (v.1, v.2.1, v.2.2.1, v.2.2.2.1, v.2.2.2.2.1, (v.2.2.2.2.2.1, v.2.2.2.2.2.2)) = v := rfl
  refine ⟨([], 1), ?_, ?_, by simp⟩
  ·unfold report_Facts; rw [hv, h1]; rfl
  ·unfold culpritref37_Facts; rw [hv, h2]; rfl
end Go.Proofs.YtknnphhepnbaoaaGreatDoor
namespace Go.Proofs.YtknnphhepnbaoaaGreatDoor
open Go.Sm
def chL : List Edit → List UInt8
 | [] => S_leaving_out_ed_61d2
 | [n] => S_without_the_ed_686a ++ nameL n ++ S_this_is_not_g_e0e6
 | x :: y :: r => S_without_one_of_d593 ++ listL ((x :: y :: r).map nameL) ++ S_the_others_ar_0b23
theorem report_Change_1_eq {l : List Edit} (hn : l.length ≤ 256) (h : ∀ n ∈ l, okName n = true) : report_Change_1 l = some (chL l) := by
 unfold report_Change_1
 have a1 : S_without_the_ed_686a.length ≤ 100 := by decide
 have a2 : S_this_is_not_g_e0e6.length ≤ 100 := by decide
 have a3 : S_without_one_of_d593.length ≤ 100 := by decide
 have a4 : S_the_others_ar_0b23.length ≤ 100 := by decide
 match l, hn, h with
 | [], _, _ => rfl
 | [n], _, h =>
  have hi : idx [n] (0 : Int) = some n := idx_nat (i := 0) rfl
  have hl := nameL_len n
  have ho := okName_i64 (h n (by simp))
  rw [show ((([n] : List Edit).length : Int) == 0) = false from rfl, cond_false, show ((([n] : List Edit).length : Int) == 1) = true from rfl, cond_true, hi]
  simp only [Option.bind_some]
  have hnm : report_name (n.1, n.2) = some (nameL n) := report_name_eq (n := n) ⟨⟨by omega, by omega⟩, ⟨by omega, by omega⟩⟩
  rw [hnm]
  simp only [Option.bind_some]
  rw [chk_d (by omega), chk_d (by simp only [List.length_append]; omega)]
  rfl
 | x :: y :: r, hn, h =>
  have f1 : (((x :: y :: r).length : Int) == 0) = false := by simp; omega
  have f2 : (((x :: y :: r).length : Int) == 1) = false := by simp; omega
  have hll : ∀ z ∈ (x :: y :: r).map nameL, z.length ≤ 43 := fun z hz => by obtain ⟨n, _, rfl⟩ := List.mem_map.1 hz; exact nameL_len n
  have hln := listL_len2 (l := (x :: y :: r).map nameL) (by simpa using hn) hll
  rw [f1, cond_false, f2, cond_false, printed_names_eq (by omega) (fun n hn => by
   have ho := okName_i64 (h n hn)
   exact ⟨⟨by omega, by omega⟩, ⟨by omega, by omega⟩⟩)]
  simp only [Option.bind_some]
  rw [report_list_eq (by rw [List.length_map]; omega) (fun z hz => by have := hll z hz; omega)]
  simp only [Option.bind_some]
  rw [chk_d (by omega), chk_d (by simp only [List.length_append]; omega)]
  rfl
theorem n37_change_line {l : List Edit} (hn : l.length ≤ 256) (h : ∀ n ∈ l, okName n = true) :
  ((bif (l.length : Int) == (1 : Int) then
    (idx l (0 : Int)).bind fun _ => (idx l (0 : Int)).bind fun v11 => (culpritref37_Name (v11.1, v11.2)).bind fun r12 =>
     chk (decide (S_without_the_ed_686a.length + r12.length ≤ 9223372036854775807)) (
      chk (decide ((S_without_the_ed_686a ++ r12).length + S_this_is_not_g_e0e6.length ≤ 9223372036854775807)) (
       some ((S_without_the_ed_686a ++ r12) ++ S_this_is_not_g_e0e6)))
    else some S_leaving_out_ed_61d2 : Option (List UInt8)).bind fun s9 =>
   (bif decide ((1 : Int) < (l.length : Int)) then
     (culpritref37_names l).bind fun r14 => (culpritref37_List r14).bind fun r15 =>
     chk (decide (S_without_one_of_d593.length + r15.length ≤ 9223372036854775807)) (
      chk (decide ((S_without_one_of_d593 ++ r15).length + S_the_others_ar_0b23.length ≤ 9223372036854775807)) (
       some ((S_without_one_of_d593 ++ r15) ++ S_the_others_ar_0b23)))
    else some s9 : Option (List UInt8))) = some (chL l) := by
 have a1 : S_without_the_ed_686a.length ≤ 100 := by decide
 have a2 : S_this_is_not_g_e0e6.length ≤ 100 := by decide
 have a3 : S_without_one_of_d593.length ≤ 100 := by decide
 have a4 : S_the_others_ar_0b23.length ≤ 100 := by decide
 match l, hn, h with
 | [], _, _ => rfl
 | [n], _, h =>
  have hi : idx [n] (0 : Int) = some n := idx_nat (i := 0) rfl
  have hl := nameL_len n
  rw [show ((([n] : List Edit).length : Int) == 1) = true from rfl, cond_true, hi]
  simp only [Option.bind_some]
  rw [n37_Name_eq (h n (by simp))]
  simp only [Option.bind_some]
  rw [chk_d (by omega), chk_d (by simp only [List.length_append]; omega)]
  rfl
 | x :: y :: r, hn, h =>
  have f2 : (((x :: y :: r).length : Int) == 1) = false := by simp; omega
  have hll : ∀ z ∈ (x :: y :: r).map nameL, z.length ≤ 43 := fun z hz => by obtain ⟨n, _, rfl⟩ := List.mem_map.1 hz; exact nameL_len n
  have hln := listL_len2 (l := (x :: y :: r).map nameL) (by simpa using hn) hll
  rw [f2, cond_false, dec_t (show (1 : Int) < ((x :: y :: r).length : Int) by simp only [List.length_cons]; omega)]
  simp only [Option.bind_some, cond_true]
  rw [n37_names_eq (by omega) h]
  simp only [Option.bind_some]
  rw [n37_List_eq (by rw [List.length_map]; omega) hll]
  simp only [Option.bind_some]
  rw [chk_d (by omega), chk_d (by simp only [List.length_append]; omega)]
  rfl
def changeL (t : List UInt8) (v : Vd) : List (List UInt8) :=
 if v.1 = 0 then [S_a_greater_limi_8d9a] else if v.1 = 1 then [S_a_run_that_fai_7b67] else if v.1 = 3 then [S_a_bound_less_t_4a87 ++ t ++ S_would_make_it_3fb0] else
  if v.1 = 5 then [machL S_without_machin_56cf v.2.2.2.2.1] else v.2.2.1.map chL
theorem change_words : ∀ m < 4, S_without_machin_871c ++ itoaL ((m : Nat) : Int) ++ S_it_would_not_6889 = machL S_without_machin_56cf ((m : Nat) : Int) := by decide +kernel
theorem eqb_int (a b : Int) : (a == b) = decide (a = b) := by rw [Bool.eq_iff_iff, beq_iff_eq, decide_eq_true_eq]
theorem report_Change_eq {v : Vd} {t : List UInt8} (hp : properB (leB v) v = true) (hr : report_proper v = some true) (ht : ratio_Print (v.2.2.2.2.2.1, v.2.2.2.2.2.2) = some (t, 0)) (htl : t.length ≤ 1235) : report_Change v = some (changeL t v, 0) := by
 have P := properB_iff.1 hp
 have a1 : S_a_bound_less_t_4a87.length ≤ 100 := by decide
 have a2 : S_would_make_it_3fb0.length ≤ 100 := by decide
 have a3 : S_without_machin_56cf.length ≤ 1000 := by decide
 have hmany := P.many
 unfold report_Change changeL
 have hv : (v.1, v.2.1, v.2.2.1, v.2.2.2.1, v.2.2.2.2.1, (v.2.2.2.2.2.1, v.2.2.2.2.2.2)) = v := rfl
 rw [hv, hr, ht, eqb_int, eqb_int, eqb_int, eqb_int]
 simp only [Option.bind_some, Bool.not_true, cond_false]
 by_cases h0 : v.1 = 0
 ·rw [if_pos h0, dec_t h0]; rfl
 by_cases h1 : v.1 = 1
 ·rw [if_neg h0, if_pos h1, dec_f h0, dec_t h1]; rfl
 by_cases h3 : v.1 = 3
 ·rw [if_neg h0, if_neg h1, if_pos h3, dec_f h0, dec_f h1, dec_t h3]
  simp only [cond_false, cond_true]
  rw [chk_d (by omega), chk_d (by simp only [List.length_append]; omega)]
 by_cases h5 : v.1 = 5
 ·rw [if_neg h0, if_neg h1, if_neg h3, if_pos h5, dec_f h0, dec_f h1, dec_f h3, dec_t h5]
  simp only [cond_false, cond_true]
  rw [report_machine_eq a3 P.m0 P.m1]
  rfl
 ·rw [if_neg h0, if_neg h1, if_neg h3, if_neg h5, dec_f h0, dec_f h1, dec_f h3, dec_f h5]
  simp only [cond_false]
  unfold report_printed_api_Name_1
  rw [printed_loop (one := report_Change_1) (t := chL) v.2.2.1 (by omega) (fun x hx => by
    have ho := rising_ok (setsB_mem _ _ P.sets x hx)
    exact report_Change_1_eq ho.1 ho.2)
   (fun i x a hx => by
    have hlt := lt_of_at hx
    unfold report_printed_api_Name_1_loop1
    simp only
    rw [dec_t (show (i : Int) < (v.2.2.1.length : Int) by omega), cond_true, idx_nat hx]
    rfl) (fun a => by unfold report_printed_api_Name_1_loop1; simp)]
  rfl
theorem n37_Change_eq {v : Vd} {t : List UInt8} (hp : properB (leB v) v = true) (hr : culpritref37_Proper v = some true) (ht : culpritref05_Print (v.2.2.2.2.2.1, v.2.2.2.2.2.2) = some (t, 0)) (htl : t.length ≤ 1235) : culpritref37_Change v = some (changeL t v, 0) := by
 have P := properB_iff.1 hp
 have a1 : S_a_bound_less_t_4a87.length ≤ 100 := by decide
 have a2 : S_would_make_it_3fb0.length ≤ 100 := by decide
 have a3 : S_without_machin_871c.length ≤ 100 := by decide
 have a4 : S_it_would_not_6889.length ≤ 100 := by decide
 have hmany := P.many
 have hm0 := P.m0
 have hm1 := P.m1
 obtain ⟨m, hm⟩ : ∃ m : Nat, v.2.2.2.2.1 = m := ⟨v.2.2.2.2.1.toNat, by omega⟩
 unfold culpritref37_Change changeL
 have hv : (v.1, v.2.1, v.2.2.1, v.2.2.2.1, v.2.2.2.2.1, (v.2.2.2.2.2.1, v.2.2.2.2.2.2)) = v := rfl
 rw [hv, hr, ht, eqb_int, eqb_int, eqb_int, eqb_int]
 simp only [Option.bind_some, Bool.not_true, cond_false]
 by_cases h0 : v.1 = 0
 ·rw [if_pos h0, dec_t h0]; rfl
 by_cases h1 : v.1 = 1
 ·rw [if_neg h0, if_pos h1, dec_f h0, dec_t h1]; rfl
 by_cases h3 : v.1 = 3
 ·rw [if_neg h0, if_neg h1, if_pos h3, dec_f h0, dec_f h1, dec_t h3]
  simp only [cond_false, cond_true]
  rw [chk_d (by omega), chk_d (by simp only [List.length_append]; omega)]
 by_cases h5 : v.1 = 5
 ·have hil := itoaL_len v.2.2.2.2.1
  rw [if_neg h0, if_neg h1, if_neg h3, if_pos h5, dec_f h0, dec_f h1, dec_f h3, dec_t h5]
  simp only [cond_false, cond_true]
  rw [n20_Decimal_eq hm0 (by omega)]
  simp only [Option.bind_some]
  rw [chk_d (by omega), chk_d (by simp only [List.length_append]; omega), hm, change_words m (by omega)]
 ·rw [if_neg h0, if_neg h1, if_neg h3, if_neg h5, dec_f h0, dec_f h1, dec_f h3, dec_f h5]
  simp only [cond_false]
  rw [printed_loop (one := fun x : List Edit => if x.length ≤ 256 ∧ (∀ n ∈ x, okName n = true) then some (chL x) else none) (t := chL) (f := culpritref37_Change_loop1 v) v.2.2.1 (by omega) (fun x hx => if_pos (rising_ok (setsB_mem _ _ P.sets x hx)))
   (fun i x a hx => by
    have hlt := lt_of_at hx
    have ho := rising_ok (setsB_mem _ _ P.sets x (List.mem_of_getElem? hx))
    have hline := n37_change_line ho.1 ho.2
    rw [if_pos ho]
    unfold culpritref37_Change_loop1
    simp only
    rw [dec_t (show (i : Int) < (v.2.2.1.length : Int) by omega), cond_true, idx_nat hx]
    simp only [Option.bind_some]
    rw [Option.bind_eq_some_iff] at hline
    obtain ⟨s9, e1, e2⟩ := hline
    rw [e1]
    simp only [Option.bind_some]
    rw [e2]
    simp only [Option.bind_some]
    cases hc : appOk a.length [chL x].length 16 <;> rfl) (fun a => by unfold culpritref37_Change_loop1; simp)]
  rfl
theorem change_any {v : Vd} (h : AnyV v) : ∃ r, report_Change v = some r ∧ culpritref37_Change v = some r ∧ r.1.length ≤ 1100 := by
 rcases proper_any h with ⟨hr, hp, h1, h2⟩ | ⟨h1, h2⟩
 ·obtain ⟨t, t1, t2, t3⟩ := ratio_Print_eq hr
  obtain ⟨u, u1, u2, u3⟩ := f5_Print_eq hr
  have : t = u := RatText.inj t2 u2
  subst this
  refine ⟨_, report_Change_eq hp h1 t1 t3, n37_Change_eq hp h2 u1 u3, ?_⟩
  have hm := (properB_iff.1 hp).many
  show (changeL t v).length ≤ _
  unfold changeL
  split
  ·simp
  split
  ·simp
  split
  ·simp
  split
  ·simp
  ·rw [List.length_map]; omega
 ·have hv : (v.1, v.2.1, v.2.2.1, v.2.2.2.1, v.2.2.2.2.1, (v.2.2.2.2.2.1, v.2.2.2.2.2.2)) = v := rfl
  refine ⟨([], 1), ?_, ?_, by simp⟩
  ·unfold report_Change; rw [hv, h1]; rfl
  ·unfold culpritref37_Change; rw [hv, h2]; rfl
end Go.Proofs.YtknnphhepnbaoaaGreatDoor
