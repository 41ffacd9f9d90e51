/-
  What the functions of package report compute: Print. No program is walked here.
  What the functions of package report compute: Facts; lists of texts compared. No program is walked here.
  What the functions of package report compute: the first sentence read. No program is walked here.
  Texts: replacing, splitting, cutting what was joined. No program is walked here.
  Numbers, edits and lists of them out of texts. No program is walked here.
  What the functions of package report compute: the reader of sets. No program is walked here.
  What the functions of package report compute: the readers of measures and words. No program is walked here.
  What the functions of package report compute: Parse. No program is walked here.
  What the functions of package report compute: Parse, whole. No program is walked here.
  The reference models' small functions: numbers drawn from a list, lists compared. Over Fn of all seven laws. No program is walked here.
-/
import Derived.Test.YtknnphhepnbaoaaGreatDoorLawsA
import Derived.Test.YtknnphhepnbaoaaGreatDoorLawsB
namespace Go.Proofs.YtknnphhepnbaoaaGreatDoor
open Go.Sm
def key (n : Edit) : Int := 64 * n.1 + n.2
theorem okName_key {n : Edit} (h : okName n = true) : 0 ≤ key n ∧ key n ≤ 255 ∧ i64 n.1 ∧ i64 n.2 ∧ 0 ≤ n.1 ∧ 0 ≤ n.2 ∧ n.1 < 4 ∧ n.2 ≤ 63 := by
 unfold okName at h
 simp only [Bool.and_eq_true, decide_eq_true_eq] at h
 obtain ⟨⟨⟨h1, h2⟩, h3⟩, h4⟩ := h
 exact ⟨by unfold key; omega, by unfold key; omega, ⟨by omega, by omega⟩, ⟨by omega, by omega⟩, h1, h3, h2, h4⟩
theorem risingFrom_len : ∀ (r : List Edit) (y : Edit), okName y = true → risingFrom y r = true → (r.length : Int) + key y ≤ 255 ∧ ∀ n ∈ r, okName n = true
 | [], y, h, _ => ⟨by have := (okName_key h).2.1; simp only [List.length_nil]; omega, by simp⟩
 | x :: r, y, hy, h => by
  simp only [risingFrom, Bool.and_eq_true] at h
  obtain ⟨⟨h1, h2⟩, h3⟩ := h
  obtain ⟨k1, k2⟩ := risingFrom_len r x h1 h3
  have a := okName_key hy
  have b := okName_key h1
  have hlt : key y < key x := by
   unfold lessB at h2
   simp only [Bool.or_eq_true, Bool.and_eq_true, decide_eq_true_eq] at h2
   unfold key
   rcases h2 with h2 | ⟨h2, h4⟩ <;> omega
  refine ⟨by simp only [List.length_cons]; omega, fun n hn => ?_⟩
  rcases List.mem_cons.1 hn with rfl | hn
  ·exact h1
  ·exact k2 n hn
theorem rising_ok {l : List Edit} (h : risingB l = true) : l.length ≤ 256 ∧ ∀ n ∈ l, okName n = true := by
 cases l with
 | nil => exact ⟨by simp, by simp⟩
 | cons x r =>
  simp only [risingB, Bool.and_eq_true] at h
  obtain ⟨k1, k2⟩ := risingFrom_len r x h.1 h.2
  have a := okName_key h.1
  refine ⟨by simp only [List.length_cons]; omega, fun n hn => ?_⟩
  rcases List.mem_cons.1 hn with rfl | hn
  ·exact h.1
  ·exact k2 n hn
theorem rising_setOk {l : List Edit} (h : risingB l = true) : setOk l :=
 ⟨by have := (rising_ok h).1; omega, fun n hn => by have := okName_key ((rising_ok h).2 n hn); exact ⟨this.2.2.1, this.2.2.2.1⟩⟩
theorem setsB_mem : ∀ (r pre : List (List Edit)), setsB pre r = true → ∀ l ∈ r, risingB l = true
 | [], _, _, l, hl => by simp at hl
 | x :: r, pre, h, l, hl => by
  simp only [setsB, Bool.and_eq_true] at h
  rcases List.mem_cons.1 hl with rfl | hl
  ·exact h.1.1
  ·exact setsB_mem r _ h.2 l hl
theorem possB_ok {l : List Int} (h : possB l = true) : l.length ≤ 160 ∧ ∀ n ∈ l, i64 n ∧ 0 ≤ n ∧ n ≤ 999 := by
 unfold possB at h
 simp only [Bool.and_eq_true, decide_eq_true_eq] at h
 refine ⟨h.1.1, fun n hn => ?_⟩
 have := List.all_eq_true.1 h.1.2 n hn
 simp only [Bool.and_eq_true, decide_eq_true_eq] at this
 exact ⟨⟨by omega, by omega⟩, this.1, this.2⟩
structure Proper (w : Bool) (v : Vd) : Prop where
 named : namedB v.2.1 = true
 k0 : 0 ≤ v.1
 k1 : v.1 < 6
 w : w = true
 m0 : 0 ≤ v.2.2.2.2.1
 m1 : v.2.2.2.2.1 < 4
 word : possB v.2.2.2.1 = true
 many : v.2.2.1.length ≤ 1024
 sets : setsB [] v.2.2.1 = true
 ks : (kindOf v.1).2.2.1 = decide (0 < v.2.2.1.length)
 kb : (kindOf v.1).2.2.2.1 = decide (0 < v.2.2.2.2.2.1.length)
 kw : (kindOf v.1).2.2.2.2 = true ∨ v.2.2.2.1 = []
 km : v.2.2.2.2.1 = 0 ∨ v.1 = 5
theorem properB_iff {w : Bool} {v : Vd} : properB w v = true ↔ Proper w v := by
 unfold properB
 simp only [Bool.and_eq_true, decide_eq_true_eq, beq_iff_eq, Bool.or_eq_true]
 constructor
 ·rintro ⟨⟨⟨⟨⟨⟨⟨⟨⟨⟨⟨⟨a, b⟩, c⟩, d⟩, e⟩, f⟩, g⟩, h⟩, i⟩, j⟩, k⟩, l⟩, m⟩
  exact ⟨a, b, c, d, e, f, g, h, i, j, k, l.imp id List.eq_nil_of_length_eq_zero, m⟩
 ·rintro ⟨a, b, c, d, e, f, g, h, i, j, k, l, m⟩
  exact ⟨⟨⟨⟨⟨⟨⟨⟨⟨⟨⟨⟨a, b⟩, c⟩, d⟩, e⟩, f⟩, g⟩, h⟩, i⟩, j⟩, k⟩, l.imp id fun h => by rw [h]; rfl⟩, m⟩
theorem kindOf_len (k : Int) : (kindOf k).1.length ≤ 100 ∧ (kindOf k).2.1.length ≤ 100 := by
 have gen : ∀ x ∈ kindsTab, x.1.length ≤ 100 ∧ x.2.1.length ≤ 100 := by decide
 unfold kindOf
 rw [List.getD_eq_getElem?_getD]
 cases h : kindsTab[k.toNat]? with
 | none => simp
 | some x => exact gen x (List.mem_of_getElem? h)
theorem rep1_len (c : UInt8) (new : List UInt8) : ∀ s : List UInt8, (rep1 c new s).length ≤ s.length + new.length
 | [] => by simp [rep1]
 | b :: s => by
  have := rep1_len c new s
  simp only [rep1]
  split
  ·simp only [List.length_append, List.length_cons]; omega
  ·simp only [List.length_cons]; omega
theorem machL_len (s : List UInt8) (m : Int) : (machL s m).length ≤ s.length + 21 := by
 have h1 := rep1_len 35 (itoaL m) s
 have h2 := itoaL_len m
 unfold machL; omega
theorem report_bound_eq {r : List Int × List Int} {t : List UInt8} (h : ratio_Print (r.1, r.2) = some (t, 0)) (ht : t.length ≤ 1235) : report_bound (r.1, r.2) = some (S_it_fails_with_5cf6 ++ t ++ S__cdb4) := by
 unfold report_bound
 simp only
 rw [h]
 simp only [Option.bind_some]
 have e1 : S_it_fails_with_5cf6.length = 26 := rfl
 have e2 : S__cdb4.length = 1 := rfl
 rw [chk_d (by omega), chk_d (by simp only [List.length_append]; omega)]
theorem namedB_len {s : List UInt8} (h : namedB s = true) : s.length ≤ 16 := by
 cases s with
 | nil => simp
 | cons c r =>
  simp only [namedB, Bool.and_eq_true, decide_eq_true_eq] at h
  exact h.1.1.1
theorem report_Print_eq {v : Vd} {t : List UInt8} (hr : RatOk v.2.2.2.2.2) (ht : ratio_Print (v.2.2.2.2.2.1, v.2.2.2.2.2.2) = some (t, 0)) (htl : t.length ≤ 1235) (hn : Small v.2.2.1) (hs : ∀ l ∈ v.2.2.1, Small l) :
  report_Print v = some (if properB (decide (nat32 v.2.2.2.2.2.1 ≤ denN (nat32 v.2.2.2.2.2.2))) v = true then (textL t v, 0) else ([], 1)) := by
 have hp := report_proper_eq (report_within_eq hr) hn hs
 unfold report_Print
 have hv : (v.1, v.2.1, v.2.2.1, v.2.2.2.1, v.2.2.2.2.1, (v.2.2.2.2.2.1, v.2.2.2.2.2.2)) = v := rfl
 rw [hv, hp]
 simp only [Option.bind_some]
 cases hb : properB (decide (nat32 v.2.2.2.2.2.1 ≤ denN (nat32 v.2.2.2.2.2.2))) v
 ·rfl
 ·have P := properB_iff.1 hb
  simp only [Bool.not_true, cond_false, if_true]
  have hk0 := P.k0
  have hk1 := P.k1
  rw [chk_d ⟨by omega, by omega⟩]
  have hk : idx kindsTab v.1 = some (kindOf v.1) := by
   obtain ⟨k, hk⟩ : ∃ k : Nat, v.1 = k := ⟨v.1.toNat, by omega⟩
   have hk6 : k < kindsTab.length := by show k < 6; omega
   rw [hk, idx_nat (List.getElem?_eq_getElem hk6)]
   simp [kindOf, List.getD_eq_getElem?_getD, List.getElem?_eq_getElem hk6]
  have hkl := kindOf_len v.1
  have hml := machL_len (kindOf v.1).1 v.2.2.2.2.1
  have hnl := namedB_len P.named
  rw [hk]
  simp only [Option.bind_some]
  rw [report_machine_eq (by omega) P.m0 P.m1]
  simp only [Option.bind_some]
  have hmany := P.many
  rw [chk_d (by omega), printed_sets_eq (by omega) fun l hl => rising_setOk (setsB_mem _ _ P.sets l hl)]
  simp only [Option.bind_some]
  rw [chk_t (appOk_le (by simp only [List.length_singleton, List.length_map]; omega) (by omega))]
  have hw := possB_ok P.word
  have hch := report_choices_eq (l := v.2.2.2.1) (by omega) fun n hn => (hw.2 n hn).1
  have hb1 := report_bound_eq ht htl
  have e1 : (bif decide ((0 : Int) < (v.2.2.2.2.2.1.length : Int)) then
       (report_bound (v.2.2.2.2.2.1, v.2.2.2.2.2.2)).bind fun r6 =>
       chk (appOk ([v.2.1 ++ machL (kindOf v.1).1 v.2.2.2.2.1] ++ v.2.2.1.map setL).length [r6].length 16) (
        some (([v.2.1 ++ machL (kindOf v.1).1 v.2.2.2.2.1] ++ v.2.2.1.map setL) ++ [r6]))
      else
       some ([v.2.1 ++ machL (kindOf v.1).1 v.2.2.2.2.1] ++ v.2.2.1.map setL) : Option (List (List UInt8))) =
    some ([v.2.1 ++ machL (kindOf v.1).1 v.2.2.2.2.1] ++ v.2.2.1.map setL ++ (if v.2.2.2.2.2.1 = [] then [] else [S_it_fails_with_5cf6 ++ t ++ S__cdb4])) := by
   by_cases h0 : v.2.2.2.2.2.1 = []
   ·rw [if_pos h0, h0]
    simp
   ·have hlen : 0 < v.2.2.2.2.2.1.length := List.length_pos_iff.2 h0
    rw [if_neg h0, dec_t (show (0 : Int) < (v.2.2.2.2.2.1.length : Int) by omega), cond_true, hb1]
    simp only [Option.bind_some]
    rw [chk_t (appOk_le (by simp only [List.length_append, List.length_singleton, List.length_map]; omega) (by omega))]
  rw [e1]
  simp only [Option.bind_some]
  by_cases h0 : v.2.2.2.1 = []
  ·have e2 : decide ((0 : Int) < (v.2.2.2.1.length : Int)) = false := by rw [h0]; rfl
   rw [e2, cond_false]
   simp only [Option.bind_some]
   unfold textL
   rw [if_pos h0, List.append_nil]
   rfl
  ·have hlen : 0 < v.2.2.2.1.length := List.length_pos_iff.2 h0
   have hl2 : (if v.2.2.2.2.2.1 = [] then ([] : List (List UInt8)) else [S_it_fails_with_5cf6 ++ t ++ S__cdb4]).length ≤ 1 := by split <;> simp
   rw [dec_t (show (0 : Int) < (v.2.2.2.1.length : Int) by omega), cond_true, hch]
   simp only [Option.bind_some]
   rw [chk_t (appOk_le (by simp only [List.length_append, List.length_singleton, List.length_map]; omega) (by omega))]
   simp only [Option.bind_some]
   unfold textL
   rw [if_neg h0]
   rfl
end Go.Proofs.YtknnphhepnbaoaaGreatDoor
namespace Go.Proofs.YtknnphhepnbaoaaGreatDoor
open Go.Sm
def rowJ (f : List UInt8) (l : List (List UInt8)) : List UInt8 := joinL (f :: l) S__36a9
theorem rowJ_len {f : List UInt8} {l : List (List UInt8)} (hf : f.length ≤ 2000) (hl : l.length ≤ 1000) (h : ∀ x ∈ l, x.length ≤ 2000) : (rowJ f l).length ≤ 2100000 := by
 have h1 := joinL_len S__36a9 (m := 2000) (f :: l) fun x hx => by
  rcases List.mem_cons.1 hx with rfl | hx
  ·exact hf
  ·exact h x hx
 have e : S__36a9.length = 1 := rfl
 rw [e, List.length_cons] at h1
 unfold rowJ; omega
theorem report_row_eq {f : List UInt8} {l : List (List UInt8)} (hf : f.length ≤ 2000) (hl : l.length ≤ 1000) (h : ∀ x ∈ l, x.length ≤ 2000) : report_Facts_1 f l = some (rowJ f l) := by
 have h1 := rowJ_len hf hl h
 unfold report_Facts_1
 rw [chk_t (appOk_le (by simp only [List.length_singleton]; omega) (by omega))]
 have hj : xJoin ([f] ++ l) S__36a9 = some (rowJ f l) := by
  unfold xJoin
  refine chk_t ?_
  rw [Bool.and_eq_true, decide_eq_true_eq, decide_eq_true_eq]
  refine ⟨by simp only [List.length_append, List.length_singleton]; omega, ?_⟩
  show (rowJ f l).length ≤ _
  omega
 rw [hj]
 rfl
theorem printed_loop2 {α : Type} {f : (List (List UInt8)) × Int → Option (((List (List UInt8)) × Int) ⊕ (List (List UInt8)))} {one : α → Option (List UInt8)} {t : α → List UInt8} (xs : List α) (a0 : List (List UInt8)) (hn : xs.length + a0.length ≤ 1000000) (h1 : ∀ x ∈ xs, one x = some (t x))
  (hstep : ∀ (i : Nat) (x : α) (a : List (List UInt8)), xs[i]? = some x → f (a, (i : Int)) = (one x).bind fun r => chk (appOk a.length [r].length 16) (some (Sum.inl (a ++ [r], w64 ((i : Int) + 1)))))
  (hend : ∀ a, f (a, (xs.length : Int)) = some (.inr a)) : Itr.it f (a0, (0 : Int)) = some (a0 ++ xs.map t) := by
 have h := it_fold (f := f) (fun i (a : List (List UInt8)) => (a, i)) xs (fun a x => a ++ [t x]) id (fun k a => a.length = a0.length + k) (by omega)
  (fun i x a hx ha => by
   have hlt := lt_of_at hx
   refine ⟨?_, by simp only [List.length_append, List.length_singleton]; omega⟩
   show f (a, (i : Int)) = _
   rw [hstep i x a hx, h1 x (List.mem_of_getElem? hx)]
   simp only [Option.bind_some]
   rw [chk_t (appOk_le (by simp only [List.length_singleton]; omega) (by omega)), w64_id (by omega) (by omega)])
  (fun a _ => hend a) (a := a0) rfl
 rw [h]
 congr 1
 have gen : ∀ (l : List α) (a : List (List UInt8)), l.foldl (fun a x => a ++ [t x]) a = a ++ l.map t := by
  intro l
  induction l with
  | nil => intro a; simp
  | cons x l ih => intro a; simp [ih]
 simpa using gen xs a0
def factsL (t : List UInt8) (v : Vd) : List (List UInt8) :=
 rowJ S_verdict_11e2 [v.2.1, machL (kindOf v.1).2.1 v.2.2.2.2.1] :: v.2.2.1.map (fun s => rowJ S_set_6ee0 (s.map nameL)) ++ (if v.2.2.2.2.2.1 = [] then [] else [rowJ S_measure_1501 [t]]) ++ (if v.2.2.2.1 = [] then [] else [rowJ S_word_98c1 (v.2.2.2.1.map itoaL)])
theorem report_Facts_eq {v : Vd} {t : List UInt8} (hr : RatOk v.2.2.2.2.2) (ht : ratio_Print (v.2.2.2.2.2.1, v.2.2.2.2.2.2) = some (t, 0)) (htl : t.length ≤ 1235) (hn : Small v.2.2.1) (hs : ∀ l ∈ v.2.2.1, Small l) :
  report_Facts v = some (if properB (decide (nat32 v.2.2.2.2.2.1 ≤ denN (nat32 v.2.2.2.2.2.2))) v = true then (factsL t v, 0) else ([], 1)) := by
 have hp := report_proper_eq (report_within_eq hr) hn hs
 unfold report_Facts
 have hv : (v.1, v.2.1, v.2.2.1, v.2.2.2.1, v.2.2.2.2.1, (v.2.2.2.2.2.1, v.2.2.2.2.2.2)) = v := rfl
 rw [hv, hp]
 simp only [Option.bind_some]
 cases hb : properB (decide (nat32 v.2.2.2.2.2.1 ≤ denN (nat32 v.2.2.2.2.2.2))) v
 ·rfl
 ·have P := properB_iff.1 hb
  simp only [Bool.not_true, cond_false, if_true]
  have hk0 := P.k0
  have hk1 := P.k1
  rw [chk_d ⟨by omega, by omega⟩]
  have hk : idx kindsTab v.1 = some (kindOf v.1) := by
   obtain ⟨k, hk⟩ : ∃ k : Nat, v.1 = k := ⟨v.1.toNat, by omega⟩
   have hk6 : k < kindsTab.length := by show k < 6; omega
   rw [hk, idx_nat (List.getElem?_eq_getElem hk6)]
   simp [kindOf, List.getD_eq_getElem?_getD, List.getElem?_eq_getElem hk6]
  have hkl := kindOf_len v.1
  have hml := machL_len (kindOf v.1).2.1 v.2.2.2.2.1
  have hnl := namedB_len P.named
  have hmany := P.many
  have hw := possB_ok P.word
  rw [hk]
  simp only [Option.bind_some]
  rw [report_machine_eq (by omega) P.m0 P.m1]
  simp only [Option.bind_some]
  rw [report_row_eq (f := S_verdict_11e2) (by decide) (by simp) (fun x hx => by
   simp only [List.mem_cons, List.not_mem_nil, or_false] at hx
   rcases hx with rfl | rfl <;> omega)]
  simp only [Option.bind_some]
  have hset : ∀ s ∈ v.2.2.1, risingB s = true := fun s hs => setsB_mem _ _ P.sets s hs
  have hloop := printed_loop2 (f := report_Facts_loop1 v) (one := fun s => (report_printed_api_Name_f50 s).bind fun r9 => report_Facts_1 S_set_6ee0 r9) (t := fun s => rowJ S_set_6ee0 (s.map nameL)) v.2.2.1 [rowJ S_verdict_11e2 [v.2.1, machL (kindOf v.1).2.1 v.2.2.2.2.1]] (by simp only [List.length_singleton]; omega)
   (fun s hs => by
    have ho := rising_setOk (hset s hs)
    have hl := (rising_ok (hset s hs)).1
    show (report_printed_api_Name_f50 s).bind _ = _
    rw [printed_names_eq (by omega) ho.2]
    simp only [Option.bind_some]
    exact report_row_eq (by decide) (by rw [List.length_map]; omega) fun x hx => by have := names_len s x hx; omega)
   (fun i x a hx => by
    have hlt := lt_of_at hx
    unfold report_Facts_loop1
    simp only
    rw [dec_t (show (i : Int) < (v.2.2.1.length : Int) by omega), cond_true, idx_nat hx]
    simp only [Option.bind_some, Option.bind_assoc]) (fun a => by unfold report_Facts_loop1; simp)
  rw [hloop]
  simp only [Option.bind_some]
  have hm : report_Facts_1 S_measure_1501 [t] = some (rowJ S_measure_1501 [t]) := report_row_eq (by decide) (by simp) fun x hx => by
   simp only [List.mem_cons, List.not_mem_nil, or_false] at hx
   subst hx; omega
  have hwd : report_Facts_1 S_word_98c1 (v.2.2.2.1.map itoaL) = some (rowJ S_word_98c1 (v.2.2.2.1.map itoaL)) := report_row_eq (by decide) (by rw [List.length_map]; omega) fun x hx => by
   have := ints_len _ x hx; omega
  have e1 : (bif decide ((0 : Int) < (v.2.2.2.2.2.1.length : Int)) then
     (ratio_Print (v.2.2.2.2.2.1, v.2.2.2.2.2.2)).bind fun r12 =>
     (report_Facts_1 S_measure_1501 [r12.1]).bind fun r13 =>
     chk (appOk ([rowJ S_verdict_11e2 [v.2.1, machL (kindOf v.1).2.1 v.2.2.2.2.1]] ++ v.2.2.1.map fun s => rowJ S_set_6ee0 (s.map nameL)).length [r13].length 16) (
      some (([rowJ S_verdict_11e2 [v.2.1, machL (kindOf v.1).2.1 v.2.2.2.2.1]] ++ v.2.2.1.map fun s => rowJ S_set_6ee0 (s.map nameL)) ++ [r13]))
    else
     some ([rowJ S_verdict_11e2 [v.2.1, machL (kindOf v.1).2.1 v.2.2.2.2.1]] ++ v.2.2.1.map fun s => rowJ S_set_6ee0 (s.map nameL)) : Option (List (List UInt8))) =
    some ([rowJ S_verdict_11e2 [v.2.1, machL (kindOf v.1).2.1 v.2.2.2.2.1]] ++ (v.2.2.1.map fun s => rowJ S_set_6ee0 (s.map nameL)) ++ (if v.2.2.2.2.2.1 = [] then [] else [rowJ S_measure_1501 [t]])) := by
   by_cases h0 : v.2.2.2.2.2.1 = []
   ·rw [if_pos h0, h0]
    simp
   ·have hlen : 0 < v.2.2.2.2.2.1.length := List.length_pos_iff.2 h0
    rw [if_neg h0, dec_t (show (0 : Int) < (v.2.2.2.2.2.1.length : Int) by omega), cond_true, ht]
    simp only [Option.bind_some]
    rw [hm]
    simp only [Option.bind_some]
    rw [chk_t (appOk_le (by simp only [List.length_append, List.length_singleton, List.length_map]; omega) (by omega))]
  rw [e1]
  simp only [Option.bind_some]
  by_cases h0 : v.2.2.2.1 = []
  ·have e2 : decide ((0 : Int) < (v.2.2.2.1.length : Int)) = false := by rw [h0]; rfl
   rw [e2, cond_false]
   simp only [Option.bind_some]
   unfold factsL
   rw [if_pos h0, List.append_nil]
   rfl
  ·have hlen : 0 < v.2.2.2.1.length := List.length_pos_iff.2 h0
   have hl2 : (if v.2.2.2.2.2.1 = [] then ([] : List (List UInt8)) else [rowJ S_measure_1501 [t]]).length ≤ 1 := by split <;> simp
   rw [dec_t (show (0 : Int) < (v.2.2.2.1.length : Int) by omega), cond_true, printed_ints_eq (by omega) fun n hn => (hw.2 n hn).1]
   simp only [Option.bind_some]
   rw [hwd]
   simp only [Option.bind_some]
   rw [chk_t (appOk_le (by simp only [List.length_append, List.length_singleton, List.length_map]; omega) (by omega))]
   simp only [Option.bind_some]
   unfold factsL
   rw [if_neg h0]
   rfl
end Go.Proofs.YtknnphhepnbaoaaGreatDoor
namespace Go.Proofs.YtknnphhepnbaoaaGreatDoor
open Go.Sm
theorem it_find {R : Type} {f : Int → Option (Int ⊕ R)} (n : Nat) (g : Nat → Option R) (e : R) (hn : n < 9223372036854775808)
  (hstep : ∀ i : Nat, i < n → f i = some (match g i with | some r => .inr r | none => .inl ((i : Int) + 1))) (hend : f n = some (.inr e)) : Itr.it f (0 : Int) = some (((List.range n).findSome? g).getD e) := by
 have h := it_inv (f := f) (fun s => n - s.toNat) (fun s => ∃ k : Nat, s = (k : Int) ∧ k ≤ n ∧ (List.range k).findSome? g = none) (fun r => r = ((List.range n).findSome? g).getD e)
  (fun s hs => by
   obtain ⟨k, rfl, hk, h0⟩ := hs
   by_cases hlt : k < n
   ·cases hg : g k with
    | some r =>
     left
     refine ⟨r, by rw [hstep k hlt, hg], ?_⟩
     have : (List.range n).findSome? g = some r := by
      have e1 : List.range n = List.range k ++ (List.range (n - k)).map (k + ·) := by
       rw [← List.range_add]; congr 1; omega
      have e2 : List.range (n - k) = 0 :: (List.range (n - k - 1)).map Nat.succ := by
       rw [← List.range_succ_eq_map]; congr 1; omega
      rw [e1, List.findSome?_append, h0, e2]
      simp [hg]
     rw [this]; rfl
    | none =>
     right
     refine ⟨(k : Int) + 1, by rw [hstep k hlt, hg], ⟨k + 1, by omega, by omega, ?_⟩, by omega⟩
     rw [List.range_succ, List.findSome?_append, h0]
     simp [hg]
   ·left
    have : k = n := by omega
    subst this
    exact ⟨e, hend, by rw [h0]; rfl⟩) (s := (0 : Int)) ⟨0, rfl, by omega, rfl⟩ (by omega)
 obtain ⟨r, h1, rfl⟩ := h
 exact h1
end Go.Proofs.YtknnphhepnbaoaaGreatDoor
namespace Go.Proofs.YtknnphhepnbaoaaGreatDoor
open Go.Sm
end Go.Proofs.YtknnphhepnbaoaaGreatDoor
namespace Go.Proofs.YtknnphhepnbaoaaGreatDoor
open Go.Sm
end Go.Proofs.YtknnphhepnbaoaaGreatDoor
namespace Go.Proofs.YtknnphhepnbaoaaGreatDoor
open Go.Sm
end Go.Proofs.YtknnphhepnbaoaaGreatDoor
namespace Go.Proofs.YtknnphhepnbaoaaGreatDoor
open Go.Sm
structure Meas (v : Vd) (s : List UInt8) (r : List Int × List Int) : Prop where
 kb : (kindOf v.1).2.2.2.1 = true
 ks : ¬ ((kindOf v.1).2.2.1 = true ∧ v.2.2.1 = [])
 vb : v.2.2.2.2.2.1 = []
 ok : RatOk r
 pos : r.1 ≠ []
 le : nat32 r.1 ≤ denN (nat32 r.2)
 tx : ∃ t, RatText r t ∧ s = S_it_fails_with_5cf6 ++ t ++ S__cdb4
end Go.Proofs.YtknnphhepnbaoaaGreatDoor
namespace Go.Proofs.YtknnphhepnbaoaaGreatDoor
open Go.Sm
def m2 (s : List UInt8) (v : Vd) : Option Vd := match report_readers_2 s v with
 | some (true, w) => some w
 | _ => none
theorem ratOk_zero : RatOk (([], []) : List Int × List Int) :=
 ⟨⟨by simp [limbs], by simp⟩, ⟨by simp [limbs], by simp⟩, by simp, by simp, fun h => absurd rfl h, by simp [validB, nat32]⟩
structure InvV (v : Vd) : Prop where
 k0 : 0 ≤ v.1
 k1 : v.1 < 6
 many : v.2.2.1.length ≤ 1024
 sets : ∀ l ∈ v.2.2.1, risingB l = true
 ok : RatOk v.2.2.2.2.2
end Go.Proofs.YtknnphhepnbaoaaGreatDoor
namespace Go.Proofs.YtknnphhepnbaoaaGreatDoor
open Go.Sm
def leB (v : Vd) : Bool := decide (nat32 v.2.2.2.2.2.1 ≤ denN (nat32 v.2.2.2.2.2.2))
end Go.Proofs.YtknnphhepnbaoaaGreatDoor
namespace Go.Proofs.YtknnphhepnbaoaaGreatDoor
open Go.Sm
theorem around_eq {x m : Int} (hx : i64 x) (hm : 0 < m) : ∃ r, culpritref01_Around x m = some r ∧ 0 ≤ r ∧ r < m := by
 unfold culpritref01_Around
 have hz : (m == 0) = false := by rw [beq_eq_false_iff_ne]; omega
 obtain ⟨h1, h2⟩ := hx
 have key : ∀ y : Int, 0 ≤ y → 0 ≤ Int.tmod y m ∧ Int.tmod y m < m := fun y hy => by
  rw [Int.tmod_eq_emod_of_nonneg hy]
  exact ⟨Int.emod_nonneg _ (by omega), Int.emod_lt_of_pos _ hm⟩
 by_cases h0 : x < 0
 ·have e1 : w64 (0 - w64 (x + 1)) = -(x + 1) := by
   rw [w64_id (x := x + 1) (by omega) (by omega), w64_id (by omega) (by omega)]; omega
  rw [dec_t h0, cond_true, e1, hz]
  exact ⟨_, rfl, key _ (by omega)⟩
 ·rw [dec_f h0, cond_false, hz]
  exact ⟨_, rfl, key _ (by omega)⟩
theorem at_eq {l : List Int} {k m : Int} (hl : ∀ n ∈ l, i64 n) (hm : 0 < m) : ∃ r, culpritref01_At l k m = some r ∧ 0 ≤ r ∧ r < m := by
 unfold culpritref01_At
 by_cases h0 : k < 0
 ·rw [dec_t h0]
  exact ⟨0, rfl, by omega, hm⟩
 by_cases h1 : (l.length : Int) ≤ k
 ·rw [dec_f h0, dec_t h1]
  exact ⟨0, rfl, by omega, hm⟩
 ·obtain ⟨v, hv, hv2⟩ := idx_lt (a := l) (i := k) (by omega) (by omega)
  obtain ⟨r, e1, e2⟩ := around_eq (hl v (List.mem_of_getElem? hv2)) hm
  rw [dec_f h0, dec_f h1, hv]
  simp only [cond_false, Option.bind_some, e1]
  exact ⟨r, rfl, e2⟩
theorem sameNames_eq (a b : List Edit) (hn : Small a) : culpritref22_SameNames a b = some (decide (a = b)) := by
 unfold culpritref22_SameNames
 by_cases hl : a.length = b.length
 ·have e0 : ((a.length : Int) != (b.length : Int)) = false := by simp [hl]
  rw [e0, cond_false]
  have h := it_all (f := culpritref22_SameNames_loop1 a b) (z := false) a (fun i x => decide (b[i]? = some x)) hn
   (fun i x hx => by
    have hlt := lt_of_at hx
    have hb : b[i]? = some b[i] := List.getElem?_eq_getElem (by omega)
    unfold culpritref22_SameNames_loop1
    rw [dec_t (show (i : Int) < (a.length : Int) by omega), cond_true, idx_nat hx, idx_nat hb]
    simp only [Option.bind_some, hb, Option.some.injEq]
    generalize b[i] = y
    obtain ⟨x1, x2⟩ := x
    obtain ⟨y1, y2⟩ := y
    have e1 : ((x1 : Int) == y1) = decide (y1 = x1) := by rw [Bool.eq_iff_iff, beq_iff_eq, decide_eq_true_eq]; exact eq_comm
    have e2 : ((x2 : Int) == y2) = decide (y2 = x2) := by rw [Bool.eq_iff_iff, beq_iff_eq, decide_eq_true_eq]; exact eq_comm
    rw [e1, e2]
    by_cases h1 : y1 = x1 <;> by_cases h2 : y2 = x2 <;> simp [h1, h2, succ64 hn hx])
   (by unfold culpritref22_SameNames_loop1; simp)
  rw [h, allI_eq hl]
  cases decide (a = b) <;> rfl
 ·have e0 : ((a.length : Int) != (b.length : Int)) = true := by simp; omega
  rw [e0, cond_true, dec_f (show ¬ a = b from fun e => hl (by rw [e]))]
end Go.Proofs.YtknnphhepnbaoaaGreatDoor
