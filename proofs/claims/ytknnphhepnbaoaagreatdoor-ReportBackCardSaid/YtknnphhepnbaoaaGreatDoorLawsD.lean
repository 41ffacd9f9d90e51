/-
  What the functions of package report compute: Parse, whole. No program is walked here.
  Package report: what is read is what prints so; what prints so is read. No program is walked here.
  Package report: what prints so is read. No program is walked here.
  Package report: two verdicts with the same facts are one. No program is walked here.
  The reference models' small functions: numbers drawn from a list, lists compared. Over Fn of all seven laws. No program is walked here.
  The reference models' comparison of verdicts. Over Fn of all seven laws. No program is walked here.
-/
import Derived.Test.YtknnphhepnbaoaaGreatDoorLawsC

namespace Go.Proofs.YtknnphhepnbaoaaGreatDoor
open Go.Sm

/-- The sentences behind the first one, read; else the number of the wrong one. -/
def runP : List (List UInt8) → Nat → Vd → Vd ⊕ Nat
  | [], _, v => .inl v
  | s :: r, i, v => match stepP s v with
    | some w => runP r (i + 1) w
    | none => .inr (i + 1)

theorem runP_inv {m : Nat} (hG : GcdAll m) : ∀ (r : List (List UInt8)) (i : Nat) (v w : Vd), InvV v → (∀ s ∈ r, Few m s) → runP r i v = .inl w → InvV w
  | [], _, v, w, hv, _, h => by
    simp only [runP, Sum.inl.injEq] at h
    subst h; exact hv
  | s :: r, i, v, w, hv, hs, h => by
    simp only [runP] at h
    cases h1 : stepP s v with
    | none => rw [h1] at h; cases h
    | some u =>
      rw [h1] at h
      exact runP_inv hG r (i + 1) u w (stepP_inv hv hG (hs s (by simp)) h1) (fun z hz => hs z (List.mem_cons_of_mem _ hz)) h

theorem parse_outer {s0 : List UInt8} {r : List (List UInt8)} {v : Vd} {m : Nat} (hv : InvV v) (hG : GcdAll m) (hs : ∀ s ∈ r, Few m s) (hn : Small (s0 :: r)) :
    Itr.it (report_Parse_loop1 (s0 :: r)) (0, v) = some (match runP r 0 v with | .inl w => .inl w | .inr i => .inr (vd0, (i : Int), 2)) := by
  have hlen : (s0 :: r).length = r.length + 1 := rfl
  have hr : (((s0 :: r).take (((s0 :: r).length : Int)).toNat).drop (1 : Int).toNat) = r := by
    rw [Int.toNat_natCast, List.take_length]; rfl
  have h := it_inv (f := report_Parse_loop1 (s0 :: r)) (fun st => r.length - st.1.toNat)
    (fun st => ∃ k : Nat, st.1 = (k : Int) ∧ k ≤ r.length ∧ InvV st.2 ∧ runP (r.drop k) k st.2 = runP r 0 v)
    (fun res => res = match runP r 0 v with | .inl w => .inl w | .inr i => .inr (vd0, (i : Int), 2))
    (fun st hst => by
      obtain ⟨a, u⟩ := st
      obtain ⟨k, h1, h2, h3, h4⟩ := hst
      simp only at h1 h3 h4
      subst h1
      unfold report_Parse_loop1
      simp only
      rw [hr]
      by_cases hk : k < r.length
      · have hx : r[k]? = some r[k] := List.getElem?_eq_getElem hk
        have hin := parse_inner h3 hG (hs r[k] (List.getElem_mem hk))
        rw [List.drop_eq_getElem_cons hk] at h4
        simp only [runP] at h4
        rw [dec_t (show (k : Int) < (r.length : Int) by omega), idx_nat hx]
        simp only [cond_true, Option.bind_some]
        have hrd : report_readers = some [99, 104, 106] := rfl
        rw [hrd]
        simp only [Option.bind_some]
        have hw : w64 ((k : Int) + 1) = ((k + 1 : Nat) : Int) := by rw [w64_id (by omega) (by omega)]; omega
        have hin2 : Itr.it (report_Parse_loop2 r[k] [99, 104, 106]) (0, u.1, u.2.1, u.2.2.1, u.2.2.2.1, u.2.2.2.2.1, u.2.2.2.2.2.1, u.2.2.2.2.2.2) = some (match stepP r[k] u with | some w => .inr (.inl w) | none => .inl u) := hin
        rw [hin2]
        cases hst : stepP r[k] u with
        | some w =>
          right
          rw [hst] at h4
          refine ⟨(((k + 1 : Nat) : Int), w), ?_, ⟨k + 1, rfl, by omega, stepP_inv h3 hG (hs r[k] (List.getElem_mem hk)) hst, h4⟩, by simp only [Int.toNat_natCast]; omega⟩
          simp only [Option.bind_some]
          rw [hw]
        | none =>
          left
          rw [hst] at h4
          refine ⟨_, rfl, ?_⟩
          rw [← h4, hw]
          rfl
      · left
        have hk2 : k = r.length := by omega
        subst hk2
        rw [List.drop_length] at h4
        simp only [runP] at h4
        rw [dec_f (show ¬ (r.length : Int) < (r.length : Int) by omega), cond_false]
        exact ⟨_, rfl, by rw [← h4]⟩)
    (s := ((0 : Int), v)) ⟨0, rfl, by omega, hv, rfl⟩ (by simp only; omega)
  obtain ⟨res, e1, rfl⟩ := h
  exact e1

/-- The bound is at most one. -/
def leB (v : Vd) : Bool := decide (nat32 v.2.2.2.2.2.1 ≤ denN (nat32 v.2.2.2.2.2.2))

def parseL : List (List UInt8) → Vd × Int × Int
  | [] => (vd0, 0, 3)
  | s :: r => if (firstL s).2 then (match runP r 0 (firstL s).1 with
    | .inl w => if properB (leB w) w then (w, ((s :: r).length : Int), 0) else (vd0, ((s :: r).length : Int), 3)
    | .inr i => (vd0, (i : Int), 2)) else (vd0, 0, 2)

theorem firstL_inv {s : List UInt8} {v : Vd} (h : firstL s = (v, true)) : InvV v := by
  obtain ⟨k, m, hk, hm, _, t, _, rfl, _⟩ := firstL_back h
  exact ⟨by show 0 ≤ (k : Int); omega, by show (k : Int) < 6; omega, by show ([] : List (List Edit)).length ≤ 1024; simp, (fun l hl => by cases hl), ratOk_zero⟩

theorem report_Parse_eq {x : List (List UInt8)} {m : Nat} (hG : GcdAll m) (hs : ∀ s ∈ x, Few m s) (hn : Small x) : report_Parse x = some (parseL x) := by
  unfold report_Parse
  match x, hs, hn with
  | [], _, _ => rfl
  | s :: r, hs, hn =>
    have e0 : (((s :: r).length : Int) == 0) = false := by simp; omega
    have hi : idx (s :: r) (0 : Int) = some s := idx_nat (i := 0) rfl
    have hfew := (hs s (by simp)).1
    rw [e0, cond_false, hi]
    simp only [Option.bind_some]
    rw [report_first_eq (by omega)]
    simp only [Option.bind_some, parseL]
    cases hf : (firstL s).2
    · rfl
    · have hpair : firstL s = ((firstL s).1, true) := Prod.ext rfl hf
      have hinv := firstL_inv hpair
      generalize (firstL s).1 = v at *
      have hlen : (s :: r).length = r.length + 1 := rfl
      simp only [Bool.not_true, cond_false, if_true]
      rw [chk_d ⟨by omega, by omega, by omega⟩]
      have ho := parse_outer (s0 := s) hinv hG (fun z hz => hs z (List.mem_cons_of_mem _ hz)) hn
      have ho2 : Itr.it (report_Parse_loop1 (s :: r)) (0, v.1, v.2.1, v.2.2.1, v.2.2.2.1, v.2.2.2.2.1, v.2.2.2.2.2.1, v.2.2.2.2.2.2) = some (match runP r 0 v with | .inl w => .inl w | .inr i => .inr (vd0, (i : Int), 2)) := ho
      rw [ho2]
      cases hr : runP r 0 v with
      | inr i => rfl
      | inl w =>
        have hw := runP_inv hG r 0 v w hinv (fun z hz => hs z (List.mem_cons_of_mem _ hz)) hr
        simp only [Option.bind_some]
        have hveq : (w.1, w.2.1, w.2.2.1, w.2.2.2.1, w.2.2.2.2.1, (w.2.2.2.2.2.1, w.2.2.2.2.2.2)) = w := rfl
        rw [hveq, report_proper_eq (report_within_eq hw.ok) hw.small.1 hw.small.2]
        simp only [Option.bind_some]
        show (bif !(properB (leB w) w) then _ else _) = _
        cases properB (leB w) w <;> rfl

end Go.Proofs.YtknnphhepnbaoaaGreatDoor

namespace Go.Proofs.YtknnphhepnbaoaaGreatDoor
open Go.Sm

/-- Two ratios with one text are one. -/
theorem RatText.det {r r' : List Int × List Int} {t : List UInt8} (h : RatOk r) (h' : RatOk r') (ht : RatText r t) (ht' : RatText r' t) : r = r' := by
  obtain ⟨a, a1, a2, _, ha⟩ := ht
  obtain ⟨b, b1, b2, _, hb⟩ := ht'
  have n47a := dig_ne (rowB_dig a1)
  have n47b := dig_ne (rowB_dig b1)
  have es : S__8a5e = [47] := rfl
  rcases ha with ⟨k1, rfl⟩ | ⟨k1, x, x1, x2, _, rfl⟩ <;> rcases hb with ⟨l1, l2⟩ | ⟨l1, y, y1, y2, _, l2⟩
  · subst l2
    exact Prod.ext (canon_inj h.n h'.n (by rw [← a2, b2])) (by rw [k1, l1])
  · rw [l2, es] at n47a
    exact absurd (by simp) n47a
  · rw [← l2, es] at n47b
    exact absurd (by simp) n47b
  · rw [es] at l2
    have l3 : a ++ 47 :: x = b ++ 47 :: y := by simpa using l2
    obtain ⟨rfl, rfl⟩ := slash_inj n47a n47b l3
    exact Prod.ext (canon_inj h.n h'.n (by rw [← a2, b2])) (canon_inj h.d h'.d (by rw [← x2, y2]))

/-! ### What is read is what prints so -/
/-- The sentences are those of the verdict. -/
def TextIs (v : Vd) (ls : List (List UInt8)) : Prop := ∃ t, RatText v.2.2.2.2.2 t ∧ ls = textL t v

theorem step_text {s : List UInt8} {u w : Vd} {ls : List (List UInt8)} {m : Nat} (hu : InvV u) (hG : GcdAll m) (hs : Few m s) (hw : u.2.2.2.1 ≠ [] → u.2.2.2.2.2.1 ≠ []) (ht : TextIs u ls) (h : stepP s u = some w) :
    TextIs w (ls ++ [s]) ∧ (w.2.2.2.1 ≠ [] → w.2.2.2.2.2.1 ≠ []) := by
  obtain ⟨t, t1, rfl⟩ := ht
  unfold stepP at h
  cases h1 : read1 s u with
  | some l =>
    rw [h1] at h
    cases h
    unfold read1 at h1
    cases h2 : setArg s with
    | none => rw [h2] at h1; cases h1
    | some l' =>
      rw [h2] at h1
      simp only at h1
      split at h1
      · rename_i hc
        cases h1
        unfold setOkB at hc
        simp only [Bool.and_eq_true, decide_eq_true_eq, beq_iff_eq] at hc
        obtain ⟨⟨⟨⟨⟨_, hb⟩, _⟩, hsl⟩, _⟩, _⟩ := hc
        have hwd : u.2.2.2.1 = [] := Classical.byContradiction fun e => hw e hb
        refine ⟨⟨t, t1, ?_⟩, hw⟩
        unfold textL withSet
        simp only [hb, hwd, if_true, List.append_nil, List.map_append, List.map_cons, List.map_nil, hsl, List.cons_append]
      · cases h1
  | none =>
    rw [h1] at h
    simp only at h
    cases h2 : m2 s u with
    | some w' =>
      rw [h2] at h
      cases h
      obtain ⟨r, hM, rfl⟩ := (m2_eq hu hG hs).2.1 _ h2
      obtain ⟨t', ht', hse⟩ := hM.tx
      have hb := hM.vb
      have hwd : u.2.2.2.1 = [] := Classical.byContradiction fun e => hw e hb
      refine ⟨⟨t', ht', ?_⟩, fun _ => hM.pos⟩
      unfold textL withBound
      simp only [hb, hwd, if_true, List.append_nil, hM.pos, if_false, hse]
    | none =>
      rw [h2] at h
      simp only [Option.map_eq_some_iff] at h
      obtain ⟨l, h3, rfl⟩ := h
      unfold read3 at h3
      split at h3
      · rename_i hc
        simp only [Bool.and_eq_true, Bool.not_eq_true', decide_eq_false_iff_not, decide_eq_true_eq] at hc
        obtain ⟨⟨_, hb⟩, hwd⟩ := hc
        split at h3
        · rename_i l' hl'
          split at h3
          · rename_i hc2
            cases h3
            simp only [Bool.and_eq_true, beq_iff_eq] at hc2
            refine ⟨⟨t, t1, ?_⟩, fun _ => hb⟩
            have hne : l ≠ [] := fun e => by
              subst e
              have h5 : wordArg s = some [] := hl'
              have h6 : choicesL [] = s := hc2.2
              rw [← h6] at h5
              revert h5
              decide +kernel
            unfold textL withWord
            simp only [hb, hwd, if_true, List.append_nil, hne, if_false, hc2.2]
          · cases h3
        · cases h3
      · cases h3

theorem run_text {m : Nat} (hG : GcdAll m) : ∀ (r : List (List UInt8)) (i : Nat) (u w : Vd) (ls : List (List UInt8)), InvV u → (∀ s ∈ r, Few m s) → (u.2.2.2.1 ≠ [] → u.2.2.2.2.2.1 ≠ []) → TextIs u ls → runP r i u = .inl w → TextIs w (ls ++ r)
  | [], _, u, w, ls, _, _, _, ht, h => by
    simp only [runP, Sum.inl.injEq] at h
    subst h
    rw [List.append_nil]; exact ht
  | s :: r, i, u, w, ls, hu, hs, hw, ht, h => by
    simp only [runP] at h
    cases h1 : stepP s u with
    | none => rw [h1] at h; cases h
    | some v =>
      rw [h1] at h
      obtain ⟨q1, q2⟩ := step_text hu hG (hs s (by simp)) hw ht h1
      have := run_text hG r (i + 1) v w (ls ++ [s]) (stepP_inv hu hG (hs s (by simp)) h1) (fun z hz => hs z (List.mem_cons_of_mem _ hz)) q2 q1 h
      rwa [List.append_assoc] at this

theorem ratText_zero : RatText (([], []) : List Int × List Int) S_0_5fec := ⟨S_0_5fec, rfl, rfl, by decide, .inl ⟨rfl, rfl⟩⟩

/-- WHAT IS READ IS WHAT PRINTS SO. -/
theorem parse_text {x : List (List UInt8)} {y : Vd} {n : Int} {m : Nat} (hG : GcdAll m) (hs : ∀ s ∈ x, Few m s) (h : parseL x = (y, n, 0)) : TextIs y x ∧ InvV y ∧ properB (leB y) y = true ∧ n = (x.length : Int) := by
  match x, hs, h with
  | [], _, h => simp [parseL] at h
  | s :: r, hs, h =>
    simp only [parseL] at h
    split at h
    · rename_i hf
      have hpair : firstL s = ((firstL s).1, true) := Prod.ext rfl hf
      have hinv := firstL_inv hpair
      obtain ⟨k, j, hk, hj, hj0, t, ht, hv, hse⟩ := firstL_back hpair
      cases hr : runP r 0 (firstL s).1 with
      | inr i => rw [hr] at h; simp at h
      | inl w =>
        rw [hr] at h
        simp only at h
        split at h
        · rename_i hp
          simp only [Prod.mk.injEq, and_true] at h
          obtain ⟨rfl, rfl⟩ := h
          have h0 : TextIs (firstL s).1 [s] := by
            rw [hv]
            refine ⟨S_0_5fec, ratText_zero, ?_⟩
            unfold textL vdOf
            simp [hse]
          have hwd : (firstL s).1.2.2.2.1 ≠ [] → (firstL s).1.2.2.2.2.2.1 ≠ [] := by
            rw [hv]; intro e; exact absurd rfl e
          exact ⟨run_text hG r 0 _ _ [s] hinv (fun z hz => hs z (List.mem_cons_of_mem _ hz)) hwd h0 hr, runP_inv hG r 0 _ _ hinv (fun z hz => hs z (List.mem_cons_of_mem _ hz)) hr, hp, rfl⟩
        · simp at h
    · simp at h

end Go.Proofs.YtknnphhepnbaoaaGreatDoor

namespace Go.Proofs.YtknnphhepnbaoaaGreatDoor
open Go.Sm

theorem head_ne {c d : UInt8} {a b : List UInt8} (h : c ≠ d) : (c :: a == d :: b) = false := by
  rw [beq_eq_false_iff_ne]
  intro e
  exact h (List.cons.inj e).1

/-- A sentence that begins with 'i' is no set. -/
theorem read1_i {s q : List UInt8} {v : Vd} (h : s = 105 :: q) : read1 s v = none := by
  have hp : List.isPrefixOf S_the_edit_db6e s = false := by rw [h]; rfl
  have hp2 : List.isPrefixOf S_the_edits_27cf s = false := by rw [h]; rfl
  have ha : setArg s = some [] := by
    unfold setArg innerL
    simp only [hp, hp2, Bool.false_and, Bool.false_eq_true, if_false]
  unfold read1
  rw [ha]
  have hb : setOkB s v [] = false := by
    unfold setOkB
    have : (setL [] == s) = false := by
      rw [h]
      exact head_ne (c := 116) (d := 105) (by decide)
    rw [this]
    simp
  simp only
  rw [hb]
  simp

theorem run_sets {m : Nat} : ∀ (ls pre : List (List Edit)) (rest : List (List UInt8)) (i : Nat) (u : Vd), u.2.2.1 = pre → (ls ≠ [] → (kindOf u.1).2.2.1 = true) → u.2.2.2.2.2.1 = [] → setsB pre ls = true → pre.length + ls.length ≤ 1024 →
    runP (ls.map setL ++ rest) i u = runP rest (i + ls.length) (u.1, u.2.1, pre ++ ls, u.2.2.2.1, u.2.2.2.2.1, u.2.2.2.2.2)
  | [], pre, rest, i, u, hu, _, _, _, _ => by
    subst hu
    simp
  | l :: ls, pre, rest, i, u, hu, hk, hb, hset, hlen => by
    simp only [setsB, Bool.and_eq_true, Bool.not_eq_true'] at hset
    obtain ⟨⟨h1, h2⟩, h3⟩ := hset
    simp only [List.length_cons] at hlen
    have hr : read1 (setL l) u = some l := by
      unfold read1
      rw [setArg_setL h1]
      have hok : setOkB (setL l) u l = true := by
        unfold setOkB
        rw [hk (by simp), hb, h1, hu, h2, dec_t (show pre.length < 1024 by omega)]
        simp
      simp only
      rw [hok]
      simp
    have hst : stepP (setL l) u = some (withSet u l) := by unfold stepP; rw [hr]
    rw [List.map_cons, List.cons_append]
    simp only [runP, hst]
    have ih := run_sets (m := m) ls (pre ++ [l]) rest (i + 1) (withSet u l) (by show u.2.2.1 ++ [l] = _; rw [hu]) (fun _ => hk (by simp)) hb h3 (by simp only [List.length_append, List.length_singleton]; omega)
    rw [ih]
    have e1 : i + 1 + ls.length = i + (l :: ls).length := by simp only [List.length_cons]; omega
    have e2 : pre ++ [l] ++ ls = pre ++ l :: ls := by simp
    rw [e1, e2]
    rfl

theorem kind_wb : ∀ k < 6, (kindOf ((k : Nat) : Int)).2.2.2.2 = true → (kindOf ((k : Nat) : Int)).2.2.2.1 = true := by decide +kernel

/-- WHAT PRINTS SO IS READ. -/
theorem text_parse {v : Vd} {t : List UInt8} {m : Nat} (hG : GcdAll m) (hr : RatOk v.2.2.2.2.2) (hb : v.2.2.2.2.2.1 = [] → v.2.2.2.2.2.2 = []) (hp : properB (leB v) v = true) (ht : RatText v.2.2.2.2.2 t) (hs : ∀ s ∈ textL t v, Few m s) :
    parseL (textL t v) = (v, ((textL t v).length : Int), 0) := by
  have P := properB_iff.1 hp
  have hk0 := P.k0
  have hk1 := P.k1
  have hm0 := P.m0
  have hm1 := P.m1
  obtain ⟨k, hk⟩ : ∃ k : Nat, v.1 = k := ⟨v.1.toNat, by omega⟩
  obtain ⟨j, hj⟩ : ∃ j : Nat, v.2.2.2.2.1 = j := ⟨v.2.2.2.2.1.toNat, by omega⟩
  have hfirst : firstL (v.2.1 ++ machL (kindOf v.1).1 v.2.2.2.2.1) = (vdOf k j v.2.1, true) := by
    rw [hk, hj]
    refine firstL_read (by omega) (by omega) ?_ P.named
    rcases P.km with h | h
    · left; omega
    · right; omega
  have htl : textL t v = (v.2.1 ++ machL (kindOf v.1).1 v.2.2.2.2.1) :: (v.2.2.1.map setL ++ ((if v.2.2.2.2.2.1 = [] then [] else [S_it_fails_with_5cf6 ++ t ++ S__cdb4]) ++ (if v.2.2.2.1 = [] then [] else [choicesL v.2.2.2.1]))) := by
    unfold textL
    simp only [List.cons_append, List.append_assoc]
  have hrun : runP (v.2.2.1.map setL ++ ((if v.2.2.2.2.2.1 = [] then [] else [S_it_fails_with_5cf6 ++ t ++ S__cdb4]) ++ (if v.2.2.2.1 = [] then [] else [choicesL v.2.2.2.1]))) 0 (vdOf k j v.2.1) = .inl v := by
    rw [run_sets (m := m) v.2.2.1 [] _ 0 (vdOf k j v.2.1) rfl (fun hne => ?_) rfl P.sets (by have := P.many; simp only [List.length_nil]; omega)]
    · rw [List.nil_append]
      have hu0 : ((vdOf k j v.2.1).1, (vdOf k j v.2.1).2.1, v.2.2.1, (vdOf k j v.2.1).2.2.2.1, (vdOf k j v.2.1).2.2.2.2.1, (vdOf k j v.2.1).2.2.2.2.2) = ((v.1, v.2.1, v.2.2.1, [], v.2.2.2.2.1, ([], [])) : Vd) := by
        rw [hk, hj]; rfl
      rw [hu0]
      -- the measure
      have hmeas : ∀ (rest : List (List UInt8)) (i : Nat), (∀ s ∈ (if v.2.2.2.2.2.1 = [] then ([] : List (List UInt8)) else [S_it_fails_with_5cf6 ++ t ++ S__cdb4]), Few m s) →
          ∃ i', runP ((if v.2.2.2.2.2.1 = [] then [] else [S_it_fails_with_5cf6 ++ t ++ S__cdb4]) ++ rest) i ((v.1, v.2.1, v.2.2.1, [], v.2.2.2.2.1, ([], [])) : Vd) = runP rest i' (v.1, v.2.1, v.2.2.1, [], v.2.2.2.2.1, v.2.2.2.2.2) := fun rest i hfew => by
        by_cases h0 : v.2.2.2.2.2.1 = []
        · rw [if_pos h0]
          refine ⟨i, ?_⟩
          have : v.2.2.2.2.2 = ([], []) := Prod.ext h0 (hb h0)
          rw [this]
          rfl
        · rw [if_neg h0] at hfew ⊢
          have hlen := List.length_pos_iff.2 h0
          have hfs := hfew _ (List.mem_singleton.2 rfl)
          have hInv : InvV ((v.1, v.2.1, v.2.2.1, [], v.2.2.2.2.1, ([], [])) : Vd) := ⟨hk0, hk1, P.many, fun l hl => setsB_mem _ _ P.sets l hl, ratOk_zero⟩
          have hM : Meas ((v.1, v.2.1, v.2.2.1, [], v.2.2.2.2.1, ([], [])) : Vd) (S_it_fails_with_5cf6 ++ t ++ S__cdb4) v.2.2.2.2.2 := by
            refine ⟨?_, ?_, rfl, hr, h0, ?_, t, ht, rfl⟩
            · show (kindOf v.1).2.2.2.1 = true
              rw [P.kb]; exact dec_t hlen
            · rintro ⟨q1, q2⟩
              have q3 : (kindOf v.1).2.2.1 = true := q1
              have q4 : v.2.2.1 = [] := q2
              rw [P.ks, q4] at q3
              cases q3
            · have := P.w
              exact of_decide_eq_true this
          have hr1 : read1 (S_it_fails_with_5cf6 ++ t ++ S__cdb4) ((v.1, v.2.1, v.2.2.1, [], v.2.2.2.2.1, ([], [])) : Vd) = none := read1_i (q := S_it_fails_with_5cf6.drop 1 ++ t ++ S__cdb4) rfl
          have hst : stepP (S_it_fails_with_5cf6 ++ t ++ S__cdb4) ((v.1, v.2.1, v.2.2.1, [], v.2.2.2.2.1, ([], [])) : Vd) = some (v.1, v.2.1, v.2.2.1, [], v.2.2.2.2.1, v.2.2.2.2.2) := by
            unfold stepP
            rw [hr1]
            simp only
            cases h2 : m2 (S_it_fails_with_5cf6 ++ t ++ S__cdb4) ((v.1, v.2.1, v.2.2.1, [], v.2.2.2.2.1, ([], [])) : Vd) with
            | none => exact absurd hM ((m2_eq hInv hG hfs).2.2 h2 _)
            | some w =>
              obtain ⟨r', hM', rfl⟩ := (m2_eq hInv hG hfs).2.1 _ h2
              obtain ⟨t', ht', e⟩ := hM'.tx
              have : t' = t := by
                have q1 := innerL_hit S_it_fails_with_5cf6 t S__cdb4
                have q2 := innerL_hit S_it_fails_with_5cf6 t' S__cdb4
                rw [← e, q1] at q2
                exact (Prod.mk.inj q2).1.symm
              subst this
              rw [RatText.det hM'.ok hr ht' ht]
              rfl
          refine ⟨i + 1, ?_⟩
          rw [List.singleton_append]
          simp only [runP, hst]
      obtain ⟨i', e⟩ := hmeas (if v.2.2.2.1 = [] then [] else [choicesL v.2.2.2.1]) (0 + v.2.2.1.length) (fun s hs' => hs s (by
        rw [htl]
        exact List.mem_cons_of_mem _ (List.mem_append_right _ (List.mem_append_left _ hs'))))
      rw [e]
      -- the word
      by_cases h0 : v.2.2.2.1 = []
      · rw [if_pos h0]
        simp only [runP]
        rw [← h0]
      · rw [if_neg h0]
        have hkw : (kindOf v.1).2.2.2.2 = true := by
          rcases P.kw with h | h
          · exact h
          · exact absurd h h0
        have hkb : (kindOf v.1).2.2.2.1 = true := by
          rw [hk] at hkw ⊢
          exact kind_wb k (by omega) hkw
        have hnum : v.2.2.2.2.2.1 ≠ [] := fun e => by
          rw [P.kb, e] at hkb
          cases hkb
        have hq : ∃ q, choicesL v.2.2.2.1 = 105 :: q := by
          unfold choicesL
          split
          · exact ⟨_, rfl⟩
          · exact ⟨_, rfl⟩
        obtain ⟨q, hq⟩ := hq
        have hr1 : read1 (choicesL v.2.2.2.1) ((v.1, v.2.1, v.2.2.1, [], v.2.2.2.2.1, v.2.2.2.2.2) : Vd) = none := read1_i hq
        have hInv : InvV ((v.1, v.2.1, v.2.2.1, [], v.2.2.2.2.1, v.2.2.2.2.2) : Vd) := ⟨hk0, hk1, P.many, fun l hl => setsB_mem _ _ P.sets l hl, hr⟩
        have hfs : Few m (choicesL v.2.2.2.1) := hs _ (by
          rw [htl, if_neg h0]
          exact List.mem_cons_of_mem _ (List.mem_append_right _ (List.mem_append_right _ (by simp))))
        have hm2 : m2 (choicesL v.2.2.2.1) ((v.1, v.2.1, v.2.2.1, [], v.2.2.2.2.1, v.2.2.2.2.2) : Vd) = none := by
          cases h2 : m2 (choicesL v.2.2.2.1) ((v.1, v.2.1, v.2.2.1, [], v.2.2.2.2.1, v.2.2.2.2.2) : Vd) with
          | none => rfl
          | some w =>
            obtain ⟨r', hM', _⟩ := (m2_eq hInv hG hfs).2.1 _ h2
            exact absurd hM'.vb hnum
        have hr3 : read3 (choicesL v.2.2.2.1) ((v.1, v.2.1, v.2.2.1, [], v.2.2.2.2.1, v.2.2.2.2.2) : Vd) = some v.2.2.2.1 := by
          unfold read3
          rw [wordArg_choicesL P.word h0]
          simp only [hkw, dec_f hnum, P.word]
          simp
        have hst : stepP (choicesL v.2.2.2.1) ((v.1, v.2.1, v.2.2.1, [], v.2.2.2.2.1, v.2.2.2.2.2) : Vd) = some v := by
          unfold stepP
          rw [hr1]
          simp only [hm2, hr3]
          rfl
        simp only [runP, hst]
    · show (kindOf (k : Int)).2.2.1 = true
      rw [← hk, P.ks]
      exact dec_t (List.length_pos_iff.2 hne)
  rw [htl]
  simp only [parseL, hfirst, if_true, hrun, hp]

end Go.Proofs.YtknnphhepnbaoaaGreatDoor

namespace Go.Proofs.YtknnphhepnbaoaaGreatDoor
open Go.Sm

theorem row_split {f : List UInt8} {l : List (List UInt8)} (hf : (32 : UInt8) ∉ f) (h : ∀ x ∈ l, (32 : UInt8) ∉ x) : splA S__36a9 (rowJ f l).length (rowJ f l) = f :: l := by
  have e : S__36a9 = 32 :: [] := rfl
  unfold rowJ
  rw [e]
  exact splA_join (f :: l) (by simp) (fun x hx => by
    rcases List.mem_cons.1 hx with rfl | hx
    · exact hf
    · exact h x hx) _ (Nat.le_refl _)

theorem row_inj {f f' : List UInt8} {l l' : List (List UInt8)} (hf : (32 : UInt8) ∉ f) (h : ∀ x ∈ l, (32 : UInt8) ∉ x) (hf' : (32 : UInt8) ∉ f') (h' : ∀ x ∈ l', (32 : UInt8) ∉ x) (he : rowJ f l = rowJ f' l') : f = f' ∧ l = l' := by
  have h1 := row_split hf h
  have h2 := row_split hf' h'
  rw [he, h2] at h1
  exact ⟨(List.cons.inj h1).1.symm, (List.cons.inj h1).2.symm⟩

theorem names_inj : ∀ {l l' : List Edit}, (∀ n ∈ l, okName n = true) → (∀ n ∈ l', okName n = true) → l.map nameL = l'.map nameL → l = l'
  | [], [], _, _, _ => rfl
  | [], _ :: _, _, _, h => by simp at h
  | _ :: _, [], _, _, h => by simp at h
  | x :: l, y :: l', h1, h2, h => by
    simp only [List.map_cons, List.cons.injEq] at h
    have e1 := editL_name (h1 x (by simp))
    have e2 := editL_name (h2 y (by simp))
    rw [h.1, e2] at e1
    rw [(Prod.mk.inj e1).1, names_inj (fun n hn => h1 n (List.mem_cons_of_mem _ hn)) (fun n hn => h2 n (List.mem_cons_of_mem _ hn)) h.2]

theorem ints_inj : ∀ {l l' : List Int}, (∀ n ∈ l, 0 ≤ n ∧ n ≤ 999) → (∀ n ∈ l', 0 ≤ n ∧ n ≤ 999) → l.map itoaL = l'.map itoaL → l = l'
  | [], [], _, _, _ => rfl
  | [], _ :: _, _, _, h => by simp at h
  | _ :: _, [], _, _, h => by simp at h
  | x :: l, y :: l', h1, h2, h => by
    simp only [List.map_cons, List.cons.injEq] at h
    have a := h1 x (by simp)
    have b := h2 y (by simp)
    have e1 := (number_itoa a.1 a.2).1
    have e2 := (number_itoa b.1 b.2).1
    rw [h.1, e2] at e1
    rw [(Prod.mk.inj e1).1, ints_inj (fun n hn => h1 n (List.mem_cons_of_mem _ hn)) (fun n hn => h2 n (List.mem_cons_of_mem _ hn)) h.2]

theorem sets_inj : ∀ {ls ls' : List (List Edit)}, (∀ l ∈ ls, risingB l = true) → (∀ l ∈ ls', risingB l = true) → ls.map (fun s => rowJ S_set_6ee0 (s.map nameL)) = ls'.map (fun s => rowJ S_set_6ee0 (s.map nameL)) → ls = ls'
  | [], [], _, _, _ => rfl
  | [], _ :: _, _, _, h => by simp at h
  | _ :: _, [], _, _, h => by simp at h
  | x :: ls, y :: ls', h1, h2, h => by
    simp only [List.map_cons, List.cons.injEq] at h
    have a := (rising_ok (h1 x (by simp))).2
    have b := (rising_ok (h2 y (by simp))).2
    have hw : ∀ {l : List Edit}, (∀ n ∈ l, okName n = true) → ∀ z ∈ l.map nameL, (32 : UInt8) ∉ z := fun hl z hz => by
      obtain ⟨n, hn, rfl⟩ := List.mem_map.1 hz
      exact (wordB_name (hl n hn)).1
    have e := (row_inj (by decide) (hw a) (by decide) (hw b) h.1).2
    rw [names_inj a b e, sets_inj (fun l hl => h1 l (List.mem_cons_of_mem _ hl)) (fun l hl => h2 l (List.mem_cons_of_mem _ hl)) h.2]

theorem machF_all : ((List.range 6).all fun k => (List.range 4).all fun m => (List.range 6).all fun k' => (List.range 4).all fun m' =>
    !((decide (m = 0) || decide (k = 5)) && (decide (m' = 0) || decide (k' = 5)) && (machL (kindOf (k : Nat)).2.1 (m : Nat) == machL (kindOf (k' : Nat)).2.1 (m' : Nat))) || (decide (k = k') && decide (m = m'))) = true := by decide +kernel

theorem machF_inj (k : Nat) (hk : k < 6) (m : Nat) (hm : m < 4) (k' : Nat) (hk' : k' < 6) (m' : Nat) (hm' : m' < 4) (h0 : m = 0 ∨ k = 5) (h0' : m' = 0 ∨ k' = 5)
    (h : machL (kindOf (k : Nat)).2.1 (m : Nat) = machL (kindOf (k' : Nat)).2.1 (m' : Nat)) : k = k' ∧ m = m' := by
  have h1 := List.all_eq_true.1 (List.all_eq_true.1 (List.all_eq_true.1 (List.all_eq_true.1 machF_all k (List.mem_range.2 hk)) m (List.mem_range.2 hm)) k' (List.mem_range.2 hk')) m' (List.mem_range.2 hm')
  have a1 : (decide (m = 0) || decide (k = 5)) = true := by simpa using h0
  have a2 : (decide (m' = 0) || decide (k' = 5)) = true := by simpa using h0'
  rw [a1, a2, h] at h1
  simpa using h1

theorem row_verdict (t g : List UInt8) : rowJ S_verdict_11e2 [t, g] = S_verdict_11e2 ++ (S__36a9 ++ (t ++ (S__36a9 ++ g))) := rfl

/-- The rows that begin so. -/
def rowsOf (c : UInt8) (l : List (List UInt8)) : List (List UInt8) := l.filter fun x => x.head? == some c

theorem rowsOf_append (c : UInt8) (a b : List (List UInt8)) : rowsOf c (a ++ b) = rowsOf c a ++ rowsOf c b := List.filter_append ..

theorem rowsOf_all {c d : UInt8} {l : List (List UInt8)} (h : ∀ x ∈ l, x.head? = some d) : rowsOf c l = if d = c then l else [] := by
  unfold rowsOf
  split
  · rename_i e
    subst e
    exact List.filter_eq_self.2 fun x hx => by rw [h x hx]; simp
  · rename_i e
    exact List.filter_eq_nil_iff.2 fun x hx => by rw [h x hx]; simpa using e

theorem rowJ_head {c : UInt8} {q : List UInt8} (l : List (List UInt8)) : (rowJ (c :: q) l).head? = some c := by
  unfold rowJ
  cases l <;> rfl

/-- WHOEVER HAS THE SAME FACTS IS THE SAME. -/
theorem facts_inj {v w : Vd} {t u : List UInt8} (hv : properB (leB v) v = true) (hw : properB (leB w) w = true) (rv : RatOk v.2.2.2.2.2) (rw_ : RatOk w.2.2.2.2.2) (bv : v.2.2.2.2.2.1 = [] → v.2.2.2.2.2.2 = []) (bw : w.2.2.2.2.2.1 = [] → w.2.2.2.2.2.2 = [])
    (ht : RatText v.2.2.2.2.2 t) (hu : RatText w.2.2.2.2.2 u) (h : factsL t v = factsL u w) : v = w := by
  have P := properB_iff.1 hv
  have Q := properB_iff.1 hw
  unfold factsL at h
  simp only [List.cons_append, List.cons.injEq] at h
  obtain ⟨h1, h2⟩ := h
  -- the first row
  have hk0 := P.k0
  have hk1 := P.k1
  have hm0 := P.m0
  have hm1 := P.m1
  have jk0 := Q.k0
  have jk1 := Q.k1
  have jm0 := Q.m0
  have jm1 := Q.m1
  rw [row_verdict, row_verdict] at h1
  have h3 := List.append_cancel_left (List.append_cancel_left h1)
  obtain ⟨e1, e2⟩ := split_space (named_space P.named) (named_space Q.named) rfl rfl h3
  have e3 := List.append_cancel_left e2
  obtain ⟨k, hk⟩ : ∃ k : Nat, v.1 = k := ⟨v.1.toNat, by omega⟩
  obtain ⟨j, hj⟩ : ∃ j : Nat, v.2.2.2.2.1 = j := ⟨v.2.2.2.2.1.toNat, by omega⟩
  obtain ⟨k', hk'⟩ : ∃ k : Nat, w.1 = k := ⟨w.1.toNat, by omega⟩
  obtain ⟨j', hj'⟩ : ∃ j : Nat, w.2.2.2.2.1 = j := ⟨w.2.2.2.2.1.toNat, by omega⟩
  rw [hk, hj, hk', hj'] at e3
  obtain ⟨rfl, rfl⟩ := machF_inj k (by omega) j (by omega) k' (by omega) j' (by omega) (by rcases P.km with q | q <;> omega) (by rcases Q.km with q | q <;> omega) e3
  -- the other rows
  have hs : ∀ (c : Vd), ∀ x ∈ c.2.2.1.map (fun s => rowJ S_set_6ee0 (s.map nameL)), x.head? = some 115 := fun c x hx => by
    obtain ⟨s, _, rfl⟩ := List.mem_map.1 hx
    exact rowJ_head _
  have hm : ∀ (c : Vd) (t : List UInt8), ∀ x ∈ (if c.2.2.2.2.2.1 = [] then ([] : List (List UInt8)) else [rowJ S_measure_1501 [t]]), x.head? = some 109 := fun c t x hx => by
    split at hx
    · cases hx
    · rw [List.mem_singleton] at hx
      subst hx
      exact rowJ_head _
  have hwd : ∀ (c : Vd), ∀ x ∈ (if c.2.2.2.1 = [] then ([] : List (List UInt8)) else [rowJ S_word_98c1 (c.2.2.2.1.map itoaL)]), x.head? = some 119 := fun c x hx => by
    split at hx
    · cases hx
    · rw [List.mem_singleton] at hx
      subst hx
      exact rowJ_head _
  have part : ∀ c : UInt8, rowsOf c _ = rowsOf c _ := fun c => congrArg (rowsOf c) h2
  have p1 := part 115
  have p2 := part 109
  have p3 := part 119
  simp only [rowsOf_append, rowsOf_all (hs v), rowsOf_all (hs w), rowsOf_all (hm v t), rowsOf_all (hm w u), rowsOf_all (hwd v), rowsOf_all (hwd w)] at p1 p2 p3
  simp only [if_true, show ¬ (109 : UInt8) = 115 by decide, show ¬ (119 : UInt8) = 115 by decide, show ¬ (115 : UInt8) = 109 by decide, show ¬ (119 : UInt8) = 109 by decide, show ¬ (115 : UInt8) = 119 by decide, show ¬ (109 : UInt8) = 119 by decide, if_false, List.append_nil, List.nil_append] at p1 p2 p3
  have esets : v.2.2.1 = w.2.2.1 := sets_inj (fun l hl => setsB_mem _ _ P.sets l hl) (fun l hl => setsB_mem _ _ Q.sets l hl) p1
  have ebound : v.2.2.2.2.2 = w.2.2.2.2.2 := by
    by_cases a : v.2.2.2.2.2.1 = []
    · by_cases b : w.2.2.2.2.2.1 = []
      · exact Prod.ext (by rw [a, b]) (by rw [bv a, bw b])
      · rw [if_pos a, if_neg b] at p2; cases p2
    · by_cases b : w.2.2.2.2.2.1 = []
      · rw [if_neg a, if_pos b] at p2; cases p2
      · rw [if_neg a, if_neg b] at p2
        have q := (List.cons.inj p2).1
        have q2 : t = u := List.append_cancel_left (List.append_cancel_left (show S_measure_1501 ++ (S__36a9 ++ t) = S_measure_1501 ++ (S__36a9 ++ u) from q))
        subst q2
        exact RatText.det rv rw_ ht hu
  have eword : v.2.2.2.1 = w.2.2.2.1 := by
    have ow := fun n hn => ((possB_ok P.word).2 n hn).2
    have oq := fun n hn => ((possB_ok Q.word).2 n hn).2
    by_cases a : v.2.2.2.1 = []
    · by_cases b : w.2.2.2.1 = []
      · rw [a, b]
      · rw [if_pos a, if_neg b] at p3; cases p3
    · by_cases b : w.2.2.2.1 = []
      · rw [if_neg a, if_pos b] at p3; cases p3
      · rw [if_neg a, if_neg b] at p3
        have q := (List.cons.inj p3).1
        have hn : ∀ {l : List Int}, (∀ n ∈ l, 0 ≤ n ∧ n ≤ 999) → ∀ z ∈ l.map itoaL, (32 : UInt8) ∉ z := fun hl z hz => by
          obtain ⟨n, hn, rfl⟩ := List.mem_map.1 hz
          exact (number_itoa (hl n hn).1 (hl n hn).2).2.1.1
        exact ints_inj ow oq (row_inj (by decide) (hn ow) (by decide) (hn oq) q).2
  exact Prod.ext (by rw [hk, hk']) (Prod.ext e1 (Prod.ext esets (Prod.ext eword (Prod.ext (by rw [hj, hj']) ebound))))

end Go.Proofs.YtknnphhepnbaoaaGreatDoor

namespace Go.Proofs.YtknnphhepnbaoaaGreatDoor
open Go.Sm

theorem around_eq {x m : Int} (hx : i64 x) (hm : 0 < m) : ∃ r, culpritref01_Around x m = some r ∧ 0 ≤ r ∧ r < m := by
  unfold culpritref01_Around
  have hz : (m == 0) = false := by rw [beq_eq_false_iff_ne]; omega
  obtain ⟨h1, h2⟩ := hx
  have key : ∀ y : Int, 0 ≤ y → 0 ≤ Int.tmod y m ∧ Int.tmod y m < m := fun y hy => by
    rw [Int.tmod_eq_emod_of_nonneg hy]
    exact ⟨Int.emod_nonneg _ (by omega), Int.emod_lt_of_pos _ hm⟩
  by_cases h0 : x < 0
  · have e1 : w64 (0 - w64 (x + 1)) = -(x + 1) := by
      rw [w64_id (x := x + 1) (by omega) (by omega), w64_id (by omega) (by omega)]; omega
    rw [dec_t h0, cond_true, e1, hz]
    exact ⟨_, rfl, key _ (by omega)⟩
  · rw [dec_f h0, cond_false, hz]
    exact ⟨_, rfl, key _ (by omega)⟩

theorem at_eq {l : List Int} {k m : Int} (hl : ∀ n ∈ l, i64 n) (hm : 0 < m) : ∃ r, culpritref01_At l k m = some r ∧ 0 ≤ r ∧ r < m := by
  unfold culpritref01_At
  by_cases h0 : k < 0
  · rw [dec_t h0]
    exact ⟨0, rfl, by omega, hm⟩
  by_cases h1 : (l.length : Int) ≤ k
  · rw [dec_f h0, dec_t h1]
    exact ⟨0, rfl, by omega, hm⟩
  · obtain ⟨v, hv, hv2⟩ := idx_lt (a := l) (i := k) (by omega) (by omega)
    obtain ⟨r, e1, e2⟩ := around_eq (hl v (List.mem_of_getElem? hv2)) hm
    rw [dec_f h0, dec_f h1, hv]
    simp only [cond_false, Option.bind_some, e1]
    exact ⟨r, rfl, e2⟩

theorem sameNames_eq (a b : List Edit) (hn : Small a) : culpritref22_SameNames a b = some (decide (a = b)) := by
  unfold culpritref22_SameNames
  by_cases hl : a.length = b.length
  · have e0 : ((a.length : Int) != (b.length : Int)) = false := by simp [hl]
    rw [e0, cond_false]
    have h := it_all (f := culpritref22_SameNames_loop1 a b) (z := false) a (fun i x => decide (b[i]? = some x)) hn
      (fun i x hx => by
        have hlt := lt_of_at hx
        have hb : b[i]? = some b[i] := List.getElem?_eq_getElem (by omega)
        unfold culpritref22_SameNames_loop1
        rw [dec_t (show (i : Int) < (a.length : Int) by omega), cond_true, idx_nat hx, idx_nat hb]
        simp only [Option.bind_some, hb, Option.some.injEq]
        generalize b[i] = y
        obtain ⟨x1, x2⟩ := x
        obtain ⟨y1, y2⟩ := y
        have e1 : ((x1 : Int) == y1) = decide (y1 = x1) := by rw [Bool.eq_iff_iff, beq_iff_eq, decide_eq_true_eq]; exact eq_comm
        have e2 : ((x2 : Int) == y2) = decide (y2 = x2) := by rw [Bool.eq_iff_iff, beq_iff_eq, decide_eq_true_eq]; exact eq_comm
        rw [e1, e2]
        by_cases h1 : y1 = x1 <;> by_cases h2 : y2 = x2 <;> simp [h1, h2, succ64 hn hx])
      (by unfold culpritref22_SameNames_loop1; simp)
    rw [h, allI_eq hl]
    cases decide (a = b) <;> rfl
  · have e0 : ((a.length : Int) != (b.length : Int)) = true := by simp; omega
    rw [e0, cond_true, dec_f (show ¬ a = b from fun e => hl (by rw [e]))]

end Go.Proofs.YtknnphhepnbaoaaGreatDoor

namespace Go.Proofs.YtknnphhepnbaoaaGreatDoor
open Go.Sm
set_option synthInstance.maxSize 1000
set_option synthInstance.maxHeartbeats 400000
instance decVd : DecidableEq Vd := instDecidableEqProd (α := Int) (β := List UInt8 × List (List Edit) × List Int × Int × (List Int × List Int))

theorem sameInts_eq (a b : List Int) (hn : Small a) : culpritref01_SameInts a b = some (decide (a = b)) := by
  unfold culpritref01_SameInts
  by_cases hl : a.length = b.length
  · have e0 : ((a.length : Int) != (b.length : Int)) = false := by simp [hl]
    rw [e0, cond_false]
    have h := it_all (f := culpritref01_SameInts_loop1 a b) (z := false) a (fun i x => decide (b[i]? = some x)) hn
      (fun i x hx => by
        have hlt := lt_of_at hx
        have hb : b[i]? = some b[i] := List.getElem?_eq_getElem (by omega)
        unfold culpritref01_SameInts_loop1
        rw [dec_t (show (i : Int) < (a.length : Int) by omega), cond_true, idx_nat hx, idx_nat hb]
        simp only [Option.bind_some, hb, Option.some.injEq]
        generalize b[i] = y
        have e1 : ((x : Int) != y) = !decide (y = x) := by
          rw [bne, Bool.not_inj_iff, Bool.eq_iff_iff, beq_iff_eq, decide_eq_true_eq]; exact eq_comm
        rw [e1]
        by_cases h1 : y = x <;> simp [h1, succ64 hn hx])
      (by unfold culpritref01_SameInts_loop1; simp)
    rw [h, allI_eq hl]
    cases decide (a = b) <;> rfl
  · have e0 : ((a.length : Int) != (b.length : Int)) = true := by simp; omega
    rw [e0, cond_true, dec_f (show ¬ a = b from fun e => hl (by rw [e]))]

theorem sameLimbs_eq (a b : List Int) (hn : Small a) : culpritref05_SameLimbs a b = some (decide (a = b)) := by
  unfold culpritref05_SameLimbs
  by_cases hl : a.length = b.length
  · have e0 : ((a.length : Int) != (b.length : Int)) = false := by simp [hl]
    rw [e0, cond_false]
    have h := it_all (f := culpritref05_SameLimbs_loop1 a b) (z := false) a (fun i x => decide (b[i]? = some x)) hn
      (fun i x hx => by
        have hlt := lt_of_at hx
        have hb : b[i]? = some b[i] := List.getElem?_eq_getElem (by omega)
        unfold culpritref05_SameLimbs_loop1
        rw [dec_t (show (i : Int) < (a.length : Int) by omega), cond_true, idx_nat hx, idx_nat hb]
        simp only [Option.bind_some, hb, Option.some.injEq]
        generalize b[i] = y
        have e1 : ((x : Int) != y) = !decide (y = x) := by
          rw [bne, Bool.not_inj_iff, Bool.eq_iff_iff, beq_iff_eq, decide_eq_true_eq]; exact eq_comm
        rw [e1]
        by_cases h1 : y = x <;> simp [h1, succ64 hn hx])
      (by unfold culpritref05_SameLimbs_loop1; simp)
    rw [h, allI_eq hl]
    cases decide (a = b) <;> rfl
  · have e0 : ((a.length : Int) != (b.length : Int)) = true := by simp; omega
    rw [e0, cond_true, dec_f (show ¬ a = b from fun e => hl (by rw [e]))]

theorem sameRatio_eq {a b : List Int × List Int} (h1 : Small a.1) (h2 : Small a.2) : culpritref05_Same (a.1, a.2) (b.1, b.2) = some (decide (a = b)) := by
  unfold culpritref05_Same
  simp only
  rw [sameLimbs_eq _ _ h1]
  simp only [Option.bind_some]
  by_cases e1 : a.1 = b.1
  · rw [dec_t e1, cond_true, sameLimbs_eq _ _ h2]
    simp only [Option.bind_some, cond_true]
    congr 1
    rw [Bool.eq_iff_iff, decide_eq_true_eq, decide_eq_true_eq]
    exact ⟨fun e2 => Prod.ext e1 e2, fun e => by rw [e]⟩
  · rw [dec_f e1, dec_f (fun e => e1 (by rw [e]))]
    rfl

/-- Small in all its parts. -/
structure SmallV (v : Vd) : Prop where
  sets : Small v.2.2.1
  each : ∀ l ∈ v.2.2.1, Small l
  word : Small v.2.2.2.1
  n : Small v.2.2.2.2.2.1
  d : Small v.2.2.2.2.2.2

theorem same_eq {v w : Vd} (h : SmallV v) : culpritref36_Same v w = some (decide (v = w)) := by
  unfold culpritref36_Same
  obtain ⟨k, t, ss, wd, m, n, d⟩ := v
  obtain ⟨k', t', ss', wd', m', n', d'⟩ := w
  obtain ⟨g1, g2, g3, g4, g5⟩ := h
  simp only at g1 g2 g3 g4 g5 ⊢
  have hr := sameRatio_eq (a := (n, d)) (b := (n', d')) g4 g5
  simp only at hr
  have bi : ∀ a b : Int, (a != b) = !decide (a = b) := fun a b => by by_cases h : a = b <;> simp [h]
  have bt : (t == t') = decide (t = t') := by by_cases h : t = t' <;> simp [h]
  rw [bi k k', bt, bi m m', sameInts_eq _ _ g3, hr]
  by_cases e1 : k = k'
  · by_cases e2 : t = t'
    · by_cases e3 : ss.length = ss'.length
      · have b3 : ((ss.length : Int) != (ss'.length : Int)) = false := by simp [e3]
        rw [dec_t e1, dec_t e2, b3]
        by_cases e4 : wd = wd'
        · by_cases e5 : m = m'
          · by_cases e6 : ((n, d) : List Int × List Int) = (n', d')
            · rw [dec_t e4, dec_t e5, dec_t e6]
              have hl := it_all (f := culpritref36_Same_loop1 (k, t, ss, wd, m, n, d) (k', t', ss', wd', m', n', d')) (z := false) ss (fun i x => decide (ss'[i]? = some x)) g1
                (fun i x hx => by
                  have hlt := lt_of_at hx
                  have hb : ss'[i]? = some ss'[i] := List.getElem?_eq_getElem (by omega)
                  unfold culpritref36_Same_loop1
                  simp only
                  rw [dec_t (show (i : Int) < (ss.length : Int) by omega), cond_true, idx_nat hx, idx_nat hb]
                  simp only [Option.bind_some, hb, Option.some.injEq]
                  generalize ss'[i] = y
                  rw [sameNames_eq x y (g2 x (List.mem_of_getElem? hx))]
                  simp only [Option.bind_some]
                  by_cases h1 : x = y
                  · simp [h1, succ64 g1 hx]
                  · have h2 : ¬ y = x := fun e => h1 e.symm
                    simp [h1, h2])
                (by unfold culpritref36_Same_loop1; simp)
              simp only [Bool.not_true, cond_false, Bool.not_false, cond_true, Option.bind_some, hl, allI_eq e3]
              have e7 : ((k, t, ss, wd, m, n, d) : Vd) = (k', t', ss', wd', m', n', d') ↔ ss = ss' := by
                simp only [Prod.mk.injEq] at e6 ⊢
                exact ⟨fun q => q.2.2.1, fun q => ⟨e1, e2, q, e4, e5, e6.1, e6.2⟩⟩
              by_cases e8 : ss = ss'
              · rw [dec_t e8, dec_t (e7.2 e8)]; rfl
              · rw [dec_f e8, dec_f (fun q => e8 (e7.1 q))]; rfl
            · have hne : ¬ ((k, t, ss, wd, m, n, d) : Vd) = (k', t', ss', wd', m', n', d') := fun q => e6 (congrArg (fun v : Vd => v.2.2.2.2.2) q)
              rw [dec_t e4, dec_t e5, dec_f e6, dec_f hne]
              rfl
          · have hne : ¬ ((k, t, ss, wd, m, n, d) : Vd) = (k', t', ss', wd', m', n', d') := fun q => e5 (congrArg (fun v : Vd => v.2.2.2.2.1) q)
            rw [dec_t e4, dec_f e5, dec_f hne]
            rfl
        · have hne : ¬ ((k, t, ss, wd, m, n, d) : Vd) = (k', t', ss', wd', m', n', d') := fun q => e4 (congrArg (fun v : Vd => v.2.2.2.1) q)
          rw [dec_f e4, dec_f hne]
          rfl
      · have b3 : ((ss.length : Int) != (ss'.length : Int)) = true := by simp; omega
        have hne : ¬ ((k, t, ss, wd, m, n, d) : Vd) = (k', t', ss', wd', m', n', d') := fun q => e3 (congrArg (fun v : Vd => v.2.2.1.length) q)
        rw [dec_t e1, dec_t e2, b3, dec_f hne]
        rfl
    · have hne : ¬ ((k, t, ss, wd, m, n, d) : Vd) = (k', t', ss', wd', m', n', d') := fun q => e2 (congrArg (fun v : Vd => v.2.1) q)
      rw [dec_t e1, dec_f e2, dec_f hne]
      rfl
  · have hne : ¬ ((k, t, ss, wd, m, n, d) : Vd) = (k', t', ss', wd', m', n', d') := fun q => e1 (congrArg (fun v : Vd => v.1) q)
    rw [dec_f e1, dec_f hne]
    rfl

end Go.Proofs.YtknnphhepnbaoaaGreatDoor
