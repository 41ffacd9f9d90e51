/-
  ReportParses: the law holds, in plain terms. No program is walked here.
-/
import Derived.Test.YtknnphhepnbaoaaGreatDoorLawsP
import Derived.Test.YtknnphhepnbaoaaGreatDoorLawLives
namespace Go.Proofs.YtknnphhepnbaoaaGreatDoor
open Go.Sm
theorem allI_self {α : Type} (q : Nat → α → Bool) (l : List α) (h : ∀ i x, l[i]? = some x → q i x = true) : allI q 0 l = true := by
 have gen : ∀ (r pre : List α), l = pre ++ r → allI q pre.length r = true := by
  intro r
  induction r with
  | nil => intros; rfl
  | cons x r ih =>
   intro pre e
   have := ih (pre ++ [x]) (by rw [e]; simp)
   rw [List.length_append, List.length_singleton] at this
   simp only [allI, this, Bool.and_true]
   exact h _ x (by rw [e]; simp)
 exact gen l [] rfl
theorem same_u32 (l : List Int) (hn : Small l) : slices_Equal_uint32_uint32 l l = some true := by
 unfold slices_Equal_uint32_uint32
 rw [show ((l.length : Int) != (l.length : Int)) = false by simp, cond_false, it_all (f := slices_Equal_uint32_uint32_loop1 l l) (z := false) l (fun _ _ => true) hn
  (fun i x hx => by
   have hlt := lt_of_at hx
   unfold slices_Equal_uint32_uint32_loop1
   rw [dec_t (show (i : Int) < (l.length : Int) by omega), cond_true, idx_nat hx]
   simp [succ64 hn hx]) (by unfold slices_Equal_uint32_uint32_loop1; simp), allI_self _ l fun _ _ _ => rfl]
 rfl
theorem same_int (l : List Int) (hn : Small l) : slices_Equal_int_int l l = some true := by
 unfold slices_Equal_int_int
 rw [show ((l.length : Int) != (l.length : Int)) = false by simp, cond_false, it_all (f := slices_Equal_int_int_loop1 l l) (z := false) l (fun _ _ => true) hn
  (fun i x hx => by
   have hlt := lt_of_at hx
   unfold slices_Equal_int_int_loop1
   rw [dec_t (show (i : Int) < (l.length : Int) by omega), cond_true, idx_nat hx]
   simp [succ64 hn hx]) (by unfold slices_Equal_int_int_loop1; simp), allI_self _ l fun _ _ _ => rfl]
 rfl
theorem same_sets (ls : List (List Edit)) (hn : Small ls) (h : ∀ l ∈ ls, Small l) : slices_EqualFunc_api_Name_api_Name_api_Name_api_Name ls ls = some true := by
 unfold slices_EqualFunc_api_Name_api_Name_api_Name_api_Name
 rw [show ((ls.length : Int) != (ls.length : Int)) = false by simp, cond_false, it_all (f := slices_EqualFunc_api_Name_api_Name_api_Name_api_Name_loop1 ls ls) (z := false) ls (fun _ _ => true) hn
  (fun i x hx => by
   have hlt := lt_of_at hx
   unfold slices_EqualFunc_api_Name_api_Name_api_Name_api_Name_loop1
   rw [dec_t (show (i : Int) < (ls.length : Int) by omega), cond_true, idx_nat hx]
   simp only [Option.bind_some, slices_Equal_eq x x (h x (List.mem_of_getElem? hx))]
   simp [succ64 hn hx]) (by unfold slices_EqualFunc_api_Name_api_Name_api_Name_api_Name_loop1; simp), allI_self _ ls fun _ _ _ => rfl]
 rfl
structure Short (v : Vd) : Prop where
 sets : Small v.2.2.1
 each : ∀ l ∈ v.2.2.1, Small l
 word : Small v.2.2.2.1
 n : Small v.2.2.2.2.2.1
 d : Small v.2.2.2.2.2.2
theorem verdict_Same_self {v : Vd} (h : Short v) : verdict_Same (v.1, v.2.1, v.2.2.1, v.2.2.2.1, v.2.2.2.2.1, (v.2.2.2.2.2.1, v.2.2.2.2.2.2)) (v.1, v.2.1, v.2.2.1, v.2.2.2.1, v.2.2.2.2.1, (v.2.2.2.2.2.1, v.2.2.2.2.2.2)) = some true := by
 unfold verdict_Same ratio_Same
 simp only
 have b1 : ∀ a : Int, (a != a) = false := fun a => by simp
 have b2 : (v.2.1 == v.2.1) = true := by simp
 simp only [b1, b2, same_u32 _ h.n, same_u32 _ h.d, same_int _ h.word, same_sets _ h.sets h.each, cond_false, cond_true, Bool.not_true, Bool.not_false, Option.bind_some]
theorem parseL_short {x : List (List UInt8)} {m : Nat} (hG : GcdAll m) (hs : ∀ s ∈ x, Few m s) : Short (parseL x).1 := by
 have h0 : Short vd0 := ⟨by simp [vd0], fun l h => by simp [vd0] at h, by simp [vd0], by simp [vd0], by simp [vd0]⟩
 match x, hs with
 | [], _ => exact h0
 | s :: r, hs =>
  simp only [parseL]
  split
  ·rename_i hf
   have hpair : firstL s = ((firstL s).1, true) := Prod.ext rfl hf
   cases hr : runP r 0 (firstL s).1 with
   | inr i => exact h0
   | inl w =>
    have hw := runP_inv hG r 0 _ w (firstL_inv hpair) (fun z hz => hs z (List.mem_cons_of_mem _ hz)) hr
    simp only
    split
    ·rename_i hp
     have hwd := (possB_ok (properB_iff.1 hp).word).1
     exact ⟨hw.small.1, hw.small.2, by show w.2.2.2.1.length < _; omega, by have := hw.ok.ln; show w.2.2.2.2.2.1.length < _; omega, by have := hw.ok.ld; show w.2.2.2.2.2.2.length < _; omega⟩
    ·exact h0
  ·exact h0
theorem parses_true {l : List Int} {a h b : Int} {raw : List (List UInt8)} (hl : ∀ n ∈ l, i64 n) (ia : i64 a) (ih : i64 h) (ib : i64 b) (hr : ∀ s ∈ raw, s.length ≤ 1000000000) : culpritlaw37_ReportParses l a h b raw = some true := by
 obtain ⟨v, hv, mv⟩ := made_eq hl
 have PV := properB_iff.1 mv.p
 have pv1 := PV.many
 have pv2 := (possB_ok PV.word).1
 obtain ⟨t, t1, t2, t3⟩ := n37_Print_eq mv.r (by show v.2.2.1.length < _; omega) (fun l hl => by have := (rising_ok (setsB_mem _ _ PV.sets l hl)).1; show l.length < _; omega) (by show v.2.2.2.1.length < _; omega)
 rw [if_pos mv.p] at t3
 obtain ⟨x1, x2⟩ := textL_len mv.p t2
 obtain ⟨c, c1, c2, c3⟩ := changed_eq (x := textL t v) (K := 13000) (by omega) x2 (by omega) (by omega) ia ih ib
 obtain ⟨d, d1, d2, d3⟩ := changed_eq (x := c) (K := 13000) (by omega) c3 (by omega) (by omega) ib (i64_w64 (Int.tdiv h 6)) ia
 have hw : w64 (((textL t v).length : Int) + 1) = (((textL t v).length + 1 : Nat) : Int) := by rw [w64_id (by omega) (by omega)]; omega
 obtain ⟨p, p1, p2, p3⟩ := around_eq ib (m := (((textL t v).length + 1 : Nat) : Int)) (by omega)
 unfold culpritlaw37_ReportParses
 rw [hv]
 simp only [Option.bind_some]
 rw [show (v.1, v.2.1, v.2.2.1, v.2.2.2.1, v.2.2.2.2.1, (v.2.2.2.2.2.1, v.2.2.2.2.2.2)) = v from rfl, t3]
 simp only [Option.bind_some]
 rw [c1]
 simp only [Option.bind_some]
 obtain ⟨q, hq, hq1, hq2⟩ : ∃ q : Nat, (if (8 : Int) < (raw.length : Int) then (8 : Int) else (raw.length : Int)) = (q : Int) ∧ q ≤ 8 ∧ q ≤ raw.length := by
  by_cases h8 : 8 < raw.length
  ·exact ⟨8, by rw [if_pos (by omega)]; rfl, by omega, by omega⟩
  ·exact ⟨raw.length, by rw [if_neg (by omega)], by omega, by omega⟩
 rw [hq, chk_d ⟨by omega, by omega, by omega⟩, show (!((6 : Int) == 0)) = true from rfl, chk_t rfl, d1]
 simp only [Option.bind_some, List.nil_append]
 rw [hw, p1]
 simp only [Option.bind_some, Int.toNat_natCast, Int.toNat_zero, List.drop_zero]
 rw [chk_d ⟨p2, by omega⟩, chk_t (appOk_le (by simp only [List.length_nil]; omega) (by omega)), chk_t (appOk_le (by rw [List.length_take]; omega) (by omega))]
 obtain ⟨ls, hls⟩ : ∃ ls, ls = [textL t v, c, d, (textL t v).take p.toNat, raw.take q, textL t v ++ raw.take q] := ⟨_, rfl⟩
 have hok : ∀ x ∈ ls, Small x ∧ ∀ s ∈ x, s.length ≤ 1000000000 := fun x hx => by
  rw [hls] at hx
  simp only [List.mem_cons, List.not_mem_nil, or_false] at hx
  rcases hx with e | e | e | e | e | e <;> rw [e]
  ·exact ⟨by show (textL t v).length < _; omega, fun s hs => by have := x2 s hs; omega⟩
  ·exact ⟨by show c.length < _; omega, fun s hs => by have := c3 s hs; omega⟩
  ·exact ⟨by show d.length < _; omega, fun s hs => by have := d3 s hs; omega⟩
  ·exact ⟨by show ((textL t v).take p.toNat).length < _; rw [List.length_take]; omega, fun s hs => by have := x2 s (List.mem_of_mem_take hs); omega⟩
  ·exact ⟨by show (raw.take q).length < _; rw [List.length_take]; omega, fun s hs => hr s (List.mem_of_mem_take hs)⟩
  ·refine ⟨by show (textL t v ++ raw.take q).length < _; rw [List.length_append, List.length_take]; omega, fun s hs => ?_⟩
   rcases List.mem_append.1 hs with hs | hs
   ·have := x2 s hs; omega
   ·exact hr s (List.mem_of_mem_take hs)
 have hloop := it_all (f := culpritlaw37_ReportParses_loop1 raw (textL t v, 0) c d p) (z := false) ls (fun _ _ => true) (by rw [hls]; show (6 : Nat) < _; omega)
  (fun i x hx => by
   have hlt := lt_of_at hx
   obtain ⟨o1, o2⟩ := hok x (List.mem_of_getElem? hx)
   obtain ⟨m, hm⟩ := few_ex o2
   unfold culpritlaw37_ReportParses_loop1
   simp only [List.nil_append]
   rw [hq]
   simp only [Int.toNat_natCast, Int.toNat_zero, List.drop_zero]
   rw [← hls, dec_t (show (i : Int) < (ls.length : Int) by omega), cond_true, idx_nat hx]
   simp only [Option.bind_some]
   rw [report_Parse_eq (gcdAll m) hm o1]
   simp only [Option.bind_some]
   rw [n37_Parse_eq (gcdAll m) hm o1]
   simp only [Option.bind_some]
   have hi3 : w64 ((i : Int) + 1) = (i : Int) + 1 := by
    have : ls.length = 6 := by rw [hls]; rfl
    exact w64_id (by omega) (by omega)
   have b1 : ∀ z : Int, (z != z) = false := fun z => by simp
   rw [verdict_Same_self (parseL_short (gcdAll m) hm)]
   simp only [b1, cond_false, cond_true, Bool.not_false, Bool.not_true, Option.bind_some]
   rw [hi3])
  (by
   unfold culpritlaw37_ReportParses_loop1
   simp only [List.nil_append]
   rw [hq]
   simp only [Int.toNat_natCast, Int.toNat_zero, List.drop_zero]
   rw [← hls, dec_f (show ¬ (ls.length : Int) < (ls.length : Int) by omega)]
   rfl)
 rw [allI_self _ ls fun _ _ _ => rfl] at hloop
 rw [hloop]
 simp only [cond_true, Option.bind_some]
 rw [lives_true]
 rfl
end Go.Proofs.YtknnphhepnbaoaaGreatDoor
