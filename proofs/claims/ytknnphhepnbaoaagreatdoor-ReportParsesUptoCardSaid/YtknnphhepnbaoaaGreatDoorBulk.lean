/-
  A list of texts that came in: each text is no longer than the reading's bulk. No condition.
-/
import Derived.Test.YtknnphhepnbaoaaGreatDoorJoinT2
import Derived.Test.YtknnphhepnbaoaaGreatDoorTab
namespace Go.Proofs.YtknnphhepnbaoaaGreatDoor
open Go.Sm Go.ChangeShapes Go.WideShapes Go.ChangeAt Go.RowKit
set_option linter.unusedSectionVars false
theorem bulk_part {H : Type} {d : DataW H} : ∀ {l : List (DataW H)}, d ∈ l → Rows.uptoBulk d ≤ Rows.uptoBulkAll l
 | [], h => by cases h
 | x :: r, h => by
  simp only [Rows.uptoBulkAll]
  rcases List.mem_cons.1 h with e | e
  ·subst e; omega
  ·have := bulk_part e; omega
theorem cellsOf_strs (xs : List (List UInt8)) (ys : List (TC.sc SC.str).ty.Refs) (h : ys.length = xs.length) (i : Nat) (x : List UInt8) (hx : xs[i]? = some x) : (cellsOf (TC.sc SC.str).ty xs ys)[i]? = some (SC.str.val x) := by
 induction xs generalizing ys i with
 | nil => simp at hx
 | cons z r ih =>
  cases ys with
  | nil => simp at h
  | cons y ys =>
   show ([SC.str.val z] ++ cellsOf (TC.sc SC.str).ty r ys)[i]? = _
   cases i with
   | zero => simp at hx; subst hx; rfl
   | succ i =>
    rw [List.singleton_append, List.getElem?_cons_succ]
    exact ih ys (by simpa using h) i (by simpa using hx)
section
variable [Vars]
theorem strs_bulk {P : Program} {H : Type} {enc : TypeId × Value → H} {W : World} {t e : TypeId} (hu : P.underlying t = some (.slice e)) (he : P.underlying e = some .string) (hc : P.cellsOf e = 1) {xs : List (List UInt8)} {v : Hd} {d : DataW H} {ps : List MemPlace}
  (h : DataW.Trod enc P W 0 (fun _ => true) true t v.val d ps) {S : Nat → Prop} (hr : RepR W S (TC.slice (.sc .str)).ty xs v) : ∀ s ∈ xs, s.length ≤ Rows.uptoBulk d := fun s hs => by
 obtain ⟨fuel, h⟩ := h
 obtain ⟨i, hi⟩ := List.mem_iff_getElem?.1 hs
 obtain ⟨ys, r1, r2, r3, r4, r5⟩ := hr
 have hlt : i < xs.length := (List.getElem?_eq_some_iff.1 hi).1
 obtain ⟨a, n, cap⟩ := v
 simp only at r2 r3 r4 r5
 subst r2
 rcases r5 with ⟨_, h0⟩ | ⟨b, off, arr, ty, fz, ha, _, hb, h1, h2⟩
 ·omega
 ·subst ha
  cases fuel with
  | zero => simp [DataW.trod] at h
  | succ fuel =>
   have hcs : (Hd.val ⟨some ⟨b, off, none⟩, xs.length, cap⟩).cells.toList = [.slice (some ⟨b, off, none⟩) xs.length cap] := rfl
   rw [hcs] at h
   unfold DataW.trod at h
   rw [hu] at h
   simp only at h
   split at h
   ·simp only [Option.bind_eq_some_iff] at h
    obtain ⟨elems, hel, h⟩ := h
    simp only [Option.map_eq_some_iff] at h
    obtain ⟨rest, _, h⟩ := h
    have hd := (Prod.mk.inj h).1
    obtain ⟨k0, k1⟩ := mapM_at hel
    obtain ⟨z, hz, hb2⟩ := k1 i i (by rw [List.getElem?_range hlt])
    simp only [Option.bind_eq_some_iff] at hb2
    obtain ⟨cs', hc', ht⟩ := hb2
    rw [hc, addr_add] at hc'
    obtain ⟨q1, q2, _⟩ := cells_row hb hc'
    have hx := cellsOf_strs xs ys r1.length.symm i s hi
    have hsz : (TC.sc SC.str).ty.sz = 1 := rfl
    rw [hsz] at h2
    rw [← h2] at hx
    rw [List.getElem?_take, if_pos (by omega), List.getElem?_drop] at hx
    have hcell : cs' = [SC.str.val s] := by
     rw [← q2]
     apply List.ext_getElem?
     intro j
     cases j with
     | zero => rw [List.getElem?_take, if_pos (by omega), List.getElem?_drop]; simpa using hx
     | succ j => rw [List.getElem?_eq_none (by rw [List.length_take]; omega)]; rfl
    subst hcell
    have hbk : s.length ≤ Rows.uptoBulk z.1 := by
     cases fuel with
     | zero => simp [DataW.trod] at ht
     | succ fuel =>
      unfold DataW.trod at ht
      rw [he] at ht
      have hv : SC.str.val s = .string ⟨s.toArray⟩ := rfl
      rw [hv] at ht
      simp only at ht
      split at ht
      ·have := Option.some.inj ht
       rw [← this]
       simp [Rows.uptoBulk]
      ·cases ht
    have hm : z.1 ∈ elems.map (·.1) := List.mem_map.2 ⟨z, List.mem_of_getElem? hz, rfl⟩
    have := bulk_part hm
    rw [← hd]
    simp only [Rows.uptoBulk]
    omega
   ·cases h
end
end Go.Proofs.YtknnphhepnbaoaaGreatDoor
