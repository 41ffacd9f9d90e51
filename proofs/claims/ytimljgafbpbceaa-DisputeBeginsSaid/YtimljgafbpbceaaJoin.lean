/-
  From what a row says of its input to the assertions of the walks, and back. Nothing of a program is named here; no condition.
-/
import Derived.ProofKit
import Derived.Test.YtimljgafbpbceaaSimI
namespace Go.Sm
open Go.ChangeShapes Go.WideShapes Go.ChangeAt Go.RowKit Go.WideElems

/-- All old blocks may be read. -/
abbrev allS : Nat → Prop := fun _ => True

theorem oldc_all (b : Nat) : oldc allS b ∈ [1] := by simp [oldc]

theorem post_below {w0 : World} {S : Nat → Prop} {val : Unit → Value} {facts : Unit → List HA} {e : Ending} {w' : World} (h : Post w0 S val facts e w') : e = .returned (val ()) ∧ Below w0.heap.size w0 w' := by
  obtain ⟨y, c', he, henv, hsz, hold, _, _⟩ := h
  exact ⟨he, henv.1, henv.2.1, henv.2.2, hsz, fun k hk => (hold k hk).1⟩

theorem cells_ints (k : IntKind) : ∀ xs : List Int, cellsOf (tI k) xs (List.replicate xs.length ()) = xs.map (fun n => Value.int k n)
  | [] => rfl
  | x :: xs => by
    have := cells_ints k xs
    rw [List.length_cons, List.replicate_succ]
    simp only [cellsOf, this, List.map_cons]
    rfl

theorem repAll_ints (w : World) (S : Nat → Prop) (k : IntKind) : ∀ xs : List Int, RepAll (RepR w S (tI k)) xs (List.replicate xs.length ())
  | [] => trivial
  | x :: xs => by
    rw [List.length_cons, List.replicate_succ]
    exact ⟨trivial, repAll_ints w S k xs⟩

section
variable {P : Program} {H : Type} {enc : TypeId × Value → H}

/-- A slice of integers that came in. -/
theorem came_in {w : World} {t e : TypeId} {k : IntKind} {v : Value} {d : DataW H} {ps : List MemPlace} {r : Reach} {b0 : Nat} (ht : P.underlying t = some (.slice e)) (he : P.underlying e = some (.int k)) (hc : P.cellsOf e = 1)
    (hval : Value.okWide P w r b0 t v) (hd : DataW.Trod enc P w 0 (fun _ => true) true t v d ps) :
    ∃ (h : Hd) (xs : List Int), v = h.val ∧ (HA.rep (tI k) [1] xs h).holds w (oldc allS) ∧ xs.length ≤ maxLen ∧ ∀ n ∈ xs, (Lit.int k n).wf = true := by
  obtain ⟨a0, len, cap, rfl⟩ := okWide_slice ht hval
  obtain ⟨fuel, hf⟩ := hd
  rcases open_ints ht he hc hf with ⟨hcs, _⟩ | ⟨a, len', cap', zs, hcs, _, hl, hm, hz, _, hcell, hwz⟩
  · simp [Value.cells] at hcs
    obtain ⟨rfl, rfl, rfl⟩ := hcs
    exact ⟨⟨none, 0, 0⟩, [], rfl, ⟨[], trivial, rfl, by simp, by simp [maxLen], .inl ⟨trivial, rfl⟩⟩, by simp, by simp⟩
  · simp [Value.cells] at hcs
    obtain ⟨rfl, rfl, rfl⟩ := hcs
    simp only [if_true] at hz
    have hlen : (zs.take len).length = len := by simp; omega
    refine ⟨⟨some a, len, cap⟩, zs.take len, rfl, ⟨List.replicate (zs.take len).length (), repAll_ints _ _ _ _, by rw [hlen], by rw [hlen]; exact hl, hm, ?_⟩, by rw [hlen]; omega, fun n hn => hwz n (List.mem_of_mem_take hn)⟩
    by_cases h0 : cap = 0
    · exact .inl ⟨trivial, h0⟩
    · right
      have hc0 := hcell 0 (by omega)
      simp only [Addr.add, if_true] at hc0
      unfold World.cell? at hc0
      split at hc0
      · rename_i arr ty fz hb
        split at hc0
        · cases hc0
        · rename_i hsp
          have hspot : a.spot = none := by simpa using hsp
          obtain ⟨b, off, spot⟩ := a
          simp only at hspot hb hc0
          subst hspot
          have hall : ∀ i, i < cap → arr[off + i]? = some (.int k (zs.getD i 0)) := fun i hi => by
            have := hcell i (by omega)
            rw [addr_add] at this
            simpa [World.cell?, hb] using this
          refine ⟨b, off, arr, ty, fz, rfl, oldc_all b, hb, ?_, ?_⟩
          · have := (Array.getElem?_eq_some_iff.1 (hall (cap - 1) (by omega))).1
            show off + cap * 1 ≤ arr.size
            omega
          · rw [cells_ints]
            apply List.ext_getElem?
            intro i
            show ((arr.toList.drop off).take ((zs.take len).length * 1))[i]? = _
            rw [hlen, Nat.mul_one, List.getElem?_take, List.getElem?_drop, List.getElem?_map, List.getElem?_take]
            by_cases hi : i < len
            · have h1 := hall i (by omega)
              have h2 : i < zs.length := by omega
              simp only [hi, if_true]
              rw [show arr.toList[off + i]? = arr[off + i]? by simp, h1]
              simp [h2]
            · simp [hi]
      · cases hc0

/-- The arguments read behind the call as they read ahead of it. -/
theorem trodAll_below {W W' : World} (hl : laidOutB P = true) (hB : Below W.heap.size W W') : ∀ {ts : List TypeId} {vs : List Value} {ds : List (DataW H)} {ps : List MemPlace}, ts.all (fun t => P.readableRec t && decide (t < P.types.size)) = true →
    DataW.TrodAll enc P W 0 (fun _ => true) true ts vs ds ps → (∀ x ∈ ps, x.block < W.heap.size) → DataW.TrodAll enc P W' 0 (fun b => decide (b < W.heap.size)) true ts vs ds ps
  | [], vs, ds, ps, _, h, _ => by
    cases vs <;> cases ds <;> simp_all [DataW.TrodAll]
  | t :: ts, vs, ds, ps, hts, h, hlt => by
    obtain ⟨v, vs', d, ds', p, q, rfl, rfl, rfl, h1, h2⟩ := trodAll_cons h
    simp only [List.all_cons, Bool.and_eq_true, decide_eq_true_eq] at hts
    exact ⟨p, q, Below.trod hl hts.1.1 hts.1.2 h1 hB fun x hx => hlt x (List.mem_append_left _ hx),
      trodAll_below hl hB (by simpa using hts.2) h2 fun x hx => hlt x (List.mem_append_right _ hx), rfl⟩

theorem in_i64 {n : Int} (h : (Lit.int .i64 n).wf = true) : -9223372036854775808 ≤ n ∧ n ≤ 9223372036854775807 := by
  simp [Lit.wf, IntKind.min, IntKind.max, IntKind.signed, IntKind.bits] at h
  omega

end
end Go.Sm
