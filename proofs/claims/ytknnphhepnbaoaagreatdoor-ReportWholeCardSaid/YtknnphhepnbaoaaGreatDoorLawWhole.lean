/-
  ReportWhole: what the function computes is true. No program is walked here.
-/
import Derived.Test.YtknnphhepnbaoaaGreatDoorLawsY
import Derived.Test.YtknnphhepnbaoaaGreatDoorLawLives
import Derived.Test.YtknnphhepnbaoaaGreatDoorLawsG
namespace Go.Proofs.YtknnphhepnbaoaaGreatDoor
open Go.Sm
theorem whole_true {l m : List Int} {n k : Int} (hl : ∀ x ∈ l, i64 x) (hm : ∀ x ∈ m, i64 x) (hn : i64 n) (hk : i64 k) : culpritlaw37_ReportWhole l m n k = some true := by
 obtain ⟨f, pr⟩ := prints_made
 obtain ⟨p, p1, p2, p3⟩ := around_eq hn (m := 5) (by omega)
 obtain ⟨q, q1, q2, q3⟩ := around_eq hk (m := 5) (by omega)
 obtain ⟨a, a1, a2, a3⟩ := verdicts_eq (n := p.toNat) hl (by omega)
 obtain ⟨b, b1, b2, b3⟩ := verdicts_eq (n := q.toNat) hm (by omega)
 rw [Int.toNat_of_nonneg p2] at a1
 rw [Int.toNat_of_nonneg q2] at b1
 have ab3 : ∀ v ∈ a ++ b, MadeOk v := fun v hv => by
  rcases List.mem_append.1 hv with hv | hv
  ·exact a3 v hv
  ·exact b3 v hv
 have ca : ∀ v ∈ a, CleanV f v := fun v hv => clean_of (a3 v hv) (pr v (a3 v hv))
 have cb : ∀ v ∈ b, CleanV f v := fun v hv => clean_of (b3 v hv) (pr v (b3 v hv))
 have cab : ∀ v ∈ a ++ b, CleanV f v := fun v hv => clean_of (ab3 v hv) (pr v (ab3 v hv))
 have lab : (a ++ b).length ≤ 8 := by rw [List.length_append]; omega
 have ta := textOf_len ca
 have tb := textOf_len cb
 unfold culpritlaw37_ReportWhole
 rw [p1]
 simp only [Option.bind_some]
 rw [a1]
 simp only [Option.bind_some]
 rw [q1]
 simp only [Option.bind_some]
 rw [b1]
 simp only [Option.bind_some, List.nil_append]
 rw [chk_t (appOk_le (by simp only [List.length_nil]; omega) (by omega)), chk_t (appOk_le (by omega) (by omega))]
 rw [page_rep (fun v hv => pr v (a3 v hv)), pageA_clean ca (by omega)]
 simp only [Option.bind_some]
 rw [page_rep (fun v hv => pr v (b3 v hv)), pageA_clean cb (by omega)]
 simp only [Option.bind_some]
 rw [page_rep (fun v hv => pr v (ab3 v hv)), pageA_clean cab lab]
 simp only [Option.bind_some]
 rw [read_rep, readR_clean cab lab]
 simp only [Option.bind_some]
 rw [textOf_app]
 have z0 : ((0 : Int) == 0) = true := rfl
 have ze : ∀ x : List UInt8, (x == x) = true := fun x => by simp
 have zi : ∀ x : Int, (x == x) = true := fun x => by simp
 rw [z0, ze, zi, dec_t (show (textOf f a).length + (textOf f b).length ≤ 9223372036854775807 by omega)]
 simp only [cond_true, Bool.not_true, Bool.or_true]
 rw [chk_t rfl, sameAll_self (fun v hv => proper_small (ab3 v hv).p (ab3 v hv).r) (by show (a ++ b).length < _; omega)]
 simp only [Option.bind_some, cond_true]
 rw [lives_true]
 rfl
end Go.Proofs.YtknnphhepnbaoaaGreatDoor
