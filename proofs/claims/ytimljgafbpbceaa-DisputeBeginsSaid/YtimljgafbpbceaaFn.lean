/-
  What the functions of the program compute, as functions on data. No condition.
-/
import Derived.Test.YtimljgafbpbceaaSimI
namespace Go.Proofs.Ytimljgafbpbceaa
open Go.Sm

abbrev Ty_culpritref32_Claimant : Ty := (Ty.slice (tA 16 .u8))
abbrev Ty_culpritref32_Game : Ty := (Ty.pair (tI .i64) (Ty.pair (tI .i64) (Ty.slice (tI .i64))))
def str1 : List UInt8 := [0, 1, 2, 2, 3, 3, 3, 3, 4, 4, 4, 4, 4, 4, 4, 4, 5, 5, 5, 5, 5, 5, 5, 5, 5, 5, 5, 5, 5, 5, 5, 5, 6, 6, 6, 6, 6, 6, 6, 6, 6, 6, 6, 6, 6, 6, 6, 6, 6, 6, 6, 6, 6, 6, 6, 6, 6, 6, 6, 6, 6, 6, 6, 6, 7, 7, 7, 7, 7, 7, 7, 7, 7, 7, 7, 7, 7, 7, 7, 7, 7, 7, 7, 7, 7, 7, 7, 7, 7, 7, 7, 7, 7, 7, 7, 7, 7, 7, 7, 7, 7, 7, 7, 7, 7, 7, 7, 7, 7, 7, 7, 7, 7, 7, 7, 7, 7, 7, 7, 7, 7, 7, 7, 7, 7, 7, 7, 7, 8, 8, 8, 8, 8, 8, 8, 8, 8, 8, 8, 8, 8, 8, 8, 8, 8, 8, 8, 8, 8, 8, 8, 8, 8, 8, 8, 8, 8, 8, 8, 8, 8, 8, 8, 8, 8, 8, 8, 8, 8, 8, 8, 8, 8, 8, 8, 8, 8, 8, 8, 8, 8, 8, 8, 8, 8, 8, 8, 8, 8, 8, 8, 8, 8, 8, 8, 8, 8, 8, 8, 8, 8, 8, 8, 8, 8, 8, 8, 8, 8, 8, 8, 8, 8, 8, 8, 8, 8, 8, 8, 8, 8, 8, 8, 8, 8, 8, 8, 8, 8, 8, 8, 8, 8, 8, 8, 8, 8, 8, 8, 8, 8, 8, 8, 8, 8, 8, 8, 8, 8, 8, 8, 8, 8, 8, 8, 8]
/-- A state of package dispute: a digest, or none. -/
def encState : Option (List Int) → Value
  | some d => .iface 70 (.agg ((tA 16 .u8).fill d ()).toArray)
  | none => .iface 73 (.agg ([] : List Value).toArray)


def culpritref01_Around (x0 : Int) (x1 : Int) : Option Int :=
  ((
    bif decide (x0 < 0) then
      some (w64 (0 - (w64 (x0 + 1))))
    else
      some x0 : Option Int)).bind fun r1 =>
  chk (!(x1 == 0)) (
    some (Int.tmod r1 x1))

def culpritref32_Small_loop1 (x0 : (List Int)) (s7 : Int × (List (List Int))) : Option (Int × (List (List Int)) ⊕ (List (List Int))) :=
  bif bif decide (s7.1 < (x0.length : Int)) then decide (s7.1 < 24) else false then
    (idx x0 s7.1).bind fun x21 =>
    (culpritref01_Around x21 4).bind fun r23 =>
    chk (appOk s7.2.length [((List.replicate 16 0).set 0 (IntKind.u8.wrap r23))].length 16) (
      some (Sum.inl (w64 (s7.1 + 1), s7.2 ++ [((List.replicate 16 0).set 0 (IntKind.u8.wrap r23))])))
  else
    some (Sum.inr s7.2)

def culpritref32_Small (x0 : (List Int)) : Option ((List (List Int))) :=
  ((
    iter (culpritref32_Small_loop1 x0) ((((x0.length : Int) : Int) - 0).toNat + 2) (0, ([] : List (List Int))) : Option (List (List Int)))).bind fun r4 =>
  some r4

def culpritlaw32_own (x0 : ((List (List Int)))) : Option ((List (List Int))) :=
  some x0

def culpritlaw32_game (x0 : (Int × Int × (List Int))) : Option (Int × Int × (List Int)) :=
  some (x0.1, x0.2.1, x0.2.2)

def dispute_long (x0 : ((List (List Int)))) (x1 : ((List (List Int)))) : Option Bool :=
  some (decide (1000 < (if (x1.length : Int) > (x0.length : Int) then (x1.length : Int) else (x0.length : Int))))

def slices_Clone_int_int (x0 : (List Int)) : Option (List Int) :=
  chk (appOk ([] : List Int).length x0.length 8) (
    some (([] : List Int) ++ x0))

def culpritref32_Says (x0 : ((List (List Int)))) (x1 : Int) : Option ((List Int) × Bool) :=
  bif bif decide (x1 < 0) then true else decide ((x0.length : Int) ≤ x1) then
    some ((List.replicate 16 0), false)
  else
    (idx x0 x1).bind fun x14 =>
    some (x14, true)

def culpritref32_Same (x0 : ((List (List Int)))) (x1 : ((List (List Int)))) (x2 : Int) : Option Bool :=
  (culpritref32_Says x0 x2).bind fun r3 =>
  (culpritref32_Says x1 x2).bind fun r7 =>
  some (bif r3.2 == r7.2 then arrEq 16 r3.1 r7.1 else false)

def culpritref32_both (x0 : ((List (List Int)))) (x1 : ((List (List Int)))) (x2 : Int) : Option Bool :=
  (culpritref32_Says x0 x2).bind fun r3 =>
  (bif r3.2 then culpritref32_Same x0 x1 x2 else some default).bind fun r7 =>
  some (bif r3.2 then r7 else false)

def culpritref32_Agree_loop1 (x0 : ((List (List Int)))) (x1 : ((List (List Int)))) (s7 : Int) : Option (Int ⊕ (Unit ⊕ Bool)) :=
  bif bif decide (s7 < (x0.length : Int)) then true else decide (s7 < (x1.length : Int)) then
    (culpritref32_Same x0 x1 s7).bind fun r25 =>
    bif !r25 then
      some (Sum.inr (Sum.inr false))
    else
      some (Sum.inl (w64 (s7 + 1)))
  else
    some (Sum.inr (Sum.inl ()))

def culpritref32_Agree (x0 : ((List (List Int)))) (x1 : ((List (List Int)))) : Option Bool :=
  ((
    iter (culpritref32_Agree_loop1 x0 x1) (x0.length + x1.length + 2) 0 : Option (Unit ⊕ Bool))).bind fun r3 =>
  match r3 with
  | Sum.inl s6 =>
    some true
  | Sum.inr t32 => some t32

def culpritref01_SameInts_loop1 (x0 : (List Int)) (x1 : (List Int)) (s6 : Int) : Option (Int ⊕ (Unit ⊕ Bool)) :=
  bif decide (s6 < (x0.length : Int)) then
    (idx x0 s6).bind fun x11 =>
    (idx x1 s6).bind fun x13 =>
    bif x11 != x13 then
      some (Sum.inr (Sum.inr false))
    else
      some (Sum.inl (w64 (s6 + 1)))
  else
    some (Sum.inr (Sum.inl ()))

def culpritref01_SameInts (x0 : (List Int)) (x1 : (List Int)) : Option Bool :=
  bif (x0.length : Int) != (x1.length : Int) then
    some false
  else
    ((
      iter (culpritref01_SameInts_loop1 x0 x1) ((((x0.length : Int) : Int) - 0).toNat + 2) 0 : Option (Unit ⊕ Bool))).bind fun r2 =>
    match r2 with
    | Sum.inl s5 =>
      some true
    | Sum.inr t27 => some t27

def culpritref32_SameGame (x0 : (Int × Int × (List Int))) (x1 : (Int × Int × (List Int))) : Option Bool :=
  (bif (bif x0.1 == x1.1 then x0.2.1 == x1.2.1 else false) then culpritref01_SameInts x0.2.2 x1.2.2 else some default).bind fun r3 =>
  some (bif bif x0.1 == x1.1 then x0.2.1 == x1.2.1 else false then r3 else false)

def culpritref32_Begin_loop1 (x0 : ((List (List Int)))) (x1 : ((List (List Int)))) (s20 : Int × Int) : Option (Int × Int ⊕ Int) :=
  bif bif decide (s20.2 < (x0.length : Int)) then true else decide (s20.2 < (x1.length : Int)) then
    ((
      (culpritref32_Same x0 x1 s20.2).bind fun r41 =>
      bif !r41 then
        some s20.2
      else
        some s20.1 : Option Int)).bind fun r38 =>
    some (Sum.inl (r38, w64 (s20.2 + 1)))
  else
    some (Sum.inr s20.1)

def culpritref32_Begin (x0 : ((List (List Int)))) (x1 : ((List (List Int)))) : Option ((Int × Int × (List Int)) × Int) :=
  bif bif decide (1000 < (x0.length : Int)) then true else decide (1000 < (x1.length : Int)) then
    some ((0, 0, ([] : List Int)), 4)
  else
    ((
      iter (culpritref32_Begin_loop1 x0 x1) (x0.length + x1.length + 2) (-1, 0) : Option Int)).bind fun r17 =>
    bif decide (r17 < 0) then
      some ((0, 0, ([] : List Int)), 6)
    else
      some ((-1, r17, ([] : List Int)), 0)

def culpritref32_Proper (x0 : (Int × Int × (List Int))) (x1 : ((List (List Int)))) (x2 : ((List (List Int)))) : Option Bool :=
  (bif !(x0.1 == (-1)) then culpritref32_both x1 x2 x0.1 else some default).bind fun r4 =>
  (bif (bif bif x0.1 == (-1) then true else r4 then decide (x0.1 < x0.2.1) else false) then culpritref32_Same x1 x2 x0.2.1 else some default).bind fun r7 =>
  some (bif bif bif x0.1 == (-1) then true else r4 then decide (x0.1 < x0.2.1) else false then !r7 else false)

def culpritref32_Halve (x0 : (Int × Int × (List Int))) (x1 : ((List (List Int)))) (x2 : ((List (List Int)))) : Option ((Int × Int × (List Int)) × Int) :=
  bif bif decide (1000 < (x1.length : Int)) then true else decide (1000 < (x2.length : Int)) then
    some ((0, 0, ([] : List Int)), 4)
  else
    (culpritref32_Proper (x0.1, x0.2.1, x0.2.2) x1 x2).bind fun r18 =>
    bif !r18 then
      some ((0, 0, ([] : List Int)), 1)
    else
      bif x0.2.1 == (w64 (x0.1 + 1)) then
        some ((0, 0, ([] : List Int)), 8)
      else
        chk (appOk ([] : List Int).length x0.2.2.length 8) (
          chk (appOk (([] : List Int) ++ x0.2.2).length [w64 (x0.1 + (w64 (Int.tdiv (w64 (x0.2.1 - x0.1)) 2)))].length 8) (
            ((
              (culpritref32_both x1 x2 (w64 (x0.1 + (w64 (Int.tdiv (w64 (x0.2.1 - x0.1)) 2))))).bind fun r47 =>
              bif r47 then
                some (w64 (x0.1 + (w64 (Int.tdiv (w64 (x0.2.1 - x0.1)) 2))), x0.2.1, (([] : List Int) ++ x0.2.2) ++ [w64 (x0.1 + (w64 (Int.tdiv (w64 (x0.2.1 - x0.1)) 2)))])
              else
                some (x0.1, w64 (x0.1 + (w64 (Int.tdiv (w64 (x0.2.1 - x0.1)) 2))), (([] : List Int) ++ x0.2.2) ++ [w64 (x0.1 + (w64 (Int.tdiv (w64 (x0.2.1 - x0.1)) 2)))]) : Option (Int × Int × (List Int)))).bind fun r44 =>
            some ((r44.1, r44.2.1, r44.2.2), 0)))

def dispute_Claimant_says (x0 : ((List (List Int)))) (x1 : Int) : Option (Option (List Int)) :=
  bif bif decide (x1 < 0) then true else decide ((x0.length : Int) ≤ x1) then
    some none
  else
    (idx x0 x1).bind fun x13 =>
    some (some x13)

def dispute_same (x0 : (Option (List Int))) (x1 : (Option (List Int))) : Option Bool :=
  bif x0.isSome then
    some (bif x1.isSome then arrEq 16 (x0.getD (List.replicate 16 0)) (x1.getD (List.replicate 16 0)) else false)
  else
    some x1.isNone

def dispute_shown (x0 : ((List (List Int)))) (x1 : ((List (List Int)))) (x2 : Int) : Option Bool :=
  (dispute_Claimant_says x0 x2).bind fun r3 =>
  (bif r3.isSome then dispute_Claimant_says x0 x2 else some default).bind fun r7 =>
  (bif r3.isSome then dispute_Claimant_says x1 x2 else some default).bind fun r10 =>
  (bif r3.isSome then dispute_same r7 r10 else some default).bind fun r13 =>
  some (bif r3.isSome then r13 else false)

def dispute_Begin_loop1 (x0 : ((List (List Int)))) (x1 : ((List (List Int)))) (s13 : Int) : Option (Int ⊕ (Unit ⊕ ((Int × Int × (List Int)) × Int))) :=
  bif decide (0 ≤ s13) then
    (dispute_Claimant_says x0 s13).bind fun r18 =>
    (dispute_Claimant_says x1 s13).bind fun r26 =>
    (dispute_same r18 r26).bind fun r29 =>
    bif !r29 then
      some (Sum.inr (Sum.inr ((-1, s13, ([] : List Int)), 0)))
    else
      some (Sum.inl (w64 (s13 - 1)))
  else
    some (Sum.inr (Sum.inl ()))

def dispute_Begin (x0 : ((List (List Int)))) (x1 : ((List (List Int)))) : Option ((Int × Int × (List Int)) × Int) :=
  (dispute_long x0 x1).bind fun r5 =>
  bif r5 then
    some ((0, 0, ([] : List Int)), 4)
  else
    ((
      iter (dispute_Begin_loop1 x0 x1) ((((w64 ((if (x1.length : Int) > (x0.length : Int) then (x1.length : Int) else (x0.length : Int)) - 1)) : Int) - 0).toNat + 2) (w64 ((if (x1.length : Int) > (x0.length : Int) then (x1.length : Int) else (x0.length : Int)) - 1)) : Option (Unit ⊕ ((Int × Int × (List Int)) × Int)))).bind fun r9 =>
    match r9 with
    | Sum.inl s12 =>
      some ((0, 0, ([] : List Int)), 6)
    | Sum.inr t36 => some t36

def dispute_Halve (x0 : (Int × Int × (List Int))) (x1 : ((List (List Int)))) (x2 : ((List (List Int)))) : Option ((Int × Int × (List Int)) × Int) :=
  (dispute_long x1 x2).bind fun r6 =>
  bif r6 then
    some ((0, 0, ([] : List Int)), 4)
  else
    (bif (!(decide (x0.1 < (-1)))) && (decide (0 ≤ x0.1)) then dispute_shown x1 x2 x0.1 else some default).bind fun r10 =>
    (bif !(bif bif decide (x0.1 < (-1)) then true else bif decide (0 ≤ x0.1) then !r10 else false then true else decide (x0.2.1 ≤ x0.1)) then dispute_Claimant_says x1 x0.2.1 else some default).bind fun r13 =>
    (bif !(bif bif decide (x0.1 < (-1)) then true else bif decide (0 ≤ x0.1) then !r10 else false then true else decide (x0.2.1 ≤ x0.1)) then dispute_Claimant_says x2 x0.2.1 else some default).bind fun r16 =>
    (bif !(bif bif decide (x0.1 < (-1)) then true else bif decide (0 ≤ x0.1) then !r10 else false then true else decide (x0.2.1 ≤ x0.1)) then dispute_same r13 r16 else some default).bind fun r19 =>
    bif bif bif bif decide (x0.1 < (-1)) then true else bif decide (0 ≤ x0.1) then !r10 else false then true else decide (x0.2.1 ≤ x0.1) then true else r19 then
      some ((0, 0, ([] : List Int)), 1)
    else
      bif x0.2.1 == (w64 (x0.1 + 1)) then
        some ((0, 0, ([] : List Int)), 8)
      else
        (slices_Clone_int_int x0.2.2).bind fun r62 =>
        chk (appOk r62.length [w64 (x0.1 + (w64 (Int.tdiv (w64 (x0.2.1 - x0.1)) 2)))].length 8) (
          ((
            (dispute_shown x1 x2 (w64 (x0.1 + (w64 (Int.tdiv (w64 (x0.2.1 - x0.1)) 2))))).bind fun r85 =>
            bif r85 then
              some (w64 (x0.1 + (w64 (Int.tdiv (w64 (x0.2.1 - x0.1)) 2))), x0.2.1, r62 ++ [w64 (x0.1 + (w64 (Int.tdiv (w64 (x0.2.1 - x0.1)) 2)))])
            else
              some (x0.1, w64 (x0.1 + (w64 (Int.tdiv (w64 (x0.2.1 - x0.1)) 2))), r62 ++ [w64 (x0.1 + (w64 (Int.tdiv (w64 (x0.2.1 - x0.1)) 2)))]) : Option (Int × Int × (List Int)))).bind fun r82 =>
          some ((r82.1, r82.2.1, r82.2.2), 0))

def dispute_Parts_loop1 (x0 : ((List (List Int)))) (x1 : ((List (List Int)))) (s9 : Int × Int × (List Int)) : Option (Int × Int × (List Int) ⊕ (Int × Int × Int)) :=
  (dispute_Halve (s9.1, s9.2.1, s9.2.2) x0 x1).bind fun r13 =>
  bif r13.2 != 0 then
    some (Sum.inr (s9.1, (s9.2.2.length : Int), 0))
  else
    some (Sum.inl (r13.1.1, r13.1.2.1, r13.1.2.2))

def dispute_Parts (x0 : ((List (List Int)))) (x1 : ((List (List Int)))) : Option (Int × Int × Int) :=
  (dispute_Begin x0 x1).bind fun r3 =>
  bif r3.2 != 0 then
    some (0, 0, r3.2)
  else
    iter (dispute_Parts_loop1 x0 x1) (64) (r3.1.1, r3.1.2.1, r3.1.2.2)

def culpritref32_Parts_loop1 (x0 : ((List (List Int)))) (x1 : ((List (List Int)))) (s12 : Int × Int × (List Int)) : Option (Int × Int × (List Int) ⊕ Int × Int × (List Int)) :=
  bif decide ((w64 (s12.1 + 1)) < s12.2.1) then
    (culpritref32_Halve (s12.1, s12.2.1, s12.2.2) x0 x1).bind fun r17 =>
    some (Sum.inl (r17.1.1, r17.1.2.1, r17.1.2.2))
  else
    some (Sum.inr (s12.1, s12.2.1, s12.2.2))

def culpritref32_Parts (x0 : ((List (List Int)))) (x1 : ((List (List Int)))) : Option (Int × Int × Int) :=
  (culpritref32_Begin x0 x1).bind fun r3 =>
  bif r3.2 != 0 then
    some (0, 0, r3.2)
  else
    ((
      iter (culpritref32_Parts_loop1 x0 x1) (((r3.1.2.1 : Int) - (w64 (r3.1.1 + 1))).toNat + 2) (r3.1.1, r3.1.2.1, r3.1.2.2) : Option (Int × Int × (List Int)))).bind fun r9 =>
    some (r9.1, (r9.2.2.length : Int), 0)

def math_bits_Len64 (x0 : Int) : Option Int :=
  ((
    bif decide (4294967296 ≤ x0) then
      some (shrI .u64 x0 32, 32)
    else
      some (x0, 0) : Option (Int × Int))).bind fun r1 =>
  ((
    bif decide (65536 ≤ r1.1) then
      some (shrI .u64 r1.1 16, w64 (r1.2 + 16))
    else
      some (r1.1, r1.2) : Option (Int × Int))).bind fun r5 =>
  ((
    bif decide (256 ≤ r5.1) then
      some (shrI .u64 r5.1 8, w64 (r5.2 + 8))
    else
      some (r5.1, r5.2) : Option (Int × Int))).bind fun r9 =>
  (idx str1 (IntKind.u8.wrap r9.1)).bind fun x13 =>
  some (w64 (r9.2 + (w64 (x13.toNat : Int))))

def dispute_Most (x0 : Int) : Option Int :=
  bif decide (x0 < 1) then
    some 0
  else
    (math_bits_Len64 (IntKind.u64.wrap (w64 (x0 - 1)))).bind fun r2 =>
    some r2

def culpritref32_Most_loop1 (x0 : Int) (s4 : Int) : Option (Int ⊕ Int) :=
  chk (!((decide (s4 < 62))) || (decide (0 ≤ (IntKind.u64.wrap s4)))) (
    bif bif decide (s4 < 62) then decide ((shlI .i64 1 (IntKind.u64.wrap s4)) < x0) else false then
      some (Sum.inl (w64 (s4 + 1)))
    else
      some (Sum.inr s4))

def culpritref32_Most (x0 : Int) : Option Int :=
  ((
    iter (culpritref32_Most_loop1 x0) (((62 : Int) - 0).toNat + 2) 0 : Option Int)).bind fun r1 =>
  ((
    bif bif r1 == 62 then decide (4611686018427387904 < x0) else false then
      some (w64 (r1 + 1))
    else
      some r1 : Option Int)).bind fun r21 =>
  some r21

def culpritlaw32_says_loop1 (x0 : (List Int)) (s7 : Int × (List (List Int))) : Option (Int × (List (List Int)) ⊕ (List (List Int))) :=
  bif decide (s7.1 < (x0.length : Int)) then
    (idx x0 s7.1).bind fun x12 =>
    chk (appOk s7.2.length [((List.replicate 16 0).set 0 (IntKind.u8.wrap x12))].length 16) (
      some (Sum.inl (w64 (s7.1 + 1), s7.2 ++ [((List.replicate 16 0).set 0 (IntKind.u8.wrap x12))])))
  else
    some (Sum.inr s7.2)

def culpritlaw32_says (x0 : (List Int)) : Option ((List (List Int))) :=
  ((
    iter (culpritlaw32_says_loop1 x0) ((((x0.length : Int) : Int) - 0).toNat + 2) (0, ([] : List (List Int))) : Option (List (List Int)))).bind fun r4 =>
  some r4

def culpritref32_Bent_loop1 (x0 : ((List (List Int)))) (x2 : Int) (s22 : Int × (List (List Int))) : Option (Int × (List (List Int)) ⊕ (List (List Int))) :=
  bif decide (s22.1 < ((([] : List (List Int)) ++ x0).length : Int)) then
    (idx s22.2 s22.1).bind fun x27 =>
    chk (decide (0 ≤ 0 ∧ 0 < 16)) (
      (idx s22.2 s22.1).bind fun x30 =>
      chk (decide (0 ≤ 0 ∧ 0 < 16)) (
        some (Sum.inl (w64 (s22.1 + 1), s22.2.set s22.1.toNat (arrSet 16 0 x30 (0 : Int).toNat (IntKind.u8.wrap ((x27.getD (0 : Int).toNat 0) + (IntKind.u8.wrap (w64 (1 + (Int.tmod x2 200)))))))))))
  else
    some (Sum.inr s22.2)

def culpritref32_Bent_loop2 (x2 : Int) (s74 : Int × (List (List Int))) : Option (Int × (List (List Int)) ⊕ (List (List Int))) :=
  (culpritref01_Around x2 9).bind fun r78 =>
  bif decide (s74.1 < (w64 (1 + r78))) then
    chk (appOk s74.2.length [(((List.replicate 16 0).set 0 (IntKind.u8.wrap x2)).set 1 (IntKind.u8.wrap s74.1))].length 16) (
      some (Sum.inl (w64 (s74.1 + 1), s74.2 ++ [(((List.replicate 16 0).set 0 (IntKind.u8.wrap x2)).set 1 (IntKind.u8.wrap s74.1))])))
  else
    some (Sum.inr s74.2)

def culpritref32_Bent_loop3 (x0 : ((List (List Int)))) (s116 : Int × (List (List Int))) : Option (Int × (List (List Int)) ⊕ (List (List Int))) :=
  bif decide (s116.1 < ((([] : List (List Int)) ++ x0).length : Int)) then
    (idx s116.2 s116.1).bind fun x121 =>
    chk (decide (0 ≤ 1 ∧ 1 < 16)) (
      (idx s116.2 s116.1).bind fun x124 =>
      chk (decide (0 ≤ 1 ∧ 1 < 16)) (
        some (Sum.inl (w64 (s116.1 + 2), s116.2.set s116.1.toNat (arrSet 16 0 x124 (1 : Int).toNat (IntKind.u8.wrap ((x121.getD (1 : Int).toNat 0) + 1)))))))
  else
    some (Sum.inr s116.2)

def culpritref32_Bent (x0 : ((List (List Int)))) (x1 : Int) (x2 : Int) : Option ((List (List Int))) :=
  chk (appOk ([] : List (List Int)).length x0.length 16) (
    (culpritref01_Around x2 (if 1 > ((([] : List (List Int)) ++ x0).length : Int) then 1 else ((([] : List (List Int)) ++ x0).length : Int))).bind fun r8 =>
    ((
      (culpritref01_Around x1 7).bind fun r14 =>
      ((
        bif r14 == 0 then
          some (r14 == 0, ([] : List (List Int)) ++ x0)
        else
          some (r14 == 1, ([] : List (List Int)) ++ x0) : Option (Bool × (List (List Int))))).bind fun r17 =>
      bif r17.1 then
        iter (culpritref32_Bent_loop1 x0 x2) (((((([] : List (List Int)) ++ x0).length : Int) : Int) - r8).toNat + 2) (r8, r17.2)
      else
        bif r14 == 2 then
          bif decide (0 < ((([] : List (List Int)) ++ x0).length : Int)) then
            (culpritref01_Around (w64 (Int.tdiv x2 16)) 16).bind fun r51 =>
            (idx r17.2 r8).bind fun x54 =>
            chk (decide (0 ≤ r51 ∧ r51 < 16)) (
              (idx r17.2 r8).bind fun x57 =>
              chk (decide (0 ≤ r51 ∧ r51 < 16)) (
                some (r17.2.set r8.toNat (arrSet 16 0 x57 r51.toNat (IntKind.u8.wrap ((x54.getD r51.toNat 0) + 1))))))
          else
            some r17.2
        else
          bif r14 == 3 then
            chk (decide (0 ≤ (if ((([] : List (List Int)) ++ x0).length : Int) < r8 then ((([] : List (List Int)) ++ x0).length : Int) else r8) ∧ (if ((([] : List (List Int)) ++ x0).length : Int) < r8 then ((([] : List (List Int)) ++ x0).length : Int) else r8) ≤ r17.2.length)) (
              some (r17.2.take (if ((([] : List (List Int)) ++ x0).length : Int) < r8 then ((([] : List (List Int)) ++ x0).length : Int) else r8).toNat))
          else
            bif r14 == 4 then
              iter (culpritref32_Bent_loop2 x2) (12) (0, r17.2)
            else
              bif r14 == 5 then
                bif decide (1 < ((([] : List (List Int)) ++ x0).length : Int)) then
                  (idx r17.2 (w64 (((([] : List (List Int)) ++ x0).length : Int) - 1))).bind fun x88 =>
                  (idx r17.2 r8).bind fun x90 =>
                  (idx r17.2 r8).bind fun x92 =>
                  (idx (r17.2.set r8.toNat x88) (w64 (((([] : List (List Int)) ++ x0).length : Int) - 1))).bind fun x114 =>
                  some ((r17.2.set r8.toNat x88).set (w64 (((([] : List (List Int)) ++ x0).length : Int) - 1)).toNat x90)
                else
                  some r17.2
              else
                iter (culpritref32_Bent_loop3 x0) (((((([] : List (List Int)) ++ x0).length : Int) : Int) - 0).toNat + 2) (0, r17.2) : Option (List (List Int)))).bind fun r11 =>
    some r11)

def culpritlaw32_lives  : Option Bool :=
  (culpritlaw32_says [1, 2, 3, 4, 5]).bind fun r2 =>
  (culpritlaw32_says [1, 2, 6, 7]).bind fun r8 =>
  (dispute_Begin r2 r8).bind fun r12 =>
  (dispute_Halve (r12.1.1, r12.1.2.1, r12.1.2.2) r2 r8).bind fun r17 =>
  (dispute_Halve (r17.1.1, r17.1.2.1, r17.1.2.2) r2 r8).bind fun r21 =>
  (dispute_Halve (r21.1.1, r21.1.2.1, r21.1.2.2) r2 r8).bind fun r25 =>
  (dispute_Parts r2 r8).bind fun r29 =>
  (culpritlaw32_says [1, 2, 3, 8, 5]).bind fun r33 =>
  (dispute_Parts r2 r33).bind fun r36 =>
  (dispute_Parts r2 r2).bind fun r49 =>
  bif bif bif bif bif bif bif bif bif bif bif r12.2 != 0 then true else r17.2 != 0 then true else r21.2 != 0 then true else r29.2.2 != 0 then true else r36.2.2 != 0 then true else r25.2 != 8 then true else r49.2.2 != 6 then true else r12.1.1 != (-1) then true else r12.1.2.1 != 4 then true else r17.1.1 != 1 then true else r21.1.2.1 != 2 then
    some false
  else
    (bif (bif bif bif r29.1 == 1 then r29.2.1 == 2 else false then r36.1 == 2 else false then r36.2.1 == 2 else false) then culpritref01_SameInts r21.1.2.2 [1, 2] else some default).bind fun r110 =>
    (bif (bif bif bif bif r29.1 == 1 then r29.2.1 == 2 else false then r36.1 == 2 else false then r36.2.1 == 2 else false then r110 else false) then dispute_Most 0 else some default).bind fun r113 =>
    (bif (bif bif bif bif bif r29.1 == 1 then r29.2.1 == 2 else false then r36.1 == 2 else false then r36.2.1 == 2 else false then r110 else false then r113 == 0 else false) then dispute_Most 2 else some default).bind fun r116 =>
    (bif (bif bif bif bif bif bif r29.1 == 1 then r29.2.1 == 2 else false then r36.1 == 2 else false then r36.2.1 == 2 else false then r110 else false then r113 == 0 else false then r116 == 1 else false) then dispute_Most 3 else some default).bind fun r119 =>
    (bif (bif bif bif bif bif bif bif r29.1 == 1 then r29.2.1 == 2 else false then r36.1 == 2 else false then r36.2.1 == 2 else false then r110 else false then r113 == 0 else false then r116 == 1 else false then r119 == 2 else false) then dispute_Most 5 else some default).bind fun r122 =>
    some (bif bif bif bif bif bif bif bif r29.1 == 1 then r29.2.1 == 2 else false then r36.1 == 2 else false then r36.2.1 == 2 else false then r110 else false then r113 == 0 else false then r116 == 1 else false then r119 == 2 else false then r122 == 3 else false)

def culpritlaw32_DisputeHalves_loop1 (x3 : Int) (s9 : Int × (List (List Int))) : Option (Int × (List (List Int)) ⊕ (List (List Int))) :=
  (culpritref01_Around x3 40).bind fun r13 =>
  bif decide (s9.1 < r13) then
    chk (appOk s9.2.length [(((List.replicate 16 0).set 0 (IntKind.u8.wrap s9.1)).set 1 7)].length 16) (
      some (Sum.inl (w64 (s9.1 + 1), s9.2 ++ [(((List.replicate 16 0).set 0 (IntKind.u8.wrap s9.1)).set 1 7)])))
  else
    some (Sum.inr s9.2)

def culpritlaw32_DisputeHalves_loop2 (r6 : (List (List Int))) (r21 : ((List (List Int)))) (s77 : Int × Int × Int × (List Int)) : Option (Int × Int × Int × (List Int) ⊕ (Int × (List (List Int)) × Int × Int × (List Int) ⊕ Bool)) :=
  bif decide ((w64 (s77.2.1 + 1)) < s77.2.2.1) then
    (culpritlaw32_game (s77.2.1, s77.2.2.1, s77.2.2.2)).bind fun r82 =>
    (culpritref32_Proper (r82.1, r82.2.1, r82.2.2) r6 r21).bind fun r85 =>
    bif bif !r85 then true else decide (20 < s77.1) then
      some (Sum.inr (Sum.inr false))
    else
      (culpritlaw32_own r6).bind fun r101 =>
      (culpritlaw32_own r21).bind fun r104 =>
      (dispute_Halve (s77.2.1, s77.2.2.1, s77.2.2.2) r101 r104).bind fun r107 =>
      bif bif bif bif bif r107.2 != 0 then true else decide ((w64 ((w64 (s77.2.2.1 - s77.2.1)) + 1)) < (w64 (2 * (w64 (r107.1.2.1 - r107.1.1))))) then true else (r107.1.2.2.length : Int) != (w64 (s77.1 + 1)) then true else decide (r107.1.1 < s77.2.1) then true else decide (s77.2.2.1 < r107.1.2.1) then
        some (Sum.inr (Sum.inr false))
      else
        some (Sum.inl (w64 (s77.1 + 1), r107.1.1, r107.1.2.1, r107.1.2.2))
  else
    some (Sum.inr (Sum.inl (s77.1, r21, s77.2.1, s77.2.2.1, s77.2.2.2)))

def culpritlaw32_DisputeHalves (x0 : (List Int)) (x1 : Int) (x2 : Int) (x3 : Int) : Option Bool :=
  (culpritref32_Small x0).bind fun r1 =>
  ((
    iter (culpritlaw32_DisputeHalves_loop1 x3) (42) (0, r1) : Option (List (List Int)))).bind fun r6 =>
  (culpritref32_Bent r6 x1 x2).bind fun r21 =>
  (culpritlaw32_own r6).bind fun r26 =>
  (culpritlaw32_own r21).bind fun r29 =>
  (dispute_Begin r26 r29).bind fun r32 =>
  (culpritref32_Agree r6 r21).bind fun r49 =>
  bif bif (r32.2 == 6) != r49 then true else bif r32.2 != 0 then r32.2 != 6 else false then
    some false
  else
    bif r32.2 != 0 then
      (culpritlaw32_lives).bind fun r70 =>
      some r70
    else
      ((
        iter (culpritlaw32_DisputeHalves_loop2 r6 r21) (((r32.1.2.1 : Int) - (w64 (r32.1.1 + 1))).toNat + 2) (0, r32.1.1, r32.1.2.1, r32.1.2.2) : Option (Int × (List (List Int)) × Int × Int × (List Int) ⊕ Bool))).bind fun r73 =>
      match r73 with
      | Sum.inl s76 =>
        (culpritlaw32_own r6).bind fun r172 =>
        (culpritlaw32_own s76.2.1).bind fun r175 =>
        (dispute_Parts r172 r175).bind fun r178 =>
        (bif (bif bif r178.2.2 == 0 then r178.1 == s76.2.2.1 else false then r178.2.1 == s76.1 else false) then dispute_Most (if (r21.length : Int) > (r6.length : Int) then (r21.length : Int) else (r6.length : Int)) else some default).bind fun r192 =>
        (bif (bif bif bif bif r178.2.2 == 0 then r178.1 == s76.2.2.1 else false then r178.2.1 == s76.1 else false then decide (s76.1 ≤ r192) else false then s76.2.2.2.1 == (w64 (s76.2.2.1 + 1)) else false) then culpritlaw32_game (s76.2.2.1, s76.2.2.2.1, s76.2.2.2.2) else some default).bind fun r195 =>
        (bif (bif bif bif bif r178.2.2 == 0 then r178.1 == s76.2.2.1 else false then r178.2.1 == s76.1 else false then decide (s76.1 ≤ r192) else false then s76.2.2.2.1 == (w64 (s76.2.2.1 + 1)) else false) then culpritref32_Proper (r195.1, r195.2.1, r195.2.2) r6 s76.2.1 else some default).bind fun r198 =>
        (bif (bif bif bif bif bif r178.2.2 == 0 then r178.1 == s76.2.2.1 else false then r178.2.1 == s76.1 else false then decide (s76.1 ≤ r192) else false then s76.2.2.2.1 == (w64 (s76.2.2.1 + 1)) else false then r198 else false) then culpritlaw32_lives else some default).bind fun r201 =>
        some (bif bif bif bif bif bif r178.2.2 == 0 then r178.1 == s76.2.2.1 else false then r178.2.1 == s76.1 else false then decide (s76.1 ≤ r192) else false then s76.2.2.2.1 == (w64 (s76.2.2.1 + 1)) else false then r198 else false then r201 else false)
      | Sum.inr t247 => some t247

def culpritlaw32_DisputeBegins_loop3 (x4 : Int) (x5 : Int) (x6 : Int) (s36 : (List ((List (List Int)))) × Int) (s45 : Int) (r57 : ((List (List Int)))) (r65 : ((List (List Int)))) (r80 : ((Int × Int × (List Int)) × Int)) (r166 : Int) (r169 : Int) (x173 : ((List (List Int)))) (s197 : Int) : Option (Int ⊕ (Unit ⊕ (Int ⊕ (Unit ⊕ ((List ((List (List Int)))) × Int ⊕ (Unit ⊕ Bool)))))) :=
  bif decide (s197 < ([(r80.1.1, r80.1.2.1, r80.1.2.2), (x4, x5, ([] : List Int)), (w64 (r166 - 1), r169, [x6]), (-1, (x173.length : Int), ([] : List Int))].length : Int)) then
    (idx [(r80.1.1, r80.1.2.1, r80.1.2.2), (x4, x5, ([] : List Int)), (w64 (r166 - 1), r169, [x6]), (-1, (x173.length : Int), ([] : List Int))] s197).bind fun x202 =>
    (idx [(r80.1.1, r80.1.2.1, r80.1.2.2), (x4, x5, ([] : List Int)), (w64 (r166 - 1), r169, [x6]), (-1, (x173.length : Int), ([] : List Int))] s197).bind fun x204 =>
    (idx [(r80.1.1, r80.1.2.1, r80.1.2.2), (x4, x5, ([] : List Int)), (w64 (r166 - 1), r169, [x6]), (-1, (x173.length : Int), ([] : List Int))] s197).bind fun x206 =>
    (dispute_Halve (x202.1, x204.2.1, x206.2.2) r57 r65).bind fun r209 =>
    (idx [(r80.1.1, r80.1.2.1, r80.1.2.2), (x4, x5, ([] : List Int)), (w64 (r166 - 1), r169, [x6]), (-1, (x173.length : Int), ([] : List Int))] s197).bind fun x241 =>
    (idx s36.1 s36.2).bind fun x244 =>
    (idx s36.1 s45).bind fun x247 =>
    (culpritref32_Halve (x241.1, x241.2.1, x241.2.2) x244 x247).bind fun r250 =>
    (bif !(r209.2 != r250.2) then culpritlaw32_game (r209.1.1, r209.1.2.1, r209.1.2.2) else some default).bind fun r275 =>
    (bif !(r209.2 != r250.2) then culpritref32_SameGame (r275.1, r275.2.1, r275.2.2) (r250.1.1, r250.1.2.1, r250.1.2.2) else some default).bind fun r278 =>
    bif bif r209.2 != r250.2 then true else !r278 then
      some (Sum.inr (Sum.inr (Sum.inr (Sum.inr (Sum.inr (Sum.inr false))))))
    else
      some (Sum.inl (w64 (s197 + 1)))
  else
    some (Sum.inr (Sum.inl ()))

def culpritlaw32_DisputeBegins_loop2 (x4 : Int) (x5 : Int) (x6 : Int) (s36 : (List ((List (List Int)))) × Int) (s45 : Int) : Option (Int ⊕ (Unit ⊕ ((List ((List (List Int)))) × Int ⊕ (Unit ⊕ Bool)))) :=
  bif decide (s45 < (s36.1.length : Int)) then
    ((
      (idx s36.1 s36.2).bind fun x54 =>
      (culpritlaw32_own x54).bind fun r57 =>
      (idx s36.1 s45).bind fun x62 =>
      (culpritlaw32_own x62).bind fun r65 =>
      (dispute_Begin r57 r65).bind fun r69 =>
      (idx s36.1 s36.2).bind fun x74 =>
      (idx s36.1 s45).bind fun x77 =>
      (culpritref32_Begin x74 x77).bind fun r80 =>
      (dispute_Parts r57 r65).bind fun r101 =>
      (idx s36.1 s36.2).bind fun x104 =>
      (idx s36.1 s45).bind fun x107 =>
      (culpritref32_Parts x104 x107).bind fun r110 =>
      (bif !(r69.2 != r80.2) then culpritlaw32_game (r69.1.1, r69.1.2.1, r69.1.2.2) else some default).bind fun r128 =>
      (bif !(r69.2 != r80.2) then culpritref32_SameGame (r128.1, r128.2.1, r128.2.2) (r80.1.1, r80.1.2.1, r80.1.2.2) else some default).bind fun r131 =>
      bif bif bif bif bif r69.2 != r80.2 then true else !r131 then true else r101.2.2 != r110.2.2 then true else r101.1 != r110.1 then true else r101.2.1 != r110.2.1 then
        some (Sum.inr (Sum.inr (Sum.inr (Sum.inr (Sum.inr false)))))
      else
        (culpritref01_Around x4 9).bind fun r166 =>
        (culpritref01_Around x5 26).bind fun r169 =>
        (idx s36.1 s36.2).bind fun x173 =>
        iter (culpritlaw32_DisputeBegins_loop3 x4 x5 x6 s36 s45 r57 r65 r80 r166 r169 x173) (((([(r80.1.1, r80.1.2.1, r80.1.2.2), (x4, x5, ([] : List Int)), (w64 (r166 - 1), r169, [x6]), (-1, (x173.length : Int), ([] : List Int))].length : Int) : Int) - 0).toNat + 2) 0 : Option (Unit ⊕ (Int ⊕ (Unit ⊕ ((List ((List (List Int)))) × Int ⊕ (Unit ⊕ Bool))))))).bind fun r50 =>
    match r50 with
    | Sum.inl s53 =>
      some (Sum.inl (w64 (s45 + 1)))
    | Sum.inr t298 => some t298
  else
    some (Sum.inr (Sum.inl ()))

def culpritlaw32_DisputeBegins_loop1 (x4 : Int) (x5 : Int) (x6 : Int) (s36 : (List ((List (List Int)))) × Int) : Option ((List ((List (List Int)))) × Int ⊕ (Unit ⊕ Bool)) :=
  bif decide (s36.2 < (s36.1.length : Int)) then
    ((
      iter (culpritlaw32_DisputeBegins_loop2 x4 x5 x6 s36) ((((s36.1.length : Int) : Int) - 0).toNat + 2) 0 : Option (Unit ⊕ ((List ((List (List Int)))) × Int ⊕ (Unit ⊕ Bool))))).bind fun r41 =>
    match r41 with
    | Sum.inl s44 =>
      some (Sum.inl (s36.1, w64 (s36.2 + 1)))
    | Sum.inr t301 => some t301
  else
    some (Sum.inr (Sum.inl ()))

def culpritlaw32_DisputeBegins (x0 : (List Int)) (x1 : (List Int)) (x2 : Int) (x3 : Int) (x4 : Int) (x5 : Int) (x6 : Int) : Option Bool :=
  (culpritref32_Small x0).bind fun r1 =>
  (culpritref32_Small x1).bind fun r6 =>
  (culpritref32_Bent r1 x2 x3).bind fun r9 =>
  (culpritref01_Around x3 3).bind fun r12 =>
  chk (decide (0 ≤ (w64 (999 + r12)) ∧ (w64 (999 + r12)) * 16 ≤ 281474976710656 ∧ (w64 (999 + r12)) ≤ maxLen)) (
    ((
      iter (culpritlaw32_DisputeBegins_loop1 x4 x5 x6) (((([r1, r6, r9, List.replicate (w64 (999 + r12)).toNat (List.replicate 16 0), ([] : List (List Int))].length : Int) : Int) - 0).toNat + 2) ([r1, r6, r9, List.replicate (w64 (999 + r12)).toNat (List.replicate 16 0), ([] : List (List Int))], 0) : Option (Unit ⊕ Bool))).bind fun r32 =>
    match r32 with
    | Sum.inl s35 =>
      (dispute_Most x6).bind fun r304 =>
      (culpritref32_Most x6).bind fun r307 =>
      (bif (r304 == r307) then culpritref01_Around x6 40 else some default).bind fun r310 =>
      (bif (r304 == r307) then dispute_Most r310 else some default).bind fun r313 =>
      (bif (r304 == r307) then culpritref01_Around x6 40 else some default).bind fun r316 =>
      (bif (r304 == r307) then culpritref32_Most r316 else some default).bind fun r319 =>
      (bif (bif r304 == r307 then r313 == r319 else false) then culpritlaw32_lives else some default).bind fun r322 =>
      some (bif bif r304 == r307 then r313 == r319 else false then r322 else false)
    | Sum.inr t344 => some t344)

end Go.Proofs.Ytimljgafbpbceaa
