/-
 What the functions of the program compute, as functions on data. No condition.
-/
import Derived.Test.YtknnphhepnbaoaaGreatDoorExtPg
namespace Go.Proofs.YtknnphhepnbaoaaGreatDoor
open Go.Sm
variable [Itr]
def S_t_e3b9:List UInt8:=[116]
def S_abcdefghijklmn_011f:List UInt8:=[97,98,99,100,101,102,103,104,105,106,107,108,109,110,111,112,113,114,115,116,117,118,119,120,121,122,48,49,50,51,52,53,54,55,56,57]
def S__14a5:List UInt8:=[0,1,2,2,3,3,3,3,4,4,4,4,4,4,4,4,5,5,5,5,5,5,5,5,5,5,5,5,5,5,5,5,6,6,6,6,6,6,6,6,6,6,6,6,6,6,6,6,6,6,6,6,6,6,6,6,6,6,6,6,6,6,6,6,7,7,7,7,7,7,7,7,7,7,7,7,7,7,7,7,7,7,7,7,7,7,7,7,7,7,7,7,7,7,7,7,7,7,7,7,7,7,7,7,7,7,7,7,7,7,7,7,7,7,7,7,7,7,7,7,7,7,7,7,7,7,7,7,8,8,8,8,8,8,8,8,8,8,8,8,8,8,8,8,8,8,8,8,8,8,8,8,8,8,8,8,8,8,8,8,8,8,8,8,8,8,8,8,8,8,8,8,8,8,8,8,8,8,8,8,8,8,8,8,8,8,8,8,8,8,8,8,8,8,8,8,8,8,8,8,8,8,8,8,8,8,8,8,8,8,8,8,8,8,8,8,8,8,8,8,8,8,8,8,8,8,8,8,8,8,8,8,8,8,8,8,8,8,8,8,8,8,8,8,8,8,8,8,8,8,8,8,8,8,8,8]
def S__3343:List UInt8:=[35]
def S_the_fault_is_o_64f9:List UInt8:=[116,104,101,32,102,97,117,108,116,32,105,115,32,111,108,100,101,114,32,116,104,97,110,32,97,108,108,32,101,100,105,116,115,46]
def S__cdb4:List UInt8:=[46]
def S_the_edit_db6e:List UInt8:=[116,104,101,32,101,100,105,116,32]
def S_is_guilty_5dc8:List UInt8:=[32,105,115,32,103,117,105,108,116,121,46]
def S__0a07:List UInt8:=[44,32]
def S_and_e3ee:List UInt8:=[32,97,110,100,32]
def S_the_edits_27cf:List UInt8:=[116,104,101,32,101,100,105,116,115,32]
def S_are_guilty_to_7335:List UInt8:=[32,97,114,101,32,103,117,105,108,116,121,32,116,111,103,101,116,104,101,114,46]
def S_0_5fec:List UInt8:=[48]
def S__8a5e:List UInt8:=[47]
def S_it_fails_with_5cf6:List UInt8:=[105,116,32,102,97,105,108,115,32,119,105,116,104,32,116,104,101,32,109,101,97,115,117,114,101,32]
def S_it_shows_by_th_d234:List UInt8:=[105,116,32,115,104,111,119,115,32,98,121,32,116,104,101,32,99,104,111,105,99,101,32]
def S_it_shows_by_th_603a:List UInt8:=[105,116,32,115,104,111,119,115,32,98,121,32,116,104,101,32,99,104,111,105,99,101,115,32]
def S_verdict_11e2:List UInt8:=[118,101,114,100,105,99,116]
def S__36a9:List UInt8:=[32]
def S_set_6ee0:List UInt8:=[115,101,116]
def S_measure_1501:List UInt8:=[109,101,97,115,117,114,101]
def S_word_98c1:List UInt8:=[119,111,114,100]
def S_t_is_broken_20b9:List UInt8:=[116,32,105,115,32,98,114,111,107,101,110,46]
def S_the_edit_0_1_i_47a1:List UInt8:=[116,104,101,32,101,100,105,116,32,48,46,49,32,105,115,32,103,117,105,108,116,121,46]
def S_the_edits_0_2_53b2:List UInt8:=[116,104,101,32,101,100,105,116,115,32,48,46,50,32,97,110,100,32,49,46,48,32,97,114,101,32,103,117,105,108,116,121,32,116,111,103,101,116,104,101,114,46]
def S_it_fails_with_ab0d:List UInt8:=[105,116,32,102,97,105,108,115,32,119,105,116,104,32,116,104,101,32,109,101,97,115,117,114,101,32,49,47,50,46]
def S_it_shows_by_th_8de0:List UInt8:=[105,116,32,115,104,111,119,115,32,98,121,32,116,104,101,32,99,104,111,105,99,101,115,32,49,44,32,48,32,97,110,100,32,50,46]
def S_t_fails_on_mac_4a24:List UInt8:=[116,32,102,97,105,108,115,32,111,110,32,109,97,99,104,105,110,101,115,32,111,102,32,116,104,101,32,107,105,110,100,32,50,32,97,108,111,110,101,46]
def S_it_fails_with_59d0:List UInt8:=[105,116,32,102,97,105,108,115,32,119,105,116,104,32,116,104,101,32,109,101,97,115,117,114,101,32,49,46]
def S_verdict_t_guil_2055:List UInt8:=[118,101,114,100,105,99,116,32,116,32,103,117,105,108,116,121]
def S_set_0_1_e859:List UInt8:=[115,101,116,32,48,46,49]
def S_set_0_2_1_0_132b:List UInt8:=[115,101,116,32,48,46,50,32,49,46,48]
def S_measure_1_2_45f1:List UInt8:=[109,101,97,115,117,114,101,32,49,47,50]
def S_word_1_0_2_75c4:List UInt8:=[119,111,114,100,32,49,32,48,32,50]
def S_it_shows_by_th_28f2:List UInt8:=[105,116,32,115,104,111,119,115,32,98,121,32,116,104,101,32,99,104,111,105,99,101,32,48,46]
def S_it_cost_ee99:List UInt8:=[105,116,32,99,111,115,116,32]
def S_runs_285b:List UInt8:=[32,114,117,110,115,44,32]
def S_steps_d8c5:List UInt8:=[32,115,116,101,112,115,44,32]
def S_allocations_a_c960:List UInt8:=[32,97,108,108,111,99,97,116,105,111,110,115,32,97,110,100,32]
def S_waits_f3ea:List UInt8:=[32,119,97,105,116,115,46]
def S_it_cost_0_runs_eb40:List UInt8:=[105,116,32,99,111,115,116,32,48,32,114,117,110,115,44,32,48,32,115,116,101,112,115,44,32,48,32,97,108,108,111,99,97,116,105,111,110,115,32,97,110,100,32,48,32,119,97,105,116,115,46]
def S_t0_512f:List UInt8:=[116,48]
def S_is_fa51:List UInt8:=[105,115]
def S_the_b977:List UInt8:=[116,104,101]
def S_abcdefghijklmn_f39d:List UInt8:=[97,98,99,100,101,102,103,104,105,106,107,108,109,110,111,112]
def S_T_e632:List UInt8:=[84]
def S_a_b_c868:List UInt8:=[97,32,98]
def S_abcdefghijklmn_918a:List UInt8:=[97,98,99,100,101,102,103,104,105,106,107,108,109,110,111,112,113]
def S_9a_66e2:List UInt8:=[57,97]
def S_u_0bfe:List UInt8:=[117]
def S_fails_on_mach_8b21:List UInt8:=[32,102,97,105,108,115,32,111,110,32,109,97,99,104,105,110,101,115,32,111,102,32,116,104,101,32,107,105,110,100,32]
def S_alone_7a6f:List UInt8:=[32,97,108,111,110,101,46]
def S_is_undecided_cb4c:List UInt8:=[32,105,115,32,117,110,100,101,99,105,100,101,100,46]
def S_is_innocent_f4b3:List UInt8:=[32,105,115,32,105,110,110,111,99,101,110,116,46]
def S_is_broken_083b:List UInt8:=[32,105,115,32,98,114,111,107,101,110,46]
def S_is_flaky_4ba0:List UInt8:=[32,105,115,32,102,108,97,107,121,46]
def S_is_slower_6ef8:List UInt8:=[32,105,115,32,115,108,111,119,101,114,46]
def S__01ba:List UInt8:=[10]
def report_named (x0:(List UInt8)):Option Bool:=
 (bif !(bif x0==([]:List UInt8) then true else decide ((16:Int)<(x0.length:Int))) then idx x0 (0:Int) else some 0).bind fun v1=>
 bif bif bif x0==([]:List UInt8) then true else decide ((16:Int)<(x0.length:Int)) then true else decide ((v1.toNat:Int)<(97:Int)) then
  some false
 else
  (xTrim x0 S_abcdefghijklmn_011f).bind fun r2=>
  (bif (r2==([]:List UInt8)) then idx x0 (0:Int) else some 0).bind fun v3=>
  some (bif r2==([]:List UInt8) then decide ((v3.toNat:Int)≤(122:Int)) else false)
def ratio_trim_loop1 (x0:(List Int)) (s2:Int):Option ((Int)⊕(Int)):=
 (bif (decide ((0:Int)<s2)) then idx x0 (w64 (s2 - (1:Int))) else some (0:Int)).bind fun _=>
 (bif (decide ((0:Int)<s2)) then idx x0 (w64 (s2 - (1:Int))) else some (0:Int)).bind fun v4=>
 bif bif decide ((0:Int)<s2) then v4==(0:Int) else false then
  some (Sum.inl (w64 (s2 - (1:Int))))
 else
  some (Sum.inr s2)
def ratio_trim (x0:(List Int)):Option (List Int):=
 ((
  Itr.it (ratio_trim_loop1 x0) (x0.length:Int):Option Int)).bind fun s1=>
 chk (decide (0≤s1∧s1≤s1∧s1≤x0.length)) (
  some (x0.take s1.toNat))
def ratio_isOne (x0:(List Int)):Option Bool:=
 (bif ((x0.length:Int)==(1:Int)) then idx x0 (0:Int) else some (0:Int)).bind fun _=>
 (bif ((x0.length:Int)==(1:Int)) then idx x0 (0:Int) else some (0:Int)).bind fun v2=>
 some (bif (x0.length:Int)==(1:Int) then v2==(1:Int) else false)
def ratio_compare_loop1 (x0:(List Int)) (x1:(List Int)) (s2:Int):Option ((Int)⊕(Unit⊕Int)):=
 bif decide ((0:Int)≤s2) then
  (idx x0 s2).bind fun _=>
  (idx x0 s2).bind fun v4=>
  (idx x1 s2).bind fun _=>
  (idx x1 s2).bind fun v6=>
  bif v4 != v6 then
   (idx x0 s2).bind fun _=>
   (idx x0 s2).bind fun v8=>
   (idx x1 s2).bind fun _=>
   (idx x1 s2).bind fun v10=>
   bif decide (v8<v10) then
    some (Sum.inr (Sum.inr (-1)))
   else
    some (Sum.inr (Sum.inr 1))
  else
   some (Sum.inl (w64 (s2 - (1:Int))))
 else
  some (Sum.inr (Sum.inl ()))
def ratio_compare (x0:(List Int)) (x1:(List Int)):Option Int:=
 bif (x0.length:Int) != (x1.length:Int) then
  bif decide ((x0.length:Int)<(x1.length:Int)) then
   some (-1)
  else
   some 1
 else
  ((
   Itr.it (ratio_compare_loop1 x0 x1) (w64 ((x0.length:Int) - (1:Int))):Option (Unit⊕Int))).bind fun z11=>
  match z11 with
  | Sum.inl _=>
   some 0
  | Sum.inr t12=>some t12
def slices_Clone_uint32_uint32 (x0:(List Int)):Option (List Int):=
 bif false then
  some ([]:List Int)
 else
  chk (appOk ([]:List Int).length x0.length 4) (
   some (([]:List Int)++x0))
def math_bits_Div32 (x0:Int) (x1:Int) (x2:Int):Option (Int×Int):=
 ((
  bif bif x2 != (0:Int) then decide (x2≤x0) else false then
   none
  else
   some ():Option Unit)).bind fun _=>
 chk (decide (0≤(32:Int))) (
  chk (!((IntKind.u64.wrap x2)==0)) (
   chk (!((IntKind.u64.wrap x2)==0)) (
    some (IntKind.u32.wrap (IntKind.u64.wrap (Int.tdiv (bitI .or .u64 (shlI .u64 (IntKind.u64.wrap x0) (32:Int)) (IntKind.u64.wrap x1)) (IntKind.u64.wrap x2))),IntKind.u32.wrap (Int.tmod (bitI .or .u64 (shlI .u64 (IntKind.u64.wrap x0) (32:Int)) (IntKind.u64.wrap x1)) (IntKind.u64.wrap x2))))))
def ratio_small_loop1 (x0:(List Int)) (x1:Int) (s2:(List Int)×Int×Int):Option (((List Int)×Int×Int)⊕((List Int)×Int)):=
 bif decide ((0:Int)≤s2.2.2) then
  (idx x0 s2.2.2).bind fun _=>
  (idx x0 s2.2.2).bind fun v4=>
  (math_bits_Div32 s2.2.1 v4 x1).bind fun r5=>
  (idx s2.1 s2.2.2).bind fun _=>
  (idx s2.1 s2.2.2).bind fun _=>
  some (Sum.inl (s2.1.set s2.2.2.toNat r5.1,r5.2,w64 (s2.2.2 - (1:Int))))
 else
  some (Sum.inr (s2.1,s2.2.1))
def ratio_small (x0:(List Int)) (x1:Int):Option ((List Int)×Int):=
 chk (decide (0≤(x0.length:Int)∧(x0.length:Int) * 4≤281474976710656∧(x0.length:Int)≤maxLen)) (
  ((
   Itr.it (ratio_small_loop1 x0 x1) (List.replicate (x0.length:Int).toNat (0:Int),0,w64 ((x0.length:Int) - (1:Int))):Option ((List Int)×Int))).bind fun s1=>
  (ratio_trim s1.1).bind fun r8=>
  some (r8,s1.2))
def ratio_whole (x0:Int):Option (List Int):=
 chk (decide (0≤(32:Int))) (
  (ratio_trim [IntKind.u32.wrap x0,IntKind.u32.wrap (shrI .u64 x0 (32:Int))]).bind fun r1=>
  some r1)
def math_bits_Len32 (x0:Int):Option Int:=
 ((
  bif decide ((65536:Int)≤x0) then
   chk (decide (0≤(16:Int))) (
    some (shrI .u32 x0 (16:Int),16))
  else
   some (x0,0):Option (Int×Int))).bind fun s1=>
 ((
  bif decide ((256:Int)≤s1.1) then
   chk (decide (0≤(8:Int))) (
    some (shrI .u32 s1.1 (8:Int),w64 (s1.2+(8:Int))))
  else
   some (s1.1,s1.2):Option (Int×Int))).bind fun s2=>
 (idx S__14a5 (IntKind.u8.wrap s2.1)).bind fun v3=>
 some (w64 (s2.2+(w64 (v3.toNat:Int))))
def math_bits_LeadingZeros32 (x0:Int):Option Int:=
 (math_bits_Len32 x0).bind fun r1=>
 some (w64 ((32:Int) - r1))
def ratio_shift_loop1 (x0:(List Int)) (x1:Int) (s2:(List Int)×Int):Option (((List Int)×Int)⊕((List Int))):=
 bif decide (s2.2<(x0.length:Int)) then
  (idx x0 s2.2).bind fun _=>
  (idx x0 s2.2).bind fun v4=>
  chk (decide (0≤x1)) (
   (idx s2.1 s2.2).bind fun _=>
   (idx s2.1 s2.2).bind fun v6=>
   (idx s2.1 s2.2).bind fun _=>
   (idx s2.1 s2.2).bind fun _=>
   chk (decide (0≤(32:Int))) (
    (idx (s2.1.set s2.2.toNat (bitI .or .u32 v6 (IntKind.u32.wrap (shlI .u64 (IntKind.u64.wrap v4) x1)))) (w64 (s2.2+(1:Int)))).bind fun _=>
    (idx (s2.1.set s2.2.toNat (bitI .or .u32 v6 (IntKind.u32.wrap (shlI .u64 (IntKind.u64.wrap v4) x1)))) (w64 (s2.2+(1:Int)))).bind fun _=>
    some (Sum.inl ((s2.1.set s2.2.toNat (bitI .or .u32 v6 (IntKind.u32.wrap (shlI .u64 (IntKind.u64.wrap v4) x1)))).set (w64 (s2.2+(1:Int))).toNat (IntKind.u32.wrap (shrI .u64 (shlI .u64 (IntKind.u64.wrap v4) x1) (32:Int))),w64 (s2.2+(1:Int))))))
 else
  some (Sum.inr s2.1)
def ratio_shift (x0:(List Int)) (x1:Int):Option (List Int):=
 chk (decide (0≤(w64 ((x0.length:Int)+(1:Int)))∧(w64 ((x0.length:Int)+(1:Int))) * 4≤281474976710656∧(w64 ((x0.length:Int)+(1:Int)))≤maxLen)) (
  ((
   Itr.it (ratio_shift_loop1 x0 x1) (List.replicate (w64 ((x0.length:Int)+(1:Int))).toNat (0:Int),0):Option (List Int))).bind fun s1=>
  some s1)
def math_bits_Sub32 (x0:Int) (x1:Int) (x2:Int):Option (Int×Int):=
 chk (decide (0≤(31:Int))) (
  some (IntKind.u32.wrap ((IntKind.u32.wrap (x0 - x1)) - x2),shrI .u32 (bitI .or .u32 (bitI .and .u32 (bitI .xor .u32 (if IntKind.signed .u32 then -1 else IntKind.max .u32) x0) x1) (bitI .and .u32 (bitI .xor .u32 (if IntKind.signed .u32 then -1 else IntKind.max .u32) (bitI .xor .u32 x0 x1)) (IntKind.u32.wrap ((IntKind.u32.wrap (x0 - x1)) - x2)))) (31:Int)))
def ratio_subtract_loop1 (x0:(List Int×Int×Int)) (x1:(List Int)) (x2:Int) (s2:Int×Int×Int×(List Int)):Option ((Int×Int×Int×(List Int))⊕(Int×Int×(List Int))):=
 bif decide (s2.2.2.1<(x1.length:Int)) then
  (idx x1 s2.2.2.1).bind fun _=>
  (idx x1 s2.2.2.1).bind fun v4=>
  chk (decide (0≤(32:Int))) (
   chk (decide (0≤s2.2.2.1∧s2.2.2.1<x0.2.2 - x0.2.1)) (
    (idx s2.2.2.2 (x0.2.1+s2.2.2.1)).bind fun v5=>
    (math_bits_Sub32 v5 (IntKind.u32.wrap (IntKind.u64.wrap ((IntKind.u64.wrap (x2 * (IntKind.u64.wrap v4)))+s2.1))) s2.2.1).bind fun r6=>
    chk (decide (0≤s2.2.2.1∧s2.2.2.1<x0.2.2 - x0.2.1)) (
     (idx s2.2.2.2 (x0.2.1+s2.2.2.1)).bind fun _=>
     some (Sum.inl (shrI .u64 (IntKind.u64.wrap ((IntKind.u64.wrap (x2 * (IntKind.u64.wrap v4)))+s2.1)) (32:Int),r6.2,w64 (s2.2.2.1+(1:Int)),s2.2.2.2.set (x0.2.1+s2.2.2.1).toNat r6.1)))))
 else
  some (Sum.inr (s2.1,s2.2.1,s2.2.2.2))
def ratio_subtract (x0:(List Int×Int×Int)) (x1:(List Int)) (x2:Int):Option (Bool×(List Int)):=
 ((
  Itr.it (ratio_subtract_loop1 x0 x1 x2) (0,0,0,x0.1):Option (Int×Int×(List Int)))).bind fun s1=>
 chk (decide (0≤(x1.length:Int)∧(x1.length:Int)<x0.2.2 - x0.2.1)) (
  (idx s1.2.2 (x0.2.1+(x1.length:Int))).bind fun v8=>
  (math_bits_Sub32 v8 (IntKind.u32.wrap s1.1) s1.2.1).bind fun r9=>
  chk (decide (0≤(x1.length:Int)∧(x1.length:Int)<x0.2.2 - x0.2.1)) (
   (idx s1.2.2 (x0.2.1+(x1.length:Int))).bind fun _=>
   some (r9.2==(0:Int),s1.2.2.set (x0.2.1+(x1.length:Int)).toNat r9.1)))
def math_bits_Add32 (x0:Int) (x1:Int) (x2:Int):Option (Int×Int):=
 chk (decide (0≤(32:Int))) (
  some (IntKind.u32.wrap (IntKind.u64.wrap ((IntKind.u64.wrap ((IntKind.u64.wrap x0)+(IntKind.u64.wrap x1)))+(IntKind.u64.wrap x2))),IntKind.u32.wrap (shrI .u64 (IntKind.u64.wrap ((IntKind.u64.wrap ((IntKind.u64.wrap x0)+(IntKind.u64.wrap x1)))+(IntKind.u64.wrap x2))) (32:Int))))
def ratio_back_loop1 (x0:(List Int)) (x1:Int) (s2:(List Int)×Int):Option (((List Int)×Int)⊕((List Int))):=
 bif decide (s2.2<(x0.length:Int)) then
  ((
   (idx x0 s2.2).bind fun _=>
   (idx x0 s2.2).bind fun v5=>
   chk (decide (0≤x1)) (
    (idx s2.1 s2.2).bind fun _=>
    (idx s2.1 s2.2).bind fun _=>
    bif bif decide ((w64 (s2.2+(1:Int)))<(x0.length:Int)) then decide ((0:Int)<x1) else false then
     (idx (s2.1.set s2.2.toNat (shrI .u32 v5 x1)) s2.2).bind fun _=>
     (idx (s2.1.set s2.2.toNat (shrI .u32 v5 x1)) s2.2).bind fun v9=>
     (idx x0 (w64 (s2.2+(1:Int)))).bind fun _=>
     (idx x0 (w64 (s2.2+(1:Int)))).bind fun v11=>
     chk (decide (0≤(w64 ((32:Int) - x1)))) (
      (idx (s2.1.set s2.2.toNat (shrI .u32 v5 x1)) s2.2).bind fun _=>
      (idx (s2.1.set s2.2.toNat (shrI .u32 v5 x1)) s2.2).bind fun _=>
      some ((s2.1.set s2.2.toNat (shrI .u32 v5 x1)).set s2.2.toNat (bitI .or .u32 v9 (shlI .u32 v11 (w64 ((32:Int) - x1))))))
    else
     some (s2.1.set s2.2.toNat (shrI .u32 v5 x1))):Option (List Int))).bind fun s3=>
  some (Sum.inl (s3,w64 (s2.2+(1:Int))))
 else
  some (Sum.inr s2.1)
def ratio_back (x0:(List Int)) (x1:Int):Option (List Int):=
 chk (decide (0≤(x0.length:Int)∧(x0.length:Int) * 4≤281474976710656∧(x0.length:Int)≤maxLen)) (
  ((
   Itr.it (ratio_back_loop1 x0 x1) (List.replicate (x0.length:Int).toNat (0:Int),0):Option (List Int))).bind fun s1=>
  (ratio_trim s1).bind fun r14=>
  some r14)
def ratio_divide_loop2 (r11:(List Int)) (s14:((List Int)×(List Int)×Int)) (s25:Int×Int):Option ((Int×Int)⊕(Int)):=
 (bif (!(decide ((4294967295:Int)<s25.1)))&&(decide (s25.2≤(4294967295:Int))) then idx r11 (w64 ((r11.length:Int) - (2:Int))) else some (0:Int)).bind fun _=>
 (bif (!(decide ((4294967295:Int)<s25.1)))&&(decide (s25.2≤(4294967295:Int))) then idx r11 (w64 ((r11.length:Int) - (2:Int))) else some (0:Int)).bind fun v27=>
 chk (!((!(decide ((4294967295:Int)<s25.1)))&&(decide (s25.2≤(4294967295:Int))))||(decide (0≤(32:Int)))) (
  (bif (!(decide ((4294967295:Int)<s25.1)))&&(decide (s25.2≤(4294967295:Int))) then idx s14.1 (w64 ((w64 (s14.2.2+(r11.length:Int))) - (2:Int))) else some (0:Int)).bind fun _=>
  (bif (!(decide ((4294967295:Int)<s25.1)))&&(decide (s25.2≤(4294967295:Int))) then idx s14.1 (w64 ((w64 (s14.2.2+(r11.length:Int))) - (2:Int))) else some (0:Int)).bind fun v29=>
  bif bif decide ((4294967295:Int)<s25.1) then true else bif decide (s25.2≤(4294967295:Int)) then decide ((bitI .or .u64 (shlI .u64 s25.2 (32:Int)) (IntKind.u64.wrap v29))<(IntKind.u64.wrap (s25.1 * (IntKind.u64.wrap v27)))) else false then
   (idx r11 (w64 ((r11.length:Int) - (1:Int)))).bind fun _=>
   (idx r11 (w64 ((r11.length:Int) - (1:Int)))).bind fun v31=>
   bif decide ((4294967295:Int)<(IntKind.u64.wrap (s25.2+(IntKind.u64.wrap v31)))) then
    some (Sum.inr (IntKind.u64.wrap (s25.1 - (1:Int))))
   else
    some (Sum.inl (IntKind.u64.wrap (s25.1 - (1:Int)),IntKind.u64.wrap (s25.2+(IntKind.u64.wrap v31))))
  else
   some (Sum.inr s25.1))
def ratio_divide_loop3 (r11:(List Int)) (s14:((List Int)×(List Int)×Int)) (s35:(List Int)×Int×Int):Option (((List Int)×Int×Int)⊕((List Int)×Int)):=
 bif decide (s35.2.2<(r11.length:Int)) then
  (idx s35.1 (w64 (s14.2.2+s35.2.2))).bind fun _=>
  (idx s35.1 (w64 (s14.2.2+s35.2.2))).bind fun v37=>
  (idx r11 s35.2.2).bind fun _=>
  (idx r11 s35.2.2).bind fun v39=>
  (math_bits_Add32 v37 v39 s35.2.1).bind fun r40=>
  (idx s35.1 (w64 (s14.2.2+s35.2.2))).bind fun _=>
  (idx s35.1 (w64 (s14.2.2+s35.2.2))).bind fun _=>
  some (Sum.inl (s35.1.set (w64 (s14.2.2+s35.2.2)).toNat r40.1,r40.2,w64 (s35.2.2+(1:Int))))
 else
  some (Sum.inr (s35.1,s35.2.1))
def ratio_divide_loop1 (r11:(List Int)) (s14:(List Int)×(List Int)×Int):Option (((List Int)×(List Int)×Int)⊕((List Int)×(List Int))):=
 bif decide ((0:Int)≤s14.2.2) then
  ((
   (idx s14.1 (w64 (s14.2.2+(r11.length:Int)))).bind fun _=>
   (idx s14.1 (w64 (s14.2.2+(r11.length:Int)))).bind fun v17=>
   chk (decide (0≤(32:Int))) (
    (idx s14.1 (w64 ((w64 (s14.2.2+(r11.length:Int))) - (1:Int)))).bind fun _=>
    (idx s14.1 (w64 ((w64 (s14.2.2+(r11.length:Int))) - (1:Int)))).bind fun v19=>
    (idx r11 (w64 ((r11.length:Int) - (1:Int)))).bind fun _=>
    (idx r11 (w64 ((r11.length:Int) - (1:Int)))).bind fun v21=>
    chk (!((IntKind.u64.wrap v21)==0)) (
     (idx r11 (w64 ((r11.length:Int) - (1:Int)))).bind fun _=>
     (idx r11 (w64 ((r11.length:Int) - (1:Int)))).bind fun v23=>
     chk (!((IntKind.u64.wrap v23)==0)) (
      ((
       Itr.it (ratio_divide_loop2 r11 s14) (IntKind.u64.wrap (Int.tdiv (bitI .or .u64 (shlI .u64 (IntKind.u64.wrap v17) (32:Int)) (IntKind.u64.wrap v19)) (IntKind.u64.wrap v21)),Int.tmod (bitI .or .u64 (shlI .u64 (IntKind.u64.wrap v17) (32:Int)) (IntKind.u64.wrap v19)) (IntKind.u64.wrap v23)):Option Int)).bind fun s24=>
      ((
       chk (decide (0≤s14.2.2∧s14.2.2≤(w64 ((w64 (s14.2.2+(r11.length:Int)))+(1:Int)))∧(w64 ((w64 (s14.2.2+(r11.length:Int)))+(1:Int)))≤(w64 ((w64 (s14.2.2+(r11.length:Int)))+(1:Int)))∧(w64 ((w64 (s14.2.2+(r11.length:Int)))+(1:Int)))≤s14.1.length)) (
        (ratio_subtract (s14.1,s14.2.2,w64 ((w64 (s14.2.2+(r11.length:Int)))+(1:Int))) r11 s24).bind fun r33=>
        bif !r33.1 then
         ((
          Itr.it (ratio_divide_loop3 r11 s14) (r33.2,0,0):Option ((List Int)×Int))).bind fun s34=>
         (idx s34.1 (w64 (s14.2.2+(r11.length:Int)))).bind fun _=>
         (idx s34.1 (w64 (s14.2.2+(r11.length:Int)))).bind fun v44=>
         (idx s34.1 (w64 (s14.2.2+(r11.length:Int)))).bind fun _=>
         (idx s34.1 (w64 (s14.2.2+(r11.length:Int)))).bind fun _=>
         some (s34.1.set (w64 (s14.2.2+(r11.length:Int))).toNat (IntKind.u32.wrap (v44+s34.2)),IntKind.u64.wrap (s24 - (1:Int)))
        else
         some (r33.2,s24)):Option ((List Int)×Int))).bind fun s32=>
      (idx s14.2.1 s14.2.2).bind fun _=>
      (idx s14.2.1 s14.2.2).bind fun _=>
      some (s32.1,s14.2.1.set s14.2.2.toNat (IntKind.u32.wrap s32.2))))):Option ((List Int)×(List Int)))).bind fun s15=>
  some (Sum.inl (s15.1,s15.2,w64 (s14.2.2 - (1:Int))))
 else
  some (Sum.inr (s14.1,s14.2.1))
def ratio_divide (x0:(List Int)) (x1:(List Int)):Option ((List Int)×(List Int)):=
 (ratio_compare x0 x1).bind fun r1=>
 bif decide (r1<(0:Int)) then
  (slices_Clone_uint32_uint32 x0).bind fun r2=>
  some (([]:List Int),r2)
 else
  bif (x1.length:Int)==(1:Int) then
   (idx x1 (0:Int)).bind fun _=>
   (idx x1 (0:Int)).bind fun v4=>
   (ratio_small x0 v4).bind fun r5=>
   (ratio_whole (IntKind.u64.wrap r5.2)).bind fun r6=>
   some (r5.1,r6)
  else
   (idx x1 (w64 ((x1.length:Int) - (1:Int)))).bind fun _=>
   (idx x1 (w64 ((x1.length:Int) - (1:Int)))).bind fun v8=>
   (math_bits_LeadingZeros32 v8).bind fun r9=>
   (ratio_shift x1 r9).bind fun r10=>
   (ratio_trim r10).bind fun r11=>
   (ratio_shift x0 r9).bind fun r12=>
   chk (decide (0≤(w64 ((r12.length:Int) - (r11.length:Int)))∧(w64 ((r12.length:Int) - (r11.length:Int))) * 4≤281474976710656∧(w64 ((r12.length:Int) - (r11.length:Int)))≤maxLen)) (
    ((
     Itr.it (ratio_divide_loop1 r11) (r12,List.replicate (w64 ((r12.length:Int) - (r11.length:Int))).toNat (0:Int),w64 ((w64 ((r12.length:Int) - (r11.length:Int))) - (1:Int))):Option ((List Int)×(List Int)))).bind fun s13=>
    (ratio_trim s13.2).bind fun r49=>
    (ratio_trim s13.1).bind fun r50=>
    (ratio_back r50 r9).bind fun r51=>
    some (r49,r51))
def ratio_common_loop1  (s2:(List Int)×(List Int)):Option (((List Int)×(List Int))⊕((List Int))):=
 bif decide ((0:Int)<(s2.2.length:Int)) then
  (ratio_divide s2.1 s2.2).bind fun r3=>
  some (Sum.inl (s2.2,r3.2))
 else
  some (Sum.inr s2.1)
def ratio_common (x0:(List Int)) (x1:(List Int)):Option (List Int):=
 ((
  Itr.it (ratio_common_loop1) (x0,x1):Option (List Int))).bind fun s1=>
 some s1
def ratio_Valid (x0:((List Int)×(List Int))):Option Int:=
 bif bif decide ((64:Int)<(x0.1.length:Int)) then true else decide ((64:Int)<(x0.2.length:Int)) then
  some 4
 else
  (ratio_trim x0.1).bind fun r1=>
  (ratio_trim x0.2).bind fun r2=>
  (bif !(bif decide ((r1.length:Int)<(x0.1.length:Int)) then true else decide ((r2.length:Int)<(x0.2.length:Int))) then ratio_isOne r2 else some false).bind fun r3=>
  bif bif bif bif decide ((r1.length:Int)<(x0.1.length:Int)) then true else decide ((r2.length:Int)<(x0.2.length:Int)) then true else r3 then true else bif (r1.length:Int)==(0:Int) then decide ((0:Int)<(r2.length:Int)) else false then
   some 1
  else
   (bif (decide ((0:Int)<(r2.length:Int))) then ratio_common r1 r2 else some ([]:List Int)).bind fun r4=>
   (bif (decide ((0:Int)<(r2.length:Int))) then ratio_isOne r4 else some false).bind fun r5=>
   bif bif decide ((0:Int)<(r2.length:Int)) then !r5 else false then
    some 1
   else
    some 0
def ratio_valid_loop1 (x0:(List ((List Int)×(List Int)))) (s2:Int):Option ((Int)⊕(Unit⊕Int)):=
 bif decide (s2<(x0.length:Int)) then
  (idx x0 s2).bind fun _=>
  (idx x0 s2).bind fun v4=>
  (ratio_Valid (v4.1,v4.2)).bind fun r5=>
  bif r5 != (0:Int) then
   some (Sum.inr (Sum.inr r5))
  else
   some (Sum.inl (w64 (s2+(1:Int))))
 else
  some (Sum.inr (Sum.inl ()))
def ratio_valid (x0:(List ((List Int)×(List Int)))):Option Int:=
 ((
  Itr.it (ratio_valid_loop1 x0) 0:Option (Unit⊕Int))).bind fun z6=>
 match z6 with
 | Sum.inl _=>
  some 0
 | Sum.inr t7=>some t7
def ratio_den (x0:((List Int)×(List Int))):Option (List Int):=
 bif (x0.2.length:Int)==(0:Int) then
  some [1]
 else
  some x0.2
def ratio_times_loop2 (x1:(List Int)) (s2:((List Int)×Int)) (v5:Int) (s7:(List Int)×Int×Int):Option (((List Int)×Int×Int)⊕((List Int)×Int)):=
 bif decide (s7.2.2<(x1.length:Int)) then
  (idx x1 s7.2.2).bind fun _=>
  (idx x1 s7.2.2).bind fun v9=>
  (idx s7.1 (w64 (s2.2+s7.2.2))).bind fun _=>
  (idx s7.1 (w64 (s2.2+s7.2.2))).bind fun v11=>
  chk (decide (0≤(32:Int))) (
   (idx s7.1 (w64 (s2.2+s7.2.2))).bind fun _=>
   (idx s7.1 (w64 (s2.2+s7.2.2))).bind fun _=>
   some (Sum.inl (s7.1.set (w64 (s2.2+s7.2.2)).toNat (IntKind.u32.wrap (IntKind.u64.wrap ((IntKind.u64.wrap ((IntKind.u64.wrap ((IntKind.u64.wrap v5) * (IntKind.u64.wrap v9)))+(IntKind.u64.wrap v11)))+s7.2.1))),shrI .u64 (IntKind.u64.wrap ((IntKind.u64.wrap ((IntKind.u64.wrap ((IntKind.u64.wrap v5) * (IntKind.u64.wrap v9)))+(IntKind.u64.wrap v11)))+s7.2.1)) (32:Int),w64 (s7.2.2+(1:Int)))))
 else
  some (Sum.inr (s7.1,s7.2.1))
def ratio_times_loop1 (x0:(List Int)) (x1:(List Int)) (s2:(List Int)×Int):Option (((List Int)×Int)⊕((List Int))):=
 bif decide (s2.2<(x0.length:Int)) then
  ((
   (idx x0 s2.2).bind fun _=>
   (idx x0 s2.2).bind fun v5=>
   ((
    Itr.it (ratio_times_loop2 x1 s2 v5) (s2.1,0,0):Option ((List Int)×Int))).bind fun s6=>
   (idx s6.1 (w64 (s2.2+(x1.length:Int)))).bind fun _=>
   (idx s6.1 (w64 (s2.2+(x1.length:Int)))).bind fun _=>
   some (s6.1.set (w64 (s2.2+(x1.length:Int))).toNat (IntKind.u32.wrap s6.2)):Option (List Int))).bind fun s3=>
  some (Sum.inl (s3,w64 (s2.2+(1:Int))))
 else
  some (Sum.inr s2.1)
def ratio_times (x0:(List Int)) (x1:(List Int)):Option (List Int):=
 chk (decide (0≤(w64 ((x0.length:Int)+(x1.length:Int)))∧(w64 ((x0.length:Int)+(x1.length:Int))) * 4≤281474976710656∧(w64 ((x0.length:Int)+(x1.length:Int)))≤maxLen)) (
  ((
   Itr.it (ratio_times_loop1 x0 x1) (List.replicate (w64 ((x0.length:Int)+(x1.length:Int))).toNat (0:Int),0):Option (List Int))).bind fun s1=>
  (ratio_trim s1).bind fun r16=>
  some r16)
def ratio_crossed (x0:((List Int)×(List Int))) (x1:((List Int)×(List Int))):Option ((List Int)×(List Int)×(List Int)):=
 (ratio_den (x1.1,x1.2)).bind fun r1=>
 (ratio_times x0.1 r1).bind fun r2=>
 (ratio_den (x0.1,x0.2)).bind fun r3=>
 (ratio_times x1.1 r3).bind fun r4=>
 (ratio_den (x0.1,x0.2)).bind fun r5=>
 (ratio_den (x1.1,x1.2)).bind fun r6=>
 (ratio_times r5 r6).bind fun r7=>
 some (r2,r4,r7)
def ratio_Cmp (x0:((List Int)×(List Int))) (x1:((List Int)×(List Int))):Option (Int×Int):=
 (ratio_valid [(x0.1,x0.2),(x1.1,x1.2)]).bind fun r1=>
 bif r1 != (0:Int) then
  some (0,r1)
 else
  (ratio_crossed (x0.1,x0.2) (x1.1,x1.2)).bind fun r2=>
  (ratio_compare r2.1 r2.2.1).bind fun r3=>
  some (r3,0)
def report_within (x0:((List Int)×(List Int))):Option Bool:=
 (ratio_Cmp (x0.1,x0.2) ([1],([]:List Int))).bind fun r1=>
 some (bif r1.2==(0:Int) then decide (r1.1≤(0:Int)) else false)
def report_possible_1 (x0:Int):Option Bool:=
 some (bif decide (x0<(0:Int)) then true else decide ((999:Int)<x0))
def slices_IndexFunc_int_int_loop1 (x0:(List Int)) (s2:Int):Option ((Int)⊕(Unit⊕Int)):=
 bif decide (s2<(x0.length:Int)) then
  (idx x0 s2).bind fun _=>
  (idx x0 s2).bind fun v4=>
  (report_possible_1 v4).bind fun r5=>
  bif r5 then
   some (Sum.inr (Sum.inr s2))
  else
   some (Sum.inl (w64 (s2+(1:Int))))
 else
  some (Sum.inr (Sum.inl ()))
def slices_IndexFunc_int_int (x0:(List Int)):Option Int:=
 ((
  Itr.it (slices_IndexFunc_int_int_loop1 x0) 0:Option (Unit⊕Int))).bind fun z6=>
 match z6 with
 | Sum.inl _=>
  some (-1)
 | Sum.inr t7=>some t7
def slices_ContainsFunc_int_int (x0:(List Int)):Option Bool:=
 (slices_IndexFunc_int_int x0).bind fun r1=>
 some (decide ((0:Int)≤r1))
def report_possible (x0:(List Int)):Option Bool:=
 (bif (decide ((x0.length:Int)≤(160:Int))) then slices_ContainsFunc_int_int x0 else some false).bind fun r1=>
 (bif (bif decide ((x0.length:Int)≤(160:Int)) then !r1 else false) && !((x0.length:Int)==(0:Int)) then idx x0 (w64 ((x0.length:Int) - (1:Int))) else some (0:Int)).bind fun _=>
 (bif (bif decide ((x0.length:Int)≤(160:Int)) then !r1 else false) && !((x0.length:Int)==(0:Int)) then idx x0 (w64 ((x0.length:Int) - (1:Int))) else some (0:Int)).bind fun v3=>
 some (bif bif decide ((x0.length:Int)≤(160:Int)) then !r1 else false then bif (x0.length:Int)==(0:Int) then true else decide ((0:Int)<v3) else false)
def report_less (x0:(Int×Int)) (x1:(Int×Int)):Option Bool:=
 some (bif decide (x0.1<x1.1) then true else bif x0.1==x1.1 then decide (x0.2<x1.2) else false)
def report_rising_loop1 (x0:(List (Int×Int))) (s2:Int):Option ((Int)⊕(Unit⊕Bool)):=
 bif decide (s2<(x0.length:Int)) then
  (idx x0 s2).bind fun _=>
  (idx x0 s2).bind fun v4=>
  (bif (!(bif bif bif decide (v4.1<(0:Int)) then true else decide ((4:Int)≤v4.1) then true else decide (v4.2<(0:Int)) then true else decide ((63:Int)<v4.2)))&&(decide ((0:Int)<s2)) then idx x0 (w64 (s2 - (1:Int))) else some ((0:Int),(0:Int))).bind fun _=>
  (bif (!(bif bif bif decide (v4.1<(0:Int)) then true else decide ((4:Int)≤v4.1) then true else decide (v4.2<(0:Int)) then true else decide ((63:Int)<v4.2)))&&(decide ((0:Int)<s2)) then idx x0 (w64 (s2 - (1:Int))) else some ((0:Int),(0:Int))).bind fun v6=>
  (bif (!(bif bif bif decide (v4.1<(0:Int)) then true else decide ((4:Int)≤v4.1) then true else decide (v4.2<(0:Int)) then true else decide ((63:Int)<v4.2)))&&(decide ((0:Int)<s2)) then report_less (v6.1,v6.2) (v4.1,v4.2) else some false).bind fun r7=>
  bif bif bif bif bif decide (v4.1<(0:Int)) then true else decide ((4:Int)≤v4.1) then true else decide (v4.2<(0:Int)) then true else decide ((63:Int)<v4.2) then true else bif decide ((0:Int)<s2) then !r7 else false then
   some (Sum.inr (Sum.inr false))
  else
   some (Sum.inl (w64 (s2+(1:Int))))
 else
  some (Sum.inr (Sum.inl ()))
def report_rising (x0:(List (Int×Int))):Option Bool:=
 ((
  Itr.it (report_rising_loop1 x0) 0:Option (Unit⊕Bool))).bind fun z8=>
 match z8 with
 | Sum.inl _=>
  some true
 | Sum.inr t9=>some t9
def slices_Equal_api_Name_api_Name_loop1 (x0:(List (Int×Int))) (x1:(List (Int×Int))) (s2:Int):Option ((Int)⊕(Unit⊕Bool)):=
 bif decide (s2<(x0.length:Int)) then
  (idx x0 s2).bind fun _=>
  (idx x0 s2).bind fun v4=>
  (idx x1 s2).bind fun _=>
  (idx x1 s2).bind fun v6=>
  bif !(v4.1==v6.1&&(v4.2==v6.2&&true)) then
   some (Sum.inr (Sum.inr false))
  else
   some (Sum.inl (w64 (s2+(1:Int))))
 else
  some (Sum.inr (Sum.inl ()))
def slices_Equal_api_Name_api_Name (x0:(List (Int×Int))) (x1:(List (Int×Int))):Option Bool:=
 bif (x0.length:Int) != (x1.length:Int) then
  some false
 else
  ((
   Itr.it (slices_Equal_api_Name_api_Name_loop1 x0 x1) 0:Option (Unit⊕Bool))).bind fun z7=>
  match z7 with
  | Sum.inl _=>
   some true
  | Sum.inr t8=>some t8
def report_proper_1 (x0:(List (Int×Int))) (x1:(List (Int×Int))):Option Bool:=
 (slices_Equal_api_Name_api_Name x0 x1).bind fun r1=>
 some r1
def slices_IndexFunc_api_Name_api_Name_loop1 (x0:(List (List (Int×Int)))) (x1:(List (Int×Int))) (s2:Int):Option ((Int)⊕(Unit⊕Int)):=
 bif decide (s2<(x0.length:Int)) then
  (idx x0 s2).bind fun _=>
  (idx x0 s2).bind fun v4=>
  (report_proper_1 v4 x1).bind fun r5=>
  bif r5 then
   some (Sum.inr (Sum.inr s2))
  else
   some (Sum.inl (w64 (s2+(1:Int))))
 else
  some (Sum.inr (Sum.inl ()))
def slices_IndexFunc_api_Name_api_Name (x0:(List (List (Int×Int)))) (x1:(List (Int×Int))):Option Int:=
 ((
  Itr.it (slices_IndexFunc_api_Name_api_Name_loop1 x0 x1) 0:Option (Unit⊕Int))).bind fun z6=>
 match z6 with
 | Sum.inl _=>
  some (-1)
 | Sum.inr t7=>some t7
def slices_ContainsFunc_api_Name_api_Name (x0:(List (List (Int×Int)))) (x1:(List (Int×Int))):Option Bool:=
 (slices_IndexFunc_api_Name_api_Name x0 x1).bind fun r1=>
 some (decide ((0:Int)≤r1))
def report_proper_loop1 (x0:(Int×(List UInt8)×(List (List (Int×Int)))×(List Int)×Int×((List Int)×(List Int)))) (s5:Int):Option ((Int)⊕(Unit⊕Bool)):=
 bif decide (s5<(x0.2.2.1.length:Int)) then
  (idx x0.2.2.1 s5).bind fun _=>
  (idx x0.2.2.1 s5).bind fun v7=>
  (report_rising v7).bind fun r8=>
  chk (!(!(!r8))||(decide (0≤(0:Int)∧(0:Int)≤s5∧s5≤x0.2.2.1.length))) (
   (bif !(!r8) then slices_ContainsFunc_api_Name_api_Name ((x0.2.2.1.take s5.toNat).drop (0:Int).toNat) v7 else some false).bind fun r9=>
   bif bif !r8 then true else r9 then
    some (Sum.inr (Sum.inr false))
   else
    some (Sum.inl (w64 (s5+(1:Int)))))
 else
  some (Sum.inr (Sum.inl ()))
def report_proper (x0:(Int×(List UInt8)×(List (List (Int×Int)))×(List Int)×Int×((List Int)×(List Int)))):Option Bool:=
 (report_named x0.2.1).bind fun r1=>
 (bif !(bif bif !r1 then true else decide (x0.1<(0:Int)) then true else decide ((6:Int)≤x0.1)) then report_within (x0.2.2.2.2.2.1,x0.2.2.2.2.2.2) else some false).bind fun r2=>
 (bif !(bif bif bif bif bif !r1 then true else decide (x0.1<(0:Int)) then true else decide ((6:Int)≤x0.1) then true else !r2 then true else decide (x0.2.2.2.2.1<(0:Int)) then true else decide ((4:Int)≤x0.2.2.2.2.1)) then report_possible x0.2.2.2.1 else some false).bind fun r3=>
 bif bif bif bif bif bif bif bif !r1 then true else decide (x0.1<(0:Int)) then true else decide ((6:Int)≤x0.1) then true else !r2 then true else decide (x0.2.2.2.2.1<(0:Int)) then true else decide ((4:Int)≤x0.2.2.2.2.1) then true else !r3 then true else decide ((1024:Int)<(x0.2.2.1.length:Int)) then
  some false
 else
  ((
   Itr.it (report_proper_loop1 x0) 0:Option (Unit⊕Bool))).bind fun z11=>
  match z11 with
  | Sum.inl _=>
   chk (decide (0≤x0.1∧x0.1<6)) (
    (idx kindsTab x0.1).bind fun v10=>
    some (bif bif bif v10.2.2.1==(decide ((0:Int)<(x0.2.2.1.length:Int))) then v10.2.2.2.1==(decide ((0:Int)<(x0.2.2.2.2.2.1.length:Int))) else false then bif v10.2.2.2.2 then true else (x0.2.2.2.1.length:Int)==(0:Int) else false then bif x0.2.2.2.2.1==(0:Int) then true else x0.1==(5:Int) else false))
  | Sum.inr t12=>some t12
def report_machine (x0:(List UInt8)) (x1:Int):Option (List UInt8):=
 (xItoa x1).bind fun r1=>
 (xReplace x0 S__3343 r1 1).bind fun r2=>
 some r2
def report_name (x0:(Int×Int)):Option (List UInt8):=
 (xItoa x0.1).bind fun r1=>
 chk (decide (r1.length+S__cdb4.length≤9223372036854775807)) (
  (xItoa x0.2).bind fun r2=>
  chk (decide ((r1++S__cdb4).length+r2.length≤9223372036854775807)) (
   some ((r1++S__cdb4)++r2)))
def report_printed_api_Name_f50_loop1 (x0:(List (Int×Int))) (s2:(List (List UInt8))×Int):Option (((List (List UInt8))×Int)⊕((List (List UInt8)))):=
 bif decide (s2.2<(x0.length:Int)) then
  (idx x0 s2.2).bind fun _=>
  (idx x0 s2.2).bind fun v4=>
  (report_name (v4.1,v4.2)).bind fun r5=>
  chk (appOk s2.1.length [r5].length 16) (
   some (Sum.inl (s2.1++[r5],w64 (s2.2+(1:Int)))))
 else
  some (Sum.inr s2.1)
def report_printed_api_Name_f50 (x0:(List (Int×Int))):Option (List (List UInt8)):=
 ((
  Itr.it (report_printed_api_Name_f50_loop1 x0) (([]:List (List UInt8)),0):Option (List (List UInt8)))).bind fun s1=>
 some s1
def report_list (x0:(List (List UInt8))):Option (List UInt8):=
 bif decide ((w64 ((x0.length:Int) - (1:Int)))<(1:Int)) then
  (xJoin x0 ([]:List UInt8)).bind fun r1=>
  some r1
 else
  chk (decide (0≤(0:Int)∧(0:Int)≤(w64 ((x0.length:Int) - (1:Int)))∧(w64 ((x0.length:Int) - (1:Int)))≤x0.length)) (
   (xJoin ((x0.take (w64 ((x0.length:Int) - (1:Int))).toNat).drop (0:Int).toNat) S__0a07).bind fun r2=>
   chk (decide (r2.length+S_and_e3ee.length≤9223372036854775807)) (
    (idx x0 (w64 ((x0.length:Int) - (1:Int)))).bind fun _=>
    (idx x0 (w64 ((x0.length:Int) - (1:Int)))).bind fun v4=>
    chk (decide ((r2++S_and_e3ee).length+v4.length≤9223372036854775807)) (
     some ((r2++S_and_e3ee)++v4))))
def report_set (x0:(List (Int×Int))):Option (List UInt8):=
 bif (x0.length:Int)==(0:Int) then
  some S_the_fault_is_o_64f9
 else
  bif (x0.length:Int)==(1:Int) then
   (idx x0 (0:Int)).bind fun _=>
   (idx x0 (0:Int)).bind fun v2=>
   (report_name (v2.1,v2.2)).bind fun r3=>
   chk (decide (S_the_edit_db6e.length+r3.length≤9223372036854775807)) (
    chk (decide ((S_the_edit_db6e++r3).length+S_is_guilty_5dc8.length≤9223372036854775807)) (
     some ((S_the_edit_db6e++r3)++S_is_guilty_5dc8)))
  else
   (report_printed_api_Name_f50 x0).bind fun r4=>
   (report_list r4).bind fun r5=>
   chk (decide (S_the_edits_27cf.length+r5.length≤9223372036854775807)) (
    chk (decide ((S_the_edits_27cf++r5).length+S_are_guilty_to_7335.length≤9223372036854775807)) (
     some ((S_the_edits_27cf++r5)++S_are_guilty_to_7335)))
def report_printed_api_Name_loop1 (x0:(List (List (Int×Int)))) (s2:(List (List UInt8))×Int):Option (((List (List UInt8))×Int)⊕((List (List UInt8)))):=
 bif decide (s2.2<(x0.length:Int)) then
  (idx x0 s2.2).bind fun _=>
  (idx x0 s2.2).bind fun v4=>
  (report_set v4).bind fun r5=>
  chk (appOk s2.1.length [r5].length 16) (
   some (Sum.inl (s2.1++[r5],w64 (s2.2+(1:Int)))))
 else
  some (Sum.inr s2.1)
def report_printed_api_Name (x0:(List (List (Int×Int)))):Option (List (List UInt8)):=
 ((
  Itr.it (report_printed_api_Name_loop1 x0) (([]:List (List UInt8)),0):Option (List (List UInt8)))).bind fun s1=>
 some s1
def ratio_decimal_loop2 (r3:((List Int)×Int)) (s4:Int×Int×Int×(List Int)):Option ((Int×Int×Int×(List Int))⊕((List Int)×Int×(List Int)⊕(Int×(List Int)))):=
 bif decide (s4.2.2.1<(9:Int)) then
  chk (!((10:Int)==0)) (
   chk (decide (0≤(w64 (s4.1 - (1:Int)))∧(w64 (s4.1 - (1:Int)))<626)) (
    chk (decide (0≤(w64 (s4.1 - (1:Int)))∧(w64 (s4.1 - (1:Int)))<626)) (
     chk (!((10:Int)==0)) (
      some (Sum.inl (w64 (s4.1 - (1:Int)),IntKind.u32.wrap (Int.tdiv s4.2.1 (10:Int)),w64 (s4.2.2.1+(1:Int)),arrSet 626 (0:Int) s4.2.2.2 (w64 (s4.1 - (1:Int))).toNat (IntKind.u8.wrap (IntKind.u32.wrap ((48:Int)+(Int.tmod s4.2.1 (10:Int)))))))))))
 else
  some (Sum.inr (Sum.inl (r3.1,s4.1,s4.2.2.2)))
def ratio_decimal_loop1  (s2:(List Int)×Int×(List Int)):Option (((List Int)×Int×(List Int))⊕(Int×(List Int))):=
 bif decide ((0:Int)<(s2.1.length:Int)) then
  (ratio_small s2.1 1000000000).bind fun r3=>
  Itr.it (ratio_decimal_loop2 r3) (s2.2.1,r3.2,0,s2.2.2)
 else
  some (Sum.inr (s2.2.1,s2.2.2))
def ratio_decimal (x0:(List Int)):Option (List UInt8):=
 ((
  Itr.it (ratio_decimal_loop1) (x0,626,([]:List Int)):Option (Int×(List Int)))).bind fun s1=>
 chk (decide (0≤s1.1∧s1.1≤(626:Int)∧(626:Int)≤(626:Int))) (
  (xTrimLeft (List.map (fun n=>UInt8.ofNat n.toNat) (((padA 626 (0:Int) s1.2).take (626:Int).toNat).drop s1.1.toNat)) S_0_5fec).bind fun r5=>
  bif r5==([]:List UInt8) then
   some S_0_5fec
  else
   some r5)
def ratio_Print (x0:((List Int)×(List Int))):Option ((List UInt8)×Int):=
 (ratio_Valid (x0.1,x0.2)).bind fun r1=>
 bif r1 != (0:Int) then
  some (([]:List UInt8),r1)
 else
  bif (x0.2.length:Int)==(0:Int) then
   (ratio_decimal x0.1).bind fun r2=>
   some (r2,0)
  else
   (ratio_decimal x0.1).bind fun r3=>
   chk (decide (r3.length+S__8a5e.length≤9223372036854775807)) (
    (ratio_decimal x0.2).bind fun r4=>
    chk (decide ((r3++S__8a5e).length+r4.length≤9223372036854775807)) (
     some ((r3++S__8a5e)++r4,0)))
def report_bound (x0:((List Int)×(List Int))):Option (List UInt8):=
 (ratio_Print (x0.1,x0.2)).bind fun r1=>
 chk (decide (S_it_fails_with_5cf6.length+r1.1.length≤9223372036854775807)) (
  chk (decide ((S_it_fails_with_5cf6++r1.1).length+S__cdb4.length≤9223372036854775807)) (
   some ((S_it_fails_with_5cf6++r1.1)++S__cdb4)))
def report_printed_int_loop1 (x0:(List Int)) (s2:(List (List UInt8))×Int):Option (((List (List UInt8))×Int)⊕((List (List UInt8)))):=
 bif decide (s2.2<(x0.length:Int)) then
  (idx x0 s2.2).bind fun _=>
  (idx x0 s2.2).bind fun v4=>
  (xItoa v4).bind fun r5=>
  chk (appOk s2.1.length [r5].length 16) (
   some (Sum.inl (s2.1++[r5],w64 (s2.2+(1:Int)))))
 else
  some (Sum.inr s2.1)
def report_printed_int (x0:(List Int)):Option (List (List UInt8)):=
 ((
  Itr.it (report_printed_int_loop1 x0) (([]:List (List UInt8)),0):Option (List (List UInt8)))).bind fun s1=>
 some s1
def report_choices (x0:(List Int)):Option (List UInt8):=
 bif (x0.length:Int)==(1:Int) then
  (idx x0 (0:Int)).bind fun _=>
  (idx x0 (0:Int)).bind fun v2=>
  (xItoa v2).bind fun r3=>
  chk (decide (S_it_shows_by_th_d234.length+r3.length≤9223372036854775807)) (
   chk (decide ((S_it_shows_by_th_d234++r3).length+S__cdb4.length≤9223372036854775807)) (
    some ((S_it_shows_by_th_d234++r3)++S__cdb4)))
 else
  (report_printed_int x0).bind fun r4=>
  (report_list r4).bind fun r5=>
  chk (decide (S_it_shows_by_th_603a.length+r5.length≤9223372036854775807)) (
   chk (decide ((S_it_shows_by_th_603a++r5).length+S__cdb4.length≤9223372036854775807)) (
    some ((S_it_shows_by_th_603a++r5)++S__cdb4)))
def report_Print (x0:(Int×(List UInt8)×(List (List (Int×Int)))×(List Int)×Int×((List Int)×(List Int)))):Option ((List (List UInt8))×Int):=
 (report_proper (x0.1,x0.2.1,x0.2.2.1,x0.2.2.2.1,x0.2.2.2.2.1,(x0.2.2.2.2.2.1,x0.2.2.2.2.2.2))).bind fun r1=>
 bif !r1 then
  some (([]:List (List UInt8)),1)
 else
  chk (decide (0≤x0.1∧x0.1<6)) (
   (idx kindsTab x0.1).bind fun v2=>
   (report_machine v2.1 x0.2.2.2.2.1).bind fun r3=>
   chk (decide (x0.2.1.length+r3.length≤9223372036854775807)) (
    (report_printed_api_Name x0.2.2.1).bind fun r4=>
    chk (appOk [x0.2.1++r3].length r4.length 16) (
     ((
      bif decide ((0:Int)<(x0.2.2.2.2.2.1.length:Int)) then
       (report_bound (x0.2.2.2.2.2.1,x0.2.2.2.2.2.2)).bind fun r6=>
       chk (appOk ([x0.2.1++r3]++r4).length [r6].length 16) (
        some (([x0.2.1++r3]++r4)++[r6]))
      else
       some ([x0.2.1++r3]++r4):Option (List (List UInt8)))).bind fun s5=>
     ((
      bif decide ((0:Int)<(x0.2.2.2.1.length:Int)) then
       (report_choices x0.2.2.2.1).bind fun r8=>
       chk (appOk s5.length [r8].length 16) (
        some (s5++[r8]))
      else
       some s5:Option (List (List UInt8)))).bind fun s7=>
     some (s7,0))))
def report_Facts_1 (x0:(List UInt8)) (x1:(List (List UInt8))):Option (List UInt8):=
 chk (appOk [x0].length x1.length 16) (
  (xJoin ([x0]++x1) S__36a9).bind fun r1=>
  some r1)
def report_Facts_loop1 (x0:(Int×(List UInt8)×(List (List (Int×Int)))×(List Int)×Int×((List Int)×(List Int)))) (s6:(List (List UInt8))×Int):Option (((List (List UInt8))×Int)⊕((List (List UInt8)))):=
 bif decide (s6.2<(x0.2.2.1.length:Int)) then
  (idx x0.2.2.1 s6.2).bind fun _=>
  (idx x0.2.2.1 s6.2).bind fun v8=>
  (report_printed_api_Name_f50 v8).bind fun r9=>
  (report_Facts_1 S_set_6ee0 r9).bind fun r10=>
  chk (appOk s6.1.length [r10].length 16) (
   some (Sum.inl (s6.1++[r10],w64 (s6.2+(1:Int)))))
 else
  some (Sum.inr s6.1)
def report_Facts (x0:(Int×(List UInt8)×(List (List (Int×Int)))×(List Int)×Int×((List Int)×(List Int)))):Option ((List (List UInt8))×Int):=
 (report_proper (x0.1,x0.2.1,x0.2.2.1,x0.2.2.2.1,x0.2.2.2.2.1,(x0.2.2.2.2.2.1,x0.2.2.2.2.2.2))).bind fun r1=>
 bif !r1 then
  some (([]:List (List UInt8)),1)
 else
  chk (decide (0≤x0.1∧x0.1<6)) (
   (idx kindsTab x0.1).bind fun v2=>
   (report_machine v2.2.1 x0.2.2.2.2.1).bind fun r3=>
   (report_Facts_1 S_verdict_11e2 [x0.2.1,r3]).bind fun r4=>
   ((
    Itr.it (report_Facts_loop1 x0) ([r4],0):Option (List (List UInt8)))).bind fun s5=>
   ((
    bif decide ((0:Int)<(x0.2.2.2.2.2.1.length:Int)) then
     (ratio_Print (x0.2.2.2.2.2.1,x0.2.2.2.2.2.2)).bind fun r12=>
     (report_Facts_1 S_measure_1501 [r12.1]).bind fun r13=>
     chk (appOk s5.length [r13].length 16) (
      some (s5++[r13]))
    else
     some s5:Option (List (List UInt8)))).bind fun s11=>
   ((
    bif decide ((0:Int)<(x0.2.2.2.1.length:Int)) then
     (report_printed_int x0.2.2.2.1).bind fun r15=>
     (report_Facts_1 S_word_98c1 r15).bind fun r16=>
     chk (appOk s11.length [r16].length 16) (
      some (s11++[r16]))
    else
     some s11:Option (List (List UInt8)))).bind fun s14=>
   some (s14,0))
def culpritref01_SameTexts_loop1 (x0:(List (List UInt8))) (x1:(List (List UInt8))) (s2:Int):Option ((Int)⊕(Unit⊕Bool)):=
 bif decide (s2<(x0.length:Int)) then
  (idx x0 s2).bind fun _=>
  (idx x0 s2).bind fun v4=>
  (idx x1 s2).bind fun _=>
  (idx x1 s2).bind fun v6=>
  bif !(v4==v6) then
   some (Sum.inr (Sum.inr false))
  else
   some (Sum.inl (w64 (s2+(1:Int))))
 else
  some (Sum.inr (Sum.inl ()))
def culpritref01_SameTexts (x0:(List (List UInt8))) (x1:(List (List UInt8))):Option Bool:=
 bif (x0.length:Int) != (x1.length:Int) then
  some false
 else
  ((
   Itr.it (culpritref01_SameTexts_loop1 x0 x1) 0:Option (Unit⊕Bool))).bind fun z7=>
  match z7 with
  | Sum.inl _=>
   some true
  | Sum.inr t8=>some t8
def report_first_loop2 (x0:(List UInt8)) (s2:(Int)) (v4:((List UInt8)×(List UInt8)×Bool×Bool×Bool)) (s5:Int):Option ((Int)⊕(Unit⊕(Int⊕(Unit⊕((Int×(List UInt8)×(List (List (Int×Int)))×(List Int)×Int×((List Int)×(List Int)))×Bool))))):=
 bif decide (s5<(4:Int)) then
  bif bif decide ((0:Int)<s5) then s2 != (5:Int) else false then
   some (Sum.inr (Sum.inl ()))
  else
   (report_machine v4.1 s5).bind fun r6=>
   (xCutSuffix x0 r6).bind fun r7=>
   (bif r7.2 then report_named r7.1 else some false).bind fun r8=>
   bif bif r7.2 then r8 else false then
    some (Sum.inr (Sum.inr (Sum.inr (Sum.inr ((s2,r7.1,([]:List (List (Int×Int))),([]:List Int),s5,(([]:List Int),([]:List Int))),true)))))
   else
    some (Sum.inl (w64 (s5+(1:Int))))
 else
  some (Sum.inr (Sum.inl ()))
def report_first_loop1 (x0:(List UInt8)) (s2:Int):Option ((Int)⊕(Unit⊕((Int×(List UInt8)×(List (List (Int×Int)))×(List Int)×Int×((List Int)×(List Int)))×Bool))):=
 bif decide (s2<(6:Int)) then
  ((
   (idx kindsTab s2).bind fun v4=>
   Itr.it (report_first_loop2 x0 s2 v4) 0:Option (Unit⊕(Int⊕(Unit⊕((Int×(List UInt8)×(List (List (Int×Int)))×(List Int)×Int×((List Int)×(List Int)))×Bool)))))).bind fun z9=>
  match z9 with
  | Sum.inl _=>
   some (Sum.inl (w64 (s2+(1:Int))))
  | Sum.inr t10=>some t10
 else
  some (Sum.inr (Sum.inl ()))
def report_first (x0:(List UInt8)):Option ((Int×(List UInt8)×(List (List (Int×Int)))×(List Int)×Int×((List Int)×(List Int)))×Bool):=
 ((
  Itr.it (report_first_loop1 x0) 0:Option (Unit⊕((Int×(List UInt8)×(List (List (Int×Int)))×(List Int)×Int×((List Int)×(List Int)))×Bool)))).bind fun z11=>
 match z11 with
 | Sum.inl _=>
  some ((0,([]:List UInt8),([]:List (List (Int×Int))),([]:List Int),0,(([]:List Int),([]:List Int))),false)
 | Sum.inr t12=>some t12
def report_readers  : Option (List Nat):=
 some [(99:Nat),(104:Nat),(106:Nat)]
def report_inner (x0:(List UInt8)) (x1:(List UInt8)) (x2:(List UInt8)):Option ((List UInt8)×Bool):=
 (xCutPrefix x0 x1).bind fun r1=>
 (xCutSuffix r1.1 x2).bind fun r2=>
 some (r2.1,bif r1.2 then r2.2 else false)
def report_parts (x0:(List UInt8)):Option (List (List UInt8)):=
 (xReplaceAll x0 S_and_e3ee S__0a07).bind fun r1=>
 (xSplit r1 S__0a07).bind fun r2=>
 some r2
def report_edit (x0:(List UInt8)):Option ((Int×Int)×Bool):=
 (xCut x0 S__cdb4).bind fun r1=>
 (xNumber r1.1).bind fun r2=>
 (xNumber r1.2.1).bind fun r3=>
 some ((r2.1,r3.1),bif bif r1.2.2 then r2.2 else false then r3.2 else false)
def report_each_api_Name_loop1 (r2:(List (List UInt8))) (s3:(List (Int×Int))×Int):Option (((List (Int×Int))×Int)⊕((List (Int×Int))⊕((List (Int×Int))×Bool))):=
 bif decide (s3.2<(r2.length:Int)) then
  (idx r2 s3.2).bind fun _=>
  (idx r2 s3.2).bind fun v5=>
  (report_edit v5).bind fun r6=>
  bif !r6.2 then
   some (Sum.inr (Sum.inr (([]:List (Int×Int)),false)))
  else
   chk (appOk s3.1.length [(r6.1.1,r6.1.2)].length 16) (
    some (Sum.inl (s3.1++[(r6.1.1,r6.1.2)],w64 (s3.2+(1:Int)))))
 else
  some (Sum.inr (Sum.inl s3.1))
def report_each_api_Name (x0:(List UInt8)):Option ((List (Int×Int))×Bool):=
 ((
  (report_parts x0).bind fun r2=>
  Itr.it (report_each_api_Name_loop1 r2) (([]:List (Int×Int)),0):Option ((List (Int×Int))⊕((List (Int×Int))×Bool)))).bind fun z7=>
 match z7 with
 | Sum.inl s1=>
  some (s1,true)
 | Sum.inr t8=>some t8
def report_readers_1_1 (x0:(List (Int×Int))) (x1:(List (Int×Int))):Option Bool:=
 (slices_Equal_api_Name_api_Name x0 x1).bind fun r1=>
 some r1
def slices_IndexFunc_api_Name_api_Name_1_loop1 (x0:(List (List (Int×Int)))) (x1:(List (Int×Int))) (s2:Int):Option ((Int)⊕(Unit⊕Int)):=
 bif decide (s2<(x0.length:Int)) then
  (idx x0 s2).bind fun _=>
  (idx x0 s2).bind fun v4=>
  (report_readers_1_1 v4 x1).bind fun r5=>
  bif r5 then
   some (Sum.inr (Sum.inr s2))
  else
   some (Sum.inl (w64 (s2+(1:Int))))
 else
  some (Sum.inr (Sum.inl ()))
def slices_IndexFunc_api_Name_api_Name_1 (x0:(List (List (Int×Int)))) (x1:(List (Int×Int))):Option Int:=
 ((
  Itr.it (slices_IndexFunc_api_Name_api_Name_1_loop1 x0 x1) 0:Option (Unit⊕Int))).bind fun z6=>
 match z6 with
 | Sum.inl _=>
  some (-1)
 | Sum.inr t7=>some t7
def slices_ContainsFunc_api_Name_api_Name_1 (x0:(List (List (Int×Int)))) (x1:(List (Int×Int))):Option Bool:=
 (slices_IndexFunc_api_Name_api_Name_1 x0 x1).bind fun r1=>
 some (decide ((0:Int)≤r1))
def report_readers_1 (x0:(List UInt8)) (x1:(Int×(List UInt8)×(List (List (Int×Int)))×(List Int)×Int×((List Int)×(List Int)))):Option (Bool×(Int×(List UInt8)×(List (List (Int×Int)))×(List Int)×Int×((List Int)×(List Int)))):=
 (report_inner x0 S_the_edit_db6e S_is_guilty_5dc8).bind fun r1=>
 ((
  bif !r1.2 then
   (report_inner x0 S_the_edits_27cf S_are_guilty_to_7335).bind fun r3=>
   some (r3.1,r3.2)
  else
   some (r1.1,r1.2):Option ((List UInt8)×Bool))).bind fun s2=>
 ((
  bif s2.2 then
   (report_each_api_Name s2.1).bind fun r5=>
   bif !r5.2 then
    some (Sum.inr (false,(x1.1,x1.2.1,x1.2.2.1,x1.2.2.2.1,x1.2.2.2.2.1,(x1.2.2.2.2.2.1,x1.2.2.2.2.2.2))))
   else
    some (Sum.inl r5.1)
  else
   some (Sum.inl ([]:List (Int×Int))):Option ((List (Int×Int))⊕(Bool×(Int×(List UInt8)×(List (List (Int×Int)))×(List Int)×Int×((List Int)×(List Int))))))).bind fun z10=>
 match z10 with
 | Sum.inl s4=>
  (slices_ContainsFunc_api_Name_api_Name_1 x1.2.2.1 s4).bind fun r6=>
  chk (decide (0≤x1.1∧x1.1<6)) (
   (idx kindsTab x1.1).bind fun v7=>
   (bif !(bif !v7.2.2.1 then true else decide ((0:Int)<(x1.2.2.2.2.2.1.length:Int))) then report_rising s4 else some false).bind fun r8=>
   (bif !(bif bif !v7.2.2.1 then true else decide ((0:Int)<(x1.2.2.2.2.2.1.length:Int)) then true else !r8) then report_set s4 else some ([]:List UInt8)).bind fun r9=>
   bif bif bif bif bif bif !v7.2.2.1 then true else decide ((0:Int)<(x1.2.2.2.2.2.1.length:Int)) then true else !r8 then true else !(r9==x0) then true else r6 then true else decide ((1024:Int)≤(x1.2.2.1.length:Int)) then
    some (false,(x1.1,x1.2.1,x1.2.2.1,x1.2.2.2.1,x1.2.2.2.2.1,(x1.2.2.2.2.2.1,x1.2.2.2.2.2.2)))
   else
    chk (appOk x1.2.2.1.length [s4].length 24) (
     some (true,(x1.1,x1.2.1,x1.2.2.1++[s4],x1.2.2.2.1,x1.2.2.2.2.1,(x1.2.2.2.2.2.1,x1.2.2.2.2.2.2)))))
 | Sum.inr t11=>some t11
def ratio_row_loop1 (x0:(List UInt8)) (s3:Int):Option ((Int)⊕(Unit⊕Bool)):=
 bif decide (s3<(x0.length:Int)) then
  (idx x0 s3).bind fun v4=>
  (bif !(decide ((v4.toNat:Int)<(48:Int))) then idx x0 s3 else some 0).bind fun v5=>
  bif bif decide ((v4.toNat:Int)<(48:Int)) then true else decide ((57:Int)<(v5.toNat:Int)) then
   some (Sum.inr (Sum.inr false))
  else
   some (Sum.inl (w64 (s3+(1:Int))))
 else
  some (Sum.inr (Sum.inl ()))
def ratio_row (x0:(List UInt8)):Option Bool:=
 (bif (!(x0==([]:List UInt8)))&&(decide ((1:Int)<(x0.length:Int))) then idx x0 (0:Int) else some 0).bind fun v1=>
 bif bif x0==([]:List UInt8) then true else bif decide ((1:Int)<(x0.length:Int)) then (v1.toNat:Int)==(48:Int) else false then
  some false
 else
  ((
   Itr.it (ratio_row_loop1 x0) 0:Option (Unit⊕Bool))).bind fun z6=>
  match z6 with
  | Sum.inl _=>
   some true
  | Sum.inr t7=>some t7
def ratio_plus_loop1 (s1:((List Int)×(List Int))) (s3:(List Int)×Int×Int):Option (((List Int)×Int×Int)⊕((List Int)×Int)):=
 bif decide (s3.2.2<(s1.1.length:Int)) then
  ((
   (idx s1.1 s3.2.2).bind fun _=>
   (idx s1.1 s3.2.2).bind fun v6=>
   ((
    bif decide (s3.2.2<(s1.2.length:Int)) then
     (idx s1.2 s3.2.2).bind fun _=>
     (idx s1.2 s3.2.2).bind fun v9=>
     some v9
    else
     some 0:Option Int)).bind fun s7=>
   (math_bits_Add32 v6 s7 s3.2.1).bind fun r10=>
   (idx s3.1 s3.2.2).bind fun _=>
   (idx s3.1 s3.2.2).bind fun _=>
   some (s3.1.set s3.2.2.toNat r10.1,r10.2):Option ((List Int)×Int))).bind fun s4=>
  some (Sum.inl (s4.1,s4.2,w64 (s3.2.2+(1:Int))))
 else
  some (Sum.inr (s3.1,s3.2.1))
def ratio_plus (x0:(List Int)) (x1:(List Int)):Option (List Int):=
 ((
  bif decide ((x0.length:Int)<(x1.length:Int)) then
   some (x1,x0)
  else
   some (x0,x1):Option ((List Int)×(List Int)))).bind fun s1=>
 chk (decide (0≤(w64 ((s1.1.length:Int)+(1:Int)))∧(w64 ((s1.1.length:Int)+(1:Int))) * 4≤281474976710656∧(w64 ((s1.1.length:Int)+(1:Int)))≤maxLen)) (
  ((
   Itr.it (ratio_plus_loop1 s1) (List.replicate (w64 ((s1.1.length:Int)+(1:Int))).toNat (0:Int),0,0):Option ((List Int)×Int))).bind fun s2=>
  (idx s2.1 (s1.1.length:Int)).bind fun _=>
  (idx s2.1 (s1.1.length:Int)).bind fun _=>
  (ratio_trim (s2.1.set (s1.1.length:Int).toNat s2.2)).bind fun r15=>
  some r15)
def ratio_number_loop1 (x0:(List UInt8)) (s2:(List Int)×Int):Option (((List Int)×Int)⊕((List Int))):=
 bif decide (s2.2<(x0.length:Int)) then
  (ratio_times s2.1 [10]).bind fun r3=>
  (idx x0 s2.2).bind fun v4=>
  (ratio_whole (IntKind.u64.wrap (IntKind.u8.wrap ((v4.toNat:Int) - (48:Int))))).bind fun r5=>
  (ratio_plus r3 r5).bind fun r6=>
  some (Sum.inl (r6,w64 (s2.2+(1:Int))))
 else
  some (Sum.inr s2.1)
def ratio_number (x0:(List UInt8)):Option ((List Int)×Bool):=
 bif decide ((617:Int)<(x0.length:Int)) then
  some (([]:List Int),false)
 else
  ((
   Itr.it (ratio_number_loop1 x0) (([]:List Int),0):Option (List Int))).bind fun s1=>
  some (s1,decide ((s1.length:Int)≤(64:Int)))
def ratio_Parse (x0:(List UInt8)):Option (((List Int)×(List Int))×Int):=
 (xCut x0 S__8a5e).bind fun r1=>
 (ratio_row r1.1).bind fun r2=>
 (bif (!(!r2))&&r1.2.2 then ratio_row r1.2.1 else some false).bind fun r3=>
 bif bif !r2 then true else bif r1.2.2 then !r3 else false then
  some ((([]:List Int),([]:List Int)),2)
 else
  (ratio_number r1.1).bind fun r4=>
  (ratio_number r1.2.1).bind fun r5=>
  bif bif !r4.2 then true else !r5.2 then
   some ((([]:List Int),([]:List Int)),4)
  else
   (ratio_Valid (r4.1,r5.1)).bind fun r6=>
   bif bif r6 != (0:Int) then true else bif r1.2.2 then (r5.1.length:Int)==(0:Int) else false then
    some ((([]:List Int),([]:List Int)),1)
   else
    some ((r4.1,r5.1),0)
def report_readers_2 (x0:(List UInt8)) (x1:(Int×(List UInt8)×(List (List (Int×Int)))×(List Int)×Int×((List Int)×(List Int)))):Option (Bool×(Int×(List UInt8)×(List (List (Int×Int)))×(List Int)×Int×((List Int)×(List Int)))):=
 (report_inner x0 S_it_fails_with_5cf6 S__cdb4).bind fun r1=>
 chk (!(!(!r1.2))||(decide (0≤x1.1∧x1.1<6))) (
  (bif !(!r1.2) then idx kindsTab x1.1 else some (([]:List UInt8),([]:List UInt8),false,false,false)).bind fun v2=>
  chk (!(!(bif !r1.2 then true else !v2.2.2.2.1))||(decide (0≤x1.1∧x1.1<6))) (
   (bif !(bif !r1.2 then true else !v2.2.2.2.1) then idx kindsTab x1.1 else some (([]:List UInt8),([]:List UInt8),false,false,false)).bind fun v3=>
   bif bif bif bif !r1.2 then true else !v2.2.2.2.1 then true else bif v3.2.2.1 then (x1.2.2.1.length:Int)==(0:Int) else false then true else decide ((0:Int)<(x1.2.2.2.2.2.1.length:Int)) then
    some (false,(x1.1,x1.2.1,x1.2.2.1,x1.2.2.2.1,x1.2.2.2.2.1,(x1.2.2.2.2.2.1,x1.2.2.2.2.2.2)))
   else
    (ratio_Parse r1.1).bind fun r4=>
    (bif !(r4.2 != (0:Int)) then report_within (r4.1.1,r4.1.2) else some false).bind fun r5=>
    bif bif bif r4.2 != (0:Int) then true else !r5 then true else (r4.1.1.length:Int)==(0:Int) then
     some (false,(x1.1,x1.2.1,x1.2.2.1,x1.2.2.2.1,x1.2.2.2.2.1,(x1.2.2.2.2.2.1,x1.2.2.2.2.2.2)))
    else
     some (true,(x1.1,x1.2.1,x1.2.2.1,x1.2.2.2.1,x1.2.2.2.2.1,(r4.1.1,r4.1.2)))))
def report_each_int_loop1 (r2:(List (List UInt8))) (s3:(List Int)×Int):Option (((List Int)×Int)⊕((List Int)⊕((List Int)×Bool))):=
 bif decide (s3.2<(r2.length:Int)) then
  (idx r2 s3.2).bind fun _=>
  (idx r2 s3.2).bind fun v5=>
  (xNumber v5).bind fun r6=>
  bif !r6.2 then
   some (Sum.inr (Sum.inr (([]:List Int),false)))
  else
   chk (appOk s3.1.length [r6.1].length 8) (
    some (Sum.inl (s3.1++[r6.1],w64 (s3.2+(1:Int)))))
 else
  some (Sum.inr (Sum.inl s3.1))
def report_each_int (x0:(List UInt8)):Option ((List Int)×Bool):=
 ((
  (report_parts x0).bind fun r2=>
  Itr.it (report_each_int_loop1 r2) (([]:List Int),0):Option ((List Int)⊕((List Int)×Bool)))).bind fun z7=>
 match z7 with
 | Sum.inl s1=>
  some (s1,true)
 | Sum.inr t8=>some t8
def report_readers_3 (x0:(List UInt8)) (x1:(Int×(List UInt8)×(List (List (Int×Int)))×(List Int)×Int×((List Int)×(List Int)))):Option (Bool×(Int×(List UInt8)×(List (List (Int×Int)))×(List Int)×Int×((List Int)×(List Int)))):=
 (report_inner x0 S_it_shows_by_th_d234 S__cdb4).bind fun r1=>
 ((
  bif !r1.2 then
   (report_inner x0 S_it_shows_by_th_603a S__cdb4).bind fun r3=>
   some (r3.1,r3.2)
  else
   some (r1.1,r1.2):Option ((List UInt8)×Bool))).bind fun s2=>
 chk (!(!(!s2.2))||(decide (0≤x1.1∧x1.1<6))) (
  (bif !(!s2.2) then idx kindsTab x1.1 else some (([]:List UInt8),([]:List UInt8),false,false,false)).bind fun v4=>
  bif bif bif bif !s2.2 then true else !v4.2.2.2.2 then true else (x1.2.2.2.2.2.1.length:Int)==(0:Int) then true else decide ((0:Int)<(x1.2.2.2.1.length:Int)) then
   some (false,(x1.1,x1.2.1,x1.2.2.1,x1.2.2.2.1,x1.2.2.2.2.1,(x1.2.2.2.2.2.1,x1.2.2.2.2.2.2)))
  else
   (report_each_int s2.1).bind fun r5=>
   (bif !(!r5.2) then report_possible r5.1 else some false).bind fun r6=>
   (bif !(bif !r5.2 then true else !r6) then report_choices r5.1 else some ([]:List UInt8)).bind fun r7=>
   bif bif bif !r5.2 then true else !r6 then true else !(r7==x0) then
    some (false,(x1.1,x1.2.1,x1.2.2.1,x1.2.2.2.1,x1.2.2.2.2.1,(x1.2.2.2.2.2.1,x1.2.2.2.2.2.2)))
   else
    some (true,(x1.1,x1.2.1,x1.2.2.1,r5.1,x1.2.2.2.2.1,(x1.2.2.2.2.2.1,x1.2.2.2.2.2.2))))
def dyn1 (f:Nat) (x0:(List UInt8)) (x1:(Int×(List UInt8)×(List (List (Int×Int)))×(List Int)×Int×((List Int)×(List Int)))):Option (Bool×(Int×(List UInt8)×(List (List (Int×Int)))×(List Int)×Int×((List Int)×(List Int)))):=
 bif Nat.beq f 99 then report_readers_1 x0 x1 else
 bif Nat.beq f 104 then report_readers_2 x0 x1 else
 bif Nat.beq f 106 then report_readers_3 x0 x1 else
 none
def report_Parse_loop2 (v8:(List UInt8)) (r10:(List Nat)) (s11:Int×Int×(List UInt8)×(List (List (Int×Int)))×(List Int)×Int×(List Int)×(List Int)):Option ((Int×Int×(List UInt8)×(List (List (Int×Int)))×(List Int)×Int×(List Int)×(List Int))⊕(Int×(List UInt8)×(List (List (Int×Int)))×(List Int)×Int×(List Int)×(List Int)⊕(Int×(List UInt8)×(List (List (Int×Int)))×(List Int)×Int×(List Int)×(List Int)⊕(Int×Int×(List UInt8)×(List (List (Int×Int)))×(List Int)×Int×(List Int)×(List Int)⊕(Int×(List UInt8)×(List (List (Int×Int)))×(List Int)×Int×(List Int)×(List Int)⊕((Int×(List UInt8)×(List (List (Int×Int)))×(List Int)×Int×((List Int)×(List Int)))×Int×Int)))))):=
 bif decide (s11.1<(r10.length:Int)) then
  (idx r10 s11.1).bind fun _=>
  (idx r10 s11.1).bind fun v13=>
  (dyn1 v13 v8 (s11.2.1,s11.2.2.1,s11.2.2.2.1,s11.2.2.2.2.1,s11.2.2.2.2.2.1,(s11.2.2.2.2.2.2.1,s11.2.2.2.2.2.2.2))).bind fun r14=>
  bif r14.1 then
   some (Sum.inr (Sum.inr (Sum.inl (r14.2.1,r14.2.2.1,r14.2.2.2.1,r14.2.2.2.2.1,r14.2.2.2.2.2.1,r14.2.2.2.2.2.2.1,r14.2.2.2.2.2.2.2))))
  else
   some (Sum.inl (w64 (s11.1+(1:Int)),r14.2.1,r14.2.2.1,r14.2.2.2.1,r14.2.2.2.2.1,r14.2.2.2.2.2.1,r14.2.2.2.2.2.2.1,r14.2.2.2.2.2.2.2))
 else
  some (Sum.inr (Sum.inl (s11.2.1,s11.2.2.1,s11.2.2.2.1,s11.2.2.2.2.1,s11.2.2.2.2.2.1,s11.2.2.2.2.2.2.1,s11.2.2.2.2.2.2.2)))
def report_Parse_loop1 (x0:(List (List UInt8))) (s5:Int×Int×(List UInt8)×(List (List (Int×Int)))×(List Int)×Int×(List Int)×(List Int)):Option ((Int×Int×(List UInt8)×(List (List (Int×Int)))×(List Int)×Int×(List Int)×(List Int))⊕(Int×(List UInt8)×(List (List (Int×Int)))×(List Int)×Int×(List Int)×(List Int)⊕((Int×(List UInt8)×(List (List (Int×Int)))×(List Int)×Int×((List Int)×(List Int)))×Int×Int))):=
 bif decide (s5.1<(((x0.take (x0.length:Int).toNat).drop (1:Int).toNat).length:Int)) then
  ((
   (idx ((x0.take (x0.length:Int).toNat).drop (1:Int).toNat) s5.1).bind fun _=>
   (idx ((x0.take (x0.length:Int).toNat).drop (1:Int).toNat) s5.1).bind fun v8=>
   ((
    (report_readers).bind fun r10=>
    Itr.it (report_Parse_loop2 v8 r10) (0,s5.2.1,s5.2.2.1,s5.2.2.2.1,s5.2.2.2.2.1,s5.2.2.2.2.2.1,s5.2.2.2.2.2.2.1,s5.2.2.2.2.2.2.2):Option (Int×(List UInt8)×(List (List (Int×Int)))×(List Int)×Int×(List Int)×(List Int)⊕(Int×(List UInt8)×(List (List (Int×Int)))×(List Int)×Int×(List Int)×(List Int)⊕(Int×Int×(List UInt8)×(List (List (Int×Int)))×(List Int)×Int×(List Int)×(List Int)⊕(Int×(List UInt8)×(List (List (Int×Int)))×(List Int)×Int×(List Int)×(List Int)⊕((Int×(List UInt8)×(List (List (Int×Int)))×(List Int)×Int×((List Int)×(List Int)))×Int×Int))))))).bind fun z15=>
   match z15 with
   | Sum.inl _=>
    some (Sum.inr (Sum.inr (Sum.inr ((0,([]:List UInt8),([]:List (List (Int×Int))),([]:List Int),0,(([]:List Int),([]:List Int))),w64 (s5.1+(1:Int)),2))))
   | Sum.inr t16=>some t16:Option (Int×(List UInt8)×(List (List (Int×Int)))×(List Int)×Int×(List Int)×(List Int)⊕(Int×Int×(List UInt8)×(List (List (Int×Int)))×(List Int)×Int×(List Int)×(List Int)⊕(Int×(List UInt8)×(List (List (Int×Int)))×(List Int)×Int×(List Int)×(List Int)⊕((Int×(List UInt8)×(List (List (Int×Int)))×(List Int)×Int×((List Int)×(List Int)))×Int×Int)))))).bind fun z17=>
  match z17 with
  | Sum.inl s6=>
   some (Sum.inl (w64 (s5.1+(1:Int)),s6.1,s6.2.1,s6.2.2.1,s6.2.2.2.1,s6.2.2.2.2.1,s6.2.2.2.2.2.1,s6.2.2.2.2.2.2))
  | Sum.inr t18=>some t18
 else
  some (Sum.inr (Sum.inl (s5.2.1,s5.2.2.1,s5.2.2.2.1,s5.2.2.2.2.1,s5.2.2.2.2.2.1,s5.2.2.2.2.2.2.1,s5.2.2.2.2.2.2.2)))
def report_Parse (x0:(List (List UInt8))):Option ((Int×(List UInt8)×(List (List (Int×Int)))×(List Int)×Int×((List Int)×(List Int)))×Int×Int):=
 bif (x0.length:Int)==(0:Int) then
  some ((0,([]:List UInt8),([]:List (List (Int×Int))),([]:List Int),0,(([]:List Int),([]:List Int))),0,3)
 else
  (idx x0 (0:Int)).bind fun _=>
  (idx x0 (0:Int)).bind fun v2=>
  (report_first v2).bind fun r3=>
  bif !r3.2 then
   some ((0,([]:List UInt8),([]:List (List (Int×Int))),([]:List Int),0,(([]:List Int),([]:List Int))),0,2)
  else
   ((
    chk (decide (0≤(1:Int)∧(1:Int)≤(x0.length:Int)∧(x0.length:Int)≤x0.length)) (
     Itr.it (report_Parse_loop1 x0) (0,r3.1.1,r3.1.2.1,r3.1.2.2.1,r3.1.2.2.2.1,r3.1.2.2.2.2.1,r3.1.2.2.2.2.2.1,r3.1.2.2.2.2.2.2)):Option (Int×(List UInt8)×(List (List (Int×Int)))×(List Int)×Int×(List Int)×(List Int)⊕((Int×(List UInt8)×(List (List (Int×Int)))×(List Int)×Int×((List Int)×(List Int)))×Int×Int)))).bind fun z20=>
   match z20 with
   | Sum.inl s4=>
    (report_proper (s4.1,s4.2.1,s4.2.2.1,s4.2.2.2.1,s4.2.2.2.2.1,(s4.2.2.2.2.2.1,s4.2.2.2.2.2.2))).bind fun r19=>
    bif !r19 then
     some ((0,([]:List UInt8),([]:List (List (Int×Int))),([]:List Int),0,(([]:List Int),([]:List Int))),(x0.length:Int),3)
    else
     some ((s4.1,s4.2.1,s4.2.2.1,s4.2.2.2.1,s4.2.2.2.2.1,(s4.2.2.2.2.2.1,s4.2.2.2.2.2.2)),(x0.length:Int),0)
   | Sum.inr t21=>some t21
def report_Cost_loop1 (x0:(List (Int×Int×((List Int)×(List UInt8)×(Int×Int×Int)×Int)×(Int×(List UInt8)×Int×(Int×Int×Int)×(List Int))×(List UInt8)))) (s2:Int×Int×Int×Int):Option ((Int×Int×Int×Int)⊕(Int×Int×Int)):=
 bif decide (s2.1<(x0.length:Int)) then
  (idx x0 s2.1).bind fun _=>
  (idx x0 s2.1).bind fun v4=>
  some (Sum.inl (w64 (s2.1+(1:Int)),w64 (s2.2.1+v4.2.2.2.1.2.2.2.1.1),w64 (s2.2.2.1+v4.2.2.2.1.2.2.2.1.2.1),w64 (s2.2.2.2+v4.2.2.2.1.2.2.2.1.2.2)))
 else
  some (Sum.inr (s2.2.1,s2.2.2.1,s2.2.2.2))
def report_Cost (x0:(List (Int×Int×((List Int)×(List UInt8)×(Int×Int×Int)×Int)×(Int×(List UInt8)×Int×(Int×Int×Int)×(List Int))×(List UInt8)))):Option (List UInt8):=
 ((
  Itr.it (report_Cost_loop1 x0) (0,0,0,0):Option (Int×Int×Int))).bind fun s1=>
 (report_printed_int [(x0.length:Int),s1.1,s1.2.1,s1.2.2]).bind fun r5=>
 (idx r5 (0:Int)).bind fun _=>
 (idx r5 (0:Int)).bind fun v7=>
 chk (decide (S_it_cost_ee99.length+v7.length≤9223372036854775807)) (
  chk (decide ((S_it_cost_ee99++v7).length+S_runs_285b.length≤9223372036854775807)) (
   (idx r5 (1:Int)).bind fun _=>
   (idx r5 (1:Int)).bind fun v9=>
   chk (decide (((S_it_cost_ee99++v7)++S_runs_285b).length+v9.length≤9223372036854775807)) (
    chk (decide ((((S_it_cost_ee99++v7)++S_runs_285b)++v9).length+S_steps_d8c5.length≤9223372036854775807)) (
     (idx r5 (2:Int)).bind fun _=>
     (idx r5 (2:Int)).bind fun v11=>
     chk (decide (((((S_it_cost_ee99++v7)++S_runs_285b)++v9)++S_steps_d8c5).length+v11.length≤9223372036854775807)) (
      chk (decide ((((((S_it_cost_ee99++v7)++S_runs_285b)++v9)++S_steps_d8c5)++v11).length+S_allocations_a_c960.length≤9223372036854775807)) (
       (idx r5 (3:Int)).bind fun _=>
       (idx r5 (3:Int)).bind fun v13=>
       chk (decide (((((((S_it_cost_ee99++v7)++S_runs_285b)++v9)++S_steps_d8c5)++v11)++S_allocations_a_c960).length+v13.length≤9223372036854775807)) (
        chk (decide ((((((((S_it_cost_ee99++v7)++S_runs_285b)++v9)++S_steps_d8c5)++v11)++S_allocations_a_c960)++v13).length+S_waits_f3ea.length≤9223372036854775807)) (
         some ((((((((S_it_cost_ee99++v7)++S_runs_285b)++v9)++S_steps_d8c5)++v11)++S_allocations_a_c960)++v13)++S_waits_f3ea)))))))))
def culpritlaw37_lives  : Option Bool:=
 (report_Print (2,S_t_e3b9,[[(0,1)],[(0,2),(1,0)]],[1,0,2],0,([1],[2]))).bind fun r1=>
 (report_Print (5,S_t_e3b9,([]:List (List (Int×Int))),([]:List Int),2,([1],([]:List Int)))).bind fun r2=>
 (report_Facts (2,S_t_e3b9,[[(0,1)],[(0,2),(1,0)]],[1,0,2],0,([1],[2]))).bind fun r3=>
 (bif !(bif bif r1.2 != (0:Int) then true else r2.2 != (0:Int) then true else r3.2 != (0:Int)) then culpritref01_SameTexts r1.1 [S_t_is_broken_20b9,S_the_edit_0_1_i_47a1,S_the_edits_0_2_53b2,S_it_fails_with_ab0d,S_it_shows_by_th_8de0] else some false).bind fun r4=>
 (bif !(bif bif bif r1.2 != (0:Int) then true else r2.2 != (0:Int) then true else r3.2 != (0:Int) then true else !r4) then culpritref01_SameTexts r2.1 [S_t_fails_on_mac_4a24,S_it_fails_with_59d0] else some false).bind fun r5=>
 (bif !(bif bif bif bif r1.2 != (0:Int) then true else r2.2 != (0:Int) then true else r3.2 != (0:Int) then true else !r4 then true else !r5) then culpritref01_SameTexts r3.1 [S_verdict_t_guil_2055,S_set_0_1_e859,S_set_0_2_1_0_132b,S_measure_1_2_45f1,S_word_1_0_2_75c4] else some false).bind fun r6=>
 bif bif bif bif bif bif r1.2 != (0:Int) then true else r2.2 != (0:Int) then true else r3.2 != (0:Int) then true else !r4 then true else !r5 then true else !r6 then
  some false
 else
  chk (decide (0≤(2:Int)∧(2:Int)≤[S_t_is_broken_20b9,S_the_edit_0_1_i_47a1,S_the_edits_0_2_53b2,S_it_fails_with_ab0d,S_it_shows_by_th_8de0].length)) (
   (report_Parse ([S_t_is_broken_20b9,S_the_edit_0_1_i_47a1,S_the_edits_0_2_53b2,S_it_fails_with_ab0d,S_it_shows_by_th_8de0].take (2:Int).toNat)).bind fun r7=>
   (idx [S_t_is_broken_20b9,S_the_edit_0_1_i_47a1,S_the_edits_0_2_53b2,S_it_fails_with_ab0d,S_it_shows_by_th_8de0] (0:Int)).bind fun _=>
   (idx [S_t_is_broken_20b9,S_the_edit_0_1_i_47a1,S_the_edits_0_2_53b2,S_it_fails_with_ab0d,S_it_shows_by_th_8de0] (0:Int)).bind fun v9=>
   (idx [S_t_is_broken_20b9,S_the_edit_0_1_i_47a1,S_the_edits_0_2_53b2,S_it_fails_with_ab0d,S_it_shows_by_th_8de0] (1:Int)).bind fun _=>
   (idx [S_t_is_broken_20b9,S_the_edit_0_1_i_47a1,S_the_edits_0_2_53b2,S_it_fails_with_ab0d,S_it_shows_by_th_8de0] (1:Int)).bind fun v11=>
   (report_Parse [v9,v11,S_it_shows_by_th_28f2]).bind fun r12=>
   (bif (bif bif bif r7.2.1==(2:Int) then r7.2.2==(3:Int) else false then r12.2.1==(2:Int) else false then r12.2.2==(2:Int) else false) then report_Cost ([]:List (Int×Int×((List Int)×(List UInt8)×(Int×Int×Int)×Int)×(Int×(List UInt8)×Int×(Int×Int×Int)×(List Int))×(List UInt8))) else some ([]:List UInt8)).bind fun r13=>
   some (bif bif bif bif r7.2.1==(2:Int) then r7.2.2==(3:Int) else false then r12.2.1==(2:Int) else false then r12.2.2==(2:Int) else false then r13==S_it_cost_0_runs_eb40 else false))
def culpritref01_Around (x0:Int) (x1:Int):Option Int:=
 ((
  bif decide (x0<(0:Int)) then
   some (w64 (0 - (w64 (x0+(1:Int)))))
  else
   some x0:Option Int)).bind fun s1=>
 chk (!(x1==0)) (
  some (Int.tmod s1 x1))
def culpritref01_At (x0:(List Int)) (x1:Int) (x2:Int):Option Int:=
 bif bif decide (x1<(0:Int)) then true else decide ((x0.length:Int)≤x1) then
  some 0
 else
  (idx x0 x1).bind fun _=>
  (idx x0 x1).bind fun v2=>
  (culpritref01_Around v2 x2).bind fun r3=>
  some r3
def culpritref22_SameNames_loop1 (x0:(List (Int×Int))) (x1:(List (Int×Int))) (s2:Int):Option ((Int)⊕(Unit⊕Bool)):=
 bif decide (s2<(x0.length:Int)) then
  (idx x0 s2).bind fun _=>
  (idx x0 s2).bind fun v4=>
  (idx x1 s2).bind fun _=>
  (idx x1 s2).bind fun v6=>
  bif !(v4.1==v6.1&&(v4.2==v6.2&&true)) then
   some (Sum.inr (Sum.inr false))
  else
   some (Sum.inl (w64 (s2+(1:Int))))
 else
  some (Sum.inr (Sum.inl ()))
def culpritref22_SameNames (x0:(List (Int×Int))) (x1:(List (Int×Int))):Option Bool:=
 bif (x0.length:Int) != (x1.length:Int) then
  some false
 else
  ((
   Itr.it (culpritref22_SameNames_loop1 x0 x1) 0:Option (Unit⊕Bool))).bind fun z7=>
  match z7 with
  | Sum.inl _=>
   some true
  | Sum.inr t8=>some t8
def culpritref05_Trim_loop1 (x0:(List Int)) (s2:Int):Option ((Int)⊕(Int)):=
 (bif (decide ((0:Int)<s2)) then idx x0 (w64 (s2 - (1:Int))) else some (0:Int)).bind fun _=>
 (bif (decide ((0:Int)<s2)) then idx x0 (w64 (s2 - (1:Int))) else some (0:Int)).bind fun v4=>
 bif bif decide ((0:Int)<s2) then v4==(0:Int) else false then
  some (Sum.inl (w64 (s2 - (1:Int))))
 else
  some (Sum.inr s2)
def culpritref05_Trim (x0:(List Int)):Option (List Int):=
 ((
  Itr.it (culpritref05_Trim_loop1 x0) (x0.length:Int):Option Int)).bind fun s1=>
 chk (decide (0≤(0:Int)∧(0:Int)≤s1∧s1≤x0.length)) (
  chk (appOk ([]:List Int).length ((x0.take s1.toNat).drop (0:Int).toNat).length 4) (
   some (([]:List Int)++((x0.take s1.toNat).drop (0:Int).toNat))))
def culpritref05_Whole (x0:Int):Option (List Int):=
 chk (decide (0≤(32:Int))) (
  (culpritref05_Trim [IntKind.u32.wrap x0,IntKind.u32.wrap (shrI .i64 x0 (32:Int))]).bind fun r1=>
  some r1)
def culpritref05_limb (x0:(List Int)) (x1:Int):Option Int:=
 bif decide (x1<(x0.length:Int)) then
  (idx x0 x1).bind fun _=>
  (idx x0 x1).bind fun v2=>
  some (IntKind.u64.wrap v2)
 else
  some 0
def culpritref05_odd (x0:(List Int)):Option Bool:=
 (culpritref05_limb x0 0).bind fun r1=>
 chk (!((2:Int)==0)) (
  some ((Int.tmod r1 (2:Int))==(1:Int)))
def culpritref05_half_loop1 (x0:(List Int)) (s2:(List Int)×Int):Option (((List Int)×Int)⊕((List Int))):=
 bif decide (s2.2<(x0.length:Int)) then
  (idx s2.1 s2.2).bind fun _=>
  (idx s2.1 s2.2).bind fun v4=>
  chk (decide (0≤(1:Int))) (
   (culpritref05_limb s2.1 (w64 (s2.2+(1:Int)))).bind fun r5=>
   chk (decide (0≤(31:Int))) (
    (idx s2.1 s2.2).bind fun _=>
    (idx s2.1 s2.2).bind fun _=>
    some (Sum.inl (s2.1.set s2.2.toNat (bitI .or .u32 (shrI .u32 v4 (1:Int)) (IntKind.u32.wrap (shlI .u64 r5 (31:Int)))),w64 (s2.2+(1:Int))))))
 else
  some (Sum.inr s2.1)
def culpritref05_half_loop2 (s1:((List Int))) (s9:Int):Option ((Int)⊕(Int)):=
 (bif (decide ((0:Int)<s9)) then idx s1 (w64 (s9 - (1:Int))) else some (0:Int)).bind fun _=>
 (bif (decide ((0:Int)<s9)) then idx s1 (w64 (s9 - (1:Int))) else some (0:Int)).bind fun v11=>
 bif bif decide ((0:Int)<s9) then v11==(0:Int) else false then
  some (Sum.inl (w64 (s9 - (1:Int))))
 else
  some (Sum.inr s9)
def culpritref05_half (x0:(List Int)):Option (List Int):=
 ((
  Itr.it (culpritref05_half_loop1 x0) (x0,0):Option (List Int))).bind fun s1=>
 ((
  Itr.it (culpritref05_half_loop2 s1) (x0.length:Int):Option Int)).bind fun s8=>
 chk (decide (0≤s8∧s8≤s1.length)) (
  some (s1.take s8.toNat))
def culpritref05_Compare_loop1 (x0:(List Int)) (x1:(List Int)) (s2:Int):Option ((Int)⊕(Unit⊕Int)):=
 bif decide ((0:Int)≤s2) then
  (culpritref05_limb x0 s2).bind fun r3=>
  (culpritref05_limb x1 s2).bind fun r4=>
  bif decide (r3<r4) then
   some (Sum.inr (Sum.inr (-1)))
  else
   (culpritref05_limb x0 s2).bind fun r5=>
   (culpritref05_limb x1 s2).bind fun r6=>
   bif decide (r6<r5) then
    some (Sum.inr (Sum.inr 1))
   else
    some (Sum.inl (w64 (s2 - (1:Int))))
 else
  some (Sum.inr (Sum.inl ()))
def culpritref05_Compare (x0:(List Int)) (x1:(List Int)):Option Int:=
 ((
  Itr.it (culpritref05_Compare_loop1 x0 x1) (w64 ((if (x1.length:Int) > (x0.length:Int) then (x1.length:Int) else (x0.length:Int)) - (1:Int))):Option (Unit⊕Int))).bind fun z7=>
 match z7 with
 | Sum.inl _=>
  some 0
 | Sum.inr t8=>some t8
def culpritref05_take_loop1 (x1:(List Int)) (s2:(List Int)×Int×Int):Option (((List Int)×Int×Int)⊕((List Int))):=
 bif decide (s2.2.2<(s2.1.length:Int)) then
  (idx s2.1 s2.2.2).bind fun _=>
  (idx s2.1 s2.2.2).bind fun v4=>
  (culpritref05_limb x1 s2.2.2).bind fun r5=>
  (idx s2.1 s2.2.2).bind fun _=>
  (idx s2.1 s2.2.2).bind fun _=>
  chk (decide (0≤(32:Int))) (
   some (Sum.inl (s2.1.set s2.2.2.toNat (IntKind.u32.wrap (IntKind.u64.wrap ((IntKind.u64.wrap ((IntKind.u64.wrap ((IntKind.u64.wrap v4)+(4294967296:Int))) - r5)) - s2.2.1))),IntKind.u64.wrap ((1:Int) - (shrI .u64 (IntKind.u64.wrap ((IntKind.u64.wrap ((IntKind.u64.wrap ((IntKind.u64.wrap v4)+(4294967296:Int))) - r5)) - s2.2.1)) (32:Int))),w64 (s2.2.2+(1:Int)))))
 else
  some (Sum.inr s2.1)
def culpritref05_take_loop2 (s1:((List Int))) (s9:Int):Option ((Int)⊕(Int)):=
 (bif (decide ((0:Int)<s9)) then idx s1 (w64 (s9 - (1:Int))) else some (0:Int)).bind fun _=>
 (bif (decide ((0:Int)<s9)) then idx s1 (w64 (s9 - (1:Int))) else some (0:Int)).bind fun v11=>
 bif bif decide ((0:Int)<s9) then v11==(0:Int) else false then
  some (Sum.inl (w64 (s9 - (1:Int))))
 else
  some (Sum.inr s9)
def culpritref05_take (x0:(List Int)) (x1:(List Int)):Option (List Int):=
 ((
  Itr.it (culpritref05_take_loop1 x1) (x0,0,0):Option (List Int))).bind fun s1=>
 ((
  Itr.it (culpritref05_take_loop2 s1) (s1.length:Int):Option Int)).bind fun s8=>
 chk (decide (0≤s8∧s8≤s1.length)) (
  some (s1.take s8.toNat))
def culpritref05_Plus_loop1 (x0:(List Int)) (x1:(List Int)) (s2:(List Int)×Int×Int):Option (((List Int)×Int×Int)⊕((List Int))):=
 bif decide (s2.2.2<(w64 ((if (x1.length:Int) > (x0.length:Int) then (x1.length:Int) else (x0.length:Int))+(1:Int)))) then
  (culpritref05_limb x0 s2.2.2).bind fun r3=>
  (culpritref05_limb x1 s2.2.2).bind fun r4=>
  chk (appOk s2.1.length [IntKind.u32.wrap (IntKind.u64.wrap ((IntKind.u64.wrap (r3+r4))+s2.2.1))].length 4) (
   chk (decide (0≤(32:Int))) (
    some (Sum.inl (s2.1++[IntKind.u32.wrap (IntKind.u64.wrap ((IntKind.u64.wrap (r3+r4))+s2.2.1))],shrI .u64 (IntKind.u64.wrap ((IntKind.u64.wrap (r3+r4))+s2.2.1)) (32:Int),w64 (s2.2.2+(1:Int))))))
 else
  some (Sum.inr s2.1)
def culpritref05_Plus (x0:(List Int)) (x1:(List Int)):Option (List Int):=
 ((
  Itr.it (culpritref05_Plus_loop1 x0 x1) (([]:List Int),0,0):Option (List Int))).bind fun s1=>
 (culpritref05_Trim s1).bind fun r5=>
 some r5
def culpritref05_Common_loop1  (s4:Int×(List Int)×(List Int)):Option ((Int×(List Int)×(List Int))⊕(Int×(List Int)×(List Int))):=
 (bif (decide ((0:Int)<(s4.2.2.length:Int))) then culpritref05_odd s4.2.1 else some false).bind fun r5=>
 (bif (bif decide ((0:Int)<(s4.2.2.length:Int)) then !r5 else false) then culpritref05_odd s4.2.2 else some false).bind fun r6=>
 bif bif bif decide ((0:Int)<(s4.2.2.length:Int)) then !r5 else false then !r6 else false then
  (culpritref05_half s4.2.1).bind fun r7=>
  (culpritref05_half s4.2.2).bind fun r8=>
  some (Sum.inl (w64 (s4.1+(1:Int)),r7,r8))
 else
  some (Sum.inr (s4.1,s4.2.1,s4.2.2))
def culpritref05_Common_loop3  (s12:(List Int)):Option (((List Int))⊕((List Int))):=
 (culpritref05_odd s12).bind fun r13=>
 bif !r13 then
  (culpritref05_half s12).bind fun r14=>
  some (Sum.inl r14)
 else
  some (Sum.inr s12)
def culpritref05_Common_loop4  (s16:(List Int)):Option (((List Int))⊕((List Int))):=
 (culpritref05_odd s16).bind fun r17=>
 bif !r17 then
  (culpritref05_half s16).bind fun r18=>
  some (Sum.inl r18)
 else
  some (Sum.inr s16)
def culpritref05_Common_loop2  (s10:(List Int)×(List Int)):Option (((List Int)×(List Int))⊕((List Int))):=
 bif decide ((0:Int)<(s10.2.length:Int)) then
  ((
   Itr.it (culpritref05_Common_loop3) s10.1:Option (List Int))).bind fun s11=>
  ((
   Itr.it (culpritref05_Common_loop4) s10.2:Option (List Int))).bind fun s15=>
  ((
   (culpritref05_Compare s11 s15).bind fun r20=>
   bif decide ((0:Int)<r20) then
    some (s15,s11)
   else
    some (s11,s15):Option ((List Int)×(List Int)))).bind fun s19=>
  (culpritref05_take s19.2 s19.1).bind fun r21=>
  some (Sum.inl (s19.1,r21))
 else
  some (Sum.inr s10.1)
def culpritref05_Common_loop5 (s3:(Int×(List Int)×(List Int))) (s23:(List Int)×Int):Option (((List Int)×Int)⊕((List Int))):=
 bif decide (s23.2<s3.1) then
  (culpritref05_Plus s23.1 s23.1).bind fun r24=>
  some (Sum.inl (r24,w64 (s23.2+(1:Int))))
 else
  some (Sum.inr s23.1)
def culpritref05_Common (x0:(List Int)) (x1:(List Int)):Option (List Int):=
 (culpritref05_Trim x0).bind fun r1=>
 (culpritref05_Trim x1).bind fun r2=>
 ((
  Itr.it (culpritref05_Common_loop1) (0,r1,r2):Option (Int×(List Int)×(List Int)))).bind fun s3=>
 ((
  Itr.it (culpritref05_Common_loop2) (s3.2.1,s3.2.2):Option (List Int))).bind fun s9=>
 ((
  Itr.it (culpritref05_Common_loop5 s3) (s9,0):Option (List Int))).bind fun s22=>
 some s22
def culpritref05_one (x0:(List Int)):Option Bool:=
 (bif ((x0.length:Int)==(1:Int)) then idx x0 (0:Int) else some (0:Int)).bind fun _=>
 (bif ((x0.length:Int)==(1:Int)) then idx x0 (0:Int) else some (0:Int)).bind fun v2=>
 some (bif (x0.length:Int)==(1:Int) then v2==(1:Int) else false)
def culpritref05_Minus_loop1 (x0:(List Int)) (x1:(List Int)) (s2:(List Int)×Int×Int):Option (((List Int)×Int×Int)⊕((List Int))):=
 bif decide (s2.2.2<(x0.length:Int)) then
  (culpritref05_limb x0 s2.2.2).bind fun r3=>
  (culpritref05_limb x1 s2.2.2).bind fun r4=>
  chk (appOk s2.1.length [IntKind.u32.wrap (IntKind.u64.wrap ((IntKind.u64.wrap ((IntKind.u64.wrap (r3+(4294967296:Int))) - r4)) - s2.2.1))].length 4) (
   chk (decide (0≤(32:Int))) (
    some (Sum.inl (s2.1++[IntKind.u32.wrap (IntKind.u64.wrap ((IntKind.u64.wrap ((IntKind.u64.wrap (r3+(4294967296:Int))) - r4)) - s2.2.1))],IntKind.u64.wrap ((1:Int) - (shrI .u64 (IntKind.u64.wrap ((IntKind.u64.wrap ((IntKind.u64.wrap (r3+(4294967296:Int))) - r4)) - s2.2.1)) (32:Int))),w64 (s2.2.2+(1:Int))))))
 else
  some (Sum.inr s2.1)
def culpritref05_Minus (x0:(List Int)) (x1:(List Int)):Option (List Int):=
 ((
  Itr.it (culpritref05_Minus_loop1 x0 x1) (([]:List Int),0,0):Option (List Int))).bind fun s1=>
 (culpritref05_Trim s1).bind fun r5=>
 some r5
def culpritref05_Quotient_loop1 (x0:(List Int)) (x1:(List Int)) (s2:(List Int)×(List Int)×Int):Option (((List Int)×(List Int)×Int)⊕((List Int)×(List Int))):=
 bif decide ((0:Int)≤s2.2.2) then
  ((
   chk (!((32:Int)==0)) (
    (idx x0 (w64 (Int.tdiv s2.2.2 (32:Int)))).bind fun _=>
    (idx x0 (w64 (Int.tdiv s2.2.2 (32:Int)))).bind fun v5=>
    chk (!((32:Int)==0)) (
     chk (decide (0≤(IntKind.u64.wrap (Int.tmod s2.2.2 (32:Int))))) (
      (culpritref05_Plus s2.2.1 s2.2.1).bind fun r6=>
      (culpritref05_Whole (w64 (bitI .and .u32 (shrI .u32 v5 (IntKind.u64.wrap (Int.tmod s2.2.2 (32:Int)))) (1:Int)))).bind fun r7=>
      (culpritref05_Plus r6 r7).bind fun r8=>
      (culpritref05_Compare r8 x1).bind fun r9=>
      bif decide ((0:Int)≤r9) then
       (culpritref05_Minus r8 x1).bind fun r10=>
       chk (!((32:Int)==0)) (
        chk (!((32:Int)==0)) (
         (idx s2.1 (w64 (Int.tdiv s2.2.2 (32:Int)))).bind fun _=>
         (idx s2.1 (w64 (Int.tdiv s2.2.2 (32:Int)))).bind fun v12=>
         chk (!((32:Int)==0)) (
          chk (decide (0≤(IntKind.u64.wrap (Int.tmod s2.2.2 (32:Int))))) (
           (idx s2.1 (w64 (Int.tdiv s2.2.2 (32:Int)))).bind fun _=>
           (idx s2.1 (w64 (Int.tdiv s2.2.2 (32:Int)))).bind fun _=>
           some (s2.1.set (w64 (Int.tdiv s2.2.2 (32:Int))).toNat (bitI .or .u32 v12 (shlI .u32 (1:Int) (IntKind.u64.wrap (Int.tmod s2.2.2 (32:Int))))),r10)))))
      else
       some (s2.1,r8)))):Option ((List Int)×(List Int)))).bind fun s3=>
  some (Sum.inl (s3.1,s3.2,w64 (s2.2.2 - (1:Int))))
 else
  some (Sum.inr (s2.1,s2.2.1))
def culpritref05_Quotient (x0:(List Int)) (x1:(List Int)):Option ((List Int)×(List Int)):=
 chk (decide (0≤(x0.length:Int)∧(x0.length:Int) * 4≤281474976710656∧(x0.length:Int)≤maxLen)) (
  ((
   Itr.it (culpritref05_Quotient_loop1 x0 x1) (List.replicate (x0.length:Int).toNat (0:Int),([]:List Int),w64 ((w64 ((32:Int) * (x0.length:Int))) - (1:Int))):Option ((List Int)×(List Int)))).bind fun s1=>
  (culpritref05_Trim s1.1).bind fun r15=>
  some (r15,s1.2))
def culpritref05_Reduced (x0:(List Int)) (x1:(List Int)):Option (((List Int)×(List Int))×Int):=
 bif (x0.length:Int)==(0:Int) then
  some ((([]:List Int),([]:List Int)),0)
 else
  (culpritref05_Common x1 x0).bind fun r1=>
  ((
   (culpritref05_one r1).bind fun r3=>
   bif !r3 then
    (culpritref05_Quotient x0 r1).bind fun r4=>
    (culpritref05_Quotient x1 r1).bind fun r5=>
    some (r4.1,r5.1)
   else
    some (x0,x1):Option ((List Int)×(List Int)))).bind fun s2=>
  ((
   (culpritref05_one s2.2).bind fun r7=>
   bif r7 then
    some ([]:List Int)
   else
    some s2.2:Option (List Int))).bind fun s6=>
  bif bif decide ((64:Int)<(s2.1.length:Int)) then true else decide ((64:Int)<(s6.length:Int)) then
   some ((([]:List Int),([]:List Int)),4)
  else
   some ((s2.1,s6),0)
def culpritref05_Of (x0:Int) (x1:Int):Option (((List Int)×(List Int))×Int):=
 bif bif decide (x0<(0:Int)) then true else decide (x1≤(0:Int)) then
  some ((([]:List Int),([]:List Int)),5)
 else
  (culpritref05_Whole x0).bind fun r1=>
  (culpritref05_Whole x1).bind fun r2=>
  (culpritref05_Reduced r1 r2).bind fun r3=>
  some ((r3.1.1,r3.1.2),r3.2)
def culpritref37_Made_loop2 (x0:(List Int)) (s8:(Int×Int×(List UInt8)×(List (List (Int×Int)))×(List Int)×Int×(List Int)×(List Int))) (s12:(List (Int×Int))×Int):Option (((List (Int×Int))×Int)⊕((List (Int×Int)))):=
 (culpritref01_At x0 (w64 ((4:Int)+s8.1)) 5).bind fun r13=>
 bif decide (s12.2<r13) then
  (culpritref01_At x0 (w64 ((8:Int)+s8.1)) 4).bind fun r14=>
  (culpritref01_At x0 (w64 ((12:Int)+s8.1)) 14).bind fun r15=>
  chk (appOk s12.1.length [(r14,w64 ((w64 ((16:Int) * s12.2))+r15))].length 16) (
   some (Sum.inl (s12.1++[(r14,w64 ((w64 ((16:Int) * s12.2))+r15))],w64 (s12.2+(1:Int)))))
 else
  some (Sum.inr s12.1)
def culpritref37_Made_loop3 (s8:(Int×Int×(List UInt8)×(List (List (Int×Int)))×(List Int)×Int×(List Int)×(List Int))) (s11:((List (Int×Int)))) (s17:Bool×Int):Option ((Bool×Int)⊕(Bool)):=
 bif decide (s17.2<(s8.2.2.2.1.length:Int)) then
  (bif !s17.1 then idx s8.2.2.2.1 s17.2 else some ([]:List (Int×Int))).bind fun _=>
  (bif !s17.1 then idx s8.2.2.2.1 s17.2 else some ([]:List (Int×Int))).bind fun v19=>
  (bif !s17.1 then culpritref22_SameNames v19 s11 else some false).bind fun r20=>
  some (Sum.inl (bif s17.1 then true else r20,w64 (s17.2+(1:Int))))
 else
  some (Sum.inr s17.1)
def culpritref37_Made_loop1 (x0:(List Int)) (s8:Int×Int×(List UInt8)×(List (List (Int×Int)))×(List Int)×Int×(List Int)×(List Int)):Option ((Int×Int×(List UInt8)×(List (List (Int×Int)))×(List Int)×Int×(List Int)×(List Int))⊕(Int×(List UInt8)×(List (List (Int×Int)))×(List Int)×Int×(List Int)×(List Int))):=
 (culpritref01_At x0 3 4).bind fun r9=>
 bif decide (s8.1≤r9) then
  ((
   ((
    Itr.it (culpritref37_Made_loop2 x0 s8) (([]:List (Int×Int)),0):Option (List (Int×Int)))).bind fun s11=>
   ((
    Itr.it (culpritref37_Made_loop3 s8 s11) (false,0):Option Bool)).bind fun s16=>
   bif !s16 then
    chk (appOk s8.2.2.2.1.length [s11].length 24) (
     some (s8.2.1,s8.2.2.1,s8.2.2.2.1++[s11],s8.2.2.2.2.1,s8.2.2.2.2.2.1,s8.2.2.2.2.2.2.1,s8.2.2.2.2.2.2.2))
   else
    some (s8.2.1,s8.2.2.1,s8.2.2.2.1,s8.2.2.2.2.1,s8.2.2.2.2.2.1,s8.2.2.2.2.2.2.1,s8.2.2.2.2.2.2.2):Option (Int×(List UInt8)×(List (List (Int×Int)))×(List Int)×Int×(List Int)×(List Int)))).bind fun s10=>
  some (Sum.inl (w64 (s8.1+(1:Int)),s10.1,s10.2.1,s10.2.2.1,s10.2.2.2.1,s10.2.2.2.2.1,s10.2.2.2.2.2.1,s10.2.2.2.2.2.2))
 else
  some (Sum.inr (s8.2.1,s8.2.2.1,s8.2.2.2.1,s8.2.2.2.2.1,s8.2.2.2.2.2.1,s8.2.2.2.2.2.2.1,s8.2.2.2.2.2.2.2))
def culpritref37_Made_loop4 (x0:(List Int)) (s27:Int×Int×(List UInt8)×(List (List (Int×Int)))×(List Int)×Int×(List Int)×(List Int)):Option ((Int×Int×(List UInt8)×(List (List (Int×Int)))×(List Int)×Int×(List Int)×(List Int))⊕(Int×(List UInt8)×(List (List (Int×Int)))×(List Int)×Int×(List Int)×(List Int))):=
 (culpritref01_At x0 18 5).bind fun r28=>
 bif decide (s27.1<r28) then
  (culpritref01_At x0 (w64 ((19:Int)+s27.1)) 12).bind fun r29=>
  (culpritref01_At x0 (w64 ((19:Int)+s27.1)) 83).bind fun r30=>
  chk (appOk s27.2.2.2.2.1.length [w64 (r29 * r30)].length 8) (
   some (Sum.inl (w64 (s27.1+(1:Int)),s27.2.1,s27.2.2.1,s27.2.2.2.1,s27.2.2.2.2.1++[w64 (r29 * r30)],s27.2.2.2.2.2.1,s27.2.2.2.2.2.2.1,s27.2.2.2.2.2.2.2)))
 else
  some (Sum.inr (s27.2.1,s27.2.2.1,s27.2.2.2.1,s27.2.2.2.2.1,s27.2.2.2.2.2.1,s27.2.2.2.2.2.2.1,s27.2.2.2.2.2.2.2))
def culpritref37_Made (x0:(List Int)):Option (Int×(List UInt8)×(List (List (Int×Int)))×(List Int)×Int×((List Int)×(List Int))):=
 (culpritref01_At x0 0 6).bind fun r1=>
 (culpritref01_At x0 1 5).bind fun r2=>
 (idx [S_t0_512f,S_t_e3b9,S_is_fa51,S_the_b977,S_abcdefghijklmn_f39d] r2).bind fun _=>
 (idx [S_t0_512f,S_t_e3b9,S_is_fa51,S_the_b977,S_abcdefghijklmn_f39d] r2).bind fun v4=>
 ((
  bif r1==(5:Int) then
   (culpritref01_At x0 2 4).bind fun r6=>
   some (r1,v4,([]:List (List (Int×Int))),([]:List Int),r6,([]:List Int),([]:List Int))
  else
   some (r1,v4,([]:List (List (Int×Int))),([]:List Int),0,([]:List Int),([]:List Int)):Option (Int×(List UInt8)×(List (List (Int×Int)))×(List Int)×Int×(List Int)×(List Int)))).bind fun s5=>
 ((
  bif bif s5.1==(2:Int) then true else s5.1==(4:Int) then
   Itr.it (culpritref37_Made_loop1 x0) (0,s5.1,s5.2.1,s5.2.2.1,s5.2.2.2.1,s5.2.2.2.2.1,s5.2.2.2.2.2.1,s5.2.2.2.2.2.2)
  else
   some (s5.1,s5.2.1,s5.2.2.1,s5.2.2.2.1,s5.2.2.2.2.1,s5.2.2.2.2.2.1,s5.2.2.2.2.2.2):Option (Int×(List UInt8)×(List (List (Int×Int)))×(List Int)×Int×(List Int)×(List Int)))).bind fun s7=>
 ((
  bif bif bif s7.1==(2:Int) then true else s7.1==(3:Int) then true else s7.1==(5:Int) then
   (culpritref01_At x0 16 40).bind fun r22=>
   (culpritref01_At x0 17 (w64 ((1:Int)+r22))).bind fun r23=>
   (culpritref05_Of (w64 ((1:Int)+r23)) (w64 ((1:Int)+r22))).bind fun r24=>
   some (s7.1,s7.2.1,s7.2.2.1,s7.2.2.2.1,s7.2.2.2.2.1,r24.1.1,r24.1.2)
  else
   some (s7.1,s7.2.1,s7.2.2.1,s7.2.2.2.1,s7.2.2.2.2.1,s7.2.2.2.2.2.1,s7.2.2.2.2.2.2):Option (Int×(List UInt8)×(List (List (Int×Int)))×(List Int)×Int×(List Int)×(List Int)))).bind fun s21=>
 ((
  bif bif s21.1==(2:Int) then true else s21.1==(3:Int) then
   ((
    Itr.it (culpritref37_Made_loop4 x0) (0,s21.1,s21.2.1,s21.2.2.1,s21.2.2.2.1,s21.2.2.2.2.1,s21.2.2.2.2.2.1,s21.2.2.2.2.2.2):Option (Int×(List UInt8)×(List (List (Int×Int)))×(List Int)×Int×(List Int)×(List Int)))).bind fun s26=>
   bif decide ((0:Int)<(s26.2.2.2.1.length:Int)) then
    (idx s26.2.2.2.1 (w64 ((s26.2.2.2.1.length:Int) - (1:Int)))).bind fun _=>
    (idx s26.2.2.2.1 (w64 ((s26.2.2.2.1.length:Int) - (1:Int)))).bind fun v32=>
    (idx s26.2.2.2.1 (w64 ((s26.2.2.2.1.length:Int) - (1:Int)))).bind fun _=>
    (idx s26.2.2.2.1 (w64 ((s26.2.2.2.1.length:Int) - (1:Int)))).bind fun _=>
    some (s26.1,s26.2.1,s26.2.2.1,s26.2.2.2.1.set (w64 ((s26.2.2.2.1.length:Int) - (1:Int))).toNat (w64 (v32+(1:Int))),s26.2.2.2.2.1,s26.2.2.2.2.2.1,s26.2.2.2.2.2.2)
   else
    some (s26.1,s26.2.1,s26.2.2.1,s26.2.2.2.1,s26.2.2.2.2.1,s26.2.2.2.2.2.1,s26.2.2.2.2.2.2)
  else
   some (s21.1,s21.2.1,s21.2.2.1,s21.2.2.2.1,s21.2.2.2.2.1,s21.2.2.2.2.2.1,s21.2.2.2.2.2.2):Option (Int×(List UInt8)×(List (List (Int×Int)))×(List Int)×Int×(List Int)×(List Int)))).bind fun s25=>
 some (s25.1,s25.2.1,s25.2.2.1,s25.2.2.2.1,s25.2.2.2.2.1,(s25.2.2.2.2.2.1,s25.2.2.2.2.2.2))
def culpritlaw37_verdicts_loop1 (x0:(List Int)) (x1:Int) (s2:(List (Int×(List UInt8)×(List (List (Int×Int)))×(List Int)×Int×((List Int)×(List Int))))×Int):Option (((List (Int×(List UInt8)×(List (List (Int×Int)))×(List Int)×Int×((List Int)×(List Int))))×Int)⊕((List (Int×(List UInt8)×(List (List (Int×Int)))×(List Int)×Int×((List Int)×(List Int)))))):=
 bif decide (s2.2<x1) then
  chk (decide (0≤(if (x0.length:Int)<(w64 ((3:Int) * s2.2)) then (x0.length:Int) else (w64 ((3:Int) * s2.2)))∧(if (x0.length:Int)<(w64 ((3:Int) * s2.2)) then (x0.length:Int) else (w64 ((3:Int) * s2.2)))≤(x0.length:Int)∧(x0.length:Int)≤x0.length)) (
   (culpritref37_Made ((x0.take (x0.length:Int).toNat).drop (if (x0.length:Int)<(w64 ((3:Int) * s2.2)) then (x0.length:Int) else (w64 ((3:Int) * s2.2))).toNat)).bind fun r3=>
   chk (appOk s2.1.length [(r3.1,r3.2.1,r3.2.2.1,r3.2.2.2.1,r3.2.2.2.2.1,(r3.2.2.2.2.2.1,r3.2.2.2.2.2.2))].length 128) (
    some (Sum.inl (s2.1++[(r3.1,r3.2.1,r3.2.2.1,r3.2.2.2.1,r3.2.2.2.2.1,(r3.2.2.2.2.2.1,r3.2.2.2.2.2.2))],w64 (s2.2+(1:Int))))))
 else
  some (Sum.inr s2.1)
def culpritlaw37_verdicts (x0:(List Int)) (x1:Int):Option (List (Int×(List UInt8)×(List (List (Int×Int)))×(List Int)×Int×((List Int)×(List Int)))):=
 ((
  Itr.it (culpritlaw37_verdicts_loop1 x0 x1) (([]:List (Int×(List UInt8)×(List (List (Int×Int)))×(List Int)×Int×((List Int)×(List Int)))),0):Option (List (Int×(List UInt8)×(List (List (Int×Int)))×(List Int)×Int×((List Int)×(List Int)))))).bind fun s1=>
 some s1
def culpritref37_Spoilt (x0:(Int×(List UInt8)×(List (List (Int×Int)))×(List Int)×Int×((List Int)×(List Int)))) (x1:Int) (x2:Int):Option (Int×(List UInt8)×(List (List (Int×Int)))×(List Int)×Int×((List Int)×(List Int))):=
 (culpritref01_Around x2 64).bind fun r1=>
 chk (!((6:Int)==0)) (
  chk (appOk ([]:List (List (Int×Int))).length x0.2.2.1.length 24) (
   chk (appOk ([]:List Int).length x0.2.2.2.1.length 8) (
    ((
     (culpritref01_Around x1 8).bind fun r3=>
     bif r3==(0:Int) then
      chk (!((9:Int)==0)) (
       some (w64 ((Int.tmod r1 (9:Int)) - (1:Int)),x0.2.1,([]:List (List (Int×Int)))++x0.2.2.1,([]:List Int)++x0.2.2.2.1,x0.2.2.2.2.1,x0.2.2.2.2.2.1,x0.2.2.2.2.2.2))
     else
      bif r3==(1:Int) then
       chk (!((6:Int)==0)) (
        (idx [([]:List UInt8),S_T_e632,S_a_b_c868,S_abcdefghijklmn_918a,S_9a_66e2,S_u_0bfe] (Int.tmod r1 (6:Int))).bind fun _=>
        (idx [([]:List UInt8),S_T_e632,S_a_b_c868,S_abcdefghijklmn_918a,S_9a_66e2,S_u_0bfe] (Int.tmod r1 (6:Int))).bind fun v5=>
        some (x0.1,v5,([]:List (List (Int×Int)))++x0.2.2.1,([]:List Int)++x0.2.2.2.1,x0.2.2.2.2.1,x0.2.2.2.2.2.1,x0.2.2.2.2.2.2))
      else
       bif r3==(2:Int) then
        chk (!((7:Int)==0)) (
         some (x0.1,x0.2.1,([]:List (List (Int×Int)))++x0.2.2.1,([]:List Int)++x0.2.2.2.1,w64 ((Int.tmod r1 (7:Int)) - (1:Int)),x0.2.2.2.2.2.1,x0.2.2.2.2.2.2))
       else
        bif r3==(3:Int) then
         chk (appOk (([]:List (List (Int×Int)))++x0.2.2.1).length [[(w64 ((Int.tmod r1 (6:Int)) - (1:Int)),w64 ((w64 (r1 * (3:Int))) - (60:Int)))]].length 24) (
          some (x0.1,x0.2.1,(([]:List (List (Int×Int)))++x0.2.2.1)++[[(w64 ((Int.tmod r1 (6:Int)) - (1:Int)),w64 ((w64 (r1 * (3:Int))) - (60:Int)))]],([]:List Int)++x0.2.2.2.1,x0.2.2.2.2.1,x0.2.2.2.2.2.1,x0.2.2.2.2.2.2))
        else
         bif r3==(4:Int) then
          bif decide ((0:Int)<((([]:List (List (Int×Int)))++x0.2.2.1).length:Int)) then
           chk (!(((([]:List (List (Int×Int)))++x0.2.2.1).length:Int)==0)) (
            (idx (([]:List (List (Int×Int)))++x0.2.2.1) (Int.tmod r1 ((([]:List (List (Int×Int)))++x0.2.2.1).length:Int))).bind fun _=>
            (idx (([]:List (List (Int×Int)))++x0.2.2.1) (Int.tmod r1 ((([]:List (List (Int×Int)))++x0.2.2.1).length:Int))).bind fun v7=>
            chk (appOk (([]:List (List (Int×Int)))++x0.2.2.1).length [v7].length 24) (
             some (x0.1,x0.2.1,(([]:List (List (Int×Int)))++x0.2.2.1)++[v7],([]:List Int)++x0.2.2.2.1,x0.2.2.2.2.1,x0.2.2.2.2.2.1,x0.2.2.2.2.2.2)))
          else
           some (x0.1,x0.2.1,([]:List (List (Int×Int)))++x0.2.2.1,([]:List Int)++x0.2.2.2.1,x0.2.2.2.2.1,x0.2.2.2.2.2.1,x0.2.2.2.2.2.2)
         else
          bif r3==(5:Int) then
           bif decide ((0:Int)<((([]:List (List (Int×Int)))++x0.2.2.1).length:Int)) then
            chk (!(((([]:List (List (Int×Int)))++x0.2.2.1).length:Int)==0)) (
             chk (!(((([]:List (List (Int×Int)))++x0.2.2.1).length:Int)==0)) (
              (idx (([]:List (List (Int×Int)))++x0.2.2.1) (Int.tmod r1 ((([]:List (List (Int×Int)))++x0.2.2.1).length:Int))).bind fun _=>
              (idx (([]:List (List (Int×Int)))++x0.2.2.1) (Int.tmod r1 ((([]:List (List (Int×Int)))++x0.2.2.1).length:Int))).bind fun v9=>
              chk (appOk ([]:List (Int×Int)).length v9.length 16) (
               chk (appOk (([]:List (Int×Int))++v9).length [(w64 ((Int.tmod r1 (6:Int)) - (1:Int)),w64 ((w64 (r1 * (3:Int))) - (60:Int)))].length 16) (
                (idx (([]:List (List (Int×Int)))++x0.2.2.1) (Int.tmod r1 ((([]:List (List (Int×Int)))++x0.2.2.1).length:Int))).bind fun _=>
                (idx (([]:List (List (Int×Int)))++x0.2.2.1) (Int.tmod r1 ((([]:List (List (Int×Int)))++x0.2.2.1).length:Int))).bind fun _=>
                some (x0.1,x0.2.1,(([]:List (List (Int×Int)))++x0.2.2.1).set (Int.tmod r1 ((([]:List (List (Int×Int)))++x0.2.2.1).length:Int)).toNat ((([]:List (Int×Int))++v9)++[(w64 ((Int.tmod r1 (6:Int)) - (1:Int)),w64 ((w64 (r1 * (3:Int))) - (60:Int)))]),([]:List Int)++x0.2.2.2.1,x0.2.2.2.2.1,x0.2.2.2.2.2.1,x0.2.2.2.2.2.2)))))
           else
            some (x0.1,x0.2.1,([]:List (List (Int×Int)))++x0.2.2.1,([]:List Int)++x0.2.2.2.1,x0.2.2.2.2.1,x0.2.2.2.2.2.1,x0.2.2.2.2.2.2)
          else
           bif r3==(6:Int) then
            chk (!((5:Int)==0)) (
             (idx [0,1,999,1000,-1] (Int.tmod r1 (5:Int))).bind fun _=>
             (idx [0,1,999,1000,-1] (Int.tmod r1 (5:Int))).bind fun v13=>
             chk (appOk (([]:List Int)++x0.2.2.2.1).length [v13].length 8) (
              some (x0.1,x0.2.1,([]:List (List (Int×Int)))++x0.2.2.1,(([]:List Int)++x0.2.2.2.1)++[v13],x0.2.2.2.2.1,x0.2.2.2.2.2.1,x0.2.2.2.2.2.2)))
           else
            chk (!((5:Int)==0)) (
             (idx [(([]:List Int),([]:List Int)),([1],([]:List Int)),([2],([]:List Int)),([2],[4]),([1],[3])] (Int.tmod r1 (5:Int))).bind fun _=>
             (idx [(([]:List Int),([]:List Int)),([1],([]:List Int)),([2],([]:List Int)),([2],[4]),([1],[3])] (Int.tmod r1 (5:Int))).bind fun v15=>
             some (x0.1,x0.2.1,([]:List (List (Int×Int)))++x0.2.2.1,([]:List Int)++x0.2.2.2.1,x0.2.2.2.2.1,v15.1,v15.2)):Option (Int×(List UInt8)×(List (List (Int×Int)))×(List Int)×Int×(List Int)×(List Int)))).bind fun s2=>
    some (s2.1,s2.2.1,s2.2.2.1,s2.2.2.2.1,s2.2.2.2.2.1,(s2.2.2.2.2.2.1,s2.2.2.2.2.2.2)))))
def report_Page (x0:(List (Int×(List UInt8)×(List (List (Int×Int)))×(List Int)×Int×((List Int)×(List Int))))):Option ((List UInt8)×Int):=
 xPage report_Print x0
def culpritref20_Named_loop1 (x0:(List UInt8)) (s2:Int):Option ((Int)⊕(Unit⊕Bool)):=
 bif decide (s2<(x0.length:Int)) then
  (idx x0 s2).bind fun v3=>
  (bif (decide ((97:Int)≤(v3.toNat:Int))) then idx x0 s2 else some 0).bind fun v4=>
  (idx x0 s2).bind fun v5=>
  (bif (decide ((48:Int)≤(v5.toNat:Int))) then idx x0 s2 else some 0).bind fun v6=>
  bif bif !(bif decide ((97:Int)≤(v3.toNat:Int)) then decide ((v4.toNat:Int)≤(122:Int)) else false) then bif s2==(0:Int) then true else !(bif decide ((48:Int)≤(v5.toNat:Int)) then decide ((v6.toNat:Int)≤(57:Int)) else false) else false then
   some (Sum.inr (Sum.inr false))
  else
   some (Sum.inl (w64 (s2+(1:Int))))
 else
  some (Sum.inr (Sum.inl ()))
def culpritref20_Named (x0:(List UInt8)):Option Bool:=
 bif bif decide ((x0.length:Int)<(1:Int)) then true else decide ((16:Int)<(x0.length:Int)) then
  some false
 else
  ((
   Itr.it (culpritref20_Named_loop1 x0) 0:Option (Unit⊕Bool))).bind fun z7=>
  match z7 with
  | Sum.inl _=>
   some true
  | Sum.inr t8=>some t8
def culpritref05_Valid (x0:((List Int)×(List Int))):Option Int:=
 bif bif decide ((64:Int)<(x0.1.length:Int)) then true else decide ((64:Int)<(x0.2.length:Int)) then
  some 4
 else
  (culpritref05_Trim x0.1).bind fun r1=>
  (bif ((r1.length:Int)==(x0.1.length:Int)) then culpritref05_Trim x0.2 else some ([]:List Int)).bind fun r2=>
  (bif !(!(bif (r1.length:Int)==(x0.1.length:Int) then (r2.length:Int)==(x0.2.length:Int) else false)) then culpritref05_one x0.2 else some false).bind fun r3=>
  bif bif bif !(bif (r1.length:Int)==(x0.1.length:Int) then (r2.length:Int)==(x0.2.length:Int) else false) then true else r3 then true else bif (x0.1.length:Int)==(0:Int) then decide ((0:Int)<(x0.2.length:Int)) else false then
   some 1
  else
   (bif (decide ((0:Int)<(x0.2.length:Int))) then culpritref05_Common x0.2 x0.1 else some ([]:List Int)).bind fun r4=>
   (bif (decide ((0:Int)<(x0.2.length:Int))) then culpritref05_one r4 else some false).bind fun r5=>
   bif bif decide ((0:Int)<(x0.2.length:Int)) then !r5 else false then
    some 1
   else
    some 0
def culpritref37_word_loop1 (x0:(List Int)) (s2:Int):Option ((Int)⊕(Unit⊕Bool)):=
 bif decide (s2<(x0.length:Int)) then
  (idx x0 s2).bind fun _=>
  (idx x0 s2).bind fun v4=>
  (bif !(decide (v4<(0:Int))) then idx x0 s2 else some (0:Int)).bind fun _=>
  (bif !(decide (v4<(0:Int))) then idx x0 s2 else some (0:Int)).bind fun v6=>
  bif bif decide (v4<(0:Int)) then true else decide ((999:Int)<v6) then
   some (Sum.inr (Sum.inr false))
  else
   some (Sum.inl (w64 (s2+(1:Int))))
 else
  some (Sum.inr (Sum.inl ()))
def culpritref37_word (x0:(List Int)):Option Bool:=
 ((
  Itr.it (culpritref37_word_loop1 x0) 0:Option (Unit⊕Bool))).bind fun z9=>
 match z9 with
 | Sum.inl _=>
  (bif (decide ((x0.length:Int)≤(160:Int))) && !((x0.length:Int)==(0:Int)) then idx x0 (if (0:Int) > (w64 ((x0.length:Int) - (1:Int))) then (0:Int) else (w64 ((x0.length:Int) - (1:Int)))) else some (0:Int)).bind fun _=>
  (bif (decide ((x0.length:Int)≤(160:Int))) && !((x0.length:Int)==(0:Int)) then idx x0 (if (0:Int) > (w64 ((x0.length:Int) - (1:Int))) then (0:Int) else (w64 ((x0.length:Int) - (1:Int)))) else some (0:Int)).bind fun v8=>
  some (bif decide ((x0.length:Int)≤(160:Int)) then bif (x0.length:Int)==(0:Int) then true else decide ((0:Int)<v8) else false)
 | Sum.inr t10=>some t10
def culpritref17_One  : Option ((List Int)×(List Int)):=
 some ([1],([]:List Int))
def culpritref05_Den (x0:((List Int)×(List Int))):Option (List Int):=
 bif (x0.2.length:Int)==(0:Int) then
  some [1]
 else
  some x0.2
def culpritref05_Times_loop2 (x0:(List Int)) (x1:(List Int)) (s2:((List Int)×Int)) (s4:(List Int)×Int×Int):Option (((List Int)×Int×Int)⊕((List Int))):=
 bif decide (s4.2.2≤(x1.length:Int)) then
  (culpritref05_limb x0 s2.2).bind fun r5=>
  (culpritref05_limb x1 s4.2.2).bind fun r6=>
  (idx s4.1 (w64 (s2.2+s4.2.2))).bind fun _=>
  (idx s4.1 (w64 (s2.2+s4.2.2))).bind fun v8=>
  (idx s4.1 (w64 (s2.2+s4.2.2))).bind fun _=>
  (idx s4.1 (w64 (s2.2+s4.2.2))).bind fun _=>
  chk (decide (0≤(32:Int))) (
   some (Sum.inl (s4.1.set (w64 (s2.2+s4.2.2)).toNat (IntKind.u32.wrap (IntKind.u64.wrap ((IntKind.u64.wrap ((IntKind.u64.wrap (r5 * r6))+(IntKind.u64.wrap v8)))+s4.2.1))),shrI .u64 (IntKind.u64.wrap ((IntKind.u64.wrap ((IntKind.u64.wrap (r5 * r6))+(IntKind.u64.wrap v8)))+s4.2.1)) (32:Int),w64 (s4.2.2+(1:Int)))))
 else
  some (Sum.inr s4.1)
def culpritref05_Times_loop1 (x0:(List Int)) (x1:(List Int)) (s2:(List Int)×Int):Option (((List Int)×Int)⊕((List Int))):=
 bif decide (s2.2<(x0.length:Int)) then
  ((
   Itr.it (culpritref05_Times_loop2 x0 x1 s2) (s2.1,0,0):Option (List Int))).bind fun s3=>
  some (Sum.inl (s3,w64 (s2.2+(1:Int))))
 else
  some (Sum.inr s2.1)
def culpritref05_Times (x0:(List Int)) (x1:(List Int)):Option (List Int):=
 chk (decide (0≤(w64 ((w64 ((x0.length:Int)+(x1.length:Int)))+(1:Int)))∧(w64 ((w64 ((x0.length:Int)+(x1.length:Int)))+(1:Int))) * 4≤281474976710656∧(w64 ((w64 ((x0.length:Int)+(x1.length:Int)))+(1:Int)))≤maxLen)) (
  ((
   Itr.it (culpritref05_Times_loop1 x0 x1) (List.replicate (w64 ((w64 ((x0.length:Int)+(x1.length:Int)))+(1:Int))).toNat (0:Int),0):Option (List Int))).bind fun s1=>
  (culpritref05_Trim s1).bind fun r11=>
  some r11)
def culpritref05_Order (x0:((List Int)×(List Int))) (x1:((List Int)×(List Int))):Option Int:=
 (culpritref05_Den (x1.1,x1.2)).bind fun r1=>
 (culpritref05_Times x0.1 r1).bind fun r2=>
 (culpritref05_Den (x0.1,x0.2)).bind fun r3=>
 (culpritref05_Times x1.1 r3).bind fun r4=>
 (culpritref05_Compare r2 r4).bind fun r5=>
 some r5
def culpritref22_IsName (x0:(Int×Int)):Option Bool:=
 some (bif bif bif decide ((0:Int)≤x0.1) then decide (x0.1≤(3:Int)) else false then decide ((0:Int)≤x0.2) else false then decide (x0.2≤(63:Int)) else false)
def culpritref22_Less (x0:(Int×Int)) (x1:(Int×Int)):Option Bool:=
 some (bif decide (x0.1<x1.1) then true else bif x0.1==x1.1 then decide (x0.2<x1.2) else false)
def culpritref37_rising_loop1 (x0:(List (Int×Int))) (s2:Int):Option ((Int)⊕(Unit⊕Bool)):=
 bif decide (s2<(x0.length:Int)) then
  (idx x0 s2).bind fun _=>
  (idx x0 s2).bind fun v4=>
  (culpritref22_IsName (v4.1,v4.2)).bind fun r5=>
  (bif (!(!r5))&&(decide ((0:Int)<s2)) then idx x0 (if (0:Int) > (w64 (s2 - (1:Int))) then (0:Int) else (w64 (s2 - (1:Int)))) else some ((0:Int),(0:Int))).bind fun _=>
  (bif (!(!r5))&&(decide ((0:Int)<s2)) then idx x0 (if (0:Int) > (w64 (s2 - (1:Int))) then (0:Int) else (w64 (s2 - (1:Int)))) else some ((0:Int),(0:Int))).bind fun v7=>
  (bif (!(!r5))&&(decide ((0:Int)<s2)) then idx x0 s2 else some ((0:Int),(0:Int))).bind fun _=>
  (bif (!(!r5))&&(decide ((0:Int)<s2)) then idx x0 s2 else some ((0:Int),(0:Int))).bind fun v9=>
  (bif (!(!r5))&&(decide ((0:Int)<s2)) then culpritref22_Less (v7.1,v7.2) (v9.1,v9.2) else some false).bind fun r10=>
  bif bif !r5 then true else bif decide ((0:Int)<s2) then !r10 else false then
   some (Sum.inr (Sum.inr false))
  else
   some (Sum.inl (w64 (s2+(1:Int))))
 else
  some (Sum.inr (Sum.inl ()))
def culpritref37_rising (x0:(List (Int×Int))):Option Bool:=
 ((
  Itr.it (culpritref37_rising_loop1 x0) 0:Option (Unit⊕Bool))).bind fun z11=>
 match z11 with
 | Sum.inl _=>
  some true
 | Sum.inr t12=>some t12
def culpritref37_Proper_loop2 (x0:(Int×(List UInt8)×(List (List (Int×Int)))×(List Int)×Int×((List Int)×(List Int)))) (s7:(Int)) (s12:Int):Option ((Int)⊕(Unit⊕(Int⊕(Unit⊕Bool)))):=
 bif decide (s12<s7) then
  (idx x0.2.2.1 s12).bind fun _=>
  (idx x0.2.2.1 s12).bind fun v14=>
  (idx x0.2.2.1 s7).bind fun _=>
  (idx x0.2.2.1 s7).bind fun v16=>
  (culpritref22_SameNames v14 v16).bind fun r17=>
  bif r17 then
   some (Sum.inr (Sum.inr (Sum.inr (Sum.inr false))))
  else
   some (Sum.inl (w64 (s12+(1:Int))))
 else
  some (Sum.inr (Sum.inl ()))
def culpritref37_Proper_loop1 (x0:(Int×(List UInt8)×(List (List (Int×Int)))×(List Int)×Int×((List Int)×(List Int)))) (s7:Int):Option ((Int)⊕(Unit⊕Bool)):=
 bif decide (s7<(x0.2.2.1.length:Int)) then
  ((
   (idx x0.2.2.1 s7).bind fun _=>
   (idx x0.2.2.1 s7).bind fun v10=>
   (culpritref37_rising v10).bind fun r11=>
   bif !r11 then
    some (Sum.inr (Sum.inr (Sum.inr false)))
   else
    Itr.it (culpritref37_Proper_loop2 x0 s7) 0:Option (Unit⊕(Int⊕(Unit⊕Bool))))).bind fun z18=>
  match z18 with
  | Sum.inl _=>
   some (Sum.inl (w64 (s7+(1:Int))))
  | Sum.inr t19=>some t19
 else
  some (Sum.inr (Sum.inl ()))
def culpritref37_Proper (x0:(Int×(List UInt8)×(List (List (Int×Int)))×(List Int)×Int×((List Int)×(List Int)))):Option Bool:=
 (culpritref20_Named x0.2.1).bind fun r1=>
 (bif !(bif bif !r1 then true else decide (x0.1<(0:Int)) then true else decide ((5:Int)<x0.1)) then culpritref05_Valid (x0.2.2.2.2.2.1,x0.2.2.2.2.2.2) else some (0:Int)).bind fun r2=>
 (bif !(bif bif bif bif bif !r1 then true else decide (x0.1<(0:Int)) then true else decide ((5:Int)<x0.1) then true else r2 != (0:Int) then true else decide (x0.2.2.2.2.1<(0:Int)) then true else decide ((3:Int)<x0.2.2.2.2.1)) then culpritref37_word x0.2.2.2.1 else some false).bind fun r3=>
 bif bif bif bif bif bif bif bif !r1 then true else decide (x0.1<(0:Int)) then true else decide ((5:Int)<x0.1) then true else r2 != (0:Int) then true else decide (x0.2.2.2.2.1<(0:Int)) then true else decide ((3:Int)<x0.2.2.2.2.1) then true else !r3 then true else decide ((1024:Int)<(x0.2.2.1.length:Int)) then
  some false
 else
  (culpritref17_One).bind fun r4=>
  (culpritref05_Order (x0.2.2.2.2.2.1,x0.2.2.2.2.2.2) (r4.1,r4.2)).bind fun r5=>
  bif decide ((0:Int)<r5) then
   some false
  else
   ((
    Itr.it (culpritref37_Proper_loop1 x0) 0:Option (Unit⊕Bool))).bind fun z20=>
   match z20 with
   | Sum.inl _=>
    bif bif (bif x0.1==(2:Int) then true else x0.1==(4:Int)) != (decide ((0:Int)<(x0.2.2.1.length:Int))) then true else (bif bif x0.1==(2:Int) then true else x0.1==(3:Int) then true else x0.1==(5:Int)) != (decide ((0:Int)<(x0.2.2.2.2.2.1.length:Int))) then
     some false
    else
     some (bif bif bif (x0.2.2.2.1.length:Int)==(0:Int) then true else x0.1==(2:Int) then true else x0.1==(3:Int) then bif x0.2.2.2.2.1==(0:Int) then true else x0.1==(5:Int) else false)
   | Sum.inr t21=>some t21
def culpritref20_Decimal_body (self_:Int→Option (List UInt8)) (x0:Int):Option (List UInt8):=
 bif decide (x0<(10:Int)) then
  some (List.map (fun n=>UInt8.ofNat n.toNat) [IntKind.u8.wrap (w64 ((48:Int)+x0))])
 else
  chk (!((10:Int)==0)) (
   (self_ (w64 (Int.tdiv x0 (10:Int)))).bind fun r1=>
   chk (!((10:Int)==0)) (
    chk (decide (r1.length+(List.map (fun n=>UInt8.ofNat n.toNat) [IntKind.u8.wrap (w64 ((48:Int)+(Int.tmod x0 (10:Int))))]).length≤9223372036854775807)) (
     some (r1++(List.map (fun n=>UInt8.ofNat n.toNat) [IntKind.u8.wrap (w64 ((48:Int)+(Int.tmod x0 (10:Int))))])))))
def culpritref20_Decimal_rec:Nat→Int→Option (List UInt8)
 | 0=>fun _=>none
 | k_+1=>culpritref20_Decimal_body (culpritref20_Decimal_rec k_)
def culpritref20_Decimal (x0:Int):Option (List UInt8):=culpritref20_Decimal_rec 64 x0
def culpritref37_ends (x0:Int) (x1:Int):Option (List UInt8):=
 (culpritref20_Decimal x1).bind fun r1=>
 chk (decide (S_fails_on_mach_8b21.length+r1.length≤9223372036854775807)) (
  chk (decide ((S_fails_on_mach_8b21++r1).length+S_alone_7a6f.length≤9223372036854775807)) (
   (idx [S_is_undecided_cb4c,S_is_innocent_f4b3,S_is_broken_083b,S_is_flaky_4ba0,S_is_slower_6ef8,(S_fails_on_mach_8b21++r1)++S_alone_7a6f] x0).bind fun _=>
   (idx [S_is_undecided_cb4c,S_is_innocent_f4b3,S_is_broken_083b,S_is_flaky_4ba0,S_is_slower_6ef8,(S_fails_on_mach_8b21++r1)++S_alone_7a6f] x0).bind fun v3=>
   some v3))
def culpritref37_Name (x0:(Int×Int)):Option (List UInt8):=
 (culpritref20_Decimal x0.1).bind fun r1=>
 chk (decide (r1.length+S__cdb4.length≤9223372036854775807)) (
  (culpritref20_Decimal x0.2).bind fun r2=>
  chk (decide ((r1++S__cdb4).length+r2.length≤9223372036854775807)) (
   some ((r1++S__cdb4)++r2)))
def culpritref37_names_loop1 (x0:(List (Int×Int))) (s2:(List (List UInt8))×Int):Option (((List (List UInt8))×Int)⊕((List (List UInt8)))):=
 bif decide (s2.2<(x0.length:Int)) then
  (idx x0 s2.2).bind fun _=>
  (idx x0 s2.2).bind fun v4=>
  (culpritref37_Name (v4.1,v4.2)).bind fun r5=>
  chk (appOk s2.1.length [r5].length 16) (
   some (Sum.inl (s2.1++[r5],w64 (s2.2+(1:Int)))))
 else
  some (Sum.inr s2.1)
def culpritref37_names (x0:(List (Int×Int))):Option (List (List UInt8)):=
 ((
  Itr.it (culpritref37_names_loop1 x0) (([]:List (List UInt8)),0):Option (List (List UInt8)))).bind fun s1=>
 some s1
def culpritref37_List_loop1 (x0:(List (List UInt8))) (s2:(List UInt8)×Int):Option (((List UInt8)×Int)⊕((List UInt8))):=
 bif decide (s2.2<(x0.length:Int)) then
  ((
   ((
    bif bif decide ((0:Int)<s2.2) then s2.2==(w64 ((x0.length:Int) - (1:Int))) else false then
     chk (decide (s2.1.length+S_and_e3ee.length≤9223372036854775807)) (
      some (s2.1++S_and_e3ee))
    else
     some s2.1:Option (List UInt8))).bind fun s4=>
   ((
    bif bif decide ((0:Int)<s2.2) then decide (s2.2<(w64 ((x0.length:Int) - (1:Int)))) else false then
     chk (decide (s4.length+S__0a07.length≤9223372036854775807)) (
      some (s4++S__0a07))
    else
     some s4:Option (List UInt8))).bind fun s5=>
   (idx x0 s2.2).bind fun _=>
   (idx x0 s2.2).bind fun v7=>
   chk (decide (s5.length+v7.length≤9223372036854775807)) (
    some (s5++v7)):Option (List UInt8))).bind fun s3=>
  some (Sum.inl (s3,w64 (s2.2+(1:Int))))
 else
  some (Sum.inr s2.1)
def culpritref37_List (x0:(List (List UInt8))):Option (List UInt8):=
 ((
  Itr.it (culpritref37_List_loop1 x0) (([]:List UInt8),0):Option (List UInt8))).bind fun s1=>
 some s1
def culpritref37_set (x0:(List (Int×Int))):Option (List UInt8):=
 bif (x0.length:Int)==(0:Int) then
  some S_the_fault_is_o_64f9
 else
  bif (x0.length:Int)==(1:Int) then
   (idx x0 (0:Int)).bind fun _=>
   (idx x0 (0:Int)).bind fun v2=>
   (culpritref37_Name (v2.1,v2.2)).bind fun r3=>
   chk (decide (S_the_edit_db6e.length+r3.length≤9223372036854775807)) (
    chk (decide ((S_the_edit_db6e++r3).length+S_is_guilty_5dc8.length≤9223372036854775807)) (
     some ((S_the_edit_db6e++r3)++S_is_guilty_5dc8)))
  else
   (culpritref37_names x0).bind fun r4=>
   (culpritref37_List r4).bind fun r5=>
   chk (decide (S_the_edits_27cf.length+r5.length≤9223372036854775807)) (
    chk (decide ((S_the_edits_27cf++r5).length+S_are_guilty_to_7335.length≤9223372036854775807)) (
     some ((S_the_edits_27cf++r5)++S_are_guilty_to_7335)))
def culpritref05_tenth_loop1 (x0:(List Int)) (s2:(List Int)×Int×Int):Option (((List Int)×Int×Int)⊕((List Int)×Int)):=
 bif decide ((0:Int)≤s2.2.2) then
  chk (decide (0≤(32:Int))) (
   (idx x0 s2.2.2).bind fun _=>
   (idx x0 s2.2.2).bind fun v4=>
   chk (!((10:Int)==0)) (
    (idx s2.1 s2.2.2).bind fun _=>
    (idx s2.1 s2.2.2).bind fun _=>
    chk (!((10:Int)==0)) (
     some (Sum.inl (s2.1.set s2.2.2.toNat (IntKind.u32.wrap (IntKind.u64.wrap (Int.tdiv (bitI .or .u64 (shlI .u64 s2.2.1 (32:Int)) (IntKind.u64.wrap v4)) (10:Int)))),Int.tmod (bitI .or .u64 (shlI .u64 s2.2.1 (32:Int)) (IntKind.u64.wrap v4)) (10:Int),w64 (s2.2.2 - (1:Int)))))))
 else
  some (Sum.inr (s2.1,s2.2.1))
def culpritref05_tenth (x0:(List Int)):Option ((List Int)×Int):=
 chk (decide (0≤(x0.length:Int)∧(x0.length:Int) * 4≤281474976710656∧(x0.length:Int)≤maxLen)) (
  ((
   Itr.it (culpritref05_tenth_loop1 x0) (List.replicate (x0.length:Int).toNat (0:Int),0,w64 ((x0.length:Int) - (1:Int))):Option ((List Int)×Int))).bind fun s1=>
  (culpritref05_Trim s1.1).bind fun r7=>
  some (r7,w64 s1.2))
def culpritref05_Decimal_loop1  (s3:(List UInt8)×(List Int)):Option (((List UInt8)×(List Int))⊕((List UInt8))):=
 bif decide ((0:Int)<(s3.2.length:Int)) then
  (culpritref05_tenth s3.2).bind fun r4=>
  chk (decide ((List.map (fun n=>UInt8.ofNat n.toNat) [IntKind.u8.wrap (w64 ((48:Int)+r4.2))]).length+s3.1.length≤9223372036854775807)) (
   some (Sum.inl ((List.map (fun n=>UInt8.ofNat n.toNat) [IntKind.u8.wrap (w64 ((48:Int)+r4.2))])++s3.1,r4.1)))
 else
  some (Sum.inr s3.1)
def culpritref05_Decimal (x0:(List Int)):Option (List UInt8):=
 bif (x0.length:Int)==(0:Int) then
  some S_0_5fec
 else
  (culpritref05_Trim x0).bind fun r1=>
  ((
   Itr.it (culpritref05_Decimal_loop1) (([]:List UInt8),r1):Option (List UInt8))).bind fun s2=>
  some s2
def culpritref05_Print (x0:((List Int)×(List Int))):Option ((List UInt8)×Int):=
 (culpritref05_Valid (x0.1,x0.2)).bind fun r1=>
 bif r1 != (0:Int) then
  some (([]:List UInt8),r1)
 else
  bif (x0.2.length:Int)==(0:Int) then
   (culpritref05_Decimal x0.1).bind fun r2=>
   some (r2,0)
  else
   (culpritref05_Decimal x0.1).bind fun r3=>
   chk (decide (r3.length+S__8a5e.length≤9223372036854775807)) (
    (culpritref05_Decimal x0.2).bind fun r4=>
    chk (decide ((r3++S__8a5e).length+r4.length≤9223372036854775807)) (
     some ((r3++S__8a5e)++r4,0)))
def culpritref37_measure (x0:((List Int)×(List Int))):Option (List UInt8):=
 (culpritref05_Print (x0.1,x0.2)).bind fun r1=>
 chk (decide (S_it_fails_with_5cf6.length+r1.1.length≤9223372036854775807)) (
  chk (decide ((S_it_fails_with_5cf6++r1.1).length+S__cdb4.length≤9223372036854775807)) (
   some ((S_it_fails_with_5cf6++r1.1)++S__cdb4)))
def culpritref37_numbers_loop1 (x0:(List Int)) (s2:(List (List UInt8))×Int):Option (((List (List UInt8))×Int)⊕((List (List UInt8)))):=
 bif decide (s2.2<(x0.length:Int)) then
  (idx x0 s2.2).bind fun _=>
  (idx x0 s2.2).bind fun v4=>
  (culpritref20_Decimal v4).bind fun r5=>
  chk (appOk s2.1.length [r5].length 16) (
   some (Sum.inl (s2.1++[r5],w64 (s2.2+(1:Int)))))
 else
  some (Sum.inr s2.1)
def culpritref37_numbers (x0:(List Int)):Option (List (List UInt8)):=
 ((
  Itr.it (culpritref37_numbers_loop1 x0) (([]:List (List UInt8)),0):Option (List (List UInt8)))).bind fun s1=>
 some s1
def culpritref37_choices (x0:(List Int)):Option (List UInt8):=
 bif (x0.length:Int)==(1:Int) then
  (idx x0 (0:Int)).bind fun _=>
  (idx x0 (0:Int)).bind fun v2=>
  (culpritref20_Decimal v2).bind fun r3=>
  chk (decide (S_it_shows_by_th_d234.length+r3.length≤9223372036854775807)) (
   chk (decide ((S_it_shows_by_th_d234++r3).length+S__cdb4.length≤9223372036854775807)) (
    some ((S_it_shows_by_th_d234++r3)++S__cdb4)))
 else
  (culpritref37_numbers x0).bind fun r4=>
  (culpritref37_List r4).bind fun r5=>
  chk (decide (S_it_shows_by_th_603a.length+r5.length≤9223372036854775807)) (
   chk (decide ((S_it_shows_by_th_603a++r5).length+S__cdb4.length≤9223372036854775807)) (
    some ((S_it_shows_by_th_603a++r5)++S__cdb4)))
def culpritref37_Print_loop1 (x0:(Int×(List UInt8)×(List (List (Int×Int)))×(List Int)×Int×((List Int)×(List Int)))) (s4:(List (List UInt8))×Int):Option (((List (List UInt8))×Int)⊕((List (List UInt8)))):=
 bif decide (s4.2<(x0.2.2.1.length:Int)) then
  (idx x0.2.2.1 s4.2).bind fun _=>
  (idx x0.2.2.1 s4.2).bind fun v6=>
  (culpritref37_set v6).bind fun r7=>
  chk (appOk s4.1.length [r7].length 16) (
   some (Sum.inl (s4.1++[r7],w64 (s4.2+(1:Int)))))
 else
  some (Sum.inr s4.1)
def culpritref37_Print (x0:(Int×(List UInt8)×(List (List (Int×Int)))×(List Int)×Int×((List Int)×(List Int)))):Option ((List (List UInt8))×Int):=
 (culpritref37_Proper (x0.1,x0.2.1,x0.2.2.1,x0.2.2.2.1,x0.2.2.2.2.1,(x0.2.2.2.2.2.1,x0.2.2.2.2.2.2))).bind fun r1=>
 bif !r1 then
  some (([]:List (List UInt8)),1)
 else
  (culpritref37_ends x0.1 x0.2.2.2.2.1).bind fun r2=>
  chk (decide (x0.2.1.length+r2.length≤9223372036854775807)) (
   ((
    Itr.it (culpritref37_Print_loop1 x0) ([x0.2.1++r2],0):Option (List (List UInt8)))).bind fun s3=>
   ((
    bif decide ((0:Int)<(x0.2.2.2.2.2.1.length:Int)) then
     (culpritref37_measure (x0.2.2.2.2.2.1,x0.2.2.2.2.2.2)).bind fun r9=>
     chk (appOk s3.length [r9].length 16) (
      some (s3++[r9]))
    else
     some s3:Option (List (List UInt8)))).bind fun s8=>
   ((
    bif decide ((0:Int)<(x0.2.2.2.1.length:Int)) then
     (culpritref37_choices x0.2.2.2.1).bind fun r11=>
     chk (appOk s8.length [r11].length 16) (
      some (s8++[r11]))
    else
     some s8:Option (List (List UInt8)))).bind fun s10=>
   some (s10,0))
def culpritref37_Page_loop2 (r6:((List (List UInt8))×Int)) (s8:(List UInt8)×Int):Option (((List UInt8)×Int)⊕((List UInt8))):=
 bif decide (s8.2<(r6.1.length:Int)) then
  (idx r6.1 s8.2).bind fun _=>
  (idx r6.1 s8.2).bind fun v10=>
  chk (decide (s8.1.length+v10.length≤9223372036854775807)) (
   chk (decide ((s8.1++v10).length+S__01ba.length≤9223372036854775807)) (
    some (Sum.inl ((s8.1++v10)++S__01ba,w64 (s8.2+(1:Int))))))
 else
  some (Sum.inr s8.1)
def culpritref37_Page_loop1 (x0:(List (Int×(List UInt8)×(List (List (Int×Int)))×(List Int)×Int×((List Int)×(List Int))))) (s2:(List UInt8)×Int):Option (((List UInt8)×Int)⊕((List UInt8)⊕((List UInt8)×Int))):=
 bif decide (s2.2<(x0.length:Int)) then
  ((
   (idx x0 s2.2).bind fun _=>
   (idx x0 s2.2).bind fun v5=>
   (culpritref37_Print (v5.1,v5.2.1,v5.2.2.1,v5.2.2.2.1,v5.2.2.2.2.1,(v5.2.2.2.2.2.1,v5.2.2.2.2.2.2))).bind fun r6=>
   bif r6.2 != (0:Int) then
    some (Sum.inr (Sum.inr (Sum.inr (([]:List UInt8),r6.2))))
   else
    ((
     Itr.it (culpritref37_Page_loop2 r6) (s2.1,0):Option (List UInt8))).bind fun s7=>
    chk (decide (s7.length+S__01ba.length≤9223372036854775807)) (
     some (Sum.inl (s7++S__01ba))):Option ((List UInt8)⊕((List UInt8)×Int⊕((List UInt8)⊕((List UInt8)×Int)))))).bind fun z11=>
  match z11 with
  | Sum.inl s3=>
   some (Sum.inl (s3,w64 (s2.2+(1:Int))))
  | Sum.inr t12=>some t12
 else
  some (Sum.inr (Sum.inl s2.1))
def culpritref37_Page (x0:(List (Int×(List UInt8)×(List (List (Int×Int)))×(List Int)×Int×((List Int)×(List Int))))):Option ((List UInt8)×Int):=
 bif decide ((64:Int)<(x0.length:Int)) then
  some (([]:List UInt8),4)
 else
  ((
   Itr.it (culpritref37_Page_loop1 x0) (([]:List UInt8),0):Option ((List UInt8)⊕((List UInt8)×Int)))).bind fun z13=>
  match z13 with
  | Sum.inl s1=>
   bif decide ((65536:Int)<(s1.length:Int)) then
    some (([]:List UInt8),4)
   else
    some (s1,0)
  | Sum.inr t14=>some t14
def culpritref01_Short (x0:(List UInt8)) (x1:Int):Option (List UInt8):=
 bif decide (x1<(x0.length:Int)) then
  chk (decide (0≤(0:Int)∧(0:Int)≤x1∧x1≤x0.length)) (
   some ((x0.take x1.toNat).drop (0:Int).toNat))
 else
  some x0
def report_Read_loop1 (r1:(List (List UInt8))) (s3:(List (List (List UInt8)))×(List (List UInt8))×Int):Option (((List (List (List UInt8)))×(List (List UInt8))×Int)⊕((List (List (List UInt8)))×(List (List UInt8)))):=
 bif decide (s3.2.2<((r1.take (w64 ((r1.length:Int) - (1:Int))).toNat).length:Int)) then
  ((
   (idx (r1.take (w64 ((r1.length:Int) - (1:Int))).toNat) s3.2.2).bind fun _=>
   (idx (r1.take (w64 ((r1.length:Int) - (1:Int))).toNat) s3.2.2).bind fun v6=>
   bif v6==([]:List UInt8) then
    chk (appOk s3.1.length [s3.2.1].length 24) (
     some (s3.1++[s3.2.1],([]:List (List UInt8))))
   else
    chk (appOk s3.2.1.length [v6].length 16) (
     some (s3.1,s3.2.1++[v6])):Option ((List (List (List UInt8)))×(List (List UInt8))))).bind fun s4=>
  some (Sum.inl (s4.1,s4.2,w64 (s3.2.2+(1:Int))))
 else
  some (Sum.inr (s3.1,s3.2.1))
def report_Read_loop2 (s2:((List (List (List UInt8)))×(List (List UInt8)))) (v8:(List UInt8)) (s9:((List (List (List UInt8))))) (s11:(List (Int×(List UInt8)×(List (List (Int×Int)))×(List Int)×Int×((List Int)×(List Int))))×Int):Option (((List (Int×(List UInt8)×(List (List (Int×Int)))×(List Int)×Int×((List Int)×(List Int))))×Int)⊕((List (Int×(List UInt8)×(List (List (Int×Int)))×(List Int)×Int×((List Int)×(List Int))))⊕((List (Int×(List UInt8)×(List (List (Int×Int)))×(List Int)×Int×((List Int)×(List Int))))×Int×Int))):=
 bif decide (s11.2<(s9.length:Int)) then
  (idx s9 s11.2).bind fun _=>
  (idx s9 s11.2).bind fun v13=>
  (report_Parse v13).bind fun r14=>
  bif bif r14.2.2 != (0:Int) then true else bif s11.2==(w64 ((s9.length:Int) - (1:Int))) then !(bif v8==([]:List UInt8) then (s2.2.length:Int)==(0:Int) else false) else false then
   some (Sum.inr (Sum.inr (([]:List (Int×(List UInt8)×(List (List (Int×Int)))×(List Int)×Int×((List Int)×(List Int)))),s11.2,2)))
  else
   chk (appOk s11.1.length [(r14.1.1,r14.1.2.1,r14.1.2.2.1,r14.1.2.2.2.1,r14.1.2.2.2.2.1,(r14.1.2.2.2.2.2.1,r14.1.2.2.2.2.2.2))].length 128) (
    some (Sum.inl (s11.1++[(r14.1.1,r14.1.2.1,r14.1.2.2.1,r14.1.2.2.2.1,r14.1.2.2.2.2.1,(r14.1.2.2.2.2.2.1,r14.1.2.2.2.2.2.2))],w64 (s11.2+(1:Int)))))
 else
  some (Sum.inr (Sum.inl s11.1))
def report_Read (x0:(List UInt8)):Option ((List (Int×(List UInt8)×(List (List (Int×Int)))×(List Int)×Int×((List Int)×(List Int))))×Int×Int):=
 bif decide ((65536:Int)<(x0.length:Int)) then
  some (([]:List (Int×(List UInt8)×(List (List (Int×Int)))×(List Int)×Int×((List Int)×(List Int)))),0,4)
 else
  (xSplit x0 S__01ba).bind fun r1=>
  ((
   chk (decide (0≤(w64 ((r1.length:Int) - (1:Int)))∧(w64 ((r1.length:Int) - (1:Int)))≤r1.length)) (
    Itr.it (report_Read_loop1 r1) (([]:List (List (List UInt8))),([]:List (List UInt8)),0)):Option ((List (List (List UInt8)))×(List (List UInt8))))).bind fun s2=>
  (idx r1 (w64 ((r1.length:Int) - (1:Int)))).bind fun _=>
  (idx r1 (w64 ((r1.length:Int) - (1:Int)))).bind fun v8=>
  ((
   bif !(bif v8==([]:List UInt8) then (s2.2.length:Int)==(0:Int) else false) then
    chk (appOk s2.1.length [s2.2].length 24) (
     some (s2.1++[s2.2]))
   else
    some s2.1:Option (List (List (List UInt8))))).bind fun s9=>
  bif decide ((64:Int)<(s9.length:Int)) then
   some (([]:List (Int×(List UInt8)×(List (List (Int×Int)))×(List Int)×Int×((List Int)×(List Int)))),64,4)
  else
   ((
    Itr.it (report_Read_loop2 s2 v8 s9) (([]:List (Int×(List UInt8)×(List (List (Int×Int)))×(List Int)×Int×((List Int)×(List Int)))),0):Option ((List (Int×(List UInt8)×(List (List (Int×Int)))×(List Int)×Int×((List Int)×(List Int))))⊕((List (Int×(List UInt8)×(List (List (Int×Int)))×(List Int)×Int×((List Int)×(List Int))))×Int×Int)))).bind fun z15=>
   match z15 with
   | Sum.inl s10=>
    some (s10,(s9.length:Int),0)
   | Sum.inr t16=>some t16
def culpritref37_Rows_loop1 (x0:(List UInt8)) (s2:(List (List (List UInt8)))×(List (List UInt8))×(List UInt8)×Int):Option (((List (List (List UInt8)))×(List (List UInt8))×(List UInt8)×Int)⊕((List (List (List UInt8)))×(List (List UInt8))×(List UInt8))):=
 bif decide (s2.2.2.2<(x0.length:Int)) then
  ((
   (idx x0 s2.2.2.2).bind fun v4=>
   bif (v4.toNat:Int) != (10:Int) then
    chk (decide (0≤s2.2.2.2∧s2.2.2.2≤(w64 (s2.2.2.2+(1:Int)))∧(w64 (s2.2.2.2+(1:Int)))≤x0.length)) (
     chk (decide (s2.2.2.1.length+((x0.take (w64 (s2.2.2.2+(1:Int))).toNat).drop s2.2.2.2.toNat).length≤9223372036854775807)) (
      some (s2.1,s2.2.1,s2.2.2.1++((x0.take (w64 (s2.2.2.2+(1:Int))).toNat).drop s2.2.2.2.toNat))))
   else
    bif s2.2.2.1==([]:List UInt8) then
     chk (appOk s2.1.length [s2.2.1].length 24) (
      some (s2.1++[s2.2.1],([]:List (List UInt8)),s2.2.2.1))
    else
     chk (appOk s2.2.1.length [s2.2.2.1].length 16) (
      some (s2.1,s2.2.1++[s2.2.2.1],([]:List UInt8))):Option ((List (List (List UInt8)))×(List (List UInt8))×(List UInt8)))).bind fun s3=>
  some (Sum.inl (s3.1,s3.2.1,s3.2.2,w64 (s2.2.2.2+(1:Int))))
 else
  some (Sum.inr (s2.1,s2.2.1,s2.2.2.1))
def culpritref37_Rows (x0:(List UInt8)):Option ((List (List (List UInt8)))×Bool):=
 ((
  Itr.it (culpritref37_Rows_loop1 x0) (([]:List (List (List UInt8))),([]:List (List UInt8)),([]:List UInt8),0):Option ((List (List (List UInt8)))×(List (List UInt8))×(List UInt8)))).bind fun s1=>
 bif bif s1.2.2==([]:List UInt8) then (s1.2.1.length:Int)==(0:Int) else false then
  some (s1.1,true)
 else
  chk (appOk s1.1.length [s1.2.1].length 24) (
   some (s1.1++[s1.2.1],false))
def culpritref37_ParseFirst_loop1 (x0:(List UInt8)) (s2:Int):Option ((Int)⊕(Int)):=
 (bif (decide (s2<(x0.length:Int))) then idx x0 s2 else some 0).bind fun v3=>
 bif bif decide (s2<(x0.length:Int)) then (v3.toNat:Int) != (32:Int) else false then
  some (Sum.inl (w64 (s2+(1:Int))))
 else
  some (Sum.inr s2)
def culpritref37_ParseFirst_loop3 (x0:(List UInt8)) (s1:(Int)) (s6:(Int)) (s8:Int):Option ((Int)⊕(Unit⊕(Int⊕(Unit⊕((Int×(List UInt8)×(List (List (Int×Int)))×(List Int)×Int×((List Int)×(List Int)))×Bool))))):=
 bif decide (s8<(4:Int)) then
  chk (decide (0≤s1∧s1≤(x0.length:Int)∧(x0.length:Int)≤x0.length)) (
   (culpritref37_ends s6 s8).bind fun r9=>
   bif bif ((x0.take (x0.length:Int).toNat).drop s1.toNat)==r9 then bif s8==(0:Int) then true else s6==(5:Int) else false then
    chk (decide (0≤(0:Int)∧(0:Int)≤s1∧s1≤x0.length)) (
     some (Sum.inr (Sum.inr (Sum.inr (Sum.inr ((s6,(x0.take s1.toNat).drop (0:Int).toNat,([]:List (List (Int×Int))),([]:List Int),s8,(([]:List Int),([]:List Int))),true))))))
   else
    some (Sum.inl (w64 (s8+(1:Int)))))
 else
  some (Sum.inr (Sum.inl ()))
def culpritref37_ParseFirst_loop2 (x0:(List UInt8)) (s1:(Int)) (s6:Int):Option ((Int)⊕(Unit⊕((Int×(List UInt8)×(List (List (Int×Int)))×(List Int)×Int×((List Int)×(List Int)))×Bool))):=
 bif decide (s6<(6:Int)) then
  ((
   Itr.it (culpritref37_ParseFirst_loop3 x0 s1 s6) 0:Option (Unit⊕(Int⊕(Unit⊕((Int×(List UInt8)×(List (List (Int×Int)))×(List Int)×Int×((List Int)×(List Int)))×Bool)))))).bind fun z10=>
  match z10 with
  | Sum.inl _=>
   some (Sum.inl (w64 (s6+(1:Int))))
  | Sum.inr t11=>some t11
 else
  some (Sum.inr (Sum.inl ()))
def culpritref37_ParseFirst (x0:(List UInt8)):Option ((Int×(List UInt8)×(List (List (Int×Int)))×(List Int)×Int×((List Int)×(List Int)))×Bool):=
 ((
  Itr.it (culpritref37_ParseFirst_loop1 x0) 0:Option Int)).bind fun s1=>
 chk (decide (0≤(0:Int)∧(0:Int)≤s1∧s1≤x0.length)) (
  (culpritref20_Named ((x0.take s1.toNat).drop (0:Int).toNat)).bind fun r4=>
  bif !r4 then
   some ((0,([]:List UInt8),([]:List (List (Int×Int))),([]:List Int),0,(([]:List Int),([]:List Int))),false)
  else
   ((
    Itr.it (culpritref37_ParseFirst_loop2 x0 s1) 0:Option (Unit⊕((Int×(List UInt8)×(List (List (Int×Int)))×(List Int)×Int×((List Int)×(List Int)))×Bool)))).bind fun z12=>
   match z12 with
   | Sum.inl _=>
    some ((0,([]:List UInt8),([]:List (List (Int×Int))),([]:List Int),0,(([]:List Int),([]:List Int))),false)
   | Sum.inr t13=>some t13)
def culpritref37_inner (x0:(List UInt8)) (x1:(List UInt8)) (x2:(List UInt8)):Option ((List UInt8)×Bool):=
 chk (!(!(decide ((x0.length:Int)<(w64 ((x1.length:Int)+(x2.length:Int))))))||(decide (0≤(0:Int)∧(0:Int)≤(x1.length:Int)∧(x1.length:Int)≤x0.length))) (
  chk (!(!(bif decide ((x0.length:Int)<(w64 ((x1.length:Int)+(x2.length:Int)))) then true else !(((x0.take (x1.length:Int).toNat).drop (0:Int).toNat)==x1)))||(decide (0≤(w64 ((x0.length:Int) - (x2.length:Int)))∧(w64 ((x0.length:Int) - (x2.length:Int)))≤(x0.length:Int)∧(x0.length:Int)≤x0.length))) (
   bif bif bif decide ((x0.length:Int)<(w64 ((x1.length:Int)+(x2.length:Int)))) then true else !(((x0.take (x1.length:Int).toNat).drop (0:Int).toNat)==x1) then true else !(((x0.take (x0.length:Int).toNat).drop (w64 ((x0.length:Int) - (x2.length:Int))).toNat)==x2) then
    some (([]:List UInt8),false)
   else
    chk (decide (0≤(x1.length:Int)∧(x1.length:Int)≤(w64 ((x0.length:Int) - (x2.length:Int)))∧(w64 ((x0.length:Int) - (x2.length:Int)))≤x0.length)) (
     some ((x0.take (w64 ((x0.length:Int) - (x2.length:Int))).toNat).drop (x1.length:Int).toNat,true))))
def culpritref37_Parts_loop1 (x0:(List UInt8)) (s2:(List (List UInt8))×(List UInt8)×Int):Option (((List (List UInt8))×(List UInt8)×Int)⊕((List (List UInt8))×(List UInt8))):=
 bif decide (s2.2.2<(x0.length:Int)) then
  chk (!(decide ((w64 (s2.2.2+(2:Int)))≤(x0.length:Int)))||(decide (0≤s2.2.2∧s2.2.2≤(w64 (s2.2.2+(2:Int)))∧(w64 (s2.2.2+(2:Int)))≤x0.length))) (
   bif bif decide ((w64 (s2.2.2+(2:Int)))≤(x0.length:Int)) then ((x0.take (w64 (s2.2.2+(2:Int))).toNat).drop s2.2.2.toNat)==S__0a07 else false then
    chk (appOk s2.1.length [s2.2.1].length 16) (
     some (Sum.inl (s2.1++[s2.2.1],([]:List UInt8),w64 (s2.2.2+(2:Int)))))
   else
    chk (!(decide ((w64 (s2.2.2+(5:Int)))≤(x0.length:Int)))||(decide (0≤s2.2.2∧s2.2.2≤(w64 (s2.2.2+(5:Int)))∧(w64 (s2.2.2+(5:Int)))≤x0.length))) (
     bif bif decide ((w64 (s2.2.2+(5:Int)))≤(x0.length:Int)) then ((x0.take (w64 (s2.2.2+(5:Int))).toNat).drop s2.2.2.toNat)==S_and_e3ee else false then
      chk (appOk s2.1.length [s2.2.1].length 16) (
       some (Sum.inl (s2.1++[s2.2.1],([]:List UInt8),w64 (s2.2.2+(5:Int)))))
     else
      chk (decide (0≤s2.2.2∧s2.2.2≤(w64 (s2.2.2+(1:Int)))∧(w64 (s2.2.2+(1:Int)))≤x0.length)) (
       chk (decide (s2.2.1.length+((x0.take (w64 (s2.2.2+(1:Int))).toNat).drop s2.2.2.toNat).length≤9223372036854775807)) (
        some (Sum.inl (s2.1,s2.2.1++((x0.take (w64 (s2.2.2+(1:Int))).toNat).drop s2.2.2.toNat),w64 (s2.2.2+(1:Int))))))))
 else
  some (Sum.inr (s2.1,s2.2.1))
def culpritref37_Parts (x0:(List UInt8)):Option (List (List UInt8)):=
 ((
  Itr.it (culpritref37_Parts_loop1 x0) (([]:List (List UInt8)),([]:List UInt8),0):Option ((List (List UInt8))×(List UInt8)))).bind fun s1=>
 chk (appOk s1.1.length [s1.2].length 16) (
  some (s1.1++[s1.2]))
def culpritref37_number_loop1 (x0:(List UInt8)) (s2:Int×Int):Option ((Int×Int)⊕(Int⊕(Int×Bool))):=
 bif decide (s2.2<(x0.length:Int)) then
  (idx x0 s2.2).bind fun v3=>
  (bif !(decide ((v3.toNat:Int)<(48:Int))) then idx x0 s2.2 else some 0).bind fun v4=>
  bif bif decide ((v3.toNat:Int)<(48:Int)) then true else decide ((57:Int)<(v4.toNat:Int)) then
   some (Sum.inr (Sum.inr (0,false)))
  else
   (idx x0 s2.2).bind fun v5=>
   some (Sum.inl (w64 ((w64 ((10:Int) * s2.1))+(w64 (IntKind.u8.wrap ((v5.toNat:Int) - (48:Int))))),w64 (s2.2+(1:Int))))
 else
  some (Sum.inr (Sum.inl s2.1))
def culpritref37_number (x0:(List UInt8)):Option (Int×Bool):=
 bif bif decide ((x0.length:Int)<(1:Int)) then true else decide ((3:Int)<(x0.length:Int)) then
  some (0,false)
 else
  ((
   Itr.it (culpritref37_number_loop1 x0) (0,0):Option (Int⊕(Int×Bool)))).bind fun z7=>
  match z7 with
  | Sum.inl s1=>
   (culpritref20_Decimal s1).bind fun r6=>
   some (s1,r6==x0)
  | Sum.inr t8=>some t8
def culpritref37_named_loop1 (x0:(List UInt8)) (s2:Int):Option ((Int)⊕(Unit⊕((Int×Int)×Bool))):=
 bif decide (s2<(x0.length:Int)) then
  (idx x0 s2).bind fun v3=>
  bif (v3.toNat:Int)==(46:Int) then
   chk (decide (0≤(0:Int)∧(0:Int)≤s2∧s2≤x0.length)) (
    (culpritref37_number ((x0.take s2.toNat).drop (0:Int).toNat)).bind fun r4=>
    chk (decide (0≤(w64 (s2+(1:Int)))∧(w64 (s2+(1:Int)))≤(x0.length:Int)∧(x0.length:Int)≤x0.length)) (
     (culpritref37_number ((x0.take (x0.length:Int).toNat).drop (w64 (s2+(1:Int))).toNat)).bind fun r5=>
     some (Sum.inr (Sum.inr ((r4.1,r5.1),bif r4.2 then r5.2 else false)))))
  else
   some (Sum.inl (w64 (s2+(1:Int))))
 else
  some (Sum.inr (Sum.inl ()))
def culpritref37_named (x0:(List UInt8)):Option ((Int×Int)×Bool):=
 ((
  Itr.it (culpritref37_named_loop1 x0) 0:Option (Unit⊕((Int×Int)×Bool)))).bind fun z6=>
 match z6 with
 | Sum.inl _=>
  some ((0,0),false)
 | Sum.inr t7=>some t7
def culpritref37_ParseSet_loop1 (r5:(List (List UInt8))) (s6:(List (Int×Int))×Int):Option (((List (Int×Int))×Int)⊕((List (Int×Int))⊕((List (Int×Int))×Bool))):=
 bif decide (s6.2<(r5.length:Int)) then
  (idx r5 s6.2).bind fun _=>
  (idx r5 s6.2).bind fun v8=>
  (culpritref37_named v8).bind fun r9=>
  bif !r9.2 then
   some (Sum.inr (Sum.inr (([]:List (Int×Int)),false)))
  else
   chk (appOk s6.1.length [(r9.1.1,r9.1.2)].length 16) (
    some (Sum.inl (s6.1++[(r9.1.1,r9.1.2)],w64 (s6.2+(1:Int)))))
 else
  some (Sum.inr (Sum.inl s6.1))
def culpritref37_ParseSet (x0:(List UInt8)):Option ((List (Int×Int))×Bool):=
 (culpritref37_inner x0 S_the_edit_db6e S_is_guilty_5dc8).bind fun r1=>
 (culpritref37_inner x0 S_the_edits_27cf S_are_guilty_to_7335).bind fun r2=>
 ((
  bif r1.2 then
   some r1.1
  else
   some r2.1:Option (List UInt8))).bind fun s3=>
 ((
  bif bif r1.2 then true else r2.2 then
   (culpritref37_Parts s3).bind fun r5=>
   Itr.it (culpritref37_ParseSet_loop1 r5) (([]:List (Int×Int)),0)
  else
   some (Sum.inl ([]:List (Int×Int))):Option ((List (Int×Int))⊕((List (Int×Int))×Bool)))).bind fun z12=>
 match z12 with
 | Sum.inl s4=>
  (culpritref37_rising s4).bind fun r10=>
  (bif r10 then culpritref37_set s4 else some ([]:List UInt8)).bind fun r11=>
  some (s4,bif r10 then r11==x0 else false)
 | Sum.inr t13=>some t13
def culpritref05_row_loop1 (x0:(List UInt8)) (s2:Int):Option ((Int)⊕(Unit⊕Bool)):=
 bif decide (s2<(x0.length:Int)) then
  (idx x0 s2).bind fun v3=>
  (bif !(decide ((v3.toNat:Int)<(48:Int))) then idx x0 s2 else some 0).bind fun v4=>
  bif bif decide ((v3.toNat:Int)<(48:Int)) then true else decide ((57:Int)<(v4.toNat:Int)) then
   some (Sum.inr (Sum.inr false))
  else
   some (Sum.inl (w64 (s2+(1:Int))))
 else
  some (Sum.inr (Sum.inl ()))
def culpritref05_row (x0:(List UInt8)):Option Bool:=
 ((
  Itr.it (culpritref05_row_loop1 x0) 0:Option (Unit⊕Bool))).bind fun z6=>
 match z6 with
 | Sum.inl _=>
  (bif (!((x0.length:Int)==(1:Int)))&&(decide ((1:Int)<(x0.length:Int))) then idx x0 (0:Int) else some 0).bind fun v5=>
  some (bif (x0.length:Int)==(1:Int) then true else bif decide ((1:Int)<(x0.length:Int)) then (v5.toNat:Int) != (48:Int) else false)
 | Sum.inr t7=>some t7
def culpritref05_number_loop1 (x0:(List UInt8)) (s2:(List Int)×Int):Option (((List Int)×Int)⊕((List Int))):=
 bif decide (s2.2<(x0.length:Int)) then
  (culpritref05_Times s2.1 [10]).bind fun r3=>
  (idx x0 s2.2).bind fun v4=>
  (culpritref05_Whole (w64 (IntKind.u8.wrap ((v4.toNat:Int) - (48:Int))))).bind fun r5=>
  (culpritref05_Plus r3 r5).bind fun r6=>
  some (Sum.inl (r6,w64 (s2.2+(1:Int))))
 else
  some (Sum.inr s2.1)
def culpritref05_number (x0:(List UInt8)):Option ((List Int)×Bool):=
 bif decide ((617:Int)<(x0.length:Int)) then
  some (([]:List Int),false)
 else
  ((
   Itr.it (culpritref05_number_loop1 x0) (([]:List Int),0):Option (List Int))).bind fun s1=>
  some (s1,decide ((s1.length:Int)≤(64:Int)))
def culpritref05_Parse_loop1 (x0:(List UInt8)) (s2:Int):Option ((Int)⊕(Int)):=
 (bif (decide (s2<(x0.length:Int))) then idx x0 s2 else some 0).bind fun v3=>
 bif bif decide (s2<(x0.length:Int)) then (v3.toNat:Int) != (47:Int) else false then
  some (Sum.inl (w64 (s2+(1:Int))))
 else
  some (Sum.inr s2)
def culpritref05_Parse (x0:(List UInt8)):Option (((List Int)×(List Int))×Int):=
 ((
  Itr.it (culpritref05_Parse_loop1 x0) 0:Option Int)).bind fun s1=>
 chk (decide (0≤(0:Int)∧(0:Int)≤s1∧s1≤x0.length)) (
  (culpritref05_row ((x0.take s1.toNat).drop (0:Int).toNat)).bind fun r4=>
  chk (!((!(!r4))&&(decide (s1<(x0.length:Int))))||(decide (0≤(w64 (s1+(1:Int)))∧(w64 (s1+(1:Int)))≤(x0.length:Int)∧(x0.length:Int)≤x0.length))) (
   (bif (!(!r4))&&(decide (s1<(x0.length:Int))) then culpritref05_row ((x0.take (x0.length:Int).toNat).drop (w64 (s1+(1:Int))).toNat) else some false).bind fun r5=>
   bif bif !r4 then true else bif decide (s1<(x0.length:Int)) then !r5 else false then
    some ((([]:List Int),([]:List Int)),2)
   else
    chk (decide (0≤(0:Int)∧(0:Int)≤s1∧s1≤x0.length)) (
     (culpritref05_number ((x0.take s1.toNat).drop (0:Int).toNat)).bind fun r6=>
     ((
      bif decide (s1<(x0.length:Int)) then
       chk (decide (0≤(w64 (s1+(1:Int)))∧(w64 (s1+(1:Int)))≤(x0.length:Int)∧(x0.length:Int)≤x0.length)) (
        (culpritref05_number ((x0.take (x0.length:Int).toNat).drop (w64 (s1+(1:Int))).toNat)).bind fun r8=>
        some (bif r6.2 then r8.2 else false,r8.1))
      else
       some (r6.2,([]:List Int)):Option (Bool×(List Int)))).bind fun s7=>
     bif !s7.1 then
      some ((([]:List Int),([]:List Int)),4)
     else
      (culpritref05_Valid (r6.1,s7.2)).bind fun r9=>
      bif bif r9 != (0:Int) then true else bif decide (s1<(x0.length:Int)) then (s7.2.length:Int)==(0:Int) else false then
       some ((([]:List Int),([]:List Int)),1)
      else
       some ((r6.1,s7.2),0))))
def culpritref37_ParseMeasure (x0:(List UInt8)):Option (((List Int)×(List Int))×Bool):=
 (culpritref37_inner x0 S_it_fails_with_5cf6 S__cdb4).bind fun r1=>
 (culpritref05_Parse r1.1).bind fun r2=>
 (bif (bif bif r1.2 then r2.2==(0:Int) else false then decide ((0:Int)<(r2.1.1.length:Int)) else false) then culpritref17_One else some (([]:List Int),([]:List Int))).bind fun r3=>
 (bif (bif bif r1.2 then r2.2==(0:Int) else false then decide ((0:Int)<(r2.1.1.length:Int)) else false) then culpritref05_Order (r2.1.1,r2.1.2) (r3.1,r3.2) else some (0:Int)).bind fun r4=>
 some ((r2.1.1,r2.1.2),bif bif bif r1.2 then r2.2==(0:Int) else false then decide ((0:Int)<(r2.1.1.length:Int)) else false then decide (r4≤(0:Int)) else false)
def culpritref37_ParseWord_loop1 (r4:(List (List UInt8))) (s6:(List Int)×Int):Option (((List Int)×Int)⊕((List Int)⊕((List Int)×Bool))):=
 bif decide (s6.2<(r4.length:Int)) then
  (idx r4 s6.2).bind fun _=>
  (idx r4 s6.2).bind fun v8=>
  (culpritref37_number v8).bind fun r9=>
  bif !r9.2 then
   some (Sum.inr (Sum.inr (([]:List Int),false)))
  else
   chk (appOk s6.1.length [r9.1].length 8) (
    some (Sum.inl (s6.1++[r9.1],w64 (s6.2+(1:Int)))))
 else
  some (Sum.inr (Sum.inl s6.1))
def culpritref37_ParseWord (x0:(List UInt8)):Option ((List Int)×Bool):=
 (culpritref37_inner x0 S_it_shows_by_th_d234 S__cdb4).bind fun r1=>
 (culpritref37_inner x0 S_it_shows_by_th_603a S__cdb4).bind fun r2=>
 bif bif !r1.2 then !r2.2 else false then
  some (([]:List Int),false)
 else
  ((
   bif r1.2 then
    some r1.1
   else
    some r2.1:Option (List UInt8))).bind fun s3=>
  (culpritref37_Parts s3).bind fun r4=>
  ((
   Itr.it (culpritref37_ParseWord_loop1 r4) (([]:List Int),0):Option ((List Int)⊕((List Int)×Bool)))).bind fun z12=>
  match z12 with
  | Sum.inl s5=>
   (culpritref37_word s5).bind fun r10=>
   (bif r10 then culpritref37_choices s5 else some ([]:List UInt8)).bind fun r11=>
   some (s5,bif r10 then r11==x0 else false)
  | Sum.inr t13=>some t13
def culpritref37_Parse_loop2 (s5:(Int×Int×(List UInt8)×(List (List (Int×Int)))×(List Int)×Int×(List Int)×(List Int))) (r9:((List (Int×Int))×Bool)) (s17:Bool×Int):Option ((Bool×Int)⊕(Bool×Int×(List UInt8)×(List (List (Int×Int)))×(List Int)×Int×(List Int)×(List Int))):=
 bif decide (s17.2<(s5.2.2.2.1.length:Int)) then
  (bif s17.1 then idx s5.2.2.2.1 s17.2 else some ([]:List (Int×Int))).bind fun _=>
  (bif s17.1 then idx s5.2.2.2.1 s17.2 else some ([]:List (Int×Int))).bind fun v19=>
  (bif s17.1 then culpritref22_SameNames v19 r9.1 else some false).bind fun r20=>
  some (Sum.inl (bif s17.1 then !r20 else false,w64 (s17.2+(1:Int))))
 else
  some (Sum.inr (s17.1,s5.2.1,s5.2.2.1,(([]:List (List (Int×Int)))++s5.2.2.2.1)++[r9.1],s5.2.2.2.2.1,s5.2.2.2.2.2.1,s5.2.2.2.2.2.2.1,s5.2.2.2.2.2.2.2))
def culpritref37_Parse_loop1 (x0:(List (List UInt8))) (s5:Int×Int×(List UInt8)×(List (List (Int×Int)))×(List Int)×Int×(List Int)×(List Int)):Option ((Int×Int×(List UInt8)×(List (List (Int×Int)))×(List Int)×Int×(List Int)×(List Int))⊕(Int×(List UInt8)×(List (List (Int×Int)))×(List Int)×Int×(List Int)×(List Int)⊕((Int×(List UInt8)×(List (List (Int×Int)))×(List Int)×Int×((List Int)×(List Int)))×Int×Int))):=
 bif decide (s5.1<(x0.length:Int)) then
  ((
   (idx x0 s5.1).bind fun _=>
   (idx x0 s5.1).bind fun v8=>
   (culpritref37_ParseSet v8).bind fun r9=>
   (idx x0 s5.1).bind fun _=>
   (idx x0 s5.1).bind fun v11=>
   (culpritref37_ParseMeasure v11).bind fun r12=>
   (idx x0 s5.1).bind fun _=>
   (idx x0 s5.1).bind fun v14=>
   (culpritref37_ParseWord v14).bind fun r15=>
   ((
    bif bif bif r9.2 then (s5.2.2.2.2.2.2.1.length:Int)==(0:Int) else false then bif s5.2.1==(2:Int) then true else s5.2.1==(4:Int) else false then
     chk (appOk ([]:List (List (Int×Int))).length s5.2.2.2.1.length 24) (
      chk (appOk (([]:List (List (Int×Int)))++s5.2.2.2.1).length [r9.1].length 24) (
       Itr.it (culpritref37_Parse_loop2 s5 r9) (decide ((((([]:List (List (Int×Int)))++s5.2.2.2.1)++[r9.1]).length:Int)≤(1024:Int)),0)))
    else
     some (false,s5.2.1,s5.2.2.1,s5.2.2.2.1,s5.2.2.2.2.1,s5.2.2.2.2.2.1,s5.2.2.2.2.2.2.1,s5.2.2.2.2.2.2.2):Option (Bool×Int×(List UInt8)×(List (List (Int×Int)))×(List Int)×Int×(List Int)×(List Int)))).bind fun s16=>
   ((
    bif bif bif r12.2 then (s5.2.2.2.2.2.2.1.length:Int)==(0:Int) else false then bif bif bif s5.2.1==(2:Int) then decide ((0:Int)<(s5.2.2.2.1.length:Int)) else false then true else s5.2.1==(3:Int) then true else s5.2.1==(5:Int) else false then
     some (true,s16.2.1,s16.2.2.1,s16.2.2.2.1,s16.2.2.2.2.1,s16.2.2.2.2.2.1,r12.1.1,r12.1.2)
    else
     some (s16.1,s16.2.1,s16.2.2.1,s16.2.2.2.1,s16.2.2.2.2.1,s16.2.2.2.2.2.1,s16.2.2.2.2.2.2.1,s16.2.2.2.2.2.2.2):Option (Bool×Int×(List UInt8)×(List (List (Int×Int)))×(List Int)×Int×(List Int)×(List Int)))).bind fun s21=>
   ((
    bif bif bif bif r15.2 then decide ((0:Int)<(s5.2.2.2.2.2.2.1.length:Int)) else false then (s5.2.2.2.2.1.length:Int)==(0:Int) else false then s5.2.1 != (5:Int) else false then
     some (true,s21.2.1,s21.2.2.1,s21.2.2.2.1,r15.1,s21.2.2.2.2.2.1,s21.2.2.2.2.2.2.1,s21.2.2.2.2.2.2.2)
    else
     some (s21.1,s21.2.1,s21.2.2.1,s21.2.2.2.1,s21.2.2.2.2.1,s21.2.2.2.2.2.1,s21.2.2.2.2.2.2.1,s21.2.2.2.2.2.2.2):Option (Bool×Int×(List UInt8)×(List (List (Int×Int)))×(List Int)×Int×(List Int)×(List Int)))).bind fun s22=>
   bif !s22.1 then
    some (Sum.inr (Sum.inr (Sum.inr ((0,([]:List UInt8),([]:List (List (Int×Int))),([]:List Int),0,(([]:List Int),([]:List Int))),s5.1,2))))
   else
    some (Sum.inl (s22.2.1,s22.2.2.1,s22.2.2.2.1,s22.2.2.2.2.1,s22.2.2.2.2.2.1,s22.2.2.2.2.2.2.1,s22.2.2.2.2.2.2.2)):Option (Int×(List UInt8)×(List (List (Int×Int)))×(List Int)×Int×(List Int)×(List Int)⊕(Int×Int×(List UInt8)×(List (List (Int×Int)))×(List Int)×Int×(List Int)×(List Int)⊕(Int×(List UInt8)×(List (List (Int×Int)))×(List Int)×Int×(List Int)×(List Int)⊕((Int×(List UInt8)×(List (List (Int×Int)))×(List Int)×Int×((List Int)×(List Int)))×Int×Int)))))).bind fun z23=>
  match z23 with
  | Sum.inl s6=>
   some (Sum.inl (w64 (s5.1+(1:Int)),s6.1,s6.2.1,s6.2.2.1,s6.2.2.2.1,s6.2.2.2.2.1,s6.2.2.2.2.2.1,s6.2.2.2.2.2.2))
  | Sum.inr t24=>some t24
 else
  some (Sum.inr (Sum.inl (s5.2.1,s5.2.2.1,s5.2.2.2.1,s5.2.2.2.2.1,s5.2.2.2.2.2.1,s5.2.2.2.2.2.2.1,s5.2.2.2.2.2.2.2)))
def culpritref37_Parse (x0:(List (List UInt8))):Option ((Int×(List UInt8)×(List (List (Int×Int)))×(List Int)×Int×((List Int)×(List Int)))×Int×Int):=
 bif (x0.length:Int)==(0:Int) then
  some ((0,([]:List UInt8),([]:List (List (Int×Int))),([]:List Int),0,(([]:List Int),([]:List Int))),0,3)
 else
  (idx x0 (0:Int)).bind fun _=>
  (idx x0 (0:Int)).bind fun v2=>
  (culpritref37_ParseFirst v2).bind fun r3=>
  bif !r3.2 then
   some ((0,([]:List UInt8),([]:List (List (Int×Int))),([]:List Int),0,(([]:List Int),([]:List Int))),0,2)
  else
   ((
    Itr.it (culpritref37_Parse_loop1 x0) (1,r3.1.1,r3.1.2.1,r3.1.2.2.1,r3.1.2.2.2.1,r3.1.2.2.2.2.1,r3.1.2.2.2.2.2.1,r3.1.2.2.2.2.2.2):Option (Int×(List UInt8)×(List (List (Int×Int)))×(List Int)×Int×(List Int)×(List Int)⊕((Int×(List UInt8)×(List (List (Int×Int)))×(List Int)×Int×((List Int)×(List Int)))×Int×Int)))).bind fun z26=>
   match z26 with
   | Sum.inl s4=>
    (culpritref37_Proper (s4.1,s4.2.1,s4.2.2.1,s4.2.2.2.1,s4.2.2.2.2.1,(s4.2.2.2.2.2.1,s4.2.2.2.2.2.2))).bind fun r25=>
    bif !r25 then
     some ((0,([]:List UInt8),([]:List (List (Int×Int))),([]:List Int),0,(([]:List Int),([]:List Int))),(x0.length:Int),3)
    else
     some ((s4.1,s4.2.1,s4.2.2.1,s4.2.2.2.1,s4.2.2.2.2.1,(s4.2.2.2.2.2.1,s4.2.2.2.2.2.2)),(x0.length:Int),0)
   | Sum.inr t27=>some t27
def culpritref37_Read_loop1 (r1:((List (List (List UInt8)))×Bool)) (s3:(List (Int×(List UInt8)×(List (List (Int×Int)))×(List Int)×Int×((List Int)×(List Int))))×Int):Option (((List (Int×(List UInt8)×(List (List (Int×Int)))×(List Int)×Int×((List Int)×(List Int))))×Int)⊕((List (Int×(List UInt8)×(List (List (Int×Int)))×(List Int)×Int×((List Int)×(List Int))))⊕((List (Int×(List UInt8)×(List (List (Int×Int)))×(List Int)×Int×((List Int)×(List Int))))×Int×Int))):=
 bif decide (s3.2<(r1.1.length:Int)) then
  (idx r1.1 s3.2).bind fun _=>
  (idx r1.1 s3.2).bind fun v5=>
  (culpritref37_Parse v5).bind fun r6=>
  bif bif r6.2.2 != (0:Int) then true else bif s3.2==(w64 ((r1.1.length:Int) - (1:Int))) then !r1.2 else false then
   some (Sum.inr (Sum.inr (([]:List (Int×(List UInt8)×(List (List (Int×Int)))×(List Int)×Int×((List Int)×(List Int)))),s3.2,2)))
  else
   chk (appOk s3.1.length [(r6.1.1,r6.1.2.1,r6.1.2.2.1,r6.1.2.2.2.1,r6.1.2.2.2.2.1,(r6.1.2.2.2.2.2.1,r6.1.2.2.2.2.2.2))].length 128) (
    some (Sum.inl (s3.1++[(r6.1.1,r6.1.2.1,r6.1.2.2.1,r6.1.2.2.2.1,r6.1.2.2.2.2.1,(r6.1.2.2.2.2.2.1,r6.1.2.2.2.2.2.2))],w64 (s3.2+(1:Int)))))
 else
  some (Sum.inr (Sum.inl s3.1))
def culpritref37_Read (x0:(List UInt8)):Option ((List (Int×(List UInt8)×(List (List (Int×Int)))×(List Int)×Int×((List Int)×(List Int))))×Int×Int):=
 bif decide ((65536:Int)<(x0.length:Int)) then
  some (([]:List (Int×(List UInt8)×(List (List (Int×Int)))×(List Int)×Int×((List Int)×(List Int)))),0,4)
 else
  (culpritref37_Rows x0).bind fun r1=>
  bif decide ((64:Int)<(r1.1.length:Int)) then
   some (([]:List (Int×(List UInt8)×(List (List (Int×Int)))×(List Int)×Int×((List Int)×(List Int)))),64,4)
  else
   ((
    Itr.it (culpritref37_Read_loop1 r1) (([]:List (Int×(List UInt8)×(List (List (Int×Int)))×(List Int)×Int×((List Int)×(List Int)))),0):Option ((List (Int×(List UInt8)×(List (List (Int×Int)))×(List Int)×Int×((List Int)×(List Int))))⊕((List (Int×(List UInt8)×(List (List (Int×Int)))×(List Int)×Int×((List Int)×(List Int))))×Int×Int)))).bind fun z7=>
   match z7 with
   | Sum.inl s2=>
    some (s2,(r1.1.length:Int),0)
   | Sum.inr t8=>some t8
def culpritref01_SameInts_loop1 (x0:(List Int)) (x1:(List Int)) (s2:Int):Option ((Int)⊕(Unit⊕Bool)):=
 bif decide (s2<(x0.length:Int)) then
  (idx x0 s2).bind fun _=>
  (idx x0 s2).bind fun v4=>
  (idx x1 s2).bind fun _=>
  (idx x1 s2).bind fun v6=>
  bif v4 != v6 then
   some (Sum.inr (Sum.inr false))
  else
   some (Sum.inl (w64 (s2+(1:Int))))
 else
  some (Sum.inr (Sum.inl ()))
def culpritref01_SameInts (x0:(List Int)) (x1:(List Int)):Option Bool:=
 bif (x0.length:Int) != (x1.length:Int) then
  some false
 else
  ((
   Itr.it (culpritref01_SameInts_loop1 x0 x1) 0:Option (Unit⊕Bool))).bind fun z7=>
  match z7 with
  | Sum.inl _=>
   some true
  | Sum.inr t8=>some t8
def culpritref05_SameLimbs_loop1 (x0:(List Int)) (x1:(List Int)) (s2:Int):Option ((Int)⊕(Unit⊕Bool)):=
 bif decide (s2<(x0.length:Int)) then
  (idx x0 s2).bind fun _=>
  (idx x0 s2).bind fun v4=>
  (idx x1 s2).bind fun _=>
  (idx x1 s2).bind fun v6=>
  bif v4 != v6 then
   some (Sum.inr (Sum.inr false))
  else
   some (Sum.inl (w64 (s2+(1:Int))))
 else
  some (Sum.inr (Sum.inl ()))
def culpritref05_SameLimbs (x0:(List Int)) (x1:(List Int)):Option Bool:=
 bif (x0.length:Int) != (x1.length:Int) then
  some false
 else
  ((
   Itr.it (culpritref05_SameLimbs_loop1 x0 x1) 0:Option (Unit⊕Bool))).bind fun z7=>
  match z7 with
  | Sum.inl _=>
   some true
  | Sum.inr t8=>some t8
def culpritref05_Same (x0:((List Int)×(List Int))) (x1:((List Int)×(List Int))):Option Bool:=
 (culpritref05_SameLimbs x0.1 x1.1).bind fun r1=>
 (bif r1 then culpritref05_SameLimbs x0.2 x1.2 else some false).bind fun r2=>
 some (bif r1 then r2 else false)
def culpritref36_Same_loop1 (x0:(Int×(List UInt8)×(List (List (Int×Int)))×(List Int)×Int×((List Int)×(List Int)))) (x1:(Int×(List UInt8)×(List (List (Int×Int)))×(List Int)×Int×((List Int)×(List Int)))) (s4:Int):Option ((Int)⊕(Unit⊕Bool)):=
 bif decide (s4<(x0.2.2.1.length:Int)) then
  (idx x0.2.2.1 s4).bind fun _=>
  (idx x0.2.2.1 s4).bind fun v6=>
  (idx x1.2.2.1 s4).bind fun _=>
  (idx x1.2.2.1 s4).bind fun v8=>
  (culpritref22_SameNames v6 v8).bind fun r9=>
  bif !r9 then
   some (Sum.inr (Sum.inr false))
  else
   some (Sum.inl (w64 (s4+(1:Int))))
 else
  some (Sum.inr (Sum.inl ()))
def culpritref36_Same (x0:(Int×(List UInt8)×(List (List (Int×Int)))×(List Int)×Int×((List Int)×(List Int)))) (x1:(Int×(List UInt8)×(List (List (Int×Int)))×(List Int)×Int×((List Int)×(List Int)))):Option Bool:=
 (bif !(bif bif x0.1 != x1.1 then true else !(x0.2.1==x1.2.1) then true else (x0.2.2.1.length:Int) != (x1.2.2.1.length:Int)) then culpritref01_SameInts x0.2.2.2.1 x1.2.2.2.1 else some false).bind fun r1=>
 (bif !(bif bif bif bif x0.1 != x1.1 then true else !(x0.2.1==x1.2.1) then true else (x0.2.2.1.length:Int) != (x1.2.2.1.length:Int) then true else !r1 then true else x0.2.2.2.2.1 != x1.2.2.2.2.1) then culpritref05_Same (x0.2.2.2.2.2.1,x0.2.2.2.2.2.2) (x1.2.2.2.2.2.1,x1.2.2.2.2.2.2) else some false).bind fun r2=>
 bif bif bif bif bif bif x0.1 != x1.1 then true else !(x0.2.1==x1.2.1) then true else (x0.2.2.1.length:Int) != (x1.2.2.1.length:Int) then true else !r1 then true else x0.2.2.2.2.1 != x1.2.2.2.2.1 then true else !r2 then
  some false
 else
  ((
   Itr.it (culpritref36_Same_loop1 x0 x1) 0:Option (Unit⊕Bool))).bind fun z10=>
  match z10 with
  | Sum.inl _=>
   some true
  | Sum.inr t11=>some t11
def culpritlaw37_sameAll_loop1 (x0:(List (Int×(List UInt8)×(List (List (Int×Int)))×(List Int)×Int×((List Int)×(List Int))))) (x1:(List (Int×(List UInt8)×(List (List (Int×Int)))×(List Int)×Int×((List Int)×(List Int))))) (s2:Int):Option ((Int)⊕(Unit⊕Bool)):=
 bif decide (s2<(x0.length:Int)) then
  (idx x0 s2).bind fun _=>
  (idx x0 s2).bind fun v4=>
  (idx x1 s2).bind fun _=>
  (idx x1 s2).bind fun v6=>
  (culpritref36_Same (v4.1,v4.2.1,v4.2.2.1,v4.2.2.2.1,v4.2.2.2.2.1,(v4.2.2.2.2.2.1,v4.2.2.2.2.2.2)) (v6.1,v6.2.1,v6.2.2.1,v6.2.2.2.1,v6.2.2.2.2.1,(v6.2.2.2.2.2.1,v6.2.2.2.2.2.2))).bind fun r7=>
  bif !r7 then
   some (Sum.inr (Sum.inr false))
  else
   some (Sum.inl (w64 (s2+(1:Int))))
 else
  some (Sum.inr (Sum.inl ()))
def culpritlaw37_sameAll (x0:(List (Int×(List UInt8)×(List (List (Int×Int)))×(List Int)×Int×((List Int)×(List Int))))) (x1:(List (Int×(List UInt8)×(List (List (Int×Int)))×(List Int)×Int×((List Int)×(List Int))))):Option Bool:=
 bif (x0.length:Int) != (x1.length:Int) then
  some false
 else
  ((
   Itr.it (culpritlaw37_sameAll_loop1 x0 x1) 0:Option (Unit⊕Bool))).bind fun z8=>
  match z8 with
  | Sum.inl _=>
   some true
  | Sum.inr t9=>some t9
def culpritlaw37_ReportPages_loop1 (r2:(List (Int×(List UInt8)×(List (List (Int×Int)))×(List Int)×Int×((List Int)×(List Int))))) (r4:(Int×(List UInt8)×(List (List (Int×Int)))×(List Int)×Int×((List Int)×(List Int)))) (r5:Int) (r7:(List (Int×(List UInt8)×(List (List (Int×Int)))×(List Int)×Int×((List Int)×(List Int))))) (s9:Int):Option ((Int)⊕(Unit⊕Bool)):=
 bif decide (s9<([r2,(([]:List (Int×(List UInt8)×(List (List (Int×Int)))×(List Int)×Int×((List Int)×(List Int))))++r2)++[(r4.1,r4.2.1,r4.2.2.1,r4.2.2.2.1,r4.2.2.2.2.1,(r4.2.2.2.2.2.1,r4.2.2.2.2.2.2))],List.replicate (w64 ((64:Int)+r5)).toNat ((0,([]:List UInt8),([]:List (List (Int×Int))),([]:List Int),0,(([]:List Int),([]:List Int))):(Int×(List UInt8)×(List (List (Int×Int)))×(List Int)×Int×((List Int)×(List Int)))),r7].length:Int)) then
  (idx [r2,(([]:List (Int×(List UInt8)×(List (List (Int×Int)))×(List Int)×Int×((List Int)×(List Int))))++r2)++[(r4.1,r4.2.1,r4.2.2.1,r4.2.2.2.1,r4.2.2.2.2.1,(r4.2.2.2.2.2.1,r4.2.2.2.2.2.2))],List.replicate (w64 ((64:Int)+r5)).toNat ((0,([]:List UInt8),([]:List (List (Int×Int))),([]:List Int),0,(([]:List Int),([]:List Int))):(Int×(List UInt8)×(List (List (Int×Int)))×(List Int)×Int×((List Int)×(List Int)))),r7] s9).bind fun _=>
  (idx [r2,(([]:List (Int×(List UInt8)×(List (List (Int×Int)))×(List Int)×Int×((List Int)×(List Int))))++r2)++[(r4.1,r4.2.1,r4.2.2.1,r4.2.2.2.1,r4.2.2.2.2.1,(r4.2.2.2.2.2.1,r4.2.2.2.2.2.2))],List.replicate (w64 ((64:Int)+r5)).toNat ((0,([]:List UInt8),([]:List (List (Int×Int))),([]:List Int),0,(([]:List Int),([]:List Int))):(Int×(List UInt8)×(List (List (Int×Int)))×(List Int)×Int×((List Int)×(List Int)))),r7] s9).bind fun v11=>
  (report_Page v11).bind fun r12=>
  (idx [r2,(([]:List (Int×(List UInt8)×(List (List (Int×Int)))×(List Int)×Int×((List Int)×(List Int))))++r2)++[(r4.1,r4.2.1,r4.2.2.1,r4.2.2.2.1,r4.2.2.2.2.1,(r4.2.2.2.2.2.1,r4.2.2.2.2.2.2))],List.replicate (w64 ((64:Int)+r5)).toNat ((0,([]:List UInt8),([]:List (List (Int×Int))),([]:List Int),0,(([]:List Int),([]:List Int))):(Int×(List UInt8)×(List (List (Int×Int)))×(List Int)×Int×((List Int)×(List Int)))),r7] s9).bind fun _=>
  (idx [r2,(([]:List (Int×(List UInt8)×(List (List (Int×Int)))×(List Int)×Int×((List Int)×(List Int))))++r2)++[(r4.1,r4.2.1,r4.2.2.1,r4.2.2.2.1,r4.2.2.2.2.1,(r4.2.2.2.2.2.1,r4.2.2.2.2.2.2))],List.replicate (w64 ((64:Int)+r5)).toNat ((0,([]:List UInt8),([]:List (List (Int×Int))),([]:List Int),0,(([]:List Int),([]:List Int))):(Int×(List UInt8)×(List (List (Int×Int)))×(List Int)×Int×((List Int)×(List Int)))),r7] s9).bind fun v14=>
  (culpritref37_Page v14).bind fun r15=>
  bif bif r12.2 != r15.2 then true else !(r12.1==r15.1) then
   some (Sum.inr (Sum.inr false))
  else
   some (Sum.inl (w64 (s9+(1:Int))))
 else
  some (Sum.inr (Sum.inl ()))
def culpritlaw37_ReportPages_loop2 (r16:((List UInt8)×Int)) (r18:((List UInt8)×Int)) (r19:Int) (r20:(List UInt8)) (s22:Int):Option ((Int)⊕(Unit⊕Bool)):=
 bif decide (s22<([r16.1,(r16.1.take r19.toNat).drop (0:Int).toNat,(((r16.1.take r19.toNat).drop (0:Int).toNat)++S__01ba)++((r16.1.take (r16.1.length:Int).toNat).drop r19.toNat),(((r16.1.take r19.toNat).drop (0:Int).toNat)++r20)++((r16.1.take (r16.1.length:Int).toNat).drop r19.toNat),r20,r16.1++S__01ba,r18.1++r16.1,([]:List UInt8)].length:Int)) then
  (idx [r16.1,(r16.1.take r19.toNat).drop (0:Int).toNat,(((r16.1.take r19.toNat).drop (0:Int).toNat)++S__01ba)++((r16.1.take (r16.1.length:Int).toNat).drop r19.toNat),(((r16.1.take r19.toNat).drop (0:Int).toNat)++r20)++((r16.1.take (r16.1.length:Int).toNat).drop r19.toNat),r20,r16.1++S__01ba,r18.1++r16.1,([]:List UInt8)] s22).bind fun _=>
  (idx [r16.1,(r16.1.take r19.toNat).drop (0:Int).toNat,(((r16.1.take r19.toNat).drop (0:Int).toNat)++S__01ba)++((r16.1.take (r16.1.length:Int).toNat).drop r19.toNat),(((r16.1.take r19.toNat).drop (0:Int).toNat)++r20)++((r16.1.take (r16.1.length:Int).toNat).drop r19.toNat),r20,r16.1++S__01ba,r18.1++r16.1,([]:List UInt8)] s22).bind fun v24=>
  (report_Read v24).bind fun r25=>
  (idx [r16.1,(r16.1.take r19.toNat).drop (0:Int).toNat,(((r16.1.take r19.toNat).drop (0:Int).toNat)++S__01ba)++((r16.1.take (r16.1.length:Int).toNat).drop r19.toNat),(((r16.1.take r19.toNat).drop (0:Int).toNat)++r20)++((r16.1.take (r16.1.length:Int).toNat).drop r19.toNat),r20,r16.1++S__01ba,r18.1++r16.1,([]:List UInt8)] s22).bind fun _=>
  (idx [r16.1,(r16.1.take r19.toNat).drop (0:Int).toNat,(((r16.1.take r19.toNat).drop (0:Int).toNat)++S__01ba)++((r16.1.take (r16.1.length:Int).toNat).drop r19.toNat),(((r16.1.take r19.toNat).drop (0:Int).toNat)++r20)++((r16.1.take (r16.1.length:Int).toNat).drop r19.toNat),r20,r16.1++S__01ba,r18.1++r16.1,([]:List UInt8)] s22).bind fun v27=>
  (culpritref37_Read v27).bind fun r28=>
  (bif !(bif r25.2.1 != r28.2.1 then true else r25.2.2 != r28.2.2) then culpritlaw37_sameAll r25.1 r28.1 else some false).bind fun r29=>
  bif bif bif r25.2.1 != r28.2.1 then true else r25.2.2 != r28.2.2 then true else !r29 then
   some (Sum.inr (Sum.inr false))
  else
   some (Sum.inl (w64 (s22+(1:Int))))
 else
  some (Sum.inr (Sum.inl ()))
def culpritlaw37_ReportPages (x0:(List Int)) (x1:Int) (x2:Int) (x3:Int) (x4:Int) (x5:(List UInt8)):Option Bool:=
 (culpritref01_Around x1 4).bind fun r1=>
 (culpritlaw37_verdicts x0 r1).bind fun r2=>
 chk (appOk ([]:List (Int×(List UInt8)×(List (List (Int×Int)))×(List Int)×Int×((List Int)×(List Int)))).length r2.length 128) (
  (culpritref37_Made x0).bind fun r3=>
  (culpritref37_Spoilt (r3.1,r3.2.1,r3.2.2.1,r3.2.2.2.1,r3.2.2.2.2.1,(r3.2.2.2.2.2.1,r3.2.2.2.2.2.2)) x3 x4).bind fun r4=>
  chk (appOk (([]:List (Int×(List UInt8)×(List (List (Int×Int)))×(List Int)×Int×((List Int)×(List Int))))++r2).length [(r4.1,r4.2.1,r4.2.2.1,r4.2.2.2.1,r4.2.2.2.2.1,(r4.2.2.2.2.2.1,r4.2.2.2.2.2.2))].length 128) (
   (culpritref01_Around x4 2).bind fun r5=>
   chk (decide (0≤(w64 ((64:Int)+r5))∧(w64 ((64:Int)+r5)) * 128≤281474976710656∧(w64 ((64:Int)+r5))≤maxLen)) (
    (culpritref01_Around x4 3).bind fun r6=>
    (culpritlaw37_verdicts [1] (w64 ((63:Int)+r6))).bind fun r7=>
    ((
     Itr.it (culpritlaw37_ReportPages_loop1 r2 r4 r5 r7) 0:Option (Unit⊕Bool))).bind fun z34=>
    match z34 with
    | Sum.inl _=>
     (culpritref37_Page r2).bind fun r16=>
     (culpritlaw37_verdicts [1] 62).bind fun r17=>
     (culpritref37_Page r17).bind fun r18=>
     (culpritref01_Around x2 (w64 ((r16.1.length:Int)+(1:Int)))).bind fun r19=>
     (culpritref01_Short x5 60).bind fun r20=>
     chk (decide (0≤(0:Int)∧(0:Int)≤r19∧r19≤r16.1.length)) (
      chk (decide (0≤(0:Int)∧(0:Int)≤r19∧r19≤r16.1.length)) (
       chk (decide (((r16.1.take r19.toNat).drop (0:Int).toNat).length+S__01ba.length≤9223372036854775807)) (
        chk (decide (0≤r19∧r19≤(r16.1.length:Int)∧(r16.1.length:Int)≤r16.1.length)) (
         chk (decide ((((r16.1.take r19.toNat).drop (0:Int).toNat)++S__01ba).length+((r16.1.take (r16.1.length:Int).toNat).drop r19.toNat).length≤9223372036854775807)) (
          chk (decide (0≤(0:Int)∧(0:Int)≤r19∧r19≤r16.1.length)) (
           chk (decide (((r16.1.take r19.toNat).drop (0:Int).toNat).length+r20.length≤9223372036854775807)) (
            chk (decide (0≤r19∧r19≤(r16.1.length:Int)∧(r16.1.length:Int)≤r16.1.length)) (
             chk (decide ((((r16.1.take r19.toNat).drop (0:Int).toNat)++r20).length+((r16.1.take (r16.1.length:Int).toNat).drop r19.toNat).length≤9223372036854775807)) (
              chk (decide (r16.1.length+S__01ba.length≤9223372036854775807)) (
               chk (decide (r18.1.length+r16.1.length≤9223372036854775807)) (
                ((
                 Itr.it (culpritlaw37_ReportPages_loop2 r16 r18 r19 r20) 0:Option (Unit⊕Bool))).bind fun z32=>
                match z32 with
                | Sum.inl _=>
                 chk (decide (0≤(65537:Int)∧(65537:Int) * 1≤281474976710656∧(65537:Int)≤maxLen)) (
                  (report_Read (List.map (fun n=>UInt8.ofNat n.toNat) (List.replicate (65537:Int).toNat (0:Int)))).bind fun r30=>
                  (bif (r30.2.2==(4:Int)) then culpritlaw37_lives else some false).bind fun r31=>
                  some (bif r30.2.2==(4:Int) then r31 else false))
                | Sum.inr t33=>some t33)))))))))))
    | Sum.inr t35=>some t35)))
end Go.Proofs.YtknnphhepnbaoaaGreatDoor
