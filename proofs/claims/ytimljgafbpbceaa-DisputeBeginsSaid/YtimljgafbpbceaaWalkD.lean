/-
  The functions of the program compute what their Lean functions say. No condition.
-/
import Derived.Test.YtimljgafbpbceaaWalkC
namespace Go.Proofs.Ytimljgafbpbceaa
open Go.Sm
set_option maxHeartbeats 8000000

theorem culpritlaw32_DisputeHalves_ok {x0 : (List Int)} {x1 : Int} {x2 : Int} {x3 : Int} {h0_0 : Hd} {r : Bool} (hF : culpritlaw32_DisputeHalves x0 x1 x2 x3 = some r) : ∀ (w : World) (S : Nat → Prop), Heap w (oldc S) [.rep (tI .i64) [1] x0 h0_0] → Calls Try.prog 4 #[Hd.val h0_0, .int .i64 (x1), .int .i64 (x2), .int .i64 (x3)] w (Post w S (fun (_ : Unit) => .bool (r)) (fun (_ : Unit) => [])) := by
  intro w S hL
  refine s_enter (n := 186) Try.func4 rfl rfl _ rfl hL ?_
  refine s_seq ?_
  refine s_region ?_
  refine s_pure (p_assign (v := .bool (false)) rfl rfl) rfl rfl rfl ?_
  refine s_nil ?_
  refine x_then ?_
  refine s_seq ?_
  refine s_region ?_
  refine s_pure (p_move (v := Hd.val h0_0) rfl rfl) rfl rfl rfl ?_
  obtain ⟨r1, e2, hF⟩ := bind_some hF
  refine s_op0 (ok_call (N := 11) (Φ := fun y3 => [.own (tA 16 .u8) 52 11 [] r1 y3]) (culpritref32_Small_ok e2) rfl rfl rfl Try.func5 rfl Try.nm5 [1] ⟨.inl ⟨1, _, rfl, cov_rep rfl⟩, trivial⟩ (fun _ => rfl) (fun _ => rfl) rfl) rfl rfl rfl (fun y3 => ?_)
  refine s_nilrow (tA 16 .u8) 52 24 [] ?_
  refine s_op0 (ok_alloc (N := 25) (cs := [Hd.val (nilH 52)]) rfl Try.ti25 rfl rfl) rfl rfl rfl (fun b5 => ?_)
  refine s_opn (ok_store_box (v := .agg ([Hd.val y3]).toArray) (vs := [Hd.val y3]) (cs' := [Hd.val y3]) 0 rfl rfl Try.ti25 rfl rfl rfl rfl rfl rfl rfl) rfl rfl rfl (fun _ => ?_)
  refine s_nil ?_
  refine x_then ?_
  obtain ⟨r6, e7, hF⟩ := bind_some hF
  refine s_join (fun y8 : Hd => [(1, .int .i64 (x1)), (2, .int .i64 (x2)), (9, .pointer (some ⟨b5, 0, none⟩))]) (fun y8 : Hd => [.old w S, .box 25 b5 [Hd.val y8], .own (tA 16 .u8) 52 11 [] r6 y8]) ?_ ?_
  ·
   refine s_seq ?_
   refine s_region ?_
   refine s_pure (p_assign (v := .int .i64 (0)) rfl rfl) rfl rfl rfl ?_
   refine s_nil ?_
   refine x_then ?_
   refine s_block ?_
   refine sim_loop (fun (s9 : Int × (List (List Int))) (y10 : Hd) => [(1, .int .i64 (x1)), (2, .int .i64 (x2)), (3, .int .i64 (x3)), (9, .pointer (some ⟨b5, 0, none⟩)), (10, .int .i64 (s9.1))]) (fun (s9 : Int × (List (List Int))) (y10 : Hd) => [.old w S, .box 25 b5 [Hd.val y10], .own (tA 16 .u8) 52 11 [] s9.2 y10]) y3 e7 [(11, 11), (25, 25)] 2 rfl ⟨rfl, rfl, rfl, rfl, rfl, trivial⟩ ⟨.inl ⟨3, _, rfl, weak_same⟩, .inl ⟨0, _, rfl, weak_same⟩, .inl ⟨2, _, rfl, weak_slim rfl⟩, trivial⟩ ?_
   intro s9 y10 ρ' z11 e12
   refine s_seq ?_
   refine s_seq ?_
   refine s_region ?_
   refine s_pure (p_move (v := .int .i64 (s9.1)) rfl rfl) rfl rfl rfl ?_
   refine s_pure (p_move (v := .int .i64 (x3)) rfl rfl) rfl rfl rfl ?_
   obtain ⟨r13, e14, e12⟩ := bind_some e12
   refine s_op0 (ok_call (N := 26) (Φ := fun y15 => []) (culpritref01_Around_ok e14) rfl rfl rfl Try.func7 rfl Try.nm7 [] trivial (fun _ => rfl) (fun _ => rfl) rfl) rfl rfl rfl (fun y15 => ?_)
   refine s_pure (p_lss rfl rfl rfl) rfl rfl rfl ?_
   refine s_nil ?_
   refine x_then ?_
   refine s_cond rfl (fun hb16 => ?_) (fun hb16 => ?_)
   ·
    replace e12 := cond_t hb16 e12
    refine s_skip ?_
    refine x_then ?_
    refine s_seq ?_
    refine s_block ?_
    refine s_region ?_
    refine s_pure (p_fieldAddr (fo := 0) rfl Try.underlying25 rfl Try.ti23 rfl rfl rfl) rfl rfl rfl ?_
    refine s_pure (p_load_box (v := Hd.val y10) 1 rfl rfl Try.underlying23 rfl rfl rfl) rfl rfl rfl ?_
    refine s_pure (p_move (v := .int .i64 (s9.1)) rfl rfl) rfl rfl rfl ?_
    refine s_pure (p_conv rfl Try.underlying3 Try.underlying5 rfl) rfl rfl rfl ?_
    refine s_pure (p_build_array (vals := [(0, [.int .u8 (IntKind.u8.wrap s9.1)]), (1, [.int .u8 (7)])]) (cells := ((tA 16 .u8).fill (((List.replicate 16 0).set 0 (IntKind.u8.wrap s9.1)).set 1 7) ())) rfl Try.underlying52 Try.ti52 Try.ti5 rfl rfl) rfl rfl rfl ?_
    refine s_op0 (ok_buildSlice (N := 38) (vals := [(0, ((tA 16 .u8).fill (((List.replicate 16 0).set 0 (IntKind.u8.wrap s9.1)).set 1 7) ()))]) (cells := ((tA 16 .u8).fill (((List.replicate 16 0).set 0 (IntKind.u8.wrap s9.1)).set 1 7) ())) (ty := (tA 16 .u8)) (K := []) (xs := [(((List.replicate 16 0).set 0 (IntKind.u8.wrap s9.1)).set 1 7)]) (ys := [()]) rfl Try.underlying23 Try.ti52 rfl rfl rfl rfl rfl rfl rfl rfl trivial rfl) rfl rfl rfl (fun h17 => ?_)
    obtain ⟨c18, e12⟩ := chk_some e12
    refine s_op (ok_append_p (ty := (tA 16 .u8)) (xs := s9.2) (ys := [(((List.replicate 16 0).set 0 (IntKind.u8.wrap s9.1)).set 1 7)]) (h := y10) (hx := h17) (K2 := [38]) rfl 3 0 rfl _ rfl (weak_own rfl) rfl Try.underlying23 Try.ti52 rfl rfl rfl rfl rfl c18 rfl rfl) rfl rfl rfl rfl (fun h19 => ?_)
    refine s_pure (p_fieldAddr (fo := 0) rfl Try.underlying25 rfl Try.ti23 rfl rfl rfl) rfl rfl rfl ?_
    refine s_opn (ok_store_box (v := Hd.val h19) (vs := [Hd.val h19]) (cs' := [Hd.val h19]) 3 rfl rfl Try.ti23 rfl rfl rfl rfl rfl rfl rfl) rfl rfl rfl (fun _ => ?_)
    refine s_nil ?_
    refine x_block ?_
    refine x_then ?_
    refine s_region ?_
    refine s_pure (p_move (v := .int .i64 (s9.1)) rfl rfl) rfl rfl rfl ?_
    refine s_pure (p_add rfl rfl rfl) rfl rfl rfl ?_
    refine s_pure (p_assign (v := .int .i64 (w64 (s9.1 + 1))) rfl rfl) rfl rfl rfl ?_
    refine s_nil ?_
    exact x_next h19 e12 [(11, 11), (25, 25)] 2 rfl ⟨rfl, rfl, rfl, rfl, rfl, trivial⟩ ⟨.inl ⟨3, _, rfl, weak_same⟩, .inl ⟨0, _, rfl, weak_same⟩, .inl ⟨1, _, rfl, weak_slim rfl⟩, trivial⟩
   ·
    replace e12 := cond_f hb16 e12
    refine s_exit ?_
    refine x_then_exit ?_
    refine x_out e12 (fun e20 => ?_)
    subst e20
    refine x_block_exit ?_
    exact x_join y10 [(11, 11), (25, 25)] 2 rfl ⟨rfl, rfl, rfl, trivial⟩ ⟨.inl ⟨0, _, rfl, weak_same⟩, .inl ⟨1, _, rfl, weak_same⟩, .inl ⟨2, _, rfl, weak_slim rfl⟩, trivial⟩
  ·
   intro y8 ρ'
   refine s_seq ?_
   refine s_region ?_
   refine s_pure (p_loadN_box (cs' := [Hd.val y8]) 1 rfl rfl Try.underlying25 rfl Try.ti25 rfl rfl rfl) rfl rfl rfl ?_
   refine s_pure (p_move (v := .int .i64 (x1)) rfl rfl) rfl rfl rfl ?_
   refine s_pure (p_move (v := .int .i64 (x2)) rfl rfl) rfl rfl rfl ?_
   obtain ⟨r21, e22, hF⟩ := bind_some hF
   refine s_op0 (ok_call (N := 39) (Φ := fun y23 => [.own (tA 16 .u8) 52 39 [] r21 y23]) (culpritref32_Bent_ok e22) rfl rfl rfl Try.func6 rfl Try.nm6 [11] ⟨.inl ⟨2, _, rfl, cov_own rfl⟩, trivial⟩ (fun _ => rfl) (fun _ => rfl) rfl) rfl rfl rfl (fun y23 => ?_)
   refine s_nilrow (tA 16 .u8) 52 52 [] ?_
   refine s_op0 (ok_alloc (N := 53) (cs := [Hd.val (nilH 52)]) rfl Try.ti25 rfl rfl) rfl rfl rfl (fun b25 => ?_)
   refine s_opn (ok_store_box (v := .agg ([Hd.val y23]).toArray) (vs := [Hd.val y23]) (cs' := [Hd.val y23]) 0 rfl rfl Try.ti25 rfl rfl rfl rfl rfl rfl rfl) rfl rfl rfl (fun _ => ?_)
   refine s_nil ?_
   refine x_then ?_
   refine s_seq ?_
   refine s_nilrow' (tI .i64) 3 54 [] ?_
   obtain ⟨r26, e27, hF⟩ := bind_some hF
   obtain ⟨r29, e30, hF⟩ := bind_some hF
   obtain ⟨r32, e33, hF⟩ := bind_some hF
   refine s_draw Try.mixed [⟨true, 42, [], Unit, fun _ => .agg ([Hd.val y8]).toArray, fun _ => [], [], [], []⟩, ⟨true, 43, [0], Hd, fun (y28 : Hd) => .agg ([Hd.val y28]).toArray, fun y28 => [.rep (tA 16 .u8) [11] r26 y28], [], [], []⟩, ⟨true, 44, [], Unit, fun _ => .agg ([Hd.val y23]).toArray, fun _ => [], [], [], []⟩, ⟨true, 45, [2], Hd, fun (y31 : Hd) => .agg ([Hd.val y31]).toArray, fun y31 => [.rep (tA 16 .u8) [39] r29 y31], [], [], []⟩, ⟨true, 46, [1, 3], Hd, fun (y34 : Hd) => .tuple #[.agg ([.int .i64 (r32.1.1), .int .i64 (r32.1.2.1), Hd.val y34]).toArray, .int .i64 (r32.2)], fun y34 => [.own (tI .i64) 3 79 [] r32.1.2.2 y34], [], [], []⟩, ⟨true, 41, [4], Hd, fun (z36 : Hd) => .tuple #[.agg ([.int .i64 (r32.1.1), .int .i64 (r32.1.2.1), Hd.val z36]).toArray, .int .i64 (r32.2)], fun z36 => [.own (tI .i64) 3 79 [] r32.1.2.2 z36], [], [], []⟩, ⟨true, 47, [5], Hd, fun (z37 : Hd) => .agg ([.int .i64 (r32.1.1), .int .i64 (r32.1.2.1), Hd.val z37]).toArray, fun z37 => [.own (tI .i64) 3 79 [] r32.1.2.2 z37], [], [], []⟩, ⟨true, 48, [5], Unit, fun _ => .int .i64 (r32.2), fun _ => [], [], [], []⟩, ⟨true, 12, [], Nat, fun (b35 : Nat) => .pointer (some ⟨b35, 0, none⟩), fun b35 => [.box 91 b35 [.int .i64 (0), .int .i64 (0), Hd.val (nilH 3)]], [], [], []⟩, ⟨true, 195, [8, 6], Hd × Nat, fun (z38 : Hd × Nat) => undef, fun z38 => [.box 91 z38.2 [.int .i64 (r32.1.1), .int .i64 (r32.1.2.1), Hd.val z38.1], .own (tI .i64) 3 79 [] r32.1.2.2 z38.1], [91], [8], [(12, fun z38 => .pointer (some ⟨z38.2, 0, none⟩))]⟩] [[], [0], [], [0, 1, 2], [0, 1, 2, 3], [0, 1, 2, 3, 4], [0, 1, 2, 3, 4, 5], [0, 1, 2, 3, 4, 5], [], [0, 1, 2, 3, 4, 5, 6, 8], [0, 1, 2, 3, 4, 5, 6, 7, 8, 9]] rfl rfl rfl rfl rfl ⟨.inl rfl, .inl rfl, .inl rfl, .inl rfl, .inl rfl, .inl rfl, .inl rfl, .inl rfl, .inl rfl, .inr ⟨.inr fun _ => rfl, .inr fun _ => rfl, .inr fun _ => rfl, .inr fun _ => rfl, .inr fun _ => rfl, .inr fun _ => rfl, .inr fun _ => rfl, .inr fun _ => rfl, .inl rfl, .inl rfl, trivial⟩, trivial⟩ ?_ [7, 9] rfl rfl (fun us => ?_)
   ·
    refine all_cons [.own (tI .i64) 3 54 [] ([] : List Int) (nilH 3), .box 53 b25 [Hd.val y23], .own (tA 16 .u8) 52 52 [] ([] : List (List Int)) (nilH 52), .own (tA 16 .u8) 52 39 [] r21 y23, .old w S, .box 25 b5 [Hd.val y8], .own (tA 16 .u8) 52 11 [] r6 y8] rfl (dst_some rfl rfl) rfl rfl rfl rfl (gd_none rfl rfl) (fun _ => ?_) ?_
    ·
     refine ob_nil rfl ?_
     exact PureOk.op (p_loadN_box (cs' := [Hd.val y8]) 5 rfl rfl Try.underlying25 rfl Try.ti25 rfl rfl rfl)
    refine all_cons [.own (tI .i64) 3 54 [] ([] : List Int) (nilH 3), .box 53 b25 [Hd.val y23], .own (tA 16 .u8) 52 52 [] ([] : List (List Int)) (nilH 52), .own (tA 16 .u8) 52 39 [] r21 y23, .old w S, .box 25 b5 [Hd.val y8], .own (tA 16 .u8) 52 11 [] r6 y8] rfl (dst_some rfl rfl) rfl rfl rfl rfl (gd_none rfl rfl) (fun _ => ?_) ?_
    ·
     refine ob_one rfl rfl (fun _ => ?_)
     refine ob_nil rfl ?_
     exact ok_call (N := 55) (Φ := fun y28 => [.rep (tA 16 .u8) [11] r26 y28]) (culpritlaw32_own_ok e27) rfl rfl rfl Try.func8 rfl Try.nm8 [11] ⟨.inl ⟨6, _, rfl, cov_own rfl⟩, trivial⟩ (fun _ => rfl) (fun _ => rfl) rfl
    refine all_cons [.own (tI .i64) 3 54 [] ([] : List Int) (nilH 3), .box 53 b25 [Hd.val y23], .own (tA 16 .u8) 52 52 [] ([] : List (List Int)) (nilH 52), .own (tA 16 .u8) 52 39 [] r21 y23, .old w S, .box 25 b5 [Hd.val y8], .own (tA 16 .u8) 52 11 [] r6 y8] rfl (dst_some rfl rfl) rfl rfl rfl rfl (gd_none rfl rfl) (fun _ => ?_) ?_
    ·
     refine ob_nil rfl ?_
     exact PureOk.op (p_loadN_box (cs' := [Hd.val y23]) 1 rfl rfl Try.underlying25 rfl Try.ti25 rfl rfl rfl)
    refine all_cons [.own (tI .i64) 3 54 [] ([] : List Int) (nilH 3), .box 53 b25 [Hd.val y23], .own (tA 16 .u8) 52 52 [] ([] : List (List Int)) (nilH 52), .own (tA 16 .u8) 52 39 [] r21 y23, .old w S, .box 25 b5 [Hd.val y8], .own (tA 16 .u8) 52 11 [] r6 y8] rfl (dst_some rfl rfl) rfl rfl rfl rfl (gd_none rfl rfl) (fun _ => ?_) ?_
    ·
     refine ob_one rfl rfl (fun _ => ?_)
     refine ob_nil rfl ?_
     exact ok_call (N := 67) (Φ := fun y31 => [.rep (tA 16 .u8) [39] r29 y31]) (culpritlaw32_own_ok e30) rfl rfl rfl Try.func8 rfl Try.nm8 [39] ⟨.inl ⟨3, _, rfl, cov_own rfl⟩, trivial⟩ (fun _ => rfl) (fun _ => rfl) rfl
    refine all_cons [.own (tI .i64) 3 54 [] ([] : List Int) (nilH 3), .box 53 b25 [Hd.val y23], .own (tA 16 .u8) 52 52 [] ([] : List (List Int)) (nilH 52), .own (tA 16 .u8) 52 39 [] r21 y23, .old w S, .box 25 b5 [Hd.val y8], .own (tA 16 .u8) 52 11 [] r6 y8] rfl (dst_some rfl rfl) rfl rfl rfl rfl (gd_none rfl rfl) (fun _ => ?_) ?_
    ·
     refine ob_one rfl rfl (fun y28 => ?_)
     refine ob_one rfl rfl (fun y31 => ?_)
     refine ob_nil rfl ?_
     exact ok_call (N := 79) (Φ := fun y34 => [.own (tI .i64) 3 79 [] r32.1.2.2 y34]) (dispute_Begin_ok e33) rfl rfl rfl Try.func9 rfl Try.nm9 [11, 39] ⟨.inl ⟨1, _, rfl, cov_rep rfl⟩, .inl ⟨0, _, rfl, cov_rep rfl⟩, trivial⟩ (fun _ => rfl) (fun _ => rfl) rfl
    refine all_cons [.own (tI .i64) 3 54 [] ([] : List Int) (nilH 3), .box 53 b25 [Hd.val y23], .own (tA 16 .u8) 52 52 [] ([] : List (List Int)) (nilH 52), .own (tA 16 .u8) 52 39 [] r21 y23, .old w S, .box 25 b5 [Hd.val y8], .own (tA 16 .u8) 52 11 [] r6 y8] rfl (dst_some rfl rfl) rfl rfl rfl rfl (gd_none rfl rfl) (fun _ => ?_) ?_
    ·
     refine ob_one rfl rfl (fun y34 => ?_)
     refine ob_nil rfl ?_
     exact ok_known (y34) (p_move (v := .tuple #[.agg ([.int .i64 (r32.1.1), .int .i64 (r32.1.2.1), Hd.val y34]).toArray, .int .i64 (r32.2)]) rfl rfl) rfl [0] rfl
    refine all_cons [.own (tI .i64) 3 54 [] ([] : List Int) (nilH 3), .box 53 b25 [Hd.val y23], .own (tA 16 .u8) 52 52 [] ([] : List (List Int)) (nilH 52), .own (tA 16 .u8) 52 39 [] r21 y23, .old w S, .box 25 b5 [Hd.val y8], .own (tA 16 .u8) 52 11 [] r6 y8] rfl (dst_some rfl rfl) rfl rfl rfl rfl (gd_none rfl rfl) (fun _ => ?_) ?_
    ·
     refine ob_one rfl rfl (fun z36 => ?_)
     refine ob_nil rfl ?_
     exact ok_known (z36) (p_extract (v := .agg ([.int .i64 (r32.1.1), .int .i64 (r32.1.2.1), Hd.val z36]).toArray) rfl rfl rfl) rfl [0] rfl
    refine all_cons [.own (tI .i64) 3 54 [] ([] : List Int) (nilH 3), .box 53 b25 [Hd.val y23], .own (tA 16 .u8) 52 52 [] ([] : List (List Int)) (nilH 52), .own (tA 16 .u8) 52 39 [] r21 y23, .old w S, .box 25 b5 [Hd.val y8], .own (tA 16 .u8) 52 11 [] r6 y8] rfl (dst_some rfl rfl) rfl rfl rfl rfl (gd_none rfl rfl) (fun _ => ?_) ?_
    ·
     refine ob_one rfl rfl (fun z36 => ?_)
     refine ob_nil rfl ?_
     exact PureOk.op (p_extract (v := .int .i64 (r32.2)) rfl rfl rfl)
    refine all_cons [.own (tI .i64) 3 54 [] ([] : List Int) (nilH 3), .box 53 b25 [Hd.val y23], .own (tA 16 .u8) 52 52 [] ([] : List (List Int)) (nilH 52), .own (tA 16 .u8) 52 39 [] r21 y23, .old w S, .box 25 b5 [Hd.val y8], .own (tA 16 .u8) 52 11 [] r6 y8] rfl (dst_some rfl rfl) rfl rfl rfl rfl (gd_none rfl rfl) (fun _ => ?_) ?_
    ·
     refine ob_nil rfl ?_
     exact ok_alloc (N := 91) (cs := [.int .i64 (0), .int .i64 (0), Hd.val (nilH 3)]) rfl Try.ti33 rfl rfl
    refine all_cons [.own (tI .i64) 3 54 [] ([] : List Int) (nilH 3), .box 53 b25 [Hd.val y23], .own (tA 16 .u8) 52 52 [] ([] : List (List Int)) (nilH 52), .own (tA 16 .u8) 52 39 [] r21 y23, .old w S, .box 25 b5 [Hd.val y8], .own (tA 16 .u8) 52 11 [] r6 y8] rfl (dst_none rfl rfl (fun _ => rfl)) rfl rfl rfl rfl (gd_none rfl rfl) (fun _ => ?_) ?_
    ·
     refine ob_one rfl rfl (fun b35 => ?_)
     refine ob_one rfl rfl (fun z37 => ?_)
     exact ob_carry (fun _ => (z37, b35)) (ok_store_box (v := .agg ([.int .i64 (r32.1.1), .int .i64 (r32.1.2.1), Hd.val z37]).toArray) (vs := [.int .i64 (r32.1.1), .int .i64 (r32.1.2.1), Hd.val z37]) (cs' := [.int .i64 (r32.1.1), .int .i64 (r32.1.2.1), Hd.val z37]) 1 rfl rfl Try.ti33 rfl rfl rfl rfl rfl rfl rfl) (fun _ => rfl) [0] _ rfl (fun _ => rfl) (fun _ => tells_cons rfl (tells_nil))
    exact all_nil
   ·
    refine fin_base [.own (tI .i64) 3 54 [] ([] : List Int) (nilH 3), .box 53 b25 [Hd.val y23], .own (tA 16 .u8) 52 52 [] ([] : List (List Int)) (nilH 52), .own (tA 16 .u8) 52 39 [] r21 y23, .old w S, .box 25 b5 [Hd.val y8], .own (tA 16 .u8) 52 11 [] r6 y8] rfl ?_
    refine fin_one rfl rfl (fun _ => ?_)
    refine fin_one rfl rfl (fun z38 => ?_)
    refine fin_nil ?_
    refine s_pure (p_assign (v := .int .i64 (r32.2)) rfl rfl) rfl rfl rfl ?_
    refine s_nil ?_
    refine x_then ?_
    refine s_seq ?_
    refine s_seq ?_
    obtain ⟨r49, e50, hF⟩ := bind_some hF
    refine s_text Try.mixed [⟨true, 49, [], Unit, fun _ => .int .i64 (r32.2), fun _ => [], [], [], []⟩, ⟨true, 50, [0], Unit, fun _ => .bool (r32.2 == 6), fun _ => [], [], [], []⟩, ⟨true, 51, [], Unit, fun _ => .agg ([Hd.val y8]).toArray, fun _ => [], [], [], []⟩, ⟨true, 52, [], Unit, fun _ => .agg ([Hd.val y23]).toArray, fun _ => [], [], [], []⟩, ⟨true, 53, [2, 3], Unit, fun (y51 : Unit) => .bool (r49), fun _ => [], [], [], []⟩, ⟨true, 54, [1, 4], Unit, fun _ => .bool ((r32.2 == 6) != r49), fun _ => [], [], [], []⟩, ⟨true, 55, [5], Unit, fun _ => .bool ((r32.2 == 6) != r49), fun _ => [], [], [], []⟩, ⟨!((r32.2 == 6) != r49), 56, [], Unit, fun _ => .int .i64 (r32.2), fun _ => [], [], [], []⟩, ⟨!((r32.2 == 6) != r49), 57, [7], Unit, fun _ => .bool (r32.2 != 0), fun _ => [], [], [], []⟩, ⟨!((r32.2 == 6) != r49), 58, [8], Unit, fun _ => .bool (r32.2 != 0), fun _ => [], [], [], []⟩, ⟨(!((r32.2 == 6) != r49)) && (r32.2 != 0), 59, [], Unit, fun _ => .int .i64 (r32.2), fun _ => [], [], [], []⟩, ⟨(!((r32.2 == 6) != r49)) && (r32.2 != 0), 60, [10], Unit, fun _ => .bool (r32.2 != 6), fun _ => [], [], [], []⟩, ⟨!((r32.2 == 6) != r49), 61, [9, 11], Unit, fun _ => .bool (bif r32.2 != 0 then r32.2 != 6 else false), fun _ => [], [], [], []⟩, ⟨true, 62, [6, 12], Unit, fun _ => .bool (bif (r32.2 == 6) != r49 then true else bif r32.2 != 0 then r32.2 != 6 else false), fun _ => [], [], [], []⟩] [[], [0], [], [], [2, 3], [0, 1, 2, 3, 4], [0, 1, 2, 3, 4, 5], [0, 1, 2, 3, 4, 5, 6], [0, 1, 2, 3, 4, 5, 6, 7], [0, 1, 2, 3, 4, 5, 6, 7, 8], [0, 1, 2, 3, 4, 5, 6, 7, 8, 9], [0, 1, 2, 3, 4, 5, 6, 7, 8, 9, 10], [0, 1, 2, 3, 4, 5, 6, 7, 8, 9, 10, 11], [0, 1, 2, 3, 4, 5, 6, 7, 8, 9, 10, 11, 12]] rfl rfl rfl rfl rfl ⟨.inl rfl, .inl rfl, .inl rfl, .inl rfl, .inl rfl, .inl rfl, .inl rfl, .inl rfl, .inl rfl, .inl rfl, .inl rfl, .inl rfl, .inl rfl, .inl rfl, trivial⟩ ?_ [13] rfl rfl (fun us => ?_)
    ·
     refine all_cons _ (base_nil rfl) (dst_some rfl rfl) rfl rfl rfl rfl (gd_none rfl rfl) (fun _ => ?_) ?_
     ·
      refine ob_nil rfl ?_
      exact PureOk.op (p_move (v := .int .i64 (r32.2)) rfl rfl)
     refine all_cons _ (base_nil rfl) (dst_some rfl rfl) rfl rfl rfl rfl (gd_none rfl rfl) (fun _ => ?_) ?_
     ·
      refine ob_one rfl rfl (fun _ => ?_)
      refine ob_nil rfl ?_
      exact PureOk.op (p_eql rfl rfl rfl)
     refine all_cons _ (base_nil rfl) (dst_some rfl rfl) rfl rfl rfl rfl (gd_none rfl rfl) (fun _ => ?_) ?_
     ·
      refine ob_nil rfl ?_
      exact PureOk.op (p_loadN_box (cs' := [Hd.val y8]) 7 rfl rfl Try.underlying25 rfl Try.ti25 rfl rfl rfl)
     refine all_cons _ (base_nil rfl) (dst_some rfl rfl) rfl rfl rfl rfl (gd_none rfl rfl) (fun _ => ?_) ?_
     ·
      refine ob_nil rfl ?_
      exact PureOk.op (p_loadN_box (cs' := [Hd.val y23]) 3 rfl rfl Try.underlying25 rfl Try.ti25 rfl rfl rfl)
     refine all_cons _ (base_nil rfl) (dst_some rfl rfl) rfl rfl rfl rfl (gd_none rfl rfl) (fun _ => ?_) ?_
     ·
      refine ob_one rfl rfl (fun _ => ?_)
      refine ob_one rfl rfl (fun _ => ?_)
      refine ob_nil rfl ?_
      exact ok_call (N := 92) (Φ := fun y51 => []) (culpritref32_Agree_ok e50) rfl rfl rfl Try.func20 rfl Try.nm20 [11, 39] ⟨.inl ⟨8, _, rfl, cov_own rfl⟩, .inl ⟨5, _, rfl, cov_own rfl⟩, trivial⟩ (fun _ => rfl) (fun _ => rfl) rfl
     refine all_cons _ (base_nil rfl) (dst_some rfl rfl) rfl rfl rfl rfl (gd_none rfl rfl) (fun _ => ?_) ?_
     ·
      refine ob_one rfl rfl (fun _ => ?_)
      refine ob_one rfl rfl (fun y51 => ?_)
      refine ob_nil rfl ?_
      exact PureOk.op (p_neq_bool rfl Try.underlying4 rfl rfl)
     refine all_cons _ (base_nil rfl) (dst_some rfl rfl) rfl rfl rfl rfl (gd_none rfl rfl) (fun _ => ?_) ?_
     ·
      refine ob_one rfl rfl (fun _ => ?_)
      refine ob_nil rfl ?_
      exact PureOk.op (p_move (v := .bool ((r32.2 == 6) != r49)) rfl rfl)
     refine all_cons _ (base_nil rfl) (dst_some rfl rfl) rfl rfl rfl rfl (gd_some (e := ⟨true, 55, [5], Unit, fun _ => .bool ((r32.2 == 6) != r49), fun _ => [], [], [], []⟩) ((r32.2 == 6) != r49) rfl rfl rfl rfl (fun _ => rfl) (gd_f _)) (fun hx59 => ?_) ?_
     ·
      replace hx59 : (!((r32.2 == 6) != r49)) = true := hx59
      refine ob_nil rfl ?_
      exact PureOk.op (p_move (v := .int .i64 (r32.2)) rfl rfl)
     refine all_cons _ (base_nil rfl) (dst_some rfl rfl) rfl rfl rfl rfl (gd_some (e := ⟨true, 55, [5], Unit, fun _ => .bool ((r32.2 == 6) != r49), fun _ => [], [], [], []⟩) ((r32.2 == 6) != r49) rfl rfl rfl rfl (fun _ => rfl) (gd_f _)) (fun hx60 => ?_) ?_
     ·
      replace hx60 : (!((r32.2 == 6) != r49)) = true := hx60
      refine ob_two rfl (fun _ _ => ?_) (fun hn => clash hx60 hn)
      refine ob_nil rfl ?_
      exact PureOk.op (p_neq rfl rfl rfl)
     refine all_cons _ (base_nil rfl) (dst_some rfl rfl) rfl rfl rfl rfl (gd_some (e := ⟨true, 55, [5], Unit, fun _ => .bool ((r32.2 == 6) != r49), fun _ => [], [], [], []⟩) ((r32.2 == 6) != r49) rfl rfl rfl rfl (fun _ => rfl) (gd_f _)) (fun hx61 => ?_) ?_
     ·
      replace hx61 : (!((r32.2 == 6) != r49)) = true := hx61
      refine ob_two rfl (fun _ _ => ?_) (fun hn => clash hx61 hn)
      refine ob_nil rfl ?_
      exact PureOk.op (p_move (v := .bool (r32.2 != 0)) rfl rfl)
     refine all_cons _ (base_nil rfl) (dst_some rfl rfl) rfl rfl rfl rfl (gd_some (e := ⟨!((r32.2 == 6) != r49), 58, [8], Unit, fun _ => .bool (r32.2 != 0), fun _ => [], [], [], []⟩) (r32.2 != 0) rfl rfl rfl rfl (fun _ => rfl) (gd_nt _ _)) (fun hx62 => ?_) ?_
     ·
      replace hx62 : ((!((r32.2 == 6) != r49)) && (r32.2 != 0)) = true := hx62
      refine ob_nil rfl ?_
      exact PureOk.op (p_move (v := .int .i64 (r32.2)) rfl rfl)
     refine all_cons _ (base_nil rfl) (dst_some rfl rfl) rfl rfl rfl rfl (gd_some (e := ⟨!((r32.2 == 6) != r49), 58, [8], Unit, fun _ => .bool (r32.2 != 0), fun _ => [], [], [], []⟩) (r32.2 != 0) rfl rfl rfl rfl (fun _ => rfl) (gd_nt _ _)) (fun hx63 => ?_) ?_
     ·
      replace hx63 : ((!((r32.2 == 6) != r49)) && (r32.2 != 0)) = true := hx63
      refine ob_two rfl (fun _ _ => ?_) (fun hn => clash hx63 hn)
      refine ob_nil rfl ?_
      exact PureOk.op (p_neq rfl rfl rfl)
     refine all_cons _ (base_nil rfl) (dst_some rfl rfl) rfl rfl rfl rfl (gd_some (e := ⟨true, 55, [5], Unit, fun _ => .bool ((r32.2 == 6) != r49), fun _ => [], [], [], []⟩) ((r32.2 == 6) != r49) rfl rfl rfl rfl (fun _ => rfl) (gd_f _)) (fun hx64 => ?_) ?_
     ·
      replace hx64 : (!((r32.2 == 6) != r49)) = true := hx64
      refine ob_two rfl (fun _ _ => ?_) (fun hn => clash hx64 hn)
      refine ob_two rfl (fun hq65 _ => ?_) (fun hq65 => ?_)
      rotate_left
      ·
       replace hq65 : ((!((r32.2 == 6) != r49)) && (r32.2 != 0)) = false := hq65
       refine ob_nil rfl ?_
       exact PureOk.op (p_pick (b := r32.2 != 0) (p := r32.2 != 6) (q := false) rfl rfl (fun hb => by first | (rw [hb] at hq65; cases hq65; done) | exact absurd hq65 (by rw [hx64, hb]; simp) | (simp_all; done)) (fun _ => rfl))
      refine ob_nil rfl ?_
      exact PureOk.op (p_pick (b := r32.2 != 0) (p := r32.2 != 6) (q := false) rfl rfl (fun _ => rfl) (fun _ => rfl))
     refine all_cons _ (base_nil rfl) (dst_some rfl rfl) rfl rfl rfl rfl (gd_none rfl rfl) (fun _ => ?_) ?_
     ·
      refine ob_one rfl rfl (fun _ => ?_)
      refine ob_two rfl (fun hq67 _ => ?_) (fun hq67 => ?_)
      rotate_left
      ·
       replace hq67 : (!((r32.2 == 6) != r49)) = false := hq67
       refine ob_nil rfl ?_
       exact PureOk.op (p_pick (b := (r32.2 == 6) != r49) (p := true) (q := bif r32.2 != 0 then r32.2 != 6 else false) rfl rfl (fun _ => rfl) (fun hb => by first | (rw [hb] at hq67; cases hq67; done) | exact absurd hq67 (by rw [hb]; simp) | (simp_all; done)))
      refine ob_nil rfl ?_
      exact PureOk.op (p_pick (b := (r32.2 == 6) != r49) (p := true) (q := bif r32.2 != 0 then r32.2 != 6 else false) rfl rfl (fun _ => rfl) (fun _ => rfl))
     exact all_nil
    ·
     refine fin_base _ (base_nil rfl) ?_
     refine fin_one rfl rfl (fun _ => ?_)
     refine fin_nil ?_
     refine s_nil ?_
     refine x_then ?_
     refine s_cond rfl (fun hb68 => ?_) (fun hb68 => ?_)
     ·
      replace hF := cond_t hb68 hF
      refine s_seq ?_
      refine s_region ?_
      refine s_pure (p_assign (v := .bool (false)) rfl rfl) rfl rfl rfl ?_
      refine s_nil ?_
      refine x_then ?_
      refine s_ret ?_
      refine x_then_ret ?_
      replace hF := some_inj hF
      subst hF
      exact x_ret () (res_one rfl (ra_tmp (v := .bool (false)) rfl)) rfl 6 rfl [] 2 rfl trivial
     ·
      replace hF := cond_f hb68 hF
      refine s_skip ?_
      refine x_then ?_
      refine s_seq ?_
      refine s_seq ?_
      refine s_region ?_
      refine s_pure (p_move (v := .int .i64 (r32.2)) rfl rfl) rfl rfl rfl ?_
      refine s_pure (p_neq rfl rfl rfl) rfl rfl rfl ?_
      refine s_nil ?_
      refine x_then ?_
      refine s_cond rfl (fun hb69 => ?_) (fun hb69 => ?_)
      ·
       replace hF := cond_t hb69 hF
       refine s_seq ?_
       refine s_region ?_
       obtain ⟨r70, e71, hF⟩ := bind_some hF
       refine s_op0 (ok_call (N := 104) (Φ := fun y72 => []) (culpritlaw32_lives_ok e71) rfl rfl rfl Try.func19 rfl Try.nm19 [] trivial (fun _ => rfl) (fun _ => rfl) rfl) rfl rfl rfl (fun y72 => ?_)
       refine s_pure (p_assign (v := .bool (r70)) rfl rfl) rfl rfl rfl ?_
       refine s_nil ?_
       refine x_then ?_
       refine s_ret ?_
       refine x_then_ret ?_
       replace hF := some_inj hF
       subst hF
       exact x_ret () (res_one rfl (ra_tmp (v := .bool (r70)) rfl)) rfl 6 rfl [] 2 rfl trivial
      ·
       replace hF := cond_f hb69 hF
       refine s_skip ?_
       refine x_then ?_
       refine s_seq ?_
       refine s_region ?_
       refine s_pure (p_fieldAddr (fo := 0) rfl Try.underlying25 rfl Try.ti23 rfl rfl rfl) rfl rfl rfl ?_
       refine s_pure (p_load_box (v := Hd.val y8) 7 rfl rfl Try.underlying23 rfl rfl rfl) rfl rfl rfl ?_
       refine s_pure (p_len_own (ty := (tA 16 .u8)) (xs := r6) (h := y8) 8 rfl rfl Try.underlying23 rfl) rfl rfl rfl ?_
       refine s_pure (p_fieldAddr (fo := 0) rfl Try.underlying25 rfl Try.ti23 rfl rfl rfl) rfl rfl rfl ?_
       refine s_pure (p_load_box (v := Hd.val y23) 3 rfl rfl Try.underlying23 rfl rfl rfl) rfl rfl rfl ?_
       refine s_pure (p_len_own (ty := (tA 16 .u8)) (xs := r21) (h := y23) 5 rfl rfl Try.underlying23 rfl) rfl rfl rfl ?_
       refine s_pure (p_max rfl rfl rfl) rfl rfl rfl ?_
       refine s_pure (p_assign (v := .int .i64 (if (r21.length : Int) > (r6.length : Int) then (r21.length : Int) else (r6.length : Int))) rfl rfl) rfl rfl rfl ?_
       refine s_nil ?_
       refine x_then ?_
       refine s_seq ?_
       refine s_region ?_
       refine s_pure (p_assign (v := .int .i64 (0)) rfl rfl) rfl rfl rfl ?_
       refine s_nil ?_
       refine x_then ?_
       obtain ⟨r73, e74, hF⟩ := bind_some hF
       refine s_join (fun y75 : Hd × Hd => (Sum.elim (fun s76 => [(9, .pointer (some ⟨b5, 0, none⟩)), (11, .pointer (some ⟨b25, 0, none⟩)), (12, .pointer (some ⟨z38.2, 0, none⟩)), (14, .int .i64 (if (r21.length : Int) > (r6.length : Int) then (r21.length : Int) else (r6.length : Int))), (15, .int .i64 (s76.1))]) (fun _ => []) r73)) (fun y75 : Hd × Hd => (Sum.elim (fun s76 => [.old w S, .box 25 b5 [Hd.val y8], .box 53 b25 [Hd.val y75.1], .box 91 z38.2 [.int .i64 (s76.2.2.1), .int .i64 (s76.2.2.2.1), Hd.val y75.2], .own (tA 16 .u8) 52 11 [] r6 y8, .own (tA 16 .u8) 52 39 [] s76.2.1 y75.1, .own (tI .i64) 3 79 [] s76.2.2.2.2 y75.2]) (fun _ => [.pure False]) r73)) ?_ ?_
       ·
        refine s_block ?_
        refine sim_loop (fun (s77 : Int × Int × Int × (List Int)) (y78 : Hd) => [(9, .pointer (some ⟨b5, 0, none⟩)), (11, .pointer (some ⟨b25, 0, none⟩)), (12, .pointer (some ⟨z38.2, 0, none⟩)), (14, .int .i64 (if (r21.length : Int) > (r6.length : Int) then (r21.length : Int) else (r6.length : Int))), (15, .int .i64 (s77.1))]) (fun (s77 : Int × Int × Int × (List Int)) (y78 : Hd) => [.old w S, .box 25 b5 [Hd.val y8], .box 53 b25 [Hd.val y23], .box 91 z38.2 [.int .i64 (s77.2.1), .int .i64 (s77.2.2.1), Hd.val y78], .own (tA 16 .u8) 52 11 [] r6 y8, .own (tA 16 .u8) 52 39 [] r21 y23, .own (tI .i64) 3 79 [] s77.2.2.2 y78]) z38.1 e74 [(11, 11), (25, 25), (39, 39), (53, 53), (79, 79), (91, 91)] 2 rfl ⟨rfl, rfl, rfl, rfl, rfl, trivial⟩ ⟨.inl ⟨6, _, rfl, weak_same⟩, .inl ⟨7, _, rfl, weak_same⟩, .inl ⟨3, _, rfl, weak_same⟩, .inl ⟨0, _, rfl, weak_same⟩, .inl ⟨8, _, rfl, weak_slim rfl⟩, .inl ⟨5, _, rfl, weak_slim rfl⟩, .inl ⟨1, _, rfl, weak_slim rfl⟩, trivial⟩ ?_
        intro s77 y78 ρ' z79 e80
        refine s_seq ?_
        refine s_seq ?_
        refine s_region ?_
        refine s_pure (p_fieldAddr (fo := 1) rfl Try.underlying33 rfl Try.ti3 rfl rfl rfl) rfl rfl rfl ?_
        refine s_pure (p_load_box (v := .int .i64 (s77.2.2.1)) 3 rfl rfl Try.underlying3 rfl rfl rfl) rfl rfl rfl ?_
        refine s_pure (p_fieldAddr (fo := 0) rfl Try.underlying33 rfl Try.ti3 rfl rfl rfl) rfl rfl rfl ?_
        refine s_pure (p_load_box (v := .int .i64 (s77.2.1)) 3 rfl rfl Try.underlying3 rfl rfl rfl) rfl rfl rfl ?_
        refine s_pure (p_add rfl rfl rfl) rfl rfl rfl ?_
        refine s_pure (p_gtr rfl rfl rfl) rfl rfl rfl ?_
        refine s_nil ?_
        refine x_then ?_
        refine s_cond rfl (fun hb81 => ?_) (fun hb81 => ?_)
        ·
         replace e80 := cond_t hb81 e80
         refine s_skip ?_
         refine x_then ?_
         refine s_block ?_
         refine s_seq ?_
         refine s_seq ?_
         obtain ⟨r82, e83, e80⟩ := bind_some e80
         obtain ⟨r85, e86, e80⟩ := bind_some e80
         refine s_draw Try.mixed [⟨true, 79, [], Unit, fun _ => .agg ([.int .i64 (s77.2.1), .int .i64 (s77.2.2.1), Hd.val y78]).toArray, fun _ => [], [], [], []⟩, ⟨true, 80, [0], Hd, fun (y84 : Hd) => .agg ([.int .i64 (r82.1), .int .i64 (r82.2.1), Hd.val y84]).toArray, fun y84 => [.rep (tI .i64) [79] r82.2.2 y84], [], [], []⟩, ⟨true, 81, [], Unit, fun _ => .agg ([Hd.val y8]).toArray, fun _ => [], [], [], []⟩, ⟨true, 82, [], Unit, fun _ => .agg ([Hd.val y23]).toArray, fun _ => [], [], [], []⟩, ⟨true, 83, [1, 2, 3], Unit, fun (y87 : Unit) => .bool (r85), fun _ => [], [], [], []⟩, ⟨true, 84, [4], Unit, fun _ => .bool (!r85), fun _ => [], [], [], []⟩, ⟨true, 85, [5], Unit, fun _ => .bool (!r85), fun _ => [], [], [], []⟩, ⟨!(!r85), 86, [], Unit, fun _ => .int .i64 (s77.1), fun _ => [], [], [], []⟩, ⟨!(!r85), 87, [7], Unit, fun _ => .bool (decide (20 < s77.1)), fun _ => [], [], [], []⟩, ⟨true, 88, [6, 8], Unit, fun _ => .bool (bif !r85 then true else decide (20 < s77.1)), fun _ => [], [], [], []⟩] [[], [0], [], [], [0, 1, 2, 3], [0, 1, 2, 3, 4], [0, 1, 2, 3, 4, 5], [0, 1, 2, 3, 4, 5, 6], [0, 1, 2, 3, 4, 5, 6, 7], [0, 1, 2, 3, 4, 5, 6, 7, 8]] rfl rfl rfl rfl rfl ⟨.inl rfl, .inl rfl, .inl rfl, .inl rfl, .inl rfl, .inl rfl, .inl rfl, .inl rfl, .inl rfl, .inl rfl, trivial⟩ ?_ [9] rfl rfl (fun us => ?_)
         ·
          refine all_cons _ (base_nil rfl) (dst_some rfl rfl) rfl rfl rfl rfl (gd_none rfl rfl) (fun _ => ?_) ?_
          ·
           refine ob_nil rfl ?_
           exact PureOk.op (p_loadN_box (cs' := [.int .i64 (s77.2.1), .int .i64 (s77.2.2.1), Hd.val y78]) 3 rfl rfl Try.underlying33 rfl Try.ti33 rfl rfl rfl)
          refine all_cons _ (base_nil rfl) (dst_some rfl rfl) rfl rfl rfl rfl (gd_none rfl rfl) (fun _ => ?_) ?_
          ·
           refine ob_one rfl rfl (fun _ => ?_)
           refine ob_nil rfl ?_
           exact ok_call (N := 116) (Φ := fun y84 => [.rep (tI .i64) [79] r82.2.2 y84]) (culpritlaw32_game_ok e83) rfl rfl rfl Try.func14 rfl Try.nm14 [79] ⟨.inl ⟨6, _, rfl, cov_own rfl⟩, trivial⟩ (fun _ => rfl) (fun _ => rfl) rfl
          refine all_cons _ (base_nil rfl) (dst_some rfl rfl) rfl rfl rfl rfl (gd_none rfl rfl) (fun _ => ?_) ?_
          ·
           refine ob_nil rfl ?_
           exact PureOk.op (p_loadN_box (cs' := [Hd.val y8]) 1 rfl rfl Try.underlying25 rfl Try.ti25 rfl rfl rfl)
          refine all_cons _ (base_nil rfl) (dst_some rfl rfl) rfl rfl rfl rfl (gd_none rfl rfl) (fun _ => ?_) ?_
          ·
           refine ob_nil rfl ?_
           exact PureOk.op (p_loadN_box (cs' := [Hd.val y23]) 2 rfl rfl Try.underlying25 rfl Try.ti25 rfl rfl rfl)
          refine all_cons _ (base_nil rfl) (dst_some rfl rfl) rfl rfl rfl rfl (gd_none rfl rfl) (fun _ => ?_) ?_
          ·
           refine ob_one rfl rfl (fun y84 => ?_)
           refine ob_one rfl rfl (fun _ => ?_)
           refine ob_one rfl rfl (fun _ => ?_)
           refine ob_nil rfl ?_
           exact ok_call (N := 128) (Φ := fun y87 => []) (culpritref32_Proper_ok e86) rfl rfl rfl Try.func21 rfl Try.nm21 [79, 11, 39] ⟨.inl ⟨0, _, rfl, cov_rep rfl⟩, .inl ⟨5, _, rfl, cov_own rfl⟩, .inl ⟨6, _, rfl, cov_own rfl⟩, trivial⟩ (fun _ => rfl) (fun _ => rfl) rfl
          refine all_cons _ (base_nil rfl) (dst_some rfl rfl) rfl rfl rfl rfl (gd_none rfl rfl) (fun _ => ?_) ?_
          ·
           refine ob_one rfl rfl (fun y87 => ?_)
           refine ob_nil rfl ?_
           exact PureOk.op (p_not rfl rfl)
          refine all_cons _ (base_nil rfl) (dst_some rfl rfl) rfl rfl rfl rfl (gd_none rfl rfl) (fun _ => ?_) ?_
          ·
           refine ob_one rfl rfl (fun _ => ?_)
           refine ob_nil rfl ?_
           exact PureOk.op (p_move (v := .bool (!r85)) rfl rfl)
          refine all_cons _ (base_nil rfl) (dst_some rfl rfl) rfl rfl rfl rfl (gd_some (e := ⟨true, 85, [5], Unit, fun _ => .bool (!r85), fun _ => [], [], [], []⟩) (!r85) rfl rfl rfl rfl (fun _ => rfl) (gd_f _)) (fun hx95 => ?_) ?_
          ·
           replace hx95 : (!(!r85)) = true := hx95
           refine ob_nil rfl ?_
           exact PureOk.op (p_move (v := .int .i64 (s77.1)) rfl rfl)
          refine all_cons _ (base_nil rfl) (dst_some rfl rfl) rfl rfl rfl rfl (gd_some (e := ⟨true, 85, [5], Unit, fun _ => .bool (!r85), fun _ => [], [], [], []⟩) (!r85) rfl rfl rfl rfl (fun _ => rfl) (gd_f _)) (fun hx96 => ?_) ?_
          ·
           replace hx96 : (!(!r85)) = true := hx96
           refine ob_two rfl (fun _ _ => ?_) (fun hn => clash hx96 hn)
           refine ob_nil rfl ?_
           exact PureOk.op (p_gtr rfl rfl rfl)
          refine all_cons _ (base_nil rfl) (dst_some rfl rfl) rfl rfl rfl rfl (gd_none rfl rfl) (fun _ => ?_) ?_
          ·
           refine ob_one rfl rfl (fun _ => ?_)
           refine ob_two rfl (fun hq98 _ => ?_) (fun hq98 => ?_)
           rotate_left
           ·
            replace hq98 : (!(!r85)) = false := hq98
            refine ob_nil rfl ?_
            exact PureOk.op (p_pick (b := !r85) (p := true) (q := decide (20 < s77.1)) rfl rfl (fun _ => rfl) (fun hb => by first | (rw [hb] at hq98; cases hq98; done) | exact absurd hq98 (by rw [hb]; simp) | (simp_all; done)))
           refine ob_nil rfl ?_
           exact PureOk.op (p_pick (b := !r85) (p := true) (q := decide (20 < s77.1)) rfl rfl (fun _ => rfl) (fun _ => rfl))
          exact all_nil
         ·
          refine fin_base _ (base_nil rfl) ?_
          refine fin_one rfl rfl (fun _ => ?_)
          refine fin_nil ?_
          refine s_nil ?_
          refine x_then ?_
          refine s_cond rfl (fun hb99 => ?_) (fun hb99 => ?_)
          ·
           replace e80 := cond_t hb99 e80
           refine s_seq ?_
           refine s_region ?_
           refine s_pure (p_assign (v := .bool (false)) rfl rfl) rfl rfl rfl ?_
           refine s_nil ?_
           refine x_then ?_
           refine s_ret ?_
           refine x_then_ret ?_
           refine x_block_ret ?_
           refine x_out_ret e80 (fun e100 => ?_)
           subst e100
           refine x_block_ret ?_
           refine x_join_ret ?_
           replace hF := some_inj hF
           subst hF
           exact x_ret () (res_one rfl (ra_tmp (v := .bool (false)) rfl)) rfl 0 rfl [] 2 rfl trivial
          ·
           replace e80 := cond_f hb99 e80
           refine s_skip ?_
           refine x_then ?_
           refine s_seq ?_
           refine s_nilrow' (tI .i64) 3 140 [] ?_
           obtain ⟨r101, e102, e80⟩ := bind_some e80
           obtain ⟨r104, e105, e80⟩ := bind_some e80
           obtain ⟨r107, e108, e80⟩ := bind_some e80
           refine s_draw Try.mixed [⟨true, 90, [], Unit, fun _ => .agg ([.int .i64 (s77.2.1), .int .i64 (s77.2.2.1), Hd.val y78]).toArray, fun _ => [], [], [], []⟩, ⟨true, 91, [], Unit, fun _ => .agg ([Hd.val y8]).toArray, fun _ => [], [], [], []⟩, ⟨true, 92, [1], Hd, fun (y103 : Hd) => .agg ([Hd.val y103]).toArray, fun y103 => [.rep (tA 16 .u8) [11] r101 y103], [], [], []⟩, ⟨true, 93, [], Unit, fun _ => .agg ([Hd.val y23]).toArray, fun _ => [], [], [], []⟩, ⟨true, 94, [3], Hd, fun (y106 : Hd) => .agg ([Hd.val y106]).toArray, fun y106 => [.rep (tA 16 .u8) [39] r104 y106], [], [], []⟩, ⟨true, 95, [0, 2, 4], Hd, fun (y109 : Hd) => .tuple #[.agg ([.int .i64 (r107.1.1), .int .i64 (r107.1.2.1), Hd.val y109]).toArray, .int .i64 (r107.2)], fun y109 => [.own (tI .i64) 3 165 [] r107.1.2.2 y109], [], [], []⟩, ⟨true, 89, [5], Hd, fun (z111 : Hd) => .tuple #[.agg ([.int .i64 (r107.1.1), .int .i64 (r107.1.2.1), Hd.val z111]).toArray, .int .i64 (r107.2)], fun z111 => [.own (tI .i64) 3 165 [] r107.1.2.2 z111], [], [], []⟩, ⟨true, 96, [6], Hd, fun (z112 : Hd) => .agg ([.int .i64 (r107.1.1), .int .i64 (r107.1.2.1), Hd.val z112]).toArray, fun z112 => [.own (tI .i64) 3 165 [] r107.1.2.2 z112], [], [], []⟩, ⟨true, 97, [6], Unit, fun _ => .int .i64 (r107.2), fun _ => [], [], [], []⟩, ⟨true, 16, [], Nat, fun (b110 : Nat) => .pointer (some ⟨b110, 0, none⟩), fun b110 => [.box 177 b110 [.int .i64 (0), .int .i64 (0), Hd.val (nilH 3)]], [], [], []⟩, ⟨true, 196, [9, 7], Hd × Nat, fun (z113 : Hd × Nat) => undef, fun z113 => [.box 177 z113.2 [.int .i64 (r107.1.1), .int .i64 (r107.1.2.1), Hd.val z113.1], .own (tI .i64) 3 165 [] r107.1.2.2 z113.1], [177], [9], [(16, fun z113 => .pointer (some ⟨z113.2, 0, none⟩))]⟩] [[], [], [1], [], [1, 2, 3], [0, 1, 2, 3, 4], [0, 1, 2, 3, 4, 5], [0, 1, 2, 3, 4, 5, 6], [0, 1, 2, 3, 4, 5, 6], [], [0, 1, 2, 3, 4, 5, 6, 7, 9], [0, 1, 2, 3, 4, 5, 6, 7, 8, 9, 10]] rfl rfl rfl rfl rfl ⟨.inl rfl, .inl rfl, .inl rfl, .inl rfl, .inl rfl, .inl rfl, .inl rfl, .inl rfl, .inl rfl, .inl rfl, .inr ⟨.inr fun _ => rfl, .inr fun _ => rfl, .inr fun _ => rfl, .inr fun _ => rfl, .inr fun _ => rfl, .inr fun _ => rfl, .inr fun _ => rfl, .inr fun _ => rfl, .inr fun _ => rfl, .inl rfl, .inl rfl, trivial⟩, trivial⟩ ?_ [8, 10] rfl rfl (fun us => ?_)
           ·
            refine all_cons [.own (tI .i64) 3 140 [] ([] : List Int) (nilH 3), .old w S, .box 25 b5 [Hd.val y8], .box 53 b25 [Hd.val y23], .box 91 z38.2 [.int .i64 (s77.2.1), .int .i64 (s77.2.2.1), Hd.val y78], .own (tA 16 .u8) 52 11 [] r6 y8, .own (tA 16 .u8) 52 39 [] r21 y23, .own (tI .i64) 3 79 [] s77.2.2.2 y78] rfl (dst_some rfl rfl) rfl rfl rfl rfl (gd_none rfl rfl) (fun _ => ?_) ?_
            ·
             refine ob_nil rfl ?_
             exact PureOk.op (p_loadN_box (cs' := [.int .i64 (s77.2.1), .int .i64 (s77.2.2.1), Hd.val y78]) 4 rfl rfl Try.underlying33 rfl Try.ti33 rfl rfl rfl)
            refine all_cons [.own (tI .i64) 3 140 [] ([] : List Int) (nilH 3), .old w S, .box 25 b5 [Hd.val y8], .box 53 b25 [Hd.val y23], .box 91 z38.2 [.int .i64 (s77.2.1), .int .i64 (s77.2.2.1), Hd.val y78], .own (tA 16 .u8) 52 11 [] r6 y8, .own (tA 16 .u8) 52 39 [] r21 y23, .own (tI .i64) 3 79 [] s77.2.2.2 y78] rfl (dst_some rfl rfl) rfl rfl rfl rfl (gd_none rfl rfl) (fun _ => ?_) ?_
            ·
             refine ob_nil rfl ?_
             exact PureOk.op (p_loadN_box (cs' := [Hd.val y8]) 2 rfl rfl Try.underlying25 rfl Try.ti25 rfl rfl rfl)
            refine all_cons [.own (tI .i64) 3 140 [] ([] : List Int) (nilH 3), .old w S, .box 25 b5 [Hd.val y8], .box 53 b25 [Hd.val y23], .box 91 z38.2 [.int .i64 (s77.2.1), .int .i64 (s77.2.2.1), Hd.val y78], .own (tA 16 .u8) 52 11 [] r6 y8, .own (tA 16 .u8) 52 39 [] r21 y23, .own (tI .i64) 3 79 [] s77.2.2.2 y78] rfl (dst_some rfl rfl) rfl rfl rfl rfl (gd_none rfl rfl) (fun _ => ?_) ?_
            ·
             refine ob_one rfl rfl (fun _ => ?_)
             refine ob_nil rfl ?_
             exact ok_call (N := 141) (Φ := fun y103 => [.rep (tA 16 .u8) [11] r101 y103]) (culpritlaw32_own_ok e102) rfl rfl rfl Try.func8 rfl Try.nm8 [11] ⟨.inl ⟨5, _, rfl, cov_own rfl⟩, trivial⟩ (fun _ => rfl) (fun _ => rfl) rfl
            refine all_cons [.own (tI .i64) 3 140 [] ([] : List Int) (nilH 3), .old w S, .box 25 b5 [Hd.val y8], .box 53 b25 [Hd.val y23], .box 91 z38.2 [.int .i64 (s77.2.1), .int .i64 (s77.2.2.1), Hd.val y78], .own (tA 16 .u8) 52 11 [] r6 y8, .own (tA 16 .u8) 52 39 [] r21 y23, .own (tI .i64) 3 79 [] s77.2.2.2 y78] rfl (dst_some rfl rfl) rfl rfl rfl rfl (gd_none rfl rfl) (fun _ => ?_) ?_
            ·
             refine ob_nil rfl ?_
             exact PureOk.op (p_loadN_box (cs' := [Hd.val y23]) 3 rfl rfl Try.underlying25 rfl Try.ti25 rfl rfl rfl)
            refine all_cons [.own (tI .i64) 3 140 [] ([] : List Int) (nilH 3), .old w S, .box 25 b5 [Hd.val y8], .box 53 b25 [Hd.val y23], .box 91 z38.2 [.int .i64 (s77.2.1), .int .i64 (s77.2.2.1), Hd.val y78], .own (tA 16 .u8) 52 11 [] r6 y8, .own (tA 16 .u8) 52 39 [] r21 y23, .own (tI .i64) 3 79 [] s77.2.2.2 y78] rfl (dst_some rfl rfl) rfl rfl rfl rfl (gd_none rfl rfl) (fun _ => ?_) ?_
            ·
             refine ob_one rfl rfl (fun _ => ?_)
             refine ob_nil rfl ?_
             exact ok_call (N := 153) (Φ := fun y106 => [.rep (tA 16 .u8) [39] r104 y106]) (culpritlaw32_own_ok e105) rfl rfl rfl Try.func8 rfl Try.nm8 [39] ⟨.inl ⟨6, _, rfl, cov_own rfl⟩, trivial⟩ (fun _ => rfl) (fun _ => rfl) rfl
            refine all_cons [.own (tI .i64) 3 140 [] ([] : List Int) (nilH 3), .old w S, .box 25 b5 [Hd.val y8], .box 53 b25 [Hd.val y23], .box 91 z38.2 [.int .i64 (s77.2.1), .int .i64 (s77.2.2.1), Hd.val y78], .own (tA 16 .u8) 52 11 [] r6 y8, .own (tA 16 .u8) 52 39 [] r21 y23, .own (tI .i64) 3 79 [] s77.2.2.2 y78] rfl (dst_some rfl rfl) rfl rfl rfl rfl (gd_none rfl rfl) (fun _ => ?_) ?_
            ·
             refine ob_one rfl rfl (fun _ => ?_)
             refine ob_one rfl rfl (fun y103 => ?_)
             refine ob_one rfl rfl (fun y106 => ?_)
             refine ob_nil rfl ?_
             exact ok_call (N := 165) (Φ := fun y109 => [.own (tI .i64) 3 165 [] r107.1.2.2 y109]) (dispute_Halve_ok e108) rfl rfl rfl Try.func15 rfl Try.nm15 [79, 11, 39] ⟨.inl ⟨9, _, rfl, cov_own rfl⟩, .inl ⟨1, _, rfl, cov_rep rfl⟩, .inl ⟨0, _, rfl, cov_rep rfl⟩, trivial⟩ (fun _ => rfl) (fun _ => rfl) rfl
            refine all_cons [.own (tI .i64) 3 140 [] ([] : List Int) (nilH 3), .old w S, .box 25 b5 [Hd.val y8], .box 53 b25 [Hd.val y23], .box 91 z38.2 [.int .i64 (s77.2.1), .int .i64 (s77.2.2.1), Hd.val y78], .own (tA 16 .u8) 52 11 [] r6 y8, .own (tA 16 .u8) 52 39 [] r21 y23, .own (tI .i64) 3 79 [] s77.2.2.2 y78] rfl (dst_some rfl rfl) rfl rfl rfl rfl (gd_none rfl rfl) (fun _ => ?_) ?_
            ·
             refine ob_one rfl rfl (fun y109 => ?_)
             refine ob_nil rfl ?_
             exact ok_known (y109) (p_move (v := .tuple #[.agg ([.int .i64 (r107.1.1), .int .i64 (r107.1.2.1), Hd.val y109]).toArray, .int .i64 (r107.2)]) rfl rfl) rfl [0] rfl
            refine all_cons [.own (tI .i64) 3 140 [] ([] : List Int) (nilH 3), .old w S, .box 25 b5 [Hd.val y8], .box 53 b25 [Hd.val y23], .box 91 z38.2 [.int .i64 (s77.2.1), .int .i64 (s77.2.2.1), Hd.val y78], .own (tA 16 .u8) 52 11 [] r6 y8, .own (tA 16 .u8) 52 39 [] r21 y23, .own (tI .i64) 3 79 [] s77.2.2.2 y78] rfl (dst_some rfl rfl) rfl rfl rfl rfl (gd_none rfl rfl) (fun _ => ?_) ?_
            ·
             refine ob_one rfl rfl (fun z111 => ?_)
             refine ob_nil rfl ?_
             exact ok_known (z111) (p_extract (v := .agg ([.int .i64 (r107.1.1), .int .i64 (r107.1.2.1), Hd.val z111]).toArray) rfl rfl rfl) rfl [0] rfl
            refine all_cons [.own (tI .i64) 3 140 [] ([] : List Int) (nilH 3), .old w S, .box 25 b5 [Hd.val y8], .box 53 b25 [Hd.val y23], .box 91 z38.2 [.int .i64 (s77.2.1), .int .i64 (s77.2.2.1), Hd.val y78], .own (tA 16 .u8) 52 11 [] r6 y8, .own (tA 16 .u8) 52 39 [] r21 y23, .own (tI .i64) 3 79 [] s77.2.2.2 y78] rfl (dst_some rfl rfl) rfl rfl rfl rfl (gd_none rfl rfl) (fun _ => ?_) ?_
            ·
             refine ob_one rfl rfl (fun z111 => ?_)
             refine ob_nil rfl ?_
             exact PureOk.op (p_extract (v := .int .i64 (r107.2)) rfl rfl rfl)
            refine all_cons [.own (tI .i64) 3 140 [] ([] : List Int) (nilH 3), .old w S, .box 25 b5 [Hd.val y8], .box 53 b25 [Hd.val y23], .box 91 z38.2 [.int .i64 (s77.2.1), .int .i64 (s77.2.2.1), Hd.val y78], .own (tA 16 .u8) 52 11 [] r6 y8, .own (tA 16 .u8) 52 39 [] r21 y23, .own (tI .i64) 3 79 [] s77.2.2.2 y78] rfl (dst_some rfl rfl) rfl rfl rfl rfl (gd_none rfl rfl) (fun _ => ?_) ?_
            ·
             refine ob_nil rfl ?_
             exact ok_alloc (N := 177) (cs := [.int .i64 (0), .int .i64 (0), Hd.val (nilH 3)]) rfl Try.ti33 rfl rfl
            refine all_cons [.own (tI .i64) 3 140 [] ([] : List Int) (nilH 3), .old w S, .box 25 b5 [Hd.val y8], .box 53 b25 [Hd.val y23], .box 91 z38.2 [.int .i64 (s77.2.1), .int .i64 (s77.2.2.1), Hd.val y78], .own (tA 16 .u8) 52 11 [] r6 y8, .own (tA 16 .u8) 52 39 [] r21 y23, .own (tI .i64) 3 79 [] s77.2.2.2 y78] rfl (dst_none rfl rfl (fun _ => rfl)) rfl rfl rfl rfl (gd_none rfl rfl) (fun _ => ?_) ?_
            ·
             refine ob_one rfl rfl (fun b110 => ?_)
             refine ob_one rfl rfl (fun z112 => ?_)
             exact ob_carry (fun _ => (z112, b110)) (ok_store_box (v := .agg ([.int .i64 (r107.1.1), .int .i64 (r107.1.2.1), Hd.val z112]).toArray) (vs := [.int .i64 (r107.1.1), .int .i64 (r107.1.2.1), Hd.val z112]) (cs' := [.int .i64 (r107.1.1), .int .i64 (r107.1.2.1), Hd.val z112]) 1 rfl rfl Try.ti33 rfl rfl rfl rfl rfl rfl rfl) (fun _ => rfl) [0] _ rfl (fun _ => rfl) (fun _ => tells_cons rfl (tells_nil))
            exact all_nil
           ·
            refine fin_base [.own (tI .i64) 3 140 [] ([] : List Int) (nilH 3), .old w S, .box 25 b5 [Hd.val y8], .box 53 b25 [Hd.val y23], .box 91 z38.2 [.int .i64 (s77.2.1), .int .i64 (s77.2.2.1), Hd.val y78], .own (tA 16 .u8) 52 11 [] r6 y8, .own (tA 16 .u8) 52 39 [] r21 y23, .own (tI .i64) 3 79 [] s77.2.2.2 y78] rfl ?_
            refine fin_one rfl rfl (fun _ => ?_)
            refine fin_one rfl rfl (fun z113 => ?_)
            refine fin_nil ?_
            refine s_pure (p_assign (v := .int .i64 (r107.2)) rfl rfl) rfl rfl rfl ?_
            refine s_nil ?_
            refine x_then ?_
            refine s_seq ?_
            refine s_seq ?_
            refine s_text Try.mixed [⟨true, 98, [], Unit, fun _ => .int .i64 (r107.2), fun _ => [], [], [], []⟩, ⟨true, 99, [0], Unit, fun _ => .bool (r107.2 != 0), fun _ => [], [], [], []⟩, ⟨true, 100, [1], Unit, fun _ => .bool (r107.2 != 0), fun _ => [], [], [], []⟩, ⟨!(r107.2 != 0), 101, [], Unit, fun _ => .pointer (some ⟨z113.2, 1, none⟩), fun _ => [], [], [], []⟩, ⟨!(r107.2 != 0), 102, [3], Unit, fun _ => .int .i64 (r107.1.2.1), fun _ => [], [], [], []⟩, ⟨!(r107.2 != 0), 103, [], Unit, fun _ => .pointer (some ⟨z113.2, 0, none⟩), fun _ => [], [], [], []⟩, ⟨!(r107.2 != 0), 104, [5], Unit, fun _ => .int .i64 (r107.1.1), fun _ => [], [], [], []⟩, ⟨!(r107.2 != 0), 105, [4, 6], Unit, fun _ => .int .i64 (w64 (r107.1.2.1 - r107.1.1)), fun _ => [], [], [], []⟩, ⟨!(r107.2 != 0), 106, [7], Unit, fun _ => .int .i64 (w64 (2 * (w64 (r107.1.2.1 - r107.1.1)))), fun _ => [], [], [], []⟩, ⟨!(r107.2 != 0), 107, [], Unit, fun _ => .pointer (some ⟨z38.2, 1, none⟩), fun _ => [], [], [], []⟩, ⟨!(r107.2 != 0), 108, [9], Unit, fun _ => .int .i64 (s77.2.2.1), fun _ => [], [], [], []⟩, ⟨!(r107.2 != 0), 109, [], Unit, fun _ => .pointer (some ⟨z38.2, 0, none⟩), fun _ => [], [], [], []⟩, ⟨!(r107.2 != 0), 110, [11], Unit, fun _ => .int .i64 (s77.2.1), fun _ => [], [], [], []⟩, ⟨!(r107.2 != 0), 111, [10, 12], Unit, fun _ => .int .i64 (w64 (s77.2.2.1 - s77.2.1)), fun _ => [], [], [], []⟩, ⟨!(r107.2 != 0), 112, [13], Unit, fun _ => .int .i64 (w64 ((w64 (s77.2.2.1 - s77.2.1)) + 1)), fun _ => [], [], [], []⟩, ⟨!(r107.2 != 0), 113, [8, 14], Unit, fun _ => .bool (decide ((w64 ((w64 (s77.2.2.1 - s77.2.1)) + 1)) < (w64 (2 * (w64 (r107.1.2.1 - r107.1.1)))))), fun _ => [], [], [], []⟩, ⟨true, 114, [2, 15], Unit, fun _ => .bool (bif r107.2 != 0 then true else decide ((w64 ((w64 (s77.2.2.1 - s77.2.1)) + 1)) < (w64 (2 * (w64 (r107.1.2.1 - r107.1.1)))))), fun _ => [], [], [], []⟩, ⟨true, 115, [16], Unit, fun _ => .bool (bif r107.2 != 0 then true else decide ((w64 ((w64 (s77.2.2.1 - s77.2.1)) + 1)) < (w64 (2 * (w64 (r107.1.2.1 - r107.1.1)))))), fun _ => [], [], [], []⟩, ⟨!(bif r107.2 != 0 then true else decide ((w64 ((w64 (s77.2.2.1 - s77.2.1)) + 1)) < (w64 (2 * (w64 (r107.1.2.1 - r107.1.1)))))), 116, [], Unit, fun _ => .pointer (some ⟨z113.2, 2, none⟩), fun _ => [], [], [], []⟩, ⟨!(bif r107.2 != 0 then true else decide ((w64 ((w64 (s77.2.2.1 - s77.2.1)) + 1)) < (w64 (2 * (w64 (r107.1.2.1 - r107.1.1)))))), 117, [18], Unit, fun _ => Hd.val z113.1, fun _ => [], [], [], []⟩, ⟨!(bif r107.2 != 0 then true else decide ((w64 ((w64 (s77.2.2.1 - s77.2.1)) + 1)) < (w64 (2 * (w64 (r107.1.2.1 - r107.1.1)))))), 118, [19], Unit, fun _ => .int .i64 ((r107.1.2.2.length : Int)), fun _ => [], [], [], []⟩, ⟨!(bif r107.2 != 0 then true else decide ((w64 ((w64 (s77.2.2.1 - s77.2.1)) + 1)) < (w64 (2 * (w64 (r107.1.2.1 - r107.1.1)))))), 119, [], Unit, fun _ => .int .i64 (s77.1), fun _ => [], [], [], []⟩, ⟨!(bif r107.2 != 0 then true else decide ((w64 ((w64 (s77.2.2.1 - s77.2.1)) + 1)) < (w64 (2 * (w64 (r107.1.2.1 - r107.1.1)))))), 120, [21], Unit, fun _ => .int .i64 (w64 (s77.1 + 1)), fun _ => [], [], [], []⟩, ⟨!(bif r107.2 != 0 then true else decide ((w64 ((w64 (s77.2.2.1 - s77.2.1)) + 1)) < (w64 (2 * (w64 (r107.1.2.1 - r107.1.1)))))), 121, [20, 22], Unit, fun _ => .bool ((r107.1.2.2.length : Int) != (w64 (s77.1 + 1))), fun _ => [], [], [], []⟩, ⟨true, 122, [17, 23], Unit, fun _ => .bool (bif bif r107.2 != 0 then true else decide ((w64 ((w64 (s77.2.2.1 - s77.2.1)) + 1)) < (w64 (2 * (w64 (r107.1.2.1 - r107.1.1))))) then true else (r107.1.2.2.length : Int) != (w64 (s77.1 + 1))), fun _ => [], [], [], []⟩, ⟨true, 123, [24], Unit, fun _ => .bool (bif bif r107.2 != 0 then true else decide ((w64 ((w64 (s77.2.2.1 - s77.2.1)) + 1)) < (w64 (2 * (w64 (r107.1.2.1 - r107.1.1))))) then true else (r107.1.2.2.length : Int) != (w64 (s77.1 + 1))), fun _ => [], [], [], []⟩, ⟨!(bif bif r107.2 != 0 then true else decide ((w64 ((w64 (s77.2.2.1 - s77.2.1)) + 1)) < (w64 (2 * (w64 (r107.1.2.1 - r107.1.1))))) then true else (r107.1.2.2.length : Int) != (w64 (s77.1 + 1))), 124, [], Unit, fun _ => .pointer (some ⟨z113.2, 0, none⟩), fun _ => [], [], [], []⟩, ⟨!(bif bif r107.2 != 0 then true else decide ((w64 ((w64 (s77.2.2.1 - s77.2.1)) + 1)) < (w64 (2 * (w64 (r107.1.2.1 - r107.1.1))))) then true else (r107.1.2.2.length : Int) != (w64 (s77.1 + 1))), 125, [26], Unit, fun _ => .int .i64 (r107.1.1), fun _ => [], [], [], []⟩, ⟨!(bif bif r107.2 != 0 then true else decide ((w64 ((w64 (s77.2.2.1 - s77.2.1)) + 1)) < (w64 (2 * (w64 (r107.1.2.1 - r107.1.1))))) then true else (r107.1.2.2.length : Int) != (w64 (s77.1 + 1))), 126, [], Unit, fun _ => .pointer (some ⟨z38.2, 0, none⟩), fun _ => [], [], [], []⟩, ⟨!(bif bif r107.2 != 0 then true else decide ((w64 ((w64 (s77.2.2.1 - s77.2.1)) + 1)) < (w64 (2 * (w64 (r107.1.2.1 - r107.1.1))))) then true else (r107.1.2.2.length : Int) != (w64 (s77.1 + 1))), 127, [28], Unit, fun _ => .int .i64 (s77.2.1), fun _ => [], [], [], []⟩, ⟨!(bif bif r107.2 != 0 then true else decide ((w64 ((w64 (s77.2.2.1 - s77.2.1)) + 1)) < (w64 (2 * (w64 (r107.1.2.1 - r107.1.1))))) then true else (r107.1.2.2.length : Int) != (w64 (s77.1 + 1))), 128, [27, 29], Unit, fun _ => .bool (decide (r107.1.1 < s77.2.1)), fun _ => [], [], [], []⟩, ⟨true, 129, [25, 30], Unit, fun _ => .bool (bif bif bif r107.2 != 0 then true else decide ((w64 ((w64 (s77.2.2.1 - s77.2.1)) + 1)) < (w64 (2 * (w64 (r107.1.2.1 - r107.1.1))))) then true else (r107.1.2.2.length : Int) != (w64 (s77.1 + 1)) then true else decide (r107.1.1 < s77.2.1)), fun _ => [], [], [], []⟩, ⟨true, 130, [31], Unit, fun _ => .bool (bif bif bif r107.2 != 0 then true else decide ((w64 ((w64 (s77.2.2.1 - s77.2.1)) + 1)) < (w64 (2 * (w64 (r107.1.2.1 - r107.1.1))))) then true else (r107.1.2.2.length : Int) != (w64 (s77.1 + 1)) then true else decide (r107.1.1 < s77.2.1)), fun _ => [], [], [], []⟩, ⟨!(bif bif bif r107.2 != 0 then true else decide ((w64 ((w64 (s77.2.2.1 - s77.2.1)) + 1)) < (w64 (2 * (w64 (r107.1.2.1 - r107.1.1))))) then true else (r107.1.2.2.length : Int) != (w64 (s77.1 + 1)) then true else decide (r107.1.1 < s77.2.1)), 131, [], Unit, fun _ => .pointer (some ⟨z113.2, 1, none⟩), fun _ => [], [], [], []⟩, ⟨!(bif bif bif r107.2 != 0 then true else decide ((w64 ((w64 (s77.2.2.1 - s77.2.1)) + 1)) < (w64 (2 * (w64 (r107.1.2.1 - r107.1.1))))) then true else (r107.1.2.2.length : Int) != (w64 (s77.1 + 1)) then true else decide (r107.1.1 < s77.2.1)), 132, [33], Unit, fun _ => .int .i64 (r107.1.2.1), fun _ => [], [], [], []⟩, ⟨!(bif bif bif r107.2 != 0 then true else decide ((w64 ((w64 (s77.2.2.1 - s77.2.1)) + 1)) < (w64 (2 * (w64 (r107.1.2.1 - r107.1.1))))) then true else (r107.1.2.2.length : Int) != (w64 (s77.1 + 1)) then true else decide (r107.1.1 < s77.2.1)), 133, [], Unit, fun _ => .pointer (some ⟨z38.2, 1, none⟩), fun _ => [], [], [], []⟩, ⟨!(bif bif bif r107.2 != 0 then true else decide ((w64 ((w64 (s77.2.2.1 - s77.2.1)) + 1)) < (w64 (2 * (w64 (r107.1.2.1 - r107.1.1))))) then true else (r107.1.2.2.length : Int) != (w64 (s77.1 + 1)) then true else decide (r107.1.1 < s77.2.1)), 134, [35], Unit, fun _ => .int .i64 (s77.2.2.1), fun _ => [], [], [], []⟩, ⟨!(bif bif bif r107.2 != 0 then true else decide ((w64 ((w64 (s77.2.2.1 - s77.2.1)) + 1)) < (w64 (2 * (w64 (r107.1.2.1 - r107.1.1))))) then true else (r107.1.2.2.length : Int) != (w64 (s77.1 + 1)) then true else decide (r107.1.1 < s77.2.1)), 135, [34, 36], Unit, fun _ => .bool (decide (s77.2.2.1 < r107.1.2.1)), fun _ => [], [], [], []⟩, ⟨true, 136, [32, 37], Unit, fun _ => .bool (bif bif bif bif r107.2 != 0 then true else decide ((w64 ((w64 (s77.2.2.1 - s77.2.1)) + 1)) < (w64 (2 * (w64 (r107.1.2.1 - r107.1.1))))) then true else (r107.1.2.2.length : Int) != (w64 (s77.1 + 1)) then true else decide (r107.1.1 < s77.2.1) then true else decide (s77.2.2.1 < r107.1.2.1)), fun _ => [], [], [], []⟩] [[], [0], [0, 1], [0, 1, 2], [0, 1, 2, 3], [0, 1, 2], [0, 1, 2, 5], [0, 1, 2, 3, 4, 5, 6], [0, 1, 2, 3, 4, 5, 6, 7], [0, 1, 2], [0, 1, 2, 9], [0, 1, 2], [0, 1, 2, 11], [0, 1, 2, 9, 10, 11, 12], [0, 1, 2, 9, 10, 11, 12, 13], [0, 1, 2, 3, 4, 5, 6, 7, 8, 9, 10, 11, 12, 13, 14], [0, 1, 2, 3, 4, 5, 6, 7, 8, 9, 10, 11, 12, 13, 14, 15], [0, 1, 2, 3, 4, 5, 6, 7, 8, 9, 10, 11, 12, 13, 14, 15, 16], [0, 1, 2, 3, 4, 5, 6, 7, 8, 9, 10, 11, 12, 13, 14, 15, 16, 17], [0, 1, 2, 3, 4, 5, 6, 7, 8, 9, 10, 11, 12, 13, 14, 15, 16, 17, 18], [0, 1, 2, 3, 4, 5, 6, 7, 8, 9, 10, 11, 12, 13, 14, 15, 16, 17, 18, 19], [0, 1, 2, 3, 4, 5, 6, 7, 8, 9, 10, 11, 12, 13, 14, 15, 16, 17], [0, 1, 2, 3, 4, 5, 6, 7, 8, 9, 10, 11, 12, 13, 14, 15, 16, 17, 21], [0, 1, 2, 3, 4, 5, 6, 7, 8, 9, 10, 11, 12, 13, 14, 15, 16, 17, 18, 19, 20, 21, 22], [0, 1, 2, 3, 4, 5, 6, 7, 8, 9, 10, 11, 12, 13, 14, 15, 16, 17, 18, 19, 20, 21, 22, 23], [0, 1, 2, 3, 4, 5, 6, 7, 8, 9, 10, 11, 12, 13, 14, 15, 16, 17, 18, 19, 20, 21, 22, 23, 24], [0, 1, 2, 3, 4, 5, 6, 7, 8, 9, 10, 11, 12, 13, 14, 15, 16, 17, 18, 19, 20, 21, 22, 23, 24, 25], [0, 1, 2, 3, 4, 5, 6, 7, 8, 9, 10, 11, 12, 13, 14, 15, 16, 17, 18, 19, 20, 21, 22, 23, 24, 25, 26], [0, 1, 2, 3, 4, 5, 6, 7, 8, 9, 10, 11, 12, 13, 14, 15, 16, 17, 18, 19, 20, 21, 22, 23, 24, 25], [0, 1, 2, 3, 4, 5, 6, 7, 8, 9, 10, 11, 12, 13, 14, 15, 16, 17, 18, 19, 20, 21, 22, 23, 24, 25, 28], [0, 1, 2, 3, 4, 5, 6, 7, 8, 9, 10, 11, 12, 13, 14, 15, 16, 17, 18, 19, 20, 21, 22, 23, 24, 25, 26, 27, 28, 29], [0, 1, 2, 3, 4, 5, 6, 7, 8, 9, 10, 11, 12, 13, 14, 15, 16, 17, 18, 19, 20, 21, 22, 23, 24, 25, 26, 27, 28, 29, 30], [0, 1, 2, 3, 4, 5, 6, 7, 8, 9, 10, 11, 12, 13, 14, 15, 16, 17, 18, 19, 20, 21, 22, 23, 24, 25, 26, 27, 28, 29, 30, 31], [0, 1, 2, 3, 4, 5, 6, 7, 8, 9, 10, 11, 12, 13, 14, 15, 16, 17, 18, 19, 20, 21, 22, 23, 24, 25, 26, 27, 28, 29, 30, 31, 32], [0, 1, 2, 3, 4, 5, 6, 7, 8, 9, 10, 11, 12, 13, 14, 15, 16, 17, 18, 19, 20, 21, 22, 23, 24, 25, 26, 27, 28, 29, 30, 31, 32, 33], [0, 1, 2, 3, 4, 5, 6, 7, 8, 9, 10, 11, 12, 13, 14, 15, 16, 17, 18, 19, 20, 21, 22, 23, 24, 25, 26, 27, 28, 29, 30, 31, 32], [0, 1, 2, 3, 4, 5, 6, 7, 8, 9, 10, 11, 12, 13, 14, 15, 16, 17, 18, 19, 20, 21, 22, 23, 24, 25, 26, 27, 28, 29, 30, 31, 32, 35], [0, 1, 2, 3, 4, 5, 6, 7, 8, 9, 10, 11, 12, 13, 14, 15, 16, 17, 18, 19, 20, 21, 22, 23, 24, 25, 26, 27, 28, 29, 30, 31, 32, 33, 34, 35, 36], [0, 1, 2, 3, 4, 5, 6, 7, 8, 9, 10, 11, 12, 13, 14, 15, 16, 17, 18, 19, 20, 21, 22, 23, 24, 25, 26, 27, 28, 29, 30, 31, 32, 33, 34, 35, 36, 37]] rfl rfl rfl rfl rfl ⟨.inl rfl, .inl rfl, .inl rfl, .inl rfl, .inl rfl, .inl rfl, .inl rfl, .inl rfl, .inl rfl, .inl rfl, .inl rfl, .inl rfl, .inl rfl, .inl rfl, .inl rfl, .inl rfl, .inl rfl, .inl rfl, .inl rfl, .inl rfl, .inl rfl, .inl rfl, .inl rfl, .inl rfl, .inl rfl, .inl rfl, .inl rfl, .inl rfl, .inl rfl, .inl rfl, .inl rfl, .inl rfl, .inl rfl, .inl rfl, .inl rfl, .inl rfl, .inl rfl, .inl rfl, .inl rfl, trivial⟩ ?_ [38] rfl rfl (fun us => ?_)
            ·
             refine all_cons _ (base_nil rfl) (dst_some rfl rfl) rfl rfl rfl rfl (gd_none rfl rfl) (fun _ => ?_) ?_
             ·
              refine ob_nil rfl ?_
              exact PureOk.op (p_move (v := .int .i64 (r107.2)) rfl rfl)
             refine all_cons _ (base_nil rfl) (dst_some rfl rfl) rfl rfl rfl rfl (gd_none rfl rfl) (fun _ => ?_) ?_
             ·
              refine ob_one rfl rfl (fun _ => ?_)
              refine ob_nil rfl ?_
              exact PureOk.op (p_neq rfl rfl rfl)
             refine all_cons _ (base_nil rfl) (dst_some rfl rfl) rfl rfl rfl rfl (gd_none rfl rfl) (fun _ => ?_) ?_
             ·
              refine ob_one rfl rfl (fun _ => ?_)
              refine ob_nil rfl ?_
              exact PureOk.op (p_move (v := .bool (r107.2 != 0)) rfl rfl)
             refine all_cons _ (base_nil rfl) (dst_some rfl rfl) rfl rfl rfl rfl (gd_some (e := ⟨true, 100, [1], Unit, fun _ => .bool (r107.2 != 0), fun _ => [], [], [], []⟩) (r107.2 != 0) rfl rfl rfl rfl (fun _ => rfl) (gd_f _)) (fun hx128 => ?_) ?_
             ·
              replace hx128 : (!(r107.2 != 0)) = true := hx128
              refine ob_nil rfl ?_
              exact PureOk.op (p_fieldAddr (fo := 1) rfl Try.underlying33 rfl Try.ti3 rfl rfl rfl)
             refine all_cons _ (base_nil rfl) (dst_some rfl rfl) rfl rfl rfl rfl (gd_some (e := ⟨true, 100, [1], Unit, fun _ => .bool (r107.2 != 0), fun _ => [], [], [], []⟩) (r107.2 != 0) rfl rfl rfl rfl (fun _ => rfl) (gd_f _)) (fun hx129 => ?_) ?_
             ·
              replace hx129 : (!(r107.2 != 0)) = true := hx129
              refine ob_two rfl (fun _ _ => ?_) (fun hn => clash hx129 hn)
              refine ob_nil rfl ?_
              exact PureOk.op (p_load_box (v := .int .i64 (r107.1.2.1)) 0 rfl rfl Try.underlying3 rfl rfl rfl)
             refine all_cons _ (base_nil rfl) (dst_some rfl rfl) rfl rfl rfl rfl (gd_some (e := ⟨true, 100, [1], Unit, fun _ => .bool (r107.2 != 0), fun _ => [], [], [], []⟩) (r107.2 != 0) rfl rfl rfl rfl (fun _ => rfl) (gd_f _)) (fun hx130 => ?_) ?_
             ·
              replace hx130 : (!(r107.2 != 0)) = true := hx130
              refine ob_nil rfl ?_
              exact PureOk.op (p_fieldAddr (fo := 0) rfl Try.underlying33 rfl Try.ti3 rfl rfl rfl)
             refine all_cons _ (base_nil rfl) (dst_some rfl rfl) rfl rfl rfl rfl (gd_some (e := ⟨true, 100, [1], Unit, fun _ => .bool (r107.2 != 0), fun _ => [], [], [], []⟩) (r107.2 != 0) rfl rfl rfl rfl (fun _ => rfl) (gd_f _)) (fun hx131 => ?_) ?_
             ·
              replace hx131 : (!(r107.2 != 0)) = true := hx131
              refine ob_two rfl (fun _ _ => ?_) (fun hn => clash hx131 hn)
              refine ob_nil rfl ?_
              exact PureOk.op (p_load_box (v := .int .i64 (r107.1.1)) 0 rfl rfl Try.underlying3 rfl rfl rfl)
             refine all_cons _ (base_nil rfl) (dst_some rfl rfl) rfl rfl rfl rfl (gd_some (e := ⟨true, 100, [1], Unit, fun _ => .bool (r107.2 != 0), fun _ => [], [], [], []⟩) (r107.2 != 0) rfl rfl rfl rfl (fun _ => rfl) (gd_f _)) (fun hx132 => ?_) ?_
             ·
              replace hx132 : (!(r107.2 != 0)) = true := hx132
              refine ob_two rfl (fun _ _ => ?_) (fun hn => clash hx132 hn)
              refine ob_two rfl (fun _ _ => ?_) (fun hn => clash hx132 hn)
              refine ob_nil rfl ?_
              exact PureOk.op (p_sub rfl rfl rfl)
             refine all_cons _ (base_nil rfl) (dst_some rfl rfl) rfl rfl rfl rfl (gd_some (e := ⟨true, 100, [1], Unit, fun _ => .bool (r107.2 != 0), fun _ => [], [], [], []⟩) (r107.2 != 0) rfl rfl rfl rfl (fun _ => rfl) (gd_f _)) (fun hx133 => ?_) ?_
             ·
              replace hx133 : (!(r107.2 != 0)) = true := hx133
              refine ob_two rfl (fun _ _ => ?_) (fun hn => clash hx133 hn)
              refine ob_nil rfl ?_
              exact PureOk.op (p_mul rfl rfl rfl)
             refine all_cons _ (base_nil rfl) (dst_some rfl rfl) rfl rfl rfl rfl (gd_some (e := ⟨true, 100, [1], Unit, fun _ => .bool (r107.2 != 0), fun _ => [], [], [], []⟩) (r107.2 != 0) rfl rfl rfl rfl (fun _ => rfl) (gd_f _)) (fun hx134 => ?_) ?_
             ·
              replace hx134 : (!(r107.2 != 0)) = true := hx134
              refine ob_nil rfl ?_
              exact PureOk.op (p_fieldAddr (fo := 1) rfl Try.underlying33 rfl Try.ti3 rfl rfl rfl)
             refine all_cons _ (base_nil rfl) (dst_some rfl rfl) rfl rfl rfl rfl (gd_some (e := ⟨true, 100, [1], Unit, fun _ => .bool (r107.2 != 0), fun _ => [], [], [], []⟩) (r107.2 != 0) rfl rfl rfl rfl (fun _ => rfl) (gd_f _)) (fun hx135 => ?_) ?_
             ·
              replace hx135 : (!(r107.2 != 0)) = true := hx135
              refine ob_two rfl (fun _ _ => ?_) (fun hn => clash hx135 hn)
              refine ob_nil rfl ?_
              exact PureOk.op (p_load_box (v := .int .i64 (s77.2.2.1)) 6 rfl rfl Try.underlying3 rfl rfl rfl)
             refine all_cons _ (base_nil rfl) (dst_some rfl rfl) rfl rfl rfl rfl (gd_some (e := ⟨true, 100, [1], Unit, fun _ => .bool (r107.2 != 0), fun _ => [], [], [], []⟩) (r107.2 != 0) rfl rfl rfl rfl (fun _ => rfl) (gd_f _)) (fun hx136 => ?_) ?_
             ·
              replace hx136 : (!(r107.2 != 0)) = true := hx136
              refine ob_nil rfl ?_
              exact PureOk.op (p_fieldAddr (fo := 0) rfl Try.underlying33 rfl Try.ti3 rfl rfl rfl)
             refine all_cons _ (base_nil rfl) (dst_some rfl rfl) rfl rfl rfl rfl (gd_some (e := ⟨true, 100, [1], Unit, fun _ => .bool (r107.2 != 0), fun _ => [], [], [], []⟩) (r107.2 != 0) rfl rfl rfl rfl (fun _ => rfl) (gd_f _)) (fun hx137 => ?_) ?_
             ·
              replace hx137 : (!(r107.2 != 0)) = true := hx137
              refine ob_two rfl (fun _ _ => ?_) (fun hn => clash hx137 hn)
              refine ob_nil rfl ?_
              exact PureOk.op (p_load_box (v := .int .i64 (s77.2.1)) 6 rfl rfl Try.underlying3 rfl rfl rfl)
             refine all_cons _ (base_nil rfl) (dst_some rfl rfl) rfl rfl rfl rfl (gd_some (e := ⟨true, 100, [1], Unit, fun _ => .bool (r107.2 != 0), fun _ => [], [], [], []⟩) (r107.2 != 0) rfl rfl rfl rfl (fun _ => rfl) (gd_f _)) (fun hx138 => ?_) ?_
             ·
              replace hx138 : (!(r107.2 != 0)) = true := hx138
              refine ob_two rfl (fun _ _ => ?_) (fun hn => clash hx138 hn)
              refine ob_two rfl (fun _ _ => ?_) (fun hn => clash hx138 hn)
              refine ob_nil rfl ?_
              exact PureOk.op (p_sub rfl rfl rfl)
             refine all_cons _ (base_nil rfl) (dst_some rfl rfl) rfl rfl rfl rfl (gd_some (e := ⟨true, 100, [1], Unit, fun _ => .bool (r107.2 != 0), fun _ => [], [], [], []⟩) (r107.2 != 0) rfl rfl rfl rfl (fun _ => rfl) (gd_f _)) (fun hx139 => ?_) ?_
             ·
              replace hx139 : (!(r107.2 != 0)) = true := hx139
              refine ob_two rfl (fun _ _ => ?_) (fun hn => clash hx139 hn)
              refine ob_nil rfl ?_
              exact PureOk.op (p_add rfl rfl rfl)
             refine all_cons _ (base_nil rfl) (dst_some rfl rfl) rfl rfl rfl rfl (gd_some (e := ⟨true, 100, [1], Unit, fun _ => .bool (r107.2 != 0), fun _ => [], [], [], []⟩) (r107.2 != 0) rfl rfl rfl rfl (fun _ => rfl) (gd_f _)) (fun hx140 => ?_) ?_
             ·
              replace hx140 : (!(r107.2 != 0)) = true := hx140
              refine ob_two rfl (fun _ _ => ?_) (fun hn => clash hx140 hn)
              refine ob_two rfl (fun _ _ => ?_) (fun hn => clash hx140 hn)
              refine ob_nil rfl ?_
              exact PureOk.op (p_gtr rfl rfl rfl)
             refine all_cons _ (base_nil rfl) (dst_some rfl rfl) rfl rfl rfl rfl (gd_none rfl rfl) (fun _ => ?_) ?_
             ·
              refine ob_one rfl rfl (fun _ => ?_)
              refine ob_two rfl (fun hq142 _ => ?_) (fun hq142 => ?_)
              rotate_left
              ·
               replace hq142 : (!(r107.2 != 0)) = false := hq142
               refine ob_nil rfl ?_
               exact PureOk.op (p_pick (b := r107.2 != 0) (p := true) (q := decide ((w64 ((w64 (s77.2.2.1 - s77.2.1)) + 1)) < (w64 (2 * (w64 (r107.1.2.1 - r107.1.1)))))) rfl rfl (fun _ => rfl) (fun hb => by first | (rw [hb] at hq142; cases hq142; done) | exact absurd hq142 (by rw [hb]; simp) | (simp_all; done)))
              refine ob_nil rfl ?_
              exact PureOk.op (p_pick (b := r107.2 != 0) (p := true) (q := decide ((w64 ((w64 (s77.2.2.1 - s77.2.1)) + 1)) < (w64 (2 * (w64 (r107.1.2.1 - r107.1.1)))))) rfl rfl (fun _ => rfl) (fun _ => rfl))
             refine all_cons _ (base_nil rfl) (dst_some rfl rfl) rfl rfl rfl rfl (gd_none rfl rfl) (fun _ => ?_) ?_
             ·
              refine ob_one rfl rfl (fun _ => ?_)
              refine ob_nil rfl ?_
              exact PureOk.op (p_move (v := .bool (bif r107.2 != 0 then true else decide ((w64 ((w64 (s77.2.2.1 - s77.2.1)) + 1)) < (w64 (2 * (w64 (r107.1.2.1 - r107.1.1))))))) rfl rfl)
             refine all_cons _ (base_nil rfl) (dst_some rfl rfl) rfl rfl rfl rfl (gd_some (e := ⟨true, 115, [16], Unit, fun _ => .bool (bif r107.2 != 0 then true else decide ((w64 ((w64 (s77.2.2.1 - s77.2.1)) + 1)) < (w64 (2 * (w64 (r107.1.2.1 - r107.1.1)))))), fun _ => [], [], [], []⟩) (bif r107.2 != 0 then true else decide ((w64 ((w64 (s77.2.2.1 - s77.2.1)) + 1)) < (w64 (2 * (w64 (r107.1.2.1 - r107.1.1)))))) rfl rfl rfl rfl (fun _ => rfl) (gd_f _)) (fun hx144 => ?_) ?_
             ·
              replace hx144 : (!(bif r107.2 != 0 then true else decide ((w64 ((w64 (s77.2.2.1 - s77.2.1)) + 1)) < (w64 (2 * (w64 (r107.1.2.1 - r107.1.1))))))) = true := hx144
              refine ob_nil rfl ?_
              exact PureOk.op (p_fieldAddr (fo := 2) rfl Try.underlying33 rfl Try.ti22 rfl rfl rfl)
             refine all_cons _ (base_nil rfl) (dst_some rfl rfl) rfl rfl rfl rfl (gd_some (e := ⟨true, 115, [16], Unit, fun _ => .bool (bif r107.2 != 0 then true else decide ((w64 ((w64 (s77.2.2.1 - s77.2.1)) + 1)) < (w64 (2 * (w64 (r107.1.2.1 - r107.1.1)))))), fun _ => [], [], [], []⟩) (bif r107.2 != 0 then true else decide ((w64 ((w64 (s77.2.2.1 - s77.2.1)) + 1)) < (w64 (2 * (w64 (r107.1.2.1 - r107.1.1)))))) rfl rfl rfl rfl (fun _ => rfl) (gd_f _)) (fun hx145 => ?_) ?_
             ·
              replace hx145 : (!(bif r107.2 != 0 then true else decide ((w64 ((w64 (s77.2.2.1 - s77.2.1)) + 1)) < (w64 (2 * (w64 (r107.1.2.1 - r107.1.1))))))) = true := hx145
              refine ob_two rfl (fun _ _ => ?_) (fun hn => clash hx145 hn)
              refine ob_nil rfl ?_
              exact PureOk.op (p_load_box (v := Hd.val z113.1) 0 rfl rfl Try.underlying22 rfl rfl rfl)
             refine all_cons _ (base_nil rfl) (dst_some rfl rfl) rfl rfl rfl rfl (gd_some (e := ⟨true, 115, [16], Unit, fun _ => .bool (bif r107.2 != 0 then true else decide ((w64 ((w64 (s77.2.2.1 - s77.2.1)) + 1)) < (w64 (2 * (w64 (r107.1.2.1 - r107.1.1)))))), fun _ => [], [], [], []⟩) (bif r107.2 != 0 then true else decide ((w64 ((w64 (s77.2.2.1 - s77.2.1)) + 1)) < (w64 (2 * (w64 (r107.1.2.1 - r107.1.1)))))) rfl rfl rfl rfl (fun _ => rfl) (gd_f _)) (fun hx146 => ?_) ?_
             ·
              replace hx146 : (!(bif r107.2 != 0 then true else decide ((w64 ((w64 (s77.2.2.1 - s77.2.1)) + 1)) < (w64 (2 * (w64 (r107.1.2.1 - r107.1.1))))))) = true := hx146
              refine ob_two rfl (fun _ _ => ?_) (fun hn => clash hx146 hn)
              refine ob_nil rfl ?_
              exact PureOk.op (p_len_own (ty := (tI .i64)) (xs := r107.1.2.2) (h := z113.1) 1 rfl rfl Try.underlying22 rfl)
             refine all_cons _ (base_nil rfl) (dst_some rfl rfl) rfl rfl rfl rfl (gd_some (e := ⟨true, 115, [16], Unit, fun _ => .bool (bif r107.2 != 0 then true else decide ((w64 ((w64 (s77.2.2.1 - s77.2.1)) + 1)) < (w64 (2 * (w64 (r107.1.2.1 - r107.1.1)))))), fun _ => [], [], [], []⟩) (bif r107.2 != 0 then true else decide ((w64 ((w64 (s77.2.2.1 - s77.2.1)) + 1)) < (w64 (2 * (w64 (r107.1.2.1 - r107.1.1)))))) rfl rfl rfl rfl (fun _ => rfl) (gd_f _)) (fun hx147 => ?_) ?_
             ·
              replace hx147 : (!(bif r107.2 != 0 then true else decide ((w64 ((w64 (s77.2.2.1 - s77.2.1)) + 1)) < (w64 (2 * (w64 (r107.1.2.1 - r107.1.1))))))) = true := hx147
              refine ob_nil rfl ?_
              exact PureOk.op (p_move (v := .int .i64 (s77.1)) rfl rfl)
             refine all_cons _ (base_nil rfl) (dst_some rfl rfl) rfl rfl rfl rfl (gd_some (e := ⟨true, 115, [16], Unit, fun _ => .bool (bif r107.2 != 0 then true else decide ((w64 ((w64 (s77.2.2.1 - s77.2.1)) + 1)) < (w64 (2 * (w64 (r107.1.2.1 - r107.1.1)))))), fun _ => [], [], [], []⟩) (bif r107.2 != 0 then true else decide ((w64 ((w64 (s77.2.2.1 - s77.2.1)) + 1)) < (w64 (2 * (w64 (r107.1.2.1 - r107.1.1)))))) rfl rfl rfl rfl (fun _ => rfl) (gd_f _)) (fun hx148 => ?_) ?_
             ·
              replace hx148 : (!(bif r107.2 != 0 then true else decide ((w64 ((w64 (s77.2.2.1 - s77.2.1)) + 1)) < (w64 (2 * (w64 (r107.1.2.1 - r107.1.1))))))) = true := hx148
              refine ob_two rfl (fun _ _ => ?_) (fun hn => clash hx148 hn)
              refine ob_nil rfl ?_
              exact PureOk.op (p_add rfl rfl rfl)
             refine all_cons _ (base_nil rfl) (dst_some rfl rfl) rfl rfl rfl rfl (gd_some (e := ⟨true, 115, [16], Unit, fun _ => .bool (bif r107.2 != 0 then true else decide ((w64 ((w64 (s77.2.2.1 - s77.2.1)) + 1)) < (w64 (2 * (w64 (r107.1.2.1 - r107.1.1)))))), fun _ => [], [], [], []⟩) (bif r107.2 != 0 then true else decide ((w64 ((w64 (s77.2.2.1 - s77.2.1)) + 1)) < (w64 (2 * (w64 (r107.1.2.1 - r107.1.1)))))) rfl rfl rfl rfl (fun _ => rfl) (gd_f _)) (fun hx149 => ?_) ?_
             ·
              replace hx149 : (!(bif r107.2 != 0 then true else decide ((w64 ((w64 (s77.2.2.1 - s77.2.1)) + 1)) < (w64 (2 * (w64 (r107.1.2.1 - r107.1.1))))))) = true := hx149
              refine ob_two rfl (fun _ _ => ?_) (fun hn => clash hx149 hn)
              refine ob_two rfl (fun _ _ => ?_) (fun hn => clash hx149 hn)
              refine ob_nil rfl ?_
              exact PureOk.op (p_neq rfl rfl rfl)
             refine all_cons _ (base_nil rfl) (dst_some rfl rfl) rfl rfl rfl rfl (gd_none rfl rfl) (fun _ => ?_) ?_
             ·
              refine ob_one rfl rfl (fun _ => ?_)
              refine ob_two rfl (fun hq151 _ => ?_) (fun hq151 => ?_)
              rotate_left
              ·
               replace hq151 : (!(bif r107.2 != 0 then true else decide ((w64 ((w64 (s77.2.2.1 - s77.2.1)) + 1)) < (w64 (2 * (w64 (r107.1.2.1 - r107.1.1))))))) = false := hq151
               refine ob_nil rfl ?_
               exact PureOk.op (p_pick (b := bif r107.2 != 0 then true else decide ((w64 ((w64 (s77.2.2.1 - s77.2.1)) + 1)) < (w64 (2 * (w64 (r107.1.2.1 - r107.1.1)))))) (p := true) (q := (r107.1.2.2.length : Int) != (w64 (s77.1 + 1))) rfl rfl (fun _ => rfl) (fun hb => by first | (rw [hb] at hq151; cases hq151; done) | exact absurd hq151 (by rw [hb]; simp) | (simp_all; done)))
              refine ob_nil rfl ?_
              exact PureOk.op (p_pick (b := bif r107.2 != 0 then true else decide ((w64 ((w64 (s77.2.2.1 - s77.2.1)) + 1)) < (w64 (2 * (w64 (r107.1.2.1 - r107.1.1)))))) (p := true) (q := (r107.1.2.2.length : Int) != (w64 (s77.1 + 1))) rfl rfl (fun _ => rfl) (fun _ => rfl))
             refine all_cons _ (base_nil rfl) (dst_some rfl rfl) rfl rfl rfl rfl (gd_none rfl rfl) (fun _ => ?_) ?_
             ·
              refine ob_one rfl rfl (fun _ => ?_)
              refine ob_nil rfl ?_
              exact PureOk.op (p_move (v := .bool (bif bif r107.2 != 0 then true else decide ((w64 ((w64 (s77.2.2.1 - s77.2.1)) + 1)) < (w64 (2 * (w64 (r107.1.2.1 - r107.1.1))))) then true else (r107.1.2.2.length : Int) != (w64 (s77.1 + 1)))) rfl rfl)
             refine all_cons _ (base_nil rfl) (dst_some rfl rfl) rfl rfl rfl rfl (gd_some (e := ⟨true, 123, [24], Unit, fun _ => .bool (bif bif r107.2 != 0 then true else decide ((w64 ((w64 (s77.2.2.1 - s77.2.1)) + 1)) < (w64 (2 * (w64 (r107.1.2.1 - r107.1.1))))) then true else (r107.1.2.2.length : Int) != (w64 (s77.1 + 1))), fun _ => [], [], [], []⟩) (bif bif r107.2 != 0 then true else decide ((w64 ((w64 (s77.2.2.1 - s77.2.1)) + 1)) < (w64 (2 * (w64 (r107.1.2.1 - r107.1.1))))) then true else (r107.1.2.2.length : Int) != (w64 (s77.1 + 1))) rfl rfl rfl rfl (fun _ => rfl) (gd_f _)) (fun hx153 => ?_) ?_
             ·
              replace hx153 : (!(bif bif r107.2 != 0 then true else decide ((w64 ((w64 (s77.2.2.1 - s77.2.1)) + 1)) < (w64 (2 * (w64 (r107.1.2.1 - r107.1.1))))) then true else (r107.1.2.2.length : Int) != (w64 (s77.1 + 1)))) = true := hx153
              refine ob_nil rfl ?_
              exact PureOk.op (p_fieldAddr (fo := 0) rfl Try.underlying33 rfl Try.ti3 rfl rfl rfl)
             refine all_cons _ (base_nil rfl) (dst_some rfl rfl) rfl rfl rfl rfl (gd_some (e := ⟨true, 123, [24], Unit, fun _ => .bool (bif bif r107.2 != 0 then true else decide ((w64 ((w64 (s77.2.2.1 - s77.2.1)) + 1)) < (w64 (2 * (w64 (r107.1.2.1 - r107.1.1))))) then true else (r107.1.2.2.length : Int) != (w64 (s77.1 + 1))), fun _ => [], [], [], []⟩) (bif bif r107.2 != 0 then true else decide ((w64 ((w64 (s77.2.2.1 - s77.2.1)) + 1)) < (w64 (2 * (w64 (r107.1.2.1 - r107.1.1))))) then true else (r107.1.2.2.length : Int) != (w64 (s77.1 + 1))) rfl rfl rfl rfl (fun _ => rfl) (gd_f _)) (fun hx154 => ?_) ?_
             ·
              replace hx154 : (!(bif bif r107.2 != 0 then true else decide ((w64 ((w64 (s77.2.2.1 - s77.2.1)) + 1)) < (w64 (2 * (w64 (r107.1.2.1 - r107.1.1))))) then true else (r107.1.2.2.length : Int) != (w64 (s77.1 + 1)))) = true := hx154
              refine ob_two rfl (fun _ _ => ?_) (fun hn => clash hx154 hn)
              refine ob_nil rfl ?_
              exact PureOk.op (p_load_box (v := .int .i64 (r107.1.1)) 0 rfl rfl Try.underlying3 rfl rfl rfl)
             refine all_cons _ (base_nil rfl) (dst_some rfl rfl) rfl rfl rfl rfl (gd_some (e := ⟨true, 123, [24], Unit, fun _ => .bool (bif bif r107.2 != 0 then true else decide ((w64 ((w64 (s77.2.2.1 - s77.2.1)) + 1)) < (w64 (2 * (w64 (r107.1.2.1 - r107.1.1))))) then true else (r107.1.2.2.length : Int) != (w64 (s77.1 + 1))), fun _ => [], [], [], []⟩) (bif bif r107.2 != 0 then true else decide ((w64 ((w64 (s77.2.2.1 - s77.2.1)) + 1)) < (w64 (2 * (w64 (r107.1.2.1 - r107.1.1))))) then true else (r107.1.2.2.length : Int) != (w64 (s77.1 + 1))) rfl rfl rfl rfl (fun _ => rfl) (gd_f _)) (fun hx155 => ?_) ?_
             ·
              replace hx155 : (!(bif bif r107.2 != 0 then true else decide ((w64 ((w64 (s77.2.2.1 - s77.2.1)) + 1)) < (w64 (2 * (w64 (r107.1.2.1 - r107.1.1))))) then true else (r107.1.2.2.length : Int) != (w64 (s77.1 + 1)))) = true := hx155
              refine ob_nil rfl ?_
              exact PureOk.op (p_fieldAddr (fo := 0) rfl Try.underlying33 rfl Try.ti3 rfl rfl rfl)
             refine all_cons _ (base_nil rfl) (dst_some rfl rfl) rfl rfl rfl rfl (gd_some (e := ⟨true, 123, [24], Unit, fun _ => .bool (bif bif r107.2 != 0 then true else decide ((w64 ((w64 (s77.2.2.1 - s77.2.1)) + 1)) < (w64 (2 * (w64 (r107.1.2.1 - r107.1.1))))) then true else (r107.1.2.2.length : Int) != (w64 (s77.1 + 1))), fun _ => [], [], [], []⟩) (bif bif r107.2 != 0 then true else decide ((w64 ((w64 (s77.2.2.1 - s77.2.1)) + 1)) < (w64 (2 * (w64 (r107.1.2.1 - r107.1.1))))) then true else (r107.1.2.2.length : Int) != (w64 (s77.1 + 1))) rfl rfl rfl rfl (fun _ => rfl) (gd_f _)) (fun hx156 => ?_) ?_
             ·
              replace hx156 : (!(bif bif r107.2 != 0 then true else decide ((w64 ((w64 (s77.2.2.1 - s77.2.1)) + 1)) < (w64 (2 * (w64 (r107.1.2.1 - r107.1.1))))) then true else (r107.1.2.2.length : Int) != (w64 (s77.1 + 1)))) = true := hx156
              refine ob_two rfl (fun _ _ => ?_) (fun hn => clash hx156 hn)
              refine ob_nil rfl ?_
              exact PureOk.op (p_load_box (v := .int .i64 (s77.2.1)) 6 rfl rfl Try.underlying3 rfl rfl rfl)
             refine all_cons _ (base_nil rfl) (dst_some rfl rfl) rfl rfl rfl rfl (gd_some (e := ⟨true, 123, [24], Unit, fun _ => .bool (bif bif r107.2 != 0 then true else decide ((w64 ((w64 (s77.2.2.1 - s77.2.1)) + 1)) < (w64 (2 * (w64 (r107.1.2.1 - r107.1.1))))) then true else (r107.1.2.2.length : Int) != (w64 (s77.1 + 1))), fun _ => [], [], [], []⟩) (bif bif r107.2 != 0 then true else decide ((w64 ((w64 (s77.2.2.1 - s77.2.1)) + 1)) < (w64 (2 * (w64 (r107.1.2.1 - r107.1.1))))) then true else (r107.1.2.2.length : Int) != (w64 (s77.1 + 1))) rfl rfl rfl rfl (fun _ => rfl) (gd_f _)) (fun hx157 => ?_) ?_
             ·
              replace hx157 : (!(bif bif r107.2 != 0 then true else decide ((w64 ((w64 (s77.2.2.1 - s77.2.1)) + 1)) < (w64 (2 * (w64 (r107.1.2.1 - r107.1.1))))) then true else (r107.1.2.2.length : Int) != (w64 (s77.1 + 1)))) = true := hx157
              refine ob_two rfl (fun _ _ => ?_) (fun hn => clash hx157 hn)
              refine ob_two rfl (fun _ _ => ?_) (fun hn => clash hx157 hn)
              refine ob_nil rfl ?_
              exact PureOk.op (p_lss rfl rfl rfl)
             refine all_cons _ (base_nil rfl) (dst_some rfl rfl) rfl rfl rfl rfl (gd_none rfl rfl) (fun _ => ?_) ?_
             ·
              refine ob_one rfl rfl (fun _ => ?_)
              refine ob_two rfl (fun hq159 _ => ?_) (fun hq159 => ?_)
              rotate_left
              ·
               replace hq159 : (!(bif bif r107.2 != 0 then true else decide ((w64 ((w64 (s77.2.2.1 - s77.2.1)) + 1)) < (w64 (2 * (w64 (r107.1.2.1 - r107.1.1))))) then true else (r107.1.2.2.length : Int) != (w64 (s77.1 + 1)))) = false := hq159
               refine ob_nil rfl ?_
               exact PureOk.op (p_pick (b := bif bif r107.2 != 0 then true else decide ((w64 ((w64 (s77.2.2.1 - s77.2.1)) + 1)) < (w64 (2 * (w64 (r107.1.2.1 - r107.1.1))))) then true else (r107.1.2.2.length : Int) != (w64 (s77.1 + 1))) (p := true) (q := decide (r107.1.1 < s77.2.1)) rfl rfl (fun _ => rfl) (fun hb => by first | (rw [hb] at hq159; cases hq159; done) | exact absurd hq159 (by rw [hb]; simp) | (simp_all; done)))
              refine ob_nil rfl ?_
              exact PureOk.op (p_pick (b := bif bif r107.2 != 0 then true else decide ((w64 ((w64 (s77.2.2.1 - s77.2.1)) + 1)) < (w64 (2 * (w64 (r107.1.2.1 - r107.1.1))))) then true else (r107.1.2.2.length : Int) != (w64 (s77.1 + 1))) (p := true) (q := decide (r107.1.1 < s77.2.1)) rfl rfl (fun _ => rfl) (fun _ => rfl))
             refine all_cons _ (base_nil rfl) (dst_some rfl rfl) rfl rfl rfl rfl (gd_none rfl rfl) (fun _ => ?_) ?_
             ·
              refine ob_one rfl rfl (fun _ => ?_)
              refine ob_nil rfl ?_
              exact PureOk.op (p_move (v := .bool (bif bif bif r107.2 != 0 then true else decide ((w64 ((w64 (s77.2.2.1 - s77.2.1)) + 1)) < (w64 (2 * (w64 (r107.1.2.1 - r107.1.1))))) then true else (r107.1.2.2.length : Int) != (w64 (s77.1 + 1)) then true else decide (r107.1.1 < s77.2.1))) rfl rfl)
             refine all_cons _ (base_nil rfl) (dst_some rfl rfl) rfl rfl rfl rfl (gd_some (e := ⟨true, 130, [31], Unit, fun _ => .bool (bif bif bif r107.2 != 0 then true else decide ((w64 ((w64 (s77.2.2.1 - s77.2.1)) + 1)) < (w64 (2 * (w64 (r107.1.2.1 - r107.1.1))))) then true else (r107.1.2.2.length : Int) != (w64 (s77.1 + 1)) then true else decide (r107.1.1 < s77.2.1)), fun _ => [], [], [], []⟩) (bif bif bif r107.2 != 0 then true else decide ((w64 ((w64 (s77.2.2.1 - s77.2.1)) + 1)) < (w64 (2 * (w64 (r107.1.2.1 - r107.1.1))))) then true else (r107.1.2.2.length : Int) != (w64 (s77.1 + 1)) then true else decide (r107.1.1 < s77.2.1)) rfl rfl rfl rfl (fun _ => rfl) (gd_f _)) (fun hx161 => ?_) ?_
             ·
              replace hx161 : (!(bif bif bif r107.2 != 0 then true else decide ((w64 ((w64 (s77.2.2.1 - s77.2.1)) + 1)) < (w64 (2 * (w64 (r107.1.2.1 - r107.1.1))))) then true else (r107.1.2.2.length : Int) != (w64 (s77.1 + 1)) then true else decide (r107.1.1 < s77.2.1))) = true := hx161
              refine ob_nil rfl ?_
              exact PureOk.op (p_fieldAddr (fo := 1) rfl Try.underlying33 rfl Try.ti3 rfl rfl rfl)
             refine all_cons _ (base_nil rfl) (dst_some rfl rfl) rfl rfl rfl rfl (gd_some (e := ⟨true, 130, [31], Unit, fun _ => .bool (bif bif bif r107.2 != 0 then true else decide ((w64 ((w64 (s77.2.2.1 - s77.2.1)) + 1)) < (w64 (2 * (w64 (r107.1.2.1 - r107.1.1))))) then true else (r107.1.2.2.length : Int) != (w64 (s77.1 + 1)) then true else decide (r107.1.1 < s77.2.1)), fun _ => [], [], [], []⟩) (bif bif bif r107.2 != 0 then true else decide ((w64 ((w64 (s77.2.2.1 - s77.2.1)) + 1)) < (w64 (2 * (w64 (r107.1.2.1 - r107.1.1))))) then true else (r107.1.2.2.length : Int) != (w64 (s77.1 + 1)) then true else decide (r107.1.1 < s77.2.1)) rfl rfl rfl rfl (fun _ => rfl) (gd_f _)) (fun hx162 => ?_) ?_
             ·
              replace hx162 : (!(bif bif bif r107.2 != 0 then true else decide ((w64 ((w64 (s77.2.2.1 - s77.2.1)) + 1)) < (w64 (2 * (w64 (r107.1.2.1 - r107.1.1))))) then true else (r107.1.2.2.length : Int) != (w64 (s77.1 + 1)) then true else decide (r107.1.1 < s77.2.1))) = true := hx162
              refine ob_two rfl (fun _ _ => ?_) (fun hn => clash hx162 hn)
              refine ob_nil rfl ?_
              exact PureOk.op (p_load_box (v := .int .i64 (r107.1.2.1)) 0 rfl rfl Try.underlying3 rfl rfl rfl)
             refine all_cons _ (base_nil rfl) (dst_some rfl rfl) rfl rfl rfl rfl (gd_some (e := ⟨true, 130, [31], Unit, fun _ => .bool (bif bif bif r107.2 != 0 then true else decide ((w64 ((w64 (s77.2.2.1 - s77.2.1)) + 1)) < (w64 (2 * (w64 (r107.1.2.1 - r107.1.1))))) then true else (r107.1.2.2.length : Int) != (w64 (s77.1 + 1)) then true else decide (r107.1.1 < s77.2.1)), fun _ => [], [], [], []⟩) (bif bif bif r107.2 != 0 then true else decide ((w64 ((w64 (s77.2.2.1 - s77.2.1)) + 1)) < (w64 (2 * (w64 (r107.1.2.1 - r107.1.1))))) then true else (r107.1.2.2.length : Int) != (w64 (s77.1 + 1)) then true else decide (r107.1.1 < s77.2.1)) rfl rfl rfl rfl (fun _ => rfl) (gd_f _)) (fun hx163 => ?_) ?_
             ·
              replace hx163 : (!(bif bif bif r107.2 != 0 then true else decide ((w64 ((w64 (s77.2.2.1 - s77.2.1)) + 1)) < (w64 (2 * (w64 (r107.1.2.1 - r107.1.1))))) then true else (r107.1.2.2.length : Int) != (w64 (s77.1 + 1)) then true else decide (r107.1.1 < s77.2.1))) = true := hx163
              refine ob_nil rfl ?_
              exact PureOk.op (p_fieldAddr (fo := 1) rfl Try.underlying33 rfl Try.ti3 rfl rfl rfl)
             refine all_cons _ (base_nil rfl) (dst_some rfl rfl) rfl rfl rfl rfl (gd_some (e := ⟨true, 130, [31], Unit, fun _ => .bool (bif bif bif r107.2 != 0 then true else decide ((w64 ((w64 (s77.2.2.1 - s77.2.1)) + 1)) < (w64 (2 * (w64 (r107.1.2.1 - r107.1.1))))) then true else (r107.1.2.2.length : Int) != (w64 (s77.1 + 1)) then true else decide (r107.1.1 < s77.2.1)), fun _ => [], [], [], []⟩) (bif bif bif r107.2 != 0 then true else decide ((w64 ((w64 (s77.2.2.1 - s77.2.1)) + 1)) < (w64 (2 * (w64 (r107.1.2.1 - r107.1.1))))) then true else (r107.1.2.2.length : Int) != (w64 (s77.1 + 1)) then true else decide (r107.1.1 < s77.2.1)) rfl rfl rfl rfl (fun _ => rfl) (gd_f _)) (fun hx164 => ?_) ?_
             ·
              replace hx164 : (!(bif bif bif r107.2 != 0 then true else decide ((w64 ((w64 (s77.2.2.1 - s77.2.1)) + 1)) < (w64 (2 * (w64 (r107.1.2.1 - r107.1.1))))) then true else (r107.1.2.2.length : Int) != (w64 (s77.1 + 1)) then true else decide (r107.1.1 < s77.2.1))) = true := hx164
              refine ob_two rfl (fun _ _ => ?_) (fun hn => clash hx164 hn)
              refine ob_nil rfl ?_
              exact PureOk.op (p_load_box (v := .int .i64 (s77.2.2.1)) 6 rfl rfl Try.underlying3 rfl rfl rfl)
             refine all_cons _ (base_nil rfl) (dst_some rfl rfl) rfl rfl rfl rfl (gd_some (e := ⟨true, 130, [31], Unit, fun _ => .bool (bif bif bif r107.2 != 0 then true else decide ((w64 ((w64 (s77.2.2.1 - s77.2.1)) + 1)) < (w64 (2 * (w64 (r107.1.2.1 - r107.1.1))))) then true else (r107.1.2.2.length : Int) != (w64 (s77.1 + 1)) then true else decide (r107.1.1 < s77.2.1)), fun _ => [], [], [], []⟩) (bif bif bif r107.2 != 0 then true else decide ((w64 ((w64 (s77.2.2.1 - s77.2.1)) + 1)) < (w64 (2 * (w64 (r107.1.2.1 - r107.1.1))))) then true else (r107.1.2.2.length : Int) != (w64 (s77.1 + 1)) then true else decide (r107.1.1 < s77.2.1)) rfl rfl rfl rfl (fun _ => rfl) (gd_f _)) (fun hx165 => ?_) ?_
             ·
              replace hx165 : (!(bif bif bif r107.2 != 0 then true else decide ((w64 ((w64 (s77.2.2.1 - s77.2.1)) + 1)) < (w64 (2 * (w64 (r107.1.2.1 - r107.1.1))))) then true else (r107.1.2.2.length : Int) != (w64 (s77.1 + 1)) then true else decide (r107.1.1 < s77.2.1))) = true := hx165
              refine ob_two rfl (fun _ _ => ?_) (fun hn => clash hx165 hn)
              refine ob_two rfl (fun _ _ => ?_) (fun hn => clash hx165 hn)
              refine ob_nil rfl ?_
              exact PureOk.op (p_gtr rfl rfl rfl)
             refine all_cons _ (base_nil rfl) (dst_some rfl rfl) rfl rfl rfl rfl (gd_none rfl rfl) (fun _ => ?_) ?_
             ·
              refine ob_one rfl rfl (fun _ => ?_)
              refine ob_two rfl (fun hq167 _ => ?_) (fun hq167 => ?_)
              rotate_left
              ·
               replace hq167 : (!(bif bif bif r107.2 != 0 then true else decide ((w64 ((w64 (s77.2.2.1 - s77.2.1)) + 1)) < (w64 (2 * (w64 (r107.1.2.1 - r107.1.1))))) then true else (r107.1.2.2.length : Int) != (w64 (s77.1 + 1)) then true else decide (r107.1.1 < s77.2.1))) = false := hq167
               refine ob_nil rfl ?_
               exact PureOk.op (p_pick (b := bif bif bif r107.2 != 0 then true else decide ((w64 ((w64 (s77.2.2.1 - s77.2.1)) + 1)) < (w64 (2 * (w64 (r107.1.2.1 - r107.1.1))))) then true else (r107.1.2.2.length : Int) != (w64 (s77.1 + 1)) then true else decide (r107.1.1 < s77.2.1)) (p := true) (q := decide (s77.2.2.1 < r107.1.2.1)) rfl rfl (fun _ => rfl) (fun hb => by first | (rw [hb] at hq167; cases hq167; done) | exact absurd hq167 (by rw [hb]; simp) | (simp_all; done)))
              refine ob_nil rfl ?_
              exact PureOk.op (p_pick (b := bif bif bif r107.2 != 0 then true else decide ((w64 ((w64 (s77.2.2.1 - s77.2.1)) + 1)) < (w64 (2 * (w64 (r107.1.2.1 - r107.1.1))))) then true else (r107.1.2.2.length : Int) != (w64 (s77.1 + 1)) then true else decide (r107.1.1 < s77.2.1)) (p := true) (q := decide (s77.2.2.1 < r107.1.2.1)) rfl rfl (fun _ => rfl) (fun _ => rfl))
             exact all_nil
            ·
             refine fin_base _ (base_nil rfl) ?_
             refine fin_one rfl rfl (fun _ => ?_)
             refine fin_nil ?_
             refine s_nil ?_
             refine x_then ?_
             refine s_cond rfl (fun hb168 => ?_) (fun hb168 => ?_)
             ·
              replace e80 := cond_t hb168 e80
              refine s_seq ?_
              refine s_region ?_
              refine s_pure (p_assign (v := .bool (false)) rfl rfl) rfl rfl rfl ?_
              refine s_nil ?_
              refine x_then ?_
              refine s_ret ?_
              refine x_then_ret ?_
              refine x_block_ret ?_
              refine x_out_ret e80 (fun e169 => ?_)
              subst e169
              refine x_block_ret ?_
              refine x_join_ret ?_
              replace hF := some_inj hF
              subst hF
              exact x_ret () (res_one rfl (ra_tmp (v := .bool (false)) rfl)) rfl 3 rfl [] 2 rfl trivial
             ·
              replace e80 := cond_f hb168 e80
              refine s_skip ?_
              refine x_then ?_
              refine s_seq ?_
              refine s_region ?_
              refine s_pure (p_move (v := .int .i64 (s77.1)) rfl rfl) rfl rfl rfl ?_
              refine s_pure (p_add rfl rfl rfl) rfl rfl rfl ?_
              refine s_pure (p_assign (v := .int .i64 (w64 (s77.1 + 1))) rfl rfl) rfl rfl rfl ?_
              refine s_nil ?_
              refine x_then ?_
              refine s_region ?_
              refine s_pure (p_loadN_box (cs' := [.int .i64 (r107.1.1), .int .i64 (r107.1.2.1), Hd.val z113.1]) 0 rfl rfl Try.underlying33 rfl Try.ti33 rfl rfl rfl) rfl rfl rfl ?_
              refine s_opn (ok_store_box (v := .agg ([.int .i64 (r107.1.1), .int .i64 (r107.1.2.1), Hd.val z113.1]).toArray) (vs := [.int .i64 (r107.1.1), .int .i64 (r107.1.2.1), Hd.val z113.1]) (cs' := [.int .i64 (r107.1.1), .int .i64 (r107.1.2.1), Hd.val z113.1]) 6 rfl rfl Try.ti33 rfl rfl rfl rfl rfl rfl rfl) rfl rfl rfl (fun _ => ?_)
              refine s_nil ?_
              refine x_block ?_
              exact x_next z113.1 e80 [(11, 11), (25, 25), (39, 39), (53, 53), (91, 91), (165, 79)] 2 rfl ⟨rfl, rfl, rfl, rfl, rfl, trivial⟩ ⟨.inl ⟨4, _, rfl, weak_same⟩, .inl ⟨5, _, rfl, weak_same⟩, .inl ⟨6, _, rfl, weak_same⟩, .inl ⟨0, _, rfl, weak_same⟩, .inl ⟨7, _, rfl, weak_slim rfl⟩, .inl ⟨8, _, rfl, weak_slim rfl⟩, .inl ⟨2, _, rfl, weak_slim rfl⟩, trivial⟩
        ·
         replace e80 := cond_f hb81 e80
         refine s_exit ?_
         refine x_then_exit ?_
         refine x_out e80 (fun e170 => ?_)
         subst e170
         refine x_block_exit ?_
         exact x_join (y23, y78) [(11, 11), (25, 25), (39, 39), (53, 53), (79, 79), (91, 91)] 2 rfl ⟨rfl, rfl, rfl, rfl, rfl, trivial⟩ ⟨.inl ⟨0, _, rfl, weak_same⟩, .inl ⟨1, _, rfl, weak_same⟩, .inl ⟨2, _, rfl, weak_same⟩, .inl ⟨3, _, rfl, weak_same⟩, .inl ⟨4, _, rfl, weak_slim rfl⟩, .inl ⟨5, _, rfl, weak_slim rfl⟩, .inl ⟨6, _, rfl, weak_slim rfl⟩, trivial⟩
       ·
        intro y75 ρ'
        rcases r73 with s76 | t171
        rotate_left
        · exact s_absurd 0 rfl
        refine s_seq ?_
        obtain ⟨r172, e173, hF⟩ := bind_some hF
        obtain ⟨r175, e176, hF⟩ := bind_some hF
        obtain ⟨r178, e179, hF⟩ := bind_some hF
        refine s_draw Try.mixed [⟨true, 141, [], Unit, fun _ => .agg ([Hd.val y8]).toArray, fun _ => [], [], [], []⟩, ⟨true, 142, [0], Hd, fun (y174 : Hd) => .agg ([Hd.val y174]).toArray, fun y174 => [.rep (tA 16 .u8) [11] r172 y174], [], [], []⟩, ⟨true, 143, [], Unit, fun _ => .agg ([Hd.val y75.1]).toArray, fun _ => [], [], [], []⟩, ⟨true, 144, [2], Hd, fun (y177 : Hd) => .agg ([Hd.val y177]).toArray, fun y177 => [.rep (tA 16 .u8) [39] r175 y177], [], [], []⟩, ⟨true, 145, [1, 3], Unit, fun (y180 : Unit) => .tuple #[.int .i64 (r178.1), .int .i64 (r178.2.1), .int .i64 (r178.2.2)], fun _ => [], [], [], []⟩, ⟨true, 140, [4], Unit, fun _ => .tuple #[.int .i64 (r178.1), .int .i64 (r178.2.1), .int .i64 (r178.2.2)], fun _ => [], [], [], []⟩, ⟨true, 146, [5], Unit, fun _ => .int .i64 (r178.1), fun _ => [], [], [], []⟩, ⟨true, 147, [5], Unit, fun _ => .int .i64 (r178.2.1), fun _ => [], [], [], []⟩, ⟨true, 148, [5], Unit, fun _ => .int .i64 (r178.2.2), fun _ => [], [], [], []⟩, ⟨true, 18, [6], Unit, fun _ => .int .i64 (r178.1), fun _ => [], [], [], []⟩, ⟨true, 19, [7], Unit, fun _ => .int .i64 (r178.2.1), fun _ => [], [], [], []⟩] [[], [0], [], [0, 1, 2], [0, 1, 2, 3], [0, 1, 2, 3, 4], [0, 1, 2, 3, 4, 5], [0, 1, 2, 3, 4, 5], [0, 1, 2, 3, 4, 5], [0, 1, 2, 3, 4, 5, 6], [0, 1, 2, 3, 4, 5, 6, 7, 9], [0, 1, 2, 3, 4, 5, 6, 7, 8, 9, 10]] rfl rfl rfl rfl rfl ⟨.inl rfl, .inl rfl, .inl rfl, .inl rfl, .inl rfl, .inl rfl, .inl rfl, .inl rfl, .inl rfl, .inl rfl, .inl rfl, trivial⟩ ?_ [8, 9, 10] rfl rfl (fun us => ?_)
        ·
         refine all_cons _ (base_nil rfl) (dst_some rfl rfl) rfl rfl rfl rfl (gd_none rfl rfl) (fun _ => ?_) ?_
         ·
          refine ob_nil rfl ?_
          exact PureOk.op (p_loadN_box (cs' := [Hd.val y8]) 1 rfl rfl Try.underlying25 rfl Try.ti25 rfl rfl rfl)
         refine all_cons _ (base_nil rfl) (dst_some rfl rfl) rfl rfl rfl rfl (gd_none rfl rfl) (fun _ => ?_) ?_
         ·
          refine ob_one rfl rfl (fun _ => ?_)
          refine ob_nil rfl ?_
          exact ok_call (N := 178) (Φ := fun y174 => [.rep (tA 16 .u8) [11] r172 y174]) (culpritlaw32_own_ok e173) rfl rfl rfl Try.func8 rfl Try.nm8 [11] ⟨.inl ⟨4, _, rfl, cov_own rfl⟩, trivial⟩ (fun _ => rfl) (fun _ => rfl) rfl
         refine all_cons _ (base_nil rfl) (dst_some rfl rfl) rfl rfl rfl rfl (gd_none rfl rfl) (fun _ => ?_) ?_
         ·
          refine ob_nil rfl ?_
          exact PureOk.op (p_loadN_box (cs' := [Hd.val y75.1]) 2 rfl rfl Try.underlying25 rfl Try.ti25 rfl rfl rfl)
         refine all_cons _ (base_nil rfl) (dst_some rfl rfl) rfl rfl rfl rfl (gd_none rfl rfl) (fun _ => ?_) ?_
         ·
          refine ob_one rfl rfl (fun _ => ?_)
          refine ob_nil rfl ?_
          exact ok_call (N := 190) (Φ := fun y177 => [.rep (tA 16 .u8) [39] r175 y177]) (culpritlaw32_own_ok e176) rfl rfl rfl Try.func8 rfl Try.nm8 [39] ⟨.inl ⟨5, _, rfl, cov_own rfl⟩, trivial⟩ (fun _ => rfl) (fun _ => rfl) rfl
         refine all_cons _ (base_nil rfl) (dst_some rfl rfl) rfl rfl rfl rfl (gd_none rfl rfl) (fun _ => ?_) ?_
         ·
          refine ob_one rfl rfl (fun y174 => ?_)
          refine ob_one rfl rfl (fun y177 => ?_)
          refine ob_nil rfl ?_
          exact ok_call (N := 202) (Φ := fun y180 => []) (dispute_Parts_ok e179) rfl rfl rfl Try.func11 rfl Try.nm11 [11, 39] ⟨.inl ⟨1, _, rfl, cov_rep rfl⟩, .inl ⟨0, _, rfl, cov_rep rfl⟩, trivial⟩ (fun _ => rfl) (fun _ => rfl) rfl
         refine all_cons _ (base_nil rfl) (dst_some rfl rfl) rfl rfl rfl rfl (gd_none rfl rfl) (fun _ => ?_) ?_
         ·
          refine ob_one rfl rfl (fun y180 => ?_)
          refine ob_nil rfl ?_
          exact PureOk.op (p_move (v := .tuple #[.int .i64 (r178.1), .int .i64 (r178.2.1), .int .i64 (r178.2.2)]) rfl rfl)
         refine all_cons _ (base_nil rfl) (dst_some rfl rfl) rfl rfl rfl rfl (gd_none rfl rfl) (fun _ => ?_) ?_
         ·
          refine ob_one rfl rfl (fun _ => ?_)
          refine ob_nil rfl ?_
          exact PureOk.op (p_extract (v := .int .i64 (r178.1)) rfl rfl rfl)
         refine all_cons _ (base_nil rfl) (dst_some rfl rfl) rfl rfl rfl rfl (gd_none rfl rfl) (fun _ => ?_) ?_
         ·
          refine ob_one rfl rfl (fun _ => ?_)
          refine ob_nil rfl ?_
          exact PureOk.op (p_extract (v := .int .i64 (r178.2.1)) rfl rfl rfl)
         refine all_cons _ (base_nil rfl) (dst_some rfl rfl) rfl rfl rfl rfl (gd_none rfl rfl) (fun _ => ?_) ?_
         ·
          refine ob_one rfl rfl (fun _ => ?_)
          refine ob_nil rfl ?_
          exact PureOk.op (p_extract (v := .int .i64 (r178.2.2)) rfl rfl rfl)
         refine all_cons _ (base_nil rfl) (dst_some rfl rfl) rfl rfl rfl rfl (gd_none rfl rfl) (fun _ => ?_) ?_
         ·
          refine ob_one rfl rfl (fun _ => ?_)
          refine ob_nil rfl ?_
          exact PureOk.op (p_assign (v := .int .i64 (r178.1)) rfl rfl)
         refine all_cons _ (base_nil rfl) (dst_some rfl rfl) rfl rfl rfl rfl (gd_none rfl rfl) (fun _ => ?_) ?_
         ·
          refine ob_one rfl rfl (fun _ => ?_)
          refine ob_nil rfl ?_
          exact PureOk.op (p_assign (v := .int .i64 (r178.2.1)) rfl rfl)
         exact all_nil
        ·
         refine fin_base _ (base_nil rfl) ?_
         refine fin_one rfl rfl (fun _ => ?_)
         refine fin_one rfl rfl (fun _ => ?_)
         refine fin_one rfl rfl (fun _ => ?_)
         refine fin_nil ?_
         refine s_pure (p_assign (v := .int .i64 (r178.2.2)) rfl rfl) rfl rfl rfl ?_
         refine s_nil ?_
         refine x_then ?_
         refine s_seq ?_
         obtain ⟨r192, e193, hF⟩ := bind_some hF
         obtain ⟨r195, e196, hF⟩ := bind_some hF
         obtain ⟨r198, e199, hF⟩ := bind_some hF
         obtain ⟨r201, e202, hF⟩ := bind_some hF
         refine s_draw Try.mixed [⟨true, 149, [], Unit, fun _ => .int .i64 (r178.2.2), fun _ => [], [], [], []⟩, ⟨true, 150, [0], Unit, fun _ => .bool (r178.2.2 == 0), fun _ => [], [], [], []⟩, ⟨true, 151, [1], Unit, fun _ => .bool (r178.2.2 == 0), fun _ => [], [], [], []⟩, ⟨(r178.2.2 == 0), 152, [], Unit, fun _ => .int .i64 (r178.1), fun _ => [], [], [], []⟩, ⟨(r178.2.2 == 0), 153, [], Unit, fun _ => .pointer (some ⟨z38.2, 0, none⟩), fun _ => [], [], [], []⟩, ⟨(r178.2.2 == 0), 154, [4], Unit, fun _ => .int .i64 (s76.2.2.1), fun _ => [], [], [], []⟩, ⟨(r178.2.2 == 0), 155, [3, 5], Unit, fun _ => .bool (r178.1 == s76.2.2.1), fun _ => [], [], [], []⟩, ⟨true, 156, [2, 6], Unit, fun _ => .bool (bif r178.2.2 == 0 then r178.1 == s76.2.2.1 else false), fun _ => [], [], [], []⟩, ⟨true, 157, [7], Unit, fun _ => .bool (bif r178.2.2 == 0 then r178.1 == s76.2.2.1 else false), fun _ => [], [], [], []⟩, ⟨(bif r178.2.2 == 0 then r178.1 == s76.2.2.1 else false), 158, [], Unit, fun _ => .int .i64 (r178.2.1), fun _ => [], [], [], []⟩, ⟨(bif r178.2.2 == 0 then r178.1 == s76.2.2.1 else false), 159, [], Unit, fun _ => .int .i64 (s76.1), fun _ => [], [], [], []⟩, ⟨(bif r178.2.2 == 0 then r178.1 == s76.2.2.1 else false), 160, [9, 10], Unit, fun _ => .bool (r178.2.1 == s76.1), fun _ => [], [], [], []⟩, ⟨true, 161, [8, 11], Unit, fun _ => .bool (bif bif r178.2.2 == 0 then r178.1 == s76.2.2.1 else false then r178.2.1 == s76.1 else false), fun _ => [], [], [], []⟩, ⟨true, 162, [12], Unit, fun _ => .bool (bif bif r178.2.2 == 0 then r178.1 == s76.2.2.1 else false then r178.2.1 == s76.1 else false), fun _ => [], [], [], []⟩, ⟨(bif bif r178.2.2 == 0 then r178.1 == s76.2.2.1 else false then r178.2.1 == s76.1 else false), 163, [], Unit, fun _ => .int .i64 (s76.1), fun _ => [], [], [], []⟩, ⟨(bif bif r178.2.2 == 0 then r178.1 == s76.2.2.1 else false then r178.2.1 == s76.1 else false), 164, [], Unit, fun _ => .int .i64 (if (r21.length : Int) > (r6.length : Int) then (r21.length : Int) else (r6.length : Int)), fun _ => [], [], [], []⟩, ⟨(bif bif r178.2.2 == 0 then r178.1 == s76.2.2.1 else false then r178.2.1 == s76.1 else false), 165, [15], Unit, fun (y194 : Unit) => .int .i64 (r192), fun _ => [], [], [], []⟩, ⟨(bif bif r178.2.2 == 0 then r178.1 == s76.2.2.1 else false then r178.2.1 == s76.1 else false), 166, [14, 16], Unit, fun _ => .bool (decide (s76.1 ≤ r192)), fun _ => [], [], [], []⟩, ⟨true, 167, [13, 17], Unit, fun _ => .bool (bif bif bif r178.2.2 == 0 then r178.1 == s76.2.2.1 else false then r178.2.1 == s76.1 else false then decide (s76.1 ≤ r192) else false), fun _ => [], [], [], []⟩, ⟨true, 168, [18], Unit, fun _ => .bool (bif bif bif r178.2.2 == 0 then r178.1 == s76.2.2.1 else false then r178.2.1 == s76.1 else false then decide (s76.1 ≤ r192) else false), fun _ => [], [], [], []⟩, ⟨(bif bif bif r178.2.2 == 0 then r178.1 == s76.2.2.1 else false then r178.2.1 == s76.1 else false then decide (s76.1 ≤ r192) else false), 169, [], Unit, fun _ => .pointer (some ⟨z38.2, 1, none⟩), fun _ => [], [], [], []⟩, ⟨(bif bif bif r178.2.2 == 0 then r178.1 == s76.2.2.1 else false then r178.2.1 == s76.1 else false then decide (s76.1 ≤ r192) else false), 170, [20], Unit, fun _ => .int .i64 (s76.2.2.2.1), fun _ => [], [], [], []⟩, ⟨(bif bif bif r178.2.2 == 0 then r178.1 == s76.2.2.1 else false then r178.2.1 == s76.1 else false then decide (s76.1 ≤ r192) else false), 171, [], Unit, fun _ => .pointer (some ⟨z38.2, 0, none⟩), fun _ => [], [], [], []⟩, ⟨(bif bif bif r178.2.2 == 0 then r178.1 == s76.2.2.1 else false then r178.2.1 == s76.1 else false then decide (s76.1 ≤ r192) else false), 172, [22], Unit, fun _ => .int .i64 (s76.2.2.1), fun _ => [], [], [], []⟩, ⟨(bif bif bif r178.2.2 == 0 then r178.1 == s76.2.2.1 else false then r178.2.1 == s76.1 else false then decide (s76.1 ≤ r192) else false), 173, [23], Unit, fun _ => .int .i64 (w64 (s76.2.2.1 + 1)), fun _ => [], [], [], []⟩, ⟨(bif bif bif r178.2.2 == 0 then r178.1 == s76.2.2.1 else false then r178.2.1 == s76.1 else false then decide (s76.1 ≤ r192) else false), 174, [21, 24], Unit, fun _ => .bool (s76.2.2.2.1 == (w64 (s76.2.2.1 + 1))), fun _ => [], [], [], []⟩, ⟨true, 175, [19, 25], Unit, fun _ => .bool (bif bif bif bif r178.2.2 == 0 then r178.1 == s76.2.2.1 else false then r178.2.1 == s76.1 else false then decide (s76.1 ≤ r192) else false then s76.2.2.2.1 == (w64 (s76.2.2.1 + 1)) else false), fun _ => [], [], [], []⟩, ⟨true, 176, [26], Unit, fun _ => .bool (bif bif bif bif r178.2.2 == 0 then r178.1 == s76.2.2.1 else false then r178.2.1 == s76.1 else false then decide (s76.1 ≤ r192) else false then s76.2.2.2.1 == (w64 (s76.2.2.1 + 1)) else false), fun _ => [], [], [], []⟩, ⟨(bif bif bif bif r178.2.2 == 0 then r178.1 == s76.2.2.1 else false then r178.2.1 == s76.1 else false then decide (s76.1 ≤ r192) else false then s76.2.2.2.1 == (w64 (s76.2.2.1 + 1)) else false), 177, [], Unit, fun _ => .agg ([.int .i64 (s76.2.2.1), .int .i64 (s76.2.2.2.1), Hd.val y75.2]).toArray, fun _ => [], [], [], []⟩, ⟨(bif bif bif bif r178.2.2 == 0 then r178.1 == s76.2.2.1 else false then r178.2.1 == s76.1 else false then decide (s76.1 ≤ r192) else false then s76.2.2.2.1 == (w64 (s76.2.2.1 + 1)) else false), 178, [28], Hd, fun (y197 : Hd) => .agg ([.int .i64 (r195.1), .int .i64 (r195.2.1), Hd.val y197]).toArray, fun y197 => [.rep (tI .i64) [79] r195.2.2 y197], [], [], []⟩, ⟨(bif bif bif bif r178.2.2 == 0 then r178.1 == s76.2.2.1 else false then r178.2.1 == s76.1 else false then decide (s76.1 ≤ r192) else false then s76.2.2.2.1 == (w64 (s76.2.2.1 + 1)) else false), 179, [], Unit, fun _ => .agg ([Hd.val y8]).toArray, fun _ => [], [], [], []⟩, ⟨(bif bif bif bif r178.2.2 == 0 then r178.1 == s76.2.2.1 else false then r178.2.1 == s76.1 else false then decide (s76.1 ≤ r192) else false then s76.2.2.2.1 == (w64 (s76.2.2.1 + 1)) else false), 180, [], Unit, fun _ => .agg ([Hd.val y75.1]).toArray, fun _ => [], [], [], []⟩, ⟨(bif bif bif bif r178.2.2 == 0 then r178.1 == s76.2.2.1 else false then r178.2.1 == s76.1 else false then decide (s76.1 ≤ r192) else false then s76.2.2.2.1 == (w64 (s76.2.2.1 + 1)) else false), 181, [29, 30, 31], Unit, fun (y200 : Unit) => .bool (r198), fun _ => [], [], [], []⟩, ⟨true, 182, [27, 32], Unit, fun _ => .bool (bif bif bif bif bif r178.2.2 == 0 then r178.1 == s76.2.2.1 else false then r178.2.1 == s76.1 else false then decide (s76.1 ≤ r192) else false then s76.2.2.2.1 == (w64 (s76.2.2.1 + 1)) else false then r198 else false), fun _ => [], [], [], []⟩, ⟨true, 183, [33], Unit, fun _ => .bool (bif bif bif bif bif r178.2.2 == 0 then r178.1 == s76.2.2.1 else false then r178.2.1 == s76.1 else false then decide (s76.1 ≤ r192) else false then s76.2.2.2.1 == (w64 (s76.2.2.1 + 1)) else false then r198 else false), fun _ => [], [], [], []⟩, ⟨(bif bif bif bif bif r178.2.2 == 0 then r178.1 == s76.2.2.1 else false then r178.2.1 == s76.1 else false then decide (s76.1 ≤ r192) else false then s76.2.2.2.1 == (w64 (s76.2.2.1 + 1)) else false then r198 else false), 184, [], Unit, fun (y203 : Unit) => .bool (r201), fun _ => [], [], [], []⟩, ⟨true, 185, [34, 35], Unit, fun _ => .bool (bif bif bif bif bif bif r178.2.2 == 0 then r178.1 == s76.2.2.1 else false then r178.2.1 == s76.1 else false then decide (s76.1 ≤ r192) else false then s76.2.2.2.1 == (w64 (s76.2.2.1 + 1)) else false then r198 else false then r201 else false), fun _ => [], [], [], []⟩] [[], [0], [0, 1], [0, 1, 2], [0, 1, 2], [0, 1, 2, 4], [0, 1, 2, 3, 4, 5], [0, 1, 2, 3, 4, 5, 6], [0, 1, 2, 3, 4, 5, 6, 7], [0, 1, 2, 3, 4, 5, 6, 7, 8], [0, 1, 2, 3, 4, 5, 6, 7, 8], [0, 1, 2, 3, 4, 5, 6, 7, 8, 9, 10], [0, 1, 2, 3, 4, 5, 6, 7, 8, 9, 10, 11], [0, 1, 2, 3, 4, 5, 6, 7, 8, 9, 10, 11, 12], [0, 1, 2, 3, 4, 5, 6, 7, 8, 9, 10, 11, 12, 13], [0, 1, 2, 3, 4, 5, 6, 7, 8, 9, 10, 11, 12, 13], [0, 1, 2, 3, 4, 5, 6, 7, 8, 9, 10, 11, 12, 13, 15], [0, 1, 2, 3, 4, 5, 6, 7, 8, 9, 10, 11, 12, 13, 14, 15, 16], [0, 1, 2, 3, 4, 5, 6, 7, 8, 9, 10, 11, 12, 13, 14, 15, 16, 17], [0, 1, 2, 3, 4, 5, 6, 7, 8, 9, 10, 11, 12, 13, 14, 15, 16, 17, 18], [0, 1, 2, 3, 4, 5, 6, 7, 8, 9, 10, 11, 12, 13, 14, 15, 16, 17, 18, 19], [0, 1, 2, 3, 4, 5, 6, 7, 8, 9, 10, 11, 12, 13, 14, 15, 16, 17, 18, 19, 20], [0, 1, 2, 3, 4, 5, 6, 7, 8, 9, 10, 11, 12, 13, 14, 15, 16, 17, 18, 19], [0, 1, 2, 3, 4, 5, 6, 7, 8, 9, 10, 11, 12, 13, 14, 15, 16, 17, 18, 19, 22], [0, 1, 2, 3, 4, 5, 6, 7, 8, 9, 10, 11, 12, 13, 14, 15, 16, 17, 18, 19, 22, 23], [0, 1, 2, 3, 4, 5, 6, 7, 8, 9, 10, 11, 12, 13, 14, 15, 16, 17, 18, 19, 20, 21, 22, 23, 24], [0, 1, 2, 3, 4, 5, 6, 7, 8, 9, 10, 11, 12, 13, 14, 15, 16, 17, 18, 19, 20, 21, 22, 23, 24, 25], [0, 1, 2, 3, 4, 5, 6, 7, 8, 9, 10, 11, 12, 13, 14, 15, 16, 17, 18, 19, 20, 21, 22, 23, 24, 25, 26], [0, 1, 2, 3, 4, 5, 6, 7, 8, 9, 10, 11, 12, 13, 14, 15, 16, 17, 18, 19, 20, 21, 22, 23, 24, 25, 26, 27], [0, 1, 2, 3, 4, 5, 6, 7, 8, 9, 10, 11, 12, 13, 14, 15, 16, 17, 18, 19, 20, 21, 22, 23, 24, 25, 26, 27, 28], [0, 1, 2, 3, 4, 5, 6, 7, 8, 9, 10, 11, 12, 13, 14, 15, 16, 17, 18, 19, 20, 21, 22, 23, 24, 25, 26, 27], [0, 1, 2, 3, 4, 5, 6, 7, 8, 9, 10, 11, 12, 13, 14, 15, 16, 17, 18, 19, 20, 21, 22, 23, 24, 25, 26, 27], [0, 1, 2, 3, 4, 5, 6, 7, 8, 9, 10, 11, 12, 13, 14, 15, 16, 17, 18, 19, 20, 21, 22, 23, 24, 25, 26, 27, 28, 29, 30, 31], [0, 1, 2, 3, 4, 5, 6, 7, 8, 9, 10, 11, 12, 13, 14, 15, 16, 17, 18, 19, 20, 21, 22, 23, 24, 25, 26, 27, 28, 29, 30, 31, 32], [0, 1, 2, 3, 4, 5, 6, 7, 8, 9, 10, 11, 12, 13, 14, 15, 16, 17, 18, 19, 20, 21, 22, 23, 24, 25, 26, 27, 28, 29, 30, 31, 32, 33], [0, 1, 2, 3, 4, 5, 6, 7, 8, 9, 10, 11, 12, 13, 14, 15, 16, 17, 18, 19, 20, 21, 22, 23, 24, 25, 26, 27, 28, 29, 30, 31, 32, 33, 34], [0, 1, 2, 3, 4, 5, 6, 7, 8, 9, 10, 11, 12, 13, 14, 15, 16, 17, 18, 19, 20, 21, 22, 23, 24, 25, 26, 27, 28, 29, 30, 31, 32, 33, 34, 35], [0, 1, 2, 3, 4, 5, 6, 7, 8, 9, 10, 11, 12, 13, 14, 15, 16, 17, 18, 19, 20, 21, 22, 23, 24, 25, 26, 27, 28, 29, 30, 31, 32, 33, 34, 35, 36]] rfl rfl rfl rfl rfl ⟨.inl rfl, .inl rfl, .inl rfl, .inl rfl, .inl rfl, .inl rfl, .inl rfl, .inl rfl, .inl rfl, .inl rfl, .inl rfl, .inl rfl, .inl rfl, .inl rfl, .inl rfl, .inl rfl, .inl rfl, .inl rfl, .inl rfl, .inl rfl, .inl rfl, .inl rfl, .inl rfl, .inl rfl, .inl rfl, .inl rfl, .inl rfl, .inl rfl, .inl rfl, .inl rfl, .inl rfl, .inl rfl, .inl rfl, .inl rfl, .inl rfl, .inl rfl, .inl rfl, trivial⟩ ?_ [36] rfl rfl (fun us => ?_)
         ·
          refine all_cons _ (base_nil rfl) (dst_some rfl rfl) rfl rfl rfl rfl (gd_none rfl rfl) (fun _ => ?_) ?_
          ·
           refine ob_nil rfl ?_
           exact PureOk.op (p_move (v := .int .i64 (r178.2.2)) rfl rfl)
          refine all_cons _ (base_nil rfl) (dst_some rfl rfl) rfl rfl rfl rfl (gd_none rfl rfl) (fun _ => ?_) ?_
          ·
           refine ob_one rfl rfl (fun _ => ?_)
           refine ob_nil rfl ?_
           exact PureOk.op (p_eql rfl rfl rfl)
          refine all_cons _ (base_nil rfl) (dst_some rfl rfl) rfl rfl rfl rfl (gd_none rfl rfl) (fun _ => ?_) ?_
          ·
           refine ob_one rfl rfl (fun _ => ?_)
           refine ob_nil rfl ?_
           exact PureOk.op (p_move (v := .bool (r178.2.2 == 0)) rfl rfl)
          refine all_cons _ (base_nil rfl) (dst_some rfl rfl) rfl rfl rfl rfl (gd_some (e := ⟨true, 151, [1], Unit, fun _ => .bool (r178.2.2 == 0), fun _ => [], [], [], []⟩) (r178.2.2 == 0) rfl rfl rfl rfl (fun _ => rfl) (gd_t _)) (fun hx207 => ?_) ?_
          ·
           replace hx207 : ((r178.2.2 == 0)) = true := hx207
           refine ob_nil rfl ?_
           exact PureOk.op (p_move (v := .int .i64 (r178.1)) rfl rfl)
          refine all_cons _ (base_nil rfl) (dst_some rfl rfl) rfl rfl rfl rfl (gd_some (e := ⟨true, 151, [1], Unit, fun _ => .bool (r178.2.2 == 0), fun _ => [], [], [], []⟩) (r178.2.2 == 0) rfl rfl rfl rfl (fun _ => rfl) (gd_t _)) (fun hx208 => ?_) ?_
          ·
           replace hx208 : ((r178.2.2 == 0)) = true := hx208
           refine ob_nil rfl ?_
           exact PureOk.op (p_fieldAddr (fo := 0) rfl Try.underlying33 rfl Try.ti3 rfl rfl rfl)
          refine all_cons _ (base_nil rfl) (dst_some rfl rfl) rfl rfl rfl rfl (gd_some (e := ⟨true, 151, [1], Unit, fun _ => .bool (r178.2.2 == 0), fun _ => [], [], [], []⟩) (r178.2.2 == 0) rfl rfl rfl rfl (fun _ => rfl) (gd_t _)) (fun hx209 => ?_) ?_
          ·
           replace hx209 : ((r178.2.2 == 0)) = true := hx209
           refine ob_two rfl (fun _ _ => ?_) (fun hn => clash hx209 hn)
           refine ob_nil rfl ?_
           exact PureOk.op (p_load_box (v := .int .i64 (s76.2.2.1)) 3 rfl rfl Try.underlying3 rfl rfl rfl)
          refine all_cons _ (base_nil rfl) (dst_some rfl rfl) rfl rfl rfl rfl (gd_some (e := ⟨true, 151, [1], Unit, fun _ => .bool (r178.2.2 == 0), fun _ => [], [], [], []⟩) (r178.2.2 == 0) rfl rfl rfl rfl (fun _ => rfl) (gd_t _)) (fun hx210 => ?_) ?_
          ·
           replace hx210 : ((r178.2.2 == 0)) = true := hx210
           refine ob_two rfl (fun _ _ => ?_) (fun hn => clash hx210 hn)
           refine ob_two rfl (fun _ _ => ?_) (fun hn => clash hx210 hn)
           refine ob_nil rfl ?_
           exact PureOk.op (p_eql rfl rfl rfl)
          refine all_cons _ (base_nil rfl) (dst_some rfl rfl) rfl rfl rfl rfl (gd_none rfl rfl) (fun _ => ?_) ?_
          ·
           refine ob_one rfl rfl (fun _ => ?_)
           refine ob_two rfl (fun hq212 _ => ?_) (fun hq212 => ?_)
           rotate_left
           ·
            replace hq212 : ((r178.2.2 == 0)) = false := hq212
            refine ob_nil rfl ?_
            exact PureOk.op (p_pick (b := r178.2.2 == 0) (p := r178.1 == s76.2.2.1) (q := false) rfl rfl (fun hb => by first | (rw [hb] at hq212; cases hq212; done) | exact absurd hq212 (by rw [hb]; simp) | (simp_all; done)) (fun _ => rfl))
           refine ob_nil rfl ?_
           exact PureOk.op (p_pick (b := r178.2.2 == 0) (p := r178.1 == s76.2.2.1) (q := false) rfl rfl (fun _ => rfl) (fun _ => rfl))
          refine all_cons _ (base_nil rfl) (dst_some rfl rfl) rfl rfl rfl rfl (gd_none rfl rfl) (fun _ => ?_) ?_
          ·
           refine ob_one rfl rfl (fun _ => ?_)
           refine ob_nil rfl ?_
           exact PureOk.op (p_move (v := .bool (bif r178.2.2 == 0 then r178.1 == s76.2.2.1 else false)) rfl rfl)
          refine all_cons _ (base_nil rfl) (dst_some rfl rfl) rfl rfl rfl rfl (gd_some (e := ⟨true, 157, [7], Unit, fun _ => .bool (bif r178.2.2 == 0 then r178.1 == s76.2.2.1 else false), fun _ => [], [], [], []⟩) (bif r178.2.2 == 0 then r178.1 == s76.2.2.1 else false) rfl rfl rfl rfl (fun _ => rfl) (gd_t _)) (fun hx214 => ?_) ?_
          ·
           replace hx214 : ((bif r178.2.2 == 0 then r178.1 == s76.2.2.1 else false)) = true := hx214
           refine ob_nil rfl ?_
           exact PureOk.op (p_move (v := .int .i64 (r178.2.1)) rfl rfl)
          refine all_cons _ (base_nil rfl) (dst_some rfl rfl) rfl rfl rfl rfl (gd_some (e := ⟨true, 157, [7], Unit, fun _ => .bool (bif r178.2.2 == 0 then r178.1 == s76.2.2.1 else false), fun _ => [], [], [], []⟩) (bif r178.2.2 == 0 then r178.1 == s76.2.2.1 else false) rfl rfl rfl rfl (fun _ => rfl) (gd_t _)) (fun hx215 => ?_) ?_
          ·
           replace hx215 : ((bif r178.2.2 == 0 then r178.1 == s76.2.2.1 else false)) = true := hx215
           refine ob_nil rfl ?_
           exact PureOk.op (p_move (v := .int .i64 (s76.1)) rfl rfl)
          refine all_cons _ (base_nil rfl) (dst_some rfl rfl) rfl rfl rfl rfl (gd_some (e := ⟨true, 157, [7], Unit, fun _ => .bool (bif r178.2.2 == 0 then r178.1 == s76.2.2.1 else false), fun _ => [], [], [], []⟩) (bif r178.2.2 == 0 then r178.1 == s76.2.2.1 else false) rfl rfl rfl rfl (fun _ => rfl) (gd_t _)) (fun hx216 => ?_) ?_
          ·
           replace hx216 : ((bif r178.2.2 == 0 then r178.1 == s76.2.2.1 else false)) = true := hx216
           refine ob_two rfl (fun _ _ => ?_) (fun hn => clash hx216 hn)
           refine ob_two rfl (fun _ _ => ?_) (fun hn => clash hx216 hn)
           refine ob_nil rfl ?_
           exact PureOk.op (p_eql rfl rfl rfl)
          refine all_cons _ (base_nil rfl) (dst_some rfl rfl) rfl rfl rfl rfl (gd_none rfl rfl) (fun _ => ?_) ?_
          ·
           refine ob_one rfl rfl (fun _ => ?_)
           refine ob_two rfl (fun hq218 _ => ?_) (fun hq218 => ?_)
           rotate_left
           ·
            replace hq218 : ((bif r178.2.2 == 0 then r178.1 == s76.2.2.1 else false)) = false := hq218
            refine ob_nil rfl ?_
            exact PureOk.op (p_pick (b := bif r178.2.2 == 0 then r178.1 == s76.2.2.1 else false) (p := r178.2.1 == s76.1) (q := false) rfl rfl (fun hb => by first | (rw [hb] at hq218; cases hq218; done) | exact absurd hq218 (by rw [hb]; simp) | (simp_all; done)) (fun _ => rfl))
           refine ob_nil rfl ?_
           exact PureOk.op (p_pick (b := bif r178.2.2 == 0 then r178.1 == s76.2.2.1 else false) (p := r178.2.1 == s76.1) (q := false) rfl rfl (fun _ => rfl) (fun _ => rfl))
          refine all_cons _ (base_nil rfl) (dst_some rfl rfl) rfl rfl rfl rfl (gd_none rfl rfl) (fun _ => ?_) ?_
          ·
           refine ob_one rfl rfl (fun _ => ?_)
           refine ob_nil rfl ?_
           exact PureOk.op (p_move (v := .bool (bif bif r178.2.2 == 0 then r178.1 == s76.2.2.1 else false then r178.2.1 == s76.1 else false)) rfl rfl)
          refine all_cons _ (base_nil rfl) (dst_some rfl rfl) rfl rfl rfl rfl (gd_some (e := ⟨true, 162, [12], Unit, fun _ => .bool (bif bif r178.2.2 == 0 then r178.1 == s76.2.2.1 else false then r178.2.1 == s76.1 else false), fun _ => [], [], [], []⟩) (bif bif r178.2.2 == 0 then r178.1 == s76.2.2.1 else false then r178.2.1 == s76.1 else false) rfl rfl rfl rfl (fun _ => rfl) (gd_t _)) (fun hx220 => ?_) ?_
          ·
           replace hx220 : ((bif bif r178.2.2 == 0 then r178.1 == s76.2.2.1 else false then r178.2.1 == s76.1 else false)) = true := hx220
           refine ob_nil rfl ?_
           exact PureOk.op (p_move (v := .int .i64 (s76.1)) rfl rfl)
          refine all_cons _ (base_nil rfl) (dst_some rfl rfl) rfl rfl rfl rfl (gd_some (e := ⟨true, 162, [12], Unit, fun _ => .bool (bif bif r178.2.2 == 0 then r178.1 == s76.2.2.1 else false then r178.2.1 == s76.1 else false), fun _ => [], [], [], []⟩) (bif bif r178.2.2 == 0 then r178.1 == s76.2.2.1 else false then r178.2.1 == s76.1 else false) rfl rfl rfl rfl (fun _ => rfl) (gd_t _)) (fun hx221 => ?_) ?_
          ·
           replace hx221 : ((bif bif r178.2.2 == 0 then r178.1 == s76.2.2.1 else false then r178.2.1 == s76.1 else false)) = true := hx221
           refine ob_nil rfl ?_
           exact PureOk.op (p_move (v := .int .i64 (if (r21.length : Int) > (r6.length : Int) then (r21.length : Int) else (r6.length : Int))) rfl rfl)
          refine all_cons _ (base_nil rfl) (dst_some rfl rfl) rfl rfl rfl rfl (gd_some (e := ⟨true, 162, [12], Unit, fun _ => .bool (bif bif r178.2.2 == 0 then r178.1 == s76.2.2.1 else false then r178.2.1 == s76.1 else false), fun _ => [], [], [], []⟩) (bif bif r178.2.2 == 0 then r178.1 == s76.2.2.1 else false then r178.2.1 == s76.1 else false) rfl rfl rfl rfl (fun _ => rfl) (gd_t _)) (fun hx222 => ?_) ?_
          ·
           replace hx222 : ((bif bif r178.2.2 == 0 then r178.1 == s76.2.2.1 else false then r178.2.1 == s76.1 else false)) = true := hx222
           replace e193 := cond_t hx222 e193
           refine ob_two rfl (fun _ _ => ?_) (fun hn => clash hx222 hn)
           refine ob_nil rfl ?_
           exact ok_call (N := 214) (Φ := fun y194 => []) (dispute_Most_ok e193) rfl rfl rfl Try.func17 rfl Try.nm17 [] trivial (fun _ => rfl) (fun _ => rfl) rfl
          refine all_cons _ (base_nil rfl) (dst_some rfl rfl) rfl rfl rfl rfl (gd_some (e := ⟨true, 162, [12], Unit, fun _ => .bool (bif bif r178.2.2 == 0 then r178.1 == s76.2.2.1 else false then r178.2.1 == s76.1 else false), fun _ => [], [], [], []⟩) (bif bif r178.2.2 == 0 then r178.1 == s76.2.2.1 else false then r178.2.1 == s76.1 else false) rfl rfl rfl rfl (fun _ => rfl) (gd_t _)) (fun hx223 => ?_) ?_
          ·
           replace hx223 : ((bif bif r178.2.2 == 0 then r178.1 == s76.2.2.1 else false then r178.2.1 == s76.1 else false)) = true := hx223
           replace e193 := cond_t hx223 e193
           refine ob_two rfl (fun _ _ => ?_) (fun hn => clash hx223 hn)
           refine ob_two rfl (fun _ y194 => ?_) (fun hn => clash hx223 hn)
           refine ob_nil rfl ?_
           exact PureOk.op (p_leq rfl rfl rfl)
          refine all_cons _ (base_nil rfl) (dst_some rfl rfl) rfl rfl rfl rfl (gd_none rfl rfl) (fun _ => ?_) ?_
          ·
           refine ob_one rfl rfl (fun _ => ?_)
           refine ob_two rfl (fun hq225 _ => ?_) (fun hq225 => ?_)
           rotate_left
           ·
            replace hq225 : ((bif bif r178.2.2 == 0 then r178.1 == s76.2.2.1 else false then r178.2.1 == s76.1 else false)) = false := hq225
            refine ob_nil rfl ?_
            exact PureOk.op (p_pick (b := bif bif r178.2.2 == 0 then r178.1 == s76.2.2.1 else false then r178.2.1 == s76.1 else false) (p := decide (s76.1 ≤ r192)) (q := false) rfl rfl (fun hb => by first | (rw [hb] at hq225; cases hq225; done) | exact absurd hq225 (by rw [hb]; simp) | (simp_all; done)) (fun _ => rfl))
           refine ob_nil rfl ?_
           exact PureOk.op (p_pick (b := bif bif r178.2.2 == 0 then r178.1 == s76.2.2.1 else false then r178.2.1 == s76.1 else false) (p := decide (s76.1 ≤ r192)) (q := false) rfl rfl (fun _ => rfl) (fun _ => rfl))
          refine all_cons _ (base_nil rfl) (dst_some rfl rfl) rfl rfl rfl rfl (gd_none rfl rfl) (fun _ => ?_) ?_
          ·
           refine ob_one rfl rfl (fun _ => ?_)
           refine ob_nil rfl ?_
           exact PureOk.op (p_move (v := .bool (bif bif bif r178.2.2 == 0 then r178.1 == s76.2.2.1 else false then r178.2.1 == s76.1 else false then decide (s76.1 ≤ r192) else false)) rfl rfl)
          refine all_cons _ (base_nil rfl) (dst_some rfl rfl) rfl rfl rfl rfl (gd_some (e := ⟨true, 168, [18], Unit, fun _ => .bool (bif bif bif r178.2.2 == 0 then r178.1 == s76.2.2.1 else false then r178.2.1 == s76.1 else false then decide (s76.1 ≤ r192) else false), fun _ => [], [], [], []⟩) (bif bif bif r178.2.2 == 0 then r178.1 == s76.2.2.1 else false then r178.2.1 == s76.1 else false then decide (s76.1 ≤ r192) else false) rfl rfl rfl rfl (fun _ => rfl) (gd_t _)) (fun hx227 => ?_) ?_
          ·
           replace hx227 : ((bif bif bif r178.2.2 == 0 then r178.1 == s76.2.2.1 else false then r178.2.1 == s76.1 else false then decide (s76.1 ≤ r192) else false)) = true := hx227
           refine ob_nil rfl ?_
           exact PureOk.op (p_fieldAddr (fo := 1) rfl Try.underlying33 rfl Try.ti3 rfl rfl rfl)
          refine all_cons _ (base_nil rfl) (dst_some rfl rfl) rfl rfl rfl rfl (gd_some (e := ⟨true, 168, [18], Unit, fun _ => .bool (bif bif bif r178.2.2 == 0 then r178.1 == s76.2.2.1 else false then r178.2.1 == s76.1 else false then decide (s76.1 ≤ r192) else false), fun _ => [], [], [], []⟩) (bif bif bif r178.2.2 == 0 then r178.1 == s76.2.2.1 else false then r178.2.1 == s76.1 else false then decide (s76.1 ≤ r192) else false) rfl rfl rfl rfl (fun _ => rfl) (gd_t _)) (fun hx228 => ?_) ?_
          ·
           replace hx228 : ((bif bif bif r178.2.2 == 0 then r178.1 == s76.2.2.1 else false then r178.2.1 == s76.1 else false then decide (s76.1 ≤ r192) else false)) = true := hx228
           refine ob_two rfl (fun _ _ => ?_) (fun hn => clash hx228 hn)
           refine ob_nil rfl ?_
           exact PureOk.op (p_load_box (v := .int .i64 (s76.2.2.2.1)) 3 rfl rfl Try.underlying3 rfl rfl rfl)
          refine all_cons _ (base_nil rfl) (dst_some rfl rfl) rfl rfl rfl rfl (gd_some (e := ⟨true, 168, [18], Unit, fun _ => .bool (bif bif bif r178.2.2 == 0 then r178.1 == s76.2.2.1 else false then r178.2.1 == s76.1 else false then decide (s76.1 ≤ r192) else false), fun _ => [], [], [], []⟩) (bif bif bif r178.2.2 == 0 then r178.1 == s76.2.2.1 else false then r178.2.1 == s76.1 else false then decide (s76.1 ≤ r192) else false) rfl rfl rfl rfl (fun _ => rfl) (gd_t _)) (fun hx229 => ?_) ?_
          ·
           replace hx229 : ((bif bif bif r178.2.2 == 0 then r178.1 == s76.2.2.1 else false then r178.2.1 == s76.1 else false then decide (s76.1 ≤ r192) else false)) = true := hx229
           refine ob_nil rfl ?_
           exact PureOk.op (p_fieldAddr (fo := 0) rfl Try.underlying33 rfl Try.ti3 rfl rfl rfl)
          refine all_cons _ (base_nil rfl) (dst_some rfl rfl) rfl rfl rfl rfl (gd_some (e := ⟨true, 168, [18], Unit, fun _ => .bool (bif bif bif r178.2.2 == 0 then r178.1 == s76.2.2.1 else false then r178.2.1 == s76.1 else false then decide (s76.1 ≤ r192) else false), fun _ => [], [], [], []⟩) (bif bif bif r178.2.2 == 0 then r178.1 == s76.2.2.1 else false then r178.2.1 == s76.1 else false then decide (s76.1 ≤ r192) else false) rfl rfl rfl rfl (fun _ => rfl) (gd_t _)) (fun hx230 => ?_) ?_
          ·
           replace hx230 : ((bif bif bif r178.2.2 == 0 then r178.1 == s76.2.2.1 else false then r178.2.1 == s76.1 else false then decide (s76.1 ≤ r192) else false)) = true := hx230
           refine ob_two rfl (fun _ _ => ?_) (fun hn => clash hx230 hn)
           refine ob_nil rfl ?_
           exact PureOk.op (p_load_box (v := .int .i64 (s76.2.2.1)) 3 rfl rfl Try.underlying3 rfl rfl rfl)
          refine all_cons _ (base_nil rfl) (dst_some rfl rfl) rfl rfl rfl rfl (gd_some (e := ⟨true, 168, [18], Unit, fun _ => .bool (bif bif bif r178.2.2 == 0 then r178.1 == s76.2.2.1 else false then r178.2.1 == s76.1 else false then decide (s76.1 ≤ r192) else false), fun _ => [], [], [], []⟩) (bif bif bif r178.2.2 == 0 then r178.1 == s76.2.2.1 else false then r178.2.1 == s76.1 else false then decide (s76.1 ≤ r192) else false) rfl rfl rfl rfl (fun _ => rfl) (gd_t _)) (fun hx231 => ?_) ?_
          ·
           replace hx231 : ((bif bif bif r178.2.2 == 0 then r178.1 == s76.2.2.1 else false then r178.2.1 == s76.1 else false then decide (s76.1 ≤ r192) else false)) = true := hx231
           refine ob_two rfl (fun _ _ => ?_) (fun hn => clash hx231 hn)
           refine ob_nil rfl ?_
           exact PureOk.op (p_add rfl rfl rfl)
          refine all_cons _ (base_nil rfl) (dst_some rfl rfl) rfl rfl rfl rfl (gd_some (e := ⟨true, 168, [18], Unit, fun _ => .bool (bif bif bif r178.2.2 == 0 then r178.1 == s76.2.2.1 else false then r178.2.1 == s76.1 else false then decide (s76.1 ≤ r192) else false), fun _ => [], [], [], []⟩) (bif bif bif r178.2.2 == 0 then r178.1 == s76.2.2.1 else false then r178.2.1 == s76.1 else false then decide (s76.1 ≤ r192) else false) rfl rfl rfl rfl (fun _ => rfl) (gd_t _)) (fun hx232 => ?_) ?_
          ·
           replace hx232 : ((bif bif bif r178.2.2 == 0 then r178.1 == s76.2.2.1 else false then r178.2.1 == s76.1 else false then decide (s76.1 ≤ r192) else false)) = true := hx232
           refine ob_two rfl (fun _ _ => ?_) (fun hn => clash hx232 hn)
           refine ob_two rfl (fun _ _ => ?_) (fun hn => clash hx232 hn)
           refine ob_nil rfl ?_
           exact PureOk.op (p_eql rfl rfl rfl)
          refine all_cons _ (base_nil rfl) (dst_some rfl rfl) rfl rfl rfl rfl (gd_none rfl rfl) (fun _ => ?_) ?_
          ·
           refine ob_one rfl rfl (fun _ => ?_)
           refine ob_two rfl (fun hq234 _ => ?_) (fun hq234 => ?_)
           rotate_left
           ·
            replace hq234 : ((bif bif bif r178.2.2 == 0 then r178.1 == s76.2.2.1 else false then r178.2.1 == s76.1 else false then decide (s76.1 ≤ r192) else false)) = false := hq234
            refine ob_nil rfl ?_
            exact PureOk.op (p_pick (b := bif bif bif r178.2.2 == 0 then r178.1 == s76.2.2.1 else false then r178.2.1 == s76.1 else false then decide (s76.1 ≤ r192) else false) (p := s76.2.2.2.1 == (w64 (s76.2.2.1 + 1))) (q := false) rfl rfl (fun hb => by first | (rw [hb] at hq234; cases hq234; done) | exact absurd hq234 (by rw [hb]; simp) | (simp_all; done)) (fun _ => rfl))
           refine ob_nil rfl ?_
           exact PureOk.op (p_pick (b := bif bif bif r178.2.2 == 0 then r178.1 == s76.2.2.1 else false then r178.2.1 == s76.1 else false then decide (s76.1 ≤ r192) else false) (p := s76.2.2.2.1 == (w64 (s76.2.2.1 + 1))) (q := false) rfl rfl (fun _ => rfl) (fun _ => rfl))
          refine all_cons _ (base_nil rfl) (dst_some rfl rfl) rfl rfl rfl rfl (gd_none rfl rfl) (fun _ => ?_) ?_
          ·
           refine ob_one rfl rfl (fun _ => ?_)
           refine ob_nil rfl ?_
           exact PureOk.op (p_move (v := .bool (bif bif bif bif r178.2.2 == 0 then r178.1 == s76.2.2.1 else false then r178.2.1 == s76.1 else false then decide (s76.1 ≤ r192) else false then s76.2.2.2.1 == (w64 (s76.2.2.1 + 1)) else false)) rfl rfl)
          refine all_cons _ (base_nil rfl) (dst_some rfl rfl) rfl rfl rfl rfl (gd_some (e := ⟨true, 176, [26], Unit, fun _ => .bool (bif bif bif bif r178.2.2 == 0 then r178.1 == s76.2.2.1 else false then r178.2.1 == s76.1 else false then decide (s76.1 ≤ r192) else false then s76.2.2.2.1 == (w64 (s76.2.2.1 + 1)) else false), fun _ => [], [], [], []⟩) (bif bif bif bif r178.2.2 == 0 then r178.1 == s76.2.2.1 else false then r178.2.1 == s76.1 else false then decide (s76.1 ≤ r192) else false then s76.2.2.2.1 == (w64 (s76.2.2.1 + 1)) else false) rfl rfl rfl rfl (fun _ => rfl) (gd_t _)) (fun hx236 => ?_) ?_
          ·
           replace hx236 : ((bif bif bif bif r178.2.2 == 0 then r178.1 == s76.2.2.1 else false then r178.2.1 == s76.1 else false then decide (s76.1 ≤ r192) else false then s76.2.2.2.1 == (w64 (s76.2.2.1 + 1)) else false)) = true := hx236
           refine ob_nil rfl ?_
           exact PureOk.op (p_loadN_box (cs' := [.int .i64 (s76.2.2.1), .int .i64 (s76.2.2.2.1), Hd.val y75.2]) 3 rfl rfl Try.underlying33 rfl Try.ti33 rfl rfl rfl)
          refine all_cons _ (base_nil rfl) (dst_some rfl rfl) rfl rfl rfl rfl (gd_some (e := ⟨true, 176, [26], Unit, fun _ => .bool (bif bif bif bif r178.2.2 == 0 then r178.1 == s76.2.2.1 else false then r178.2.1 == s76.1 else false then decide (s76.1 ≤ r192) else false then s76.2.2.2.1 == (w64 (s76.2.2.1 + 1)) else false), fun _ => [], [], [], []⟩) (bif bif bif bif r178.2.2 == 0 then r178.1 == s76.2.2.1 else false then r178.2.1 == s76.1 else false then decide (s76.1 ≤ r192) else false then s76.2.2.2.1 == (w64 (s76.2.2.1 + 1)) else false) rfl rfl rfl rfl (fun _ => rfl) (gd_t _)) (fun hx237 => ?_) ?_
          ·
           replace hx237 : ((bif bif bif bif r178.2.2 == 0 then r178.1 == s76.2.2.1 else false then r178.2.1 == s76.1 else false then decide (s76.1 ≤ r192) else false then s76.2.2.2.1 == (w64 (s76.2.2.1 + 1)) else false)) = true := hx237
           replace e196 := cond_t hx237 e196
           refine ob_two rfl (fun _ _ => ?_) (fun hn => clash hx237 hn)
           refine ob_nil rfl ?_
           exact ok_call (N := 226) (Φ := fun y197 => [.rep (tI .i64) [79] r195.2.2 y197]) (culpritlaw32_game_ok e196) rfl rfl rfl Try.func14 rfl Try.nm14 [79] ⟨.inl ⟨6, _, rfl, cov_own rfl⟩, trivial⟩ (fun _ => rfl) (fun _ => rfl) rfl
          refine all_cons _ (base_nil rfl) (dst_some rfl rfl) rfl rfl rfl rfl (gd_some (e := ⟨true, 176, [26], Unit, fun _ => .bool (bif bif bif bif r178.2.2 == 0 then r178.1 == s76.2.2.1 else false then r178.2.1 == s76.1 else false then decide (s76.1 ≤ r192) else false then s76.2.2.2.1 == (w64 (s76.2.2.1 + 1)) else false), fun _ => [], [], [], []⟩) (bif bif bif bif r178.2.2 == 0 then r178.1 == s76.2.2.1 else false then r178.2.1 == s76.1 else false then decide (s76.1 ≤ r192) else false then s76.2.2.2.1 == (w64 (s76.2.2.1 + 1)) else false) rfl rfl rfl rfl (fun _ => rfl) (gd_t _)) (fun hx238 => ?_) ?_
          ·
           replace hx238 : ((bif bif bif bif r178.2.2 == 0 then r178.1 == s76.2.2.1 else false then r178.2.1 == s76.1 else false then decide (s76.1 ≤ r192) else false then s76.2.2.2.1 == (w64 (s76.2.2.1 + 1)) else false)) = true := hx238
           replace e196 := cond_t hx238 e196
           refine ob_nil rfl ?_
           exact PureOk.op (p_loadN_box (cs' := [Hd.val y8]) 1 rfl rfl Try.underlying25 rfl Try.ti25 rfl rfl rfl)
          refine all_cons _ (base_nil rfl) (dst_some rfl rfl) rfl rfl rfl rfl (gd_some (e := ⟨true, 176, [26], Unit, fun _ => .bool (bif bif bif bif r178.2.2 == 0 then r178.1 == s76.2.2.1 else false then r178.2.1 == s76.1 else false then decide (s76.1 ≤ r192) else false then s76.2.2.2.1 == (w64 (s76.2.2.1 + 1)) else false), fun _ => [], [], [], []⟩) (bif bif bif bif r178.2.2 == 0 then r178.1 == s76.2.2.1 else false then r178.2.1 == s76.1 else false then decide (s76.1 ≤ r192) else false then s76.2.2.2.1 == (w64 (s76.2.2.1 + 1)) else false) rfl rfl rfl rfl (fun _ => rfl) (gd_t _)) (fun hx239 => ?_) ?_
          ·
           replace hx239 : ((bif bif bif bif r178.2.2 == 0 then r178.1 == s76.2.2.1 else false then r178.2.1 == s76.1 else false then decide (s76.1 ≤ r192) else false then s76.2.2.2.1 == (w64 (s76.2.2.1 + 1)) else false)) = true := hx239
           replace e196 := cond_t hx239 e196
           refine ob_nil rfl ?_
           exact PureOk.op (p_loadN_box (cs' := [Hd.val y75.1]) 2 rfl rfl Try.underlying25 rfl Try.ti25 rfl rfl rfl)
          refine all_cons _ (base_nil rfl) (dst_some rfl rfl) rfl rfl rfl rfl (gd_some (e := ⟨true, 176, [26], Unit, fun _ => .bool (bif bif bif bif r178.2.2 == 0 then r178.1 == s76.2.2.1 else false then r178.2.1 == s76.1 else false then decide (s76.1 ≤ r192) else false then s76.2.2.2.1 == (w64 (s76.2.2.1 + 1)) else false), fun _ => [], [], [], []⟩) (bif bif bif bif r178.2.2 == 0 then r178.1 == s76.2.2.1 else false then r178.2.1 == s76.1 else false then decide (s76.1 ≤ r192) else false then s76.2.2.2.1 == (w64 (s76.2.2.1 + 1)) else false) rfl rfl rfl rfl (fun _ => rfl) (gd_t _)) (fun hx240 => ?_) ?_
          ·
           replace hx240 : ((bif bif bif bif r178.2.2 == 0 then r178.1 == s76.2.2.1 else false then r178.2.1 == s76.1 else false then decide (s76.1 ≤ r192) else false then s76.2.2.2.1 == (w64 (s76.2.2.1 + 1)) else false)) = true := hx240
           replace e196 := cond_t hx240 e196
           replace e199 := cond_t hx240 e199
           refine ob_two rfl (fun _ y197 => ?_) (fun hn => clash hx240 hn)
           refine ob_two rfl (fun _ _ => ?_) (fun hn => clash hx240 hn)
           refine ob_two rfl (fun _ _ => ?_) (fun hn => clash hx240 hn)
           refine ob_nil rfl ?_
           exact ok_call (N := 238) (Φ := fun y200 => []) (culpritref32_Proper_ok e199) rfl rfl rfl Try.func21 rfl Try.nm21 [79, 11, 39] ⟨.inl ⟨0, _, rfl, cov_rep rfl⟩, .inl ⟨5, _, rfl, cov_own rfl⟩, .inl ⟨6, _, rfl, cov_own rfl⟩, trivial⟩ (fun _ => rfl) (fun _ => rfl) rfl
          refine all_cons _ (base_nil rfl) (dst_some rfl rfl) rfl rfl rfl rfl (gd_none rfl rfl) (fun _ => ?_) ?_
          ·
           refine ob_one rfl rfl (fun _ => ?_)
           refine ob_two rfl (fun hq242 y200 => ?_) (fun hq242 => ?_)
           rotate_left
           ·
            replace hq242 : ((bif bif bif bif r178.2.2 == 0 then r178.1 == s76.2.2.1 else false then r178.2.1 == s76.1 else false then decide (s76.1 ≤ r192) else false then s76.2.2.2.1 == (w64 (s76.2.2.1 + 1)) else false)) = false := hq242
            refine ob_nil rfl ?_
            exact PureOk.op (p_pick (b := bif bif bif bif r178.2.2 == 0 then r178.1 == s76.2.2.1 else false then r178.2.1 == s76.1 else false then decide (s76.1 ≤ r192) else false then s76.2.2.2.1 == (w64 (s76.2.2.1 + 1)) else false) (p := r198) (q := false) rfl rfl (fun hb => by first | (rw [hb] at hq242; cases hq242; done) | exact absurd hq242 (by rw [hb]; simp) | (simp_all; done)) (fun _ => rfl))
           refine ob_nil rfl ?_
           exact PureOk.op (p_pick (b := bif bif bif bif r178.2.2 == 0 then r178.1 == s76.2.2.1 else false then r178.2.1 == s76.1 else false then decide (s76.1 ≤ r192) else false then s76.2.2.2.1 == (w64 (s76.2.2.1 + 1)) else false) (p := r198) (q := false) rfl rfl (fun _ => rfl) (fun _ => rfl))
          refine all_cons _ (base_nil rfl) (dst_some rfl rfl) rfl rfl rfl rfl (gd_none rfl rfl) (fun _ => ?_) ?_
          ·
           refine ob_one rfl rfl (fun _ => ?_)
           refine ob_nil rfl ?_
           exact PureOk.op (p_move (v := .bool (bif bif bif bif bif r178.2.2 == 0 then r178.1 == s76.2.2.1 else false then r178.2.1 == s76.1 else false then decide (s76.1 ≤ r192) else false then s76.2.2.2.1 == (w64 (s76.2.2.1 + 1)) else false then r198 else false)) rfl rfl)
          refine all_cons _ (base_nil rfl) (dst_some rfl rfl) rfl rfl rfl rfl (gd_some (e := ⟨true, 183, [33], Unit, fun _ => .bool (bif bif bif bif bif r178.2.2 == 0 then r178.1 == s76.2.2.1 else false then r178.2.1 == s76.1 else false then decide (s76.1 ≤ r192) else false then s76.2.2.2.1 == (w64 (s76.2.2.1 + 1)) else false then r198 else false), fun _ => [], [], [], []⟩) (bif bif bif bif bif r178.2.2 == 0 then r178.1 == s76.2.2.1 else false then r178.2.1 == s76.1 else false then decide (s76.1 ≤ r192) else false then s76.2.2.2.1 == (w64 (s76.2.2.1 + 1)) else false then r198 else false) rfl rfl rfl rfl (fun _ => rfl) (gd_t _)) (fun hx244 => ?_) ?_
          ·
           replace hx244 : ((bif bif bif bif bif r178.2.2 == 0 then r178.1 == s76.2.2.1 else false then r178.2.1 == s76.1 else false then decide (s76.1 ≤ r192) else false then s76.2.2.2.1 == (w64 (s76.2.2.1 + 1)) else false then r198 else false)) = true := hx244
           replace e202 := cond_t hx244 e202
           refine ob_nil rfl ?_
           exact ok_call (N := 250) (Φ := fun y203 => []) (culpritlaw32_lives_ok e202) rfl rfl rfl Try.func19 rfl Try.nm19 [] trivial (fun _ => rfl) (fun _ => rfl) rfl
          refine all_cons _ (base_nil rfl) (dst_some rfl rfl) rfl rfl rfl rfl (gd_none rfl rfl) (fun _ => ?_) ?_
          ·
           refine ob_one rfl rfl (fun _ => ?_)
           refine ob_two rfl (fun hq246 y203 => ?_) (fun hq246 => ?_)
           rotate_left
           ·
            replace hq246 : ((bif bif bif bif bif r178.2.2 == 0 then r178.1 == s76.2.2.1 else false then r178.2.1 == s76.1 else false then decide (s76.1 ≤ r192) else false then s76.2.2.2.1 == (w64 (s76.2.2.1 + 1)) else false then r198 else false)) = false := hq246
            refine ob_nil rfl ?_
            exact PureOk.op (p_pick (b := bif bif bif bif bif r178.2.2 == 0 then r178.1 == s76.2.2.1 else false then r178.2.1 == s76.1 else false then decide (s76.1 ≤ r192) else false then s76.2.2.2.1 == (w64 (s76.2.2.1 + 1)) else false then r198 else false) (p := r201) (q := false) rfl rfl (fun hb => by first | (rw [hb] at hq246; cases hq246; done) | exact absurd hq246 (by rw [hb]; simp) | (simp_all; done)) (fun _ => rfl))
           refine ob_nil rfl ?_
           exact PureOk.op (p_pick (b := bif bif bif bif bif r178.2.2 == 0 then r178.1 == s76.2.2.1 else false then r178.2.1 == s76.1 else false then decide (s76.1 ≤ r192) else false then s76.2.2.2.1 == (w64 (s76.2.2.1 + 1)) else false then r198 else false) (p := r201) (q := false) rfl rfl (fun _ => rfl) (fun _ => rfl))
          exact all_nil
         ·
          refine fin_base _ (base_nil rfl) ?_
          refine fin_one rfl rfl (fun _ => ?_)
          refine fin_nil ?_
          refine s_pure (p_assign (v := .bool (bif bif bif bif bif bif r178.2.2 == 0 then r178.1 == s76.2.2.1 else false then r178.2.1 == s76.1 else false then decide (s76.1 ≤ r192) else false then s76.2.2.2.1 == (w64 (s76.2.2.1 + 1)) else false then r198 else false then r201 else false)) rfl rfl) rfl rfl rfl ?_
          refine s_nil ?_
          refine x_then ?_
          refine s_ret ?_
          replace hF := some_inj hF
          subst hF
          exact x_ret () (res_one rfl (ra_tmp (v := .bool (bif bif bif bif bif bif r178.2.2 == 0 then r178.1 == s76.2.2.1 else false then r178.2.1 == s76.1 else false then decide (s76.1 ≤ r192) else false then s76.2.2.2.1 == (w64 (s76.2.2.1 + 1)) else false then r198 else false then r201 else false)) rfl)) rfl 0 rfl [] 2 rfl trivial

end Go.Proofs.Ytimljgafbpbceaa
