/-
  The functions of the program compute what their Lean functions say. No condition.
-/
import Derived.Test.YtimljgafbpbceaaWalkB
namespace Go.Proofs.Ytimljgafbpbceaa
open Go.Sm
set_option maxHeartbeats 8000000

theorem culpritlaw32_lives_ok  {r : Bool} (hF : culpritlaw32_lives = some r) : ∀ (w : World) (S : Nat → Prop), Heap w (oldc S) [] → Calls Try.prog 19 #[] w (Post w S (fun (_ : Unit) => .bool (r)) (fun (_ : Unit) => [])) := by
  intro w S hL
  refine s_enter (n := 155) Try.func19 rfl rfl _ rfl hL ?_
  refine s_seq ?_
  refine s_region ?_
  refine s_pure (p_assign (v := .bool (false)) rfl rfl) rfl rfl rfl ?_
  refine s_nil ?_
  refine x_then ?_
  refine s_seq ?_
  refine s_region ?_
  refine s_op0 (ok_buildSlice (N := 11) (vals := [(0, [.int .i64 (1)]), (1, [.int .i64 (2)]), (2, [.int .i64 (3)]), (3, [.int .i64 (4)]), (4, [.int .i64 (5)])]) (cells := [.int .i64 (1)] ++ [.int .i64 (2)] ++ [.int .i64 (3)] ++ [.int .i64 (4)] ++ [.int .i64 (5)]) (ty := (tI .i64)) (K := []) (xs := [1, 2, 3, 4, 5]) (ys := [(), (), (), (), ()]) rfl Try.underlying22 Try.ti3 rfl rfl rfl rfl rfl rfl rfl rfl trivial rfl) rfl rfl rfl (fun h1 => ?_)
  obtain ⟨r2, e3, hF⟩ := bind_some hF
  refine s_op0 (ok_call (N := 12) (Φ := fun y4 => [.own (tA 16 .u8) 52 12 [] r2 y4]) (culpritlaw32_says_ok e3) rfl rfl rfl Try.func31 rfl Try.nm31 [11] ⟨.inl ⟨0, _, rfl, cov_own rfl⟩, trivial⟩ (fun _ => rfl) (fun _ => rfl) rfl) rfl rfl rfl (fun y4 => ?_)
  refine s_nilrow (tA 16 .u8) 52 25 [] ?_
  refine s_op0 (ok_alloc (N := 26) (cs := [Hd.val (nilH 52)]) rfl Try.ti30 rfl rfl) rfl rfl rfl (fun b6 => ?_)
  refine s_opn (ok_store_box (v := .agg ([Hd.val y4]).toArray) (vs := [Hd.val y4]) (cs' := [Hd.val y4]) 0 rfl rfl Try.ti30 rfl rfl rfl rfl rfl rfl rfl) rfl rfl rfl (fun _ => ?_)
  refine s_nil ?_
  refine x_then ?_
  refine s_seq ?_
  refine s_region ?_
  refine s_op0 (ok_buildSlice (N := 27) (vals := [(0, [.int .i64 (1)]), (1, [.int .i64 (2)]), (2, [.int .i64 (6)]), (3, [.int .i64 (7)])]) (cells := [.int .i64 (1)] ++ [.int .i64 (2)] ++ [.int .i64 (6)] ++ [.int .i64 (7)]) (ty := (tI .i64)) (K := []) (xs := [1, 2, 6, 7]) (ys := [(), (), (), ()]) rfl Try.underlying22 Try.ti3 rfl rfl rfl rfl rfl rfl rfl rfl trivial rfl) rfl rfl rfl (fun h7 => ?_)
  obtain ⟨r8, e9, hF⟩ := bind_some hF
  refine s_op0 (ok_call (N := 28) (Φ := fun y10 => [.own (tA 16 .u8) 52 28 [] r8 y10]) (culpritlaw32_says_ok e9) rfl rfl rfl Try.func31 rfl Try.nm31 [27] ⟨.inl ⟨0, _, rfl, cov_own rfl⟩, trivial⟩ (fun _ => rfl) (fun _ => rfl) rfl) rfl rfl rfl (fun y10 => ?_)
  refine s_op0 (ok_alloc (N := 40) (cs := [Hd.val (nilH 52)]) rfl Try.ti30 rfl rfl) rfl rfl rfl (fun b11 => ?_)
  refine s_opn (ok_store_box (v := .agg ([Hd.val y10]).toArray) (vs := [Hd.val y10]) (cs' := [Hd.val y10]) 0 rfl rfl Try.ti30 rfl rfl rfl rfl rfl rfl rfl) rfl rfl rfl (fun _ => ?_)
  refine s_nil ?_
  refine x_then ?_
  refine s_seq ?_
  refine s_region ?_
  refine s_pure (p_loadN_box (cs' := [Hd.val y4]) 3 rfl rfl Try.underlying30 rfl Try.ti30 rfl rfl rfl) rfl rfl rfl ?_
  refine s_pure (p_loadN_box (cs' := [Hd.val y10]) 0 rfl rfl Try.underlying30 rfl Try.ti30 rfl rfl rfl) rfl rfl rfl ?_
  obtain ⟨r12, e13, hF⟩ := bind_some hF
  refine s_op0 (ok_call (N := 41) (Φ := fun y14 => [.own (tI .i64) 3 41 [] r12.1.2.2 y14]) (dispute_Begin_ok e13) rfl rfl rfl Try.func9 rfl Try.nm9 [12, 28] ⟨.inl ⟨5, _, rfl, cov_own rfl⟩, .inl ⟨1, _, rfl, cov_own rfl⟩, trivial⟩ (fun _ => rfl) (fun _ => rfl) rfl) rfl rfl rfl (fun y14 => ?_)
  refine s_pure (p_move (v := .tuple #[.agg ([.int .i64 (r12.1.1), .int .i64 (r12.1.2.1), Hd.val y14]).toArray, .int .i64 (r12.2)]) rfl rfl) rfl rfl rfl ?_
  refine s_pure (p_extract (v := .agg ([.int .i64 (r12.1.1), .int .i64 (r12.1.2.1), Hd.val y14]).toArray) rfl rfl rfl) rfl rfl rfl ?_
  refine s_pure (p_extract (v := .int .i64 (r12.2)) rfl rfl rfl) rfl rfl rfl ?_
  refine s_nilrow (tI .i64) 3 54 [] ?_
  refine s_op0 (ok_alloc (N := 55) (cs := [.int .i64 (0), .int .i64 (0), Hd.val (nilH 3)]) rfl Try.ti33 rfl rfl) rfl rfl rfl (fun b16 => ?_)
  refine s_opn (ok_store_box (v := .agg ([.int .i64 (r12.1.1), .int .i64 (r12.1.2.1), Hd.val y14]).toArray) (vs := [.int .i64 (r12.1.1), .int .i64 (r12.1.2.1), Hd.val y14]) (cs' := [.int .i64 (r12.1.1), .int .i64 (r12.1.2.1), Hd.val y14]) 0 rfl rfl Try.ti33 rfl rfl rfl rfl rfl rfl rfl) rfl rfl rfl (fun _ => ?_)
  refine s_pure (p_assign (v := .int .i64 (r12.2)) rfl rfl) rfl rfl rfl ?_
  refine s_nil ?_
  refine x_then ?_
  refine s_seq ?_
  refine s_region ?_
  refine s_pure (p_loadN_box (cs' := [.int .i64 (r12.1.1), .int .i64 (r12.1.2.1), Hd.val y14]) 0 rfl rfl Try.underlying33 rfl Try.ti33 rfl rfl rfl) rfl rfl rfl ?_
  refine s_pure (p_loadN_box (cs' := [Hd.val y4]) 6 rfl rfl Try.underlying30 rfl Try.ti30 rfl rfl rfl) rfl rfl rfl ?_
  refine s_pure (p_loadN_box (cs' := [Hd.val y10]) 3 rfl rfl Try.underlying30 rfl Try.ti30 rfl rfl rfl) rfl rfl rfl ?_
  obtain ⟨r17, e18, hF⟩ := bind_some hF
  refine s_op0 (ok_call (N := 56) (Φ := fun y19 => [.own (tI .i64) 3 56 [] r17.1.2.2 y19]) (dispute_Halve_ok e18) rfl rfl rfl Try.func15 rfl Try.nm15 [41, 12, 28] ⟨.inl ⟨2, _, rfl, cov_own rfl⟩, .inl ⟨8, _, rfl, cov_own rfl⟩, .inl ⟨4, _, rfl, cov_own rfl⟩, trivial⟩ (fun _ => rfl) (fun _ => rfl) rfl) rfl rfl rfl (fun y19 => ?_)
  refine s_pure (p_move (v := .tuple #[.agg ([.int .i64 (r17.1.1), .int .i64 (r17.1.2.1), Hd.val y19]).toArray, .int .i64 (r17.2)]) rfl rfl) rfl rfl rfl ?_
  refine s_pure (p_extract (v := .agg ([.int .i64 (r17.1.1), .int .i64 (r17.1.2.1), Hd.val y19]).toArray) rfl rfl rfl) rfl rfl rfl ?_
  refine s_pure (p_extract (v := .int .i64 (r17.2)) rfl rfl rfl) rfl rfl rfl ?_
  refine s_op0 (ok_alloc (N := 68) (cs := [.int .i64 (0), .int .i64 (0), Hd.val (nilH 3)]) rfl Try.ti33 rfl rfl) rfl rfl rfl (fun b20 => ?_)
  refine s_opn (ok_store_box (v := .agg ([.int .i64 (r17.1.1), .int .i64 (r17.1.2.1), Hd.val y19]).toArray) (vs := [.int .i64 (r17.1.1), .int .i64 (r17.1.2.1), Hd.val y19]) (cs' := [.int .i64 (r17.1.1), .int .i64 (r17.1.2.1), Hd.val y19]) 0 rfl rfl Try.ti33 rfl rfl rfl rfl rfl rfl rfl) rfl rfl rfl (fun _ => ?_)
  refine s_pure (p_assign (v := .int .i64 (r17.2)) rfl rfl) rfl rfl rfl ?_
  refine s_nil ?_
  refine x_then ?_
  refine s_seq ?_
  refine s_region ?_
  refine s_pure (p_loadN_box (cs' := [.int .i64 (r17.1.1), .int .i64 (r17.1.2.1), Hd.val y19]) 0 rfl rfl Try.underlying33 rfl Try.ti33 rfl rfl rfl) rfl rfl rfl ?_
  refine s_pure (p_loadN_box (cs' := [Hd.val y4]) 8 rfl rfl Try.underlying30 rfl Try.ti30 rfl rfl rfl) rfl rfl rfl ?_
  refine s_pure (p_loadN_box (cs' := [Hd.val y10]) 5 rfl rfl Try.underlying30 rfl Try.ti30 rfl rfl rfl) rfl rfl rfl ?_
  obtain ⟨r21, e22, hF⟩ := bind_some hF
  refine s_op0 (ok_call (N := 69) (Φ := fun y23 => [.own (tI .i64) 3 69 [] r21.1.2.2 y23]) (dispute_Halve_ok e22) rfl rfl rfl Try.func15 rfl Try.nm15 [56, 12, 28] ⟨.inl ⟨1, _, rfl, cov_own rfl⟩, .inl ⟨10, _, rfl, cov_own rfl⟩, .inl ⟨6, _, rfl, cov_own rfl⟩, trivial⟩ (fun _ => rfl) (fun _ => rfl) rfl) rfl rfl rfl (fun y23 => ?_)
  refine s_pure (p_move (v := .tuple #[.agg ([.int .i64 (r21.1.1), .int .i64 (r21.1.2.1), Hd.val y23]).toArray, .int .i64 (r21.2)]) rfl rfl) rfl rfl rfl ?_
  refine s_pure (p_extract (v := .agg ([.int .i64 (r21.1.1), .int .i64 (r21.1.2.1), Hd.val y23]).toArray) rfl rfl rfl) rfl rfl rfl ?_
  refine s_pure (p_extract (v := .int .i64 (r21.2)) rfl rfl rfl) rfl rfl rfl ?_
  refine s_op0 (ok_alloc (N := 81) (cs := [.int .i64 (0), .int .i64 (0), Hd.val (nilH 3)]) rfl Try.ti33 rfl rfl) rfl rfl rfl (fun b24 => ?_)
  refine s_opn (ok_store_box (v := .agg ([.int .i64 (r21.1.1), .int .i64 (r21.1.2.1), Hd.val y23]).toArray) (vs := [.int .i64 (r21.1.1), .int .i64 (r21.1.2.1), Hd.val y23]) (cs' := [.int .i64 (r21.1.1), .int .i64 (r21.1.2.1), Hd.val y23]) 0 rfl rfl Try.ti33 rfl rfl rfl rfl rfl rfl rfl) rfl rfl rfl (fun _ => ?_)
  refine s_pure (p_assign (v := .int .i64 (r21.2)) rfl rfl) rfl rfl rfl ?_
  refine s_nil ?_
  refine x_then ?_
  refine s_seq ?_
  refine s_region ?_
  refine s_pure (p_loadN_box (cs' := [.int .i64 (r21.1.1), .int .i64 (r21.1.2.1), Hd.val y23]) 0 rfl rfl Try.underlying33 rfl Try.ti33 rfl rfl rfl) rfl rfl rfl ?_
  refine s_pure (p_loadN_box (cs' := [Hd.val y4]) 10 rfl rfl Try.underlying30 rfl Try.ti30 rfl rfl rfl) rfl rfl rfl ?_
  refine s_pure (p_loadN_box (cs' := [Hd.val y10]) 7 rfl rfl Try.underlying30 rfl Try.ti30 rfl rfl rfl) rfl rfl rfl ?_
  obtain ⟨r25, e26, hF⟩ := bind_some hF
  refine s_op0 (ok_call (N := 82) (Φ := fun y27 => [.own (tI .i64) 3 82 [] r25.1.2.2 y27]) (dispute_Halve_ok e26) rfl rfl rfl Try.func15 rfl Try.nm15 [69, 12, 28] ⟨.inl ⟨1, _, rfl, cov_own rfl⟩, .inl ⟨12, _, rfl, cov_own rfl⟩, .inl ⟨8, _, rfl, cov_own rfl⟩, trivial⟩ (fun _ => rfl) (fun _ => rfl) rfl) rfl rfl rfl (fun y27 => ?_)
  refine s_pure (p_move (v := .tuple #[.agg ([.int .i64 (r25.1.1), .int .i64 (r25.1.2.1), Hd.val y27]).toArray, .int .i64 (r25.2)]) rfl rfl) rfl rfl rfl ?_
  refine s_pure (p_extract (v := .agg ([.int .i64 (r25.1.1), .int .i64 (r25.1.2.1), Hd.val y27]).toArray) rfl rfl rfl) rfl rfl rfl ?_
  refine s_pure (p_extract (v := .int .i64 (r25.2)) rfl rfl rfl) rfl rfl rfl ?_
  refine s_op0 (ok_alloc (N := 94) (cs := [.int .i64 (0), .int .i64 (0), Hd.val (nilH 3)]) rfl Try.ti33 rfl rfl) rfl rfl rfl (fun b28 => ?_)
  refine s_opn (ok_store_box (v := .agg ([.int .i64 (r25.1.1), .int .i64 (r25.1.2.1), Hd.val y27]).toArray) (vs := [.int .i64 (r25.1.1), .int .i64 (r25.1.2.1), Hd.val y27]) (cs' := [.int .i64 (r25.1.1), .int .i64 (r25.1.2.1), Hd.val y27]) 0 rfl rfl Try.ti33 rfl rfl rfl rfl rfl rfl rfl) rfl rfl rfl (fun _ => ?_)
  refine s_pure (p_assign (v := .int .i64 (r25.2)) rfl rfl) rfl rfl rfl ?_
  refine s_nil ?_
  refine x_then ?_
  refine s_seq ?_
  refine s_region ?_
  refine s_pure (p_loadN_box (cs' := [Hd.val y4]) 12 rfl rfl Try.underlying30 rfl Try.ti30 rfl rfl rfl) rfl rfl rfl ?_
  refine s_pure (p_loadN_box (cs' := [Hd.val y10]) 9 rfl rfl Try.underlying30 rfl Try.ti30 rfl rfl rfl) rfl rfl rfl ?_
  obtain ⟨r29, e30, hF⟩ := bind_some hF
  refine s_op0 (ok_call (N := 95) (Φ := fun y31 => []) (dispute_Parts_ok e30) rfl rfl rfl Try.func11 rfl Try.nm11 [12, 28] ⟨.inl ⟨14, _, rfl, cov_own rfl⟩, .inl ⟨10, _, rfl, cov_own rfl⟩, trivial⟩ (fun _ => rfl) (fun _ => rfl) rfl) rfl rfl rfl (fun y31 => ?_)
  refine s_pure (p_move (v := .tuple #[.int .i64 (r29.1), .int .i64 (r29.2.1), .int .i64 (r29.2.2)]) rfl rfl) rfl rfl rfl ?_
  refine s_pure (p_extract (v := .int .i64 (r29.1)) rfl rfl rfl) rfl rfl rfl ?_
  refine s_pure (p_extract (v := .int .i64 (r29.2.1)) rfl rfl rfl) rfl rfl rfl ?_
  refine s_pure (p_extract (v := .int .i64 (r29.2.2)) rfl rfl rfl) rfl rfl rfl ?_
  refine s_pure (p_assign (v := .int .i64 (r29.1)) rfl rfl) rfl rfl rfl ?_
  refine s_pure (p_assign (v := .int .i64 (r29.2.1)) rfl rfl) rfl rfl rfl ?_
  refine s_pure (p_assign (v := .int .i64 (r29.2.2)) rfl rfl) rfl rfl rfl ?_
  refine s_nil ?_
  refine x_then ?_
  refine s_seq ?_
  obtain ⟨r33, e34, hF⟩ := bind_some hF
  obtain ⟨r36, e37, hF⟩ := bind_some hF
  refine s_draw Try.mixed [⟨true, 59, [], Unit, fun _ => .agg ([Hd.val y4]).toArray, fun _ => [], [], [], []⟩, ⟨true, 60, [], Hd, fun (h32 : Hd) => Hd.val h32, fun h32 => [.own (tI .i64) 3 107 [] [1, 2, 3, 8, 5] h32], [], [], []⟩, ⟨true, 61, [1], Hd, fun (y35 : Hd) => .agg ([Hd.val y35]).toArray, fun y35 => [.own (tA 16 .u8) 52 108 [] r33 y35], [], [], []⟩, ⟨true, 62, [0, 2], Unit, fun (y38 : Unit) => .tuple #[.int .i64 (r36.1), .int .i64 (r36.2.1), .int .i64 (r36.2.2)], fun _ => [], [], [], []⟩, ⟨true, 58, [3], Unit, fun _ => .tuple #[.int .i64 (r36.1), .int .i64 (r36.2.1), .int .i64 (r36.2.2)], fun _ => [], [], [], []⟩, ⟨true, 63, [4], Unit, fun _ => .int .i64 (r36.1), fun _ => [], [], [], []⟩, ⟨true, 64, [4], Unit, fun _ => .int .i64 (r36.2.1), fun _ => [], [], [], []⟩, ⟨true, 65, [4], Unit, fun _ => .int .i64 (r36.2.2), fun _ => [], [], [], []⟩, ⟨true, 14, [5], Unit, fun _ => .int .i64 (r36.1), fun _ => [], [], [], []⟩, ⟨true, 15, [6], Unit, fun _ => .int .i64 (r36.2.1), fun _ => [], [], [], []⟩] [[], [], [1], [0, 1, 2], [0, 1, 2, 3], [0, 1, 2, 3, 4], [0, 1, 2, 3, 4], [0, 1, 2, 3, 4], [0, 1, 2, 3, 4, 5], [0, 1, 2, 3, 4, 5, 6, 8], [0, 1, 2, 3, 4, 5, 6, 7, 8, 9]] rfl rfl rfl rfl rfl ⟨.inl rfl, .inl rfl, .inl rfl, .inl rfl, .inl rfl, .inl rfl, .inl rfl, .inl rfl, .inl rfl, .inl rfl, trivial⟩ ?_ [7, 8, 9] rfl rfl (fun us => ?_)
  ·
   refine all_cons _ (base_nil rfl) (dst_some rfl rfl) rfl rfl rfl rfl (gd_none rfl rfl) (fun _ => ?_) ?_
   ·
    refine ob_nil rfl ?_
    exact PureOk.op (p_loadN_box (cs' := [Hd.val y4]) 12 rfl rfl Try.underlying30 rfl Try.ti30 rfl rfl rfl)
   refine all_cons _ (base_nil rfl) (dst_some rfl rfl) rfl rfl rfl rfl (gd_none rfl rfl) (fun _ => ?_) ?_
   ·
    refine ob_nil rfl ?_
    exact ok_buildSlice (N := 107) (vals := [(0, [.int .i64 (1)]), (1, [.int .i64 (2)]), (2, [.int .i64 (3)]), (3, [.int .i64 (8)]), (4, [.int .i64 (5)])]) (cells := [.int .i64 (1)] ++ [.int .i64 (2)] ++ [.int .i64 (3)] ++ [.int .i64 (8)] ++ [.int .i64 (5)]) (ty := (tI .i64)) (K := []) (xs := [1, 2, 3, 8, 5]) (ys := [(), (), (), (), ()]) rfl Try.underlying22 Try.ti3 rfl rfl rfl rfl rfl rfl rfl rfl trivial rfl
   refine all_cons _ (base_nil rfl) (dst_some rfl rfl) rfl rfl rfl rfl (gd_none rfl rfl) (fun _ => ?_) ?_
   ·
    refine ob_one rfl rfl (fun h32 => ?_)
    refine ob_nil rfl ?_
    exact ok_call (N := 108) (Φ := fun y35 => [.own (tA 16 .u8) 52 108 [] r33 y35]) (culpritlaw32_says_ok e34) rfl rfl rfl Try.func31 rfl Try.nm31 [107] ⟨.inl ⟨0, _, rfl, cov_own rfl⟩, trivial⟩ (fun _ => rfl) (fun _ => rfl) rfl
   refine all_cons _ (base_nil rfl) (dst_some rfl rfl) rfl rfl rfl rfl (gd_none rfl rfl) (fun _ => ?_) ?_
   ·
    refine ob_one rfl rfl (fun _ => ?_)
    refine ob_one rfl rfl (fun y35 => ?_)
    refine ob_nil rfl ?_
    exact ok_call (N := 120) (Φ := fun y38 => []) (dispute_Parts_ok e37) rfl rfl rfl Try.func11 rfl Try.nm11 [12, 108] ⟨.inl ⟨15, _, rfl, cov_own rfl⟩, .inl ⟨0, _, rfl, cov_own rfl⟩, trivial⟩ (fun _ => rfl) (fun _ => rfl) rfl
   refine all_cons _ (base_nil rfl) (dst_some rfl rfl) rfl rfl rfl rfl (gd_none rfl rfl) (fun _ => ?_) ?_
   ·
    refine ob_one rfl rfl (fun y38 => ?_)
    refine ob_nil rfl ?_
    exact PureOk.op (p_move (v := .tuple #[.int .i64 (r36.1), .int .i64 (r36.2.1), .int .i64 (r36.2.2)]) rfl rfl)
   refine all_cons _ (base_nil rfl) (dst_some rfl rfl) rfl rfl rfl rfl (gd_none rfl rfl) (fun _ => ?_) ?_
   ·
    refine ob_one rfl rfl (fun _ => ?_)
    refine ob_nil rfl ?_
    exact PureOk.op (p_extract (v := .int .i64 (r36.1)) rfl rfl rfl)
   refine all_cons _ (base_nil rfl) (dst_some rfl rfl) rfl rfl rfl rfl (gd_none rfl rfl) (fun _ => ?_) ?_
   ·
    refine ob_one rfl rfl (fun _ => ?_)
    refine ob_nil rfl ?_
    exact PureOk.op (p_extract (v := .int .i64 (r36.2.1)) rfl rfl rfl)
   refine all_cons _ (base_nil rfl) (dst_some rfl rfl) rfl rfl rfl rfl (gd_none rfl rfl) (fun _ => ?_) ?_
   ·
    refine ob_one rfl rfl (fun _ => ?_)
    refine ob_nil rfl ?_
    exact PureOk.op (p_extract (v := .int .i64 (r36.2.2)) rfl rfl rfl)
   refine all_cons _ (base_nil rfl) (dst_some rfl rfl) rfl rfl rfl rfl (gd_none rfl rfl) (fun _ => ?_) ?_
   ·
    refine ob_one rfl rfl (fun _ => ?_)
    refine ob_nil rfl ?_
    exact PureOk.op (p_assign (v := .int .i64 (r36.1)) rfl rfl)
   refine all_cons _ (base_nil rfl) (dst_some rfl rfl) rfl rfl rfl rfl (gd_none rfl rfl) (fun _ => ?_) ?_
   ·
    refine ob_one rfl rfl (fun _ => ?_)
    refine ob_nil rfl ?_
    exact PureOk.op (p_assign (v := .int .i64 (r36.2.1)) rfl rfl)
   exact all_nil
  ·
   refine fin_base _ (base_nil rfl) ?_
   refine fin_one rfl rfl (fun _ => ?_)
   refine fin_one rfl rfl (fun _ => ?_)
   refine fin_one rfl rfl (fun _ => ?_)
   refine fin_nil ?_
   refine s_pure (p_assign (v := .int .i64 (r36.2.2)) rfl rfl) rfl rfl rfl ?_
   refine s_nil ?_
   refine x_then ?_
   refine s_seq ?_
   refine s_region ?_
   refine s_pure (p_loadN_box (cs' := [Hd.val y4]) 12 rfl rfl Try.underlying30 rfl Try.ti30 rfl rfl rfl) rfl rfl rfl ?_
   refine s_pure (p_loadN_box (cs' := [Hd.val y4]) 12 rfl rfl Try.underlying30 rfl Try.ti30 rfl rfl rfl) rfl rfl rfl ?_
   obtain ⟨r49, e50, hF⟩ := bind_some hF
   refine s_op0 (ok_call (N := 132) (Φ := fun y51 => []) (dispute_Parts_ok e50) rfl rfl rfl Try.func11 rfl Try.nm11 [12] ⟨.inl ⟨14, _, rfl, cov_own rfl⟩, .inl ⟨14, _, rfl, cov_own rfl⟩, trivial⟩ (fun _ => rfl) (fun _ => rfl) rfl) rfl rfl rfl (fun y51 => ?_)
   refine s_pure (p_move (v := .tuple #[.int .i64 (r49.1), .int .i64 (r49.2.1), .int .i64 (r49.2.2)]) rfl rfl) rfl rfl rfl ?_
   refine s_pure (p_extract (v := .int .i64 (r49.1)) rfl rfl rfl) rfl rfl rfl ?_
   refine s_pure (p_extract (v := .int .i64 (r49.2.1)) rfl rfl rfl) rfl rfl rfl ?_
   refine s_pure (p_extract (v := .int .i64 (r49.2.2)) rfl rfl rfl) rfl rfl rfl ?_
   refine s_pure (p_assign (v := .int .i64 (r49.1)) rfl rfl) rfl rfl rfl ?_
   refine s_pure (p_assign (v := .int .i64 (r49.2.1)) rfl rfl) rfl rfl rfl ?_
   refine s_pure (p_assign (v := .int .i64 (r49.2.2)) rfl rfl) rfl rfl rfl ?_
   refine s_nil ?_
   refine x_then ?_
   refine s_seq ?_
   refine s_seq ?_
   refine s_text Try.mixed [⟨true, 73, [], Unit, fun _ => .int .i64 (r12.2), fun _ => [], [], [], []⟩, ⟨true, 74, [0], Unit, fun _ => .bool (r12.2 != 0), fun _ => [], [], [], []⟩, ⟨true, 75, [1], Unit, fun _ => .bool (r12.2 != 0), fun _ => [], [], [], []⟩, ⟨!(r12.2 != 0), 76, [], Unit, fun _ => .int .i64 (r17.2), fun _ => [], [], [], []⟩, ⟨!(r12.2 != 0), 77, [3], Unit, fun _ => .bool (r17.2 != 0), fun _ => [], [], [], []⟩, ⟨true, 78, [2, 4], Unit, fun _ => .bool (bif r12.2 != 0 then true else r17.2 != 0), fun _ => [], [], [], []⟩, ⟨true, 79, [5], Unit, fun _ => .bool (bif r12.2 != 0 then true else r17.2 != 0), fun _ => [], [], [], []⟩, ⟨!(bif r12.2 != 0 then true else r17.2 != 0), 80, [], Unit, fun _ => .int .i64 (r21.2), fun _ => [], [], [], []⟩, ⟨!(bif r12.2 != 0 then true else r17.2 != 0), 81, [7], Unit, fun _ => .bool (r21.2 != 0), fun _ => [], [], [], []⟩, ⟨true, 82, [6, 8], Unit, fun _ => .bool (bif bif r12.2 != 0 then true else r17.2 != 0 then true else r21.2 != 0), fun _ => [], [], [], []⟩, ⟨true, 83, [9], Unit, fun _ => .bool (bif bif r12.2 != 0 then true else r17.2 != 0 then true else r21.2 != 0), fun _ => [], [], [], []⟩, ⟨!(bif bif r12.2 != 0 then true else r17.2 != 0 then true else r21.2 != 0), 84, [], Unit, fun _ => .int .i64 (r29.2.2), fun _ => [], [], [], []⟩, ⟨!(bif bif r12.2 != 0 then true else r17.2 != 0 then true else r21.2 != 0), 85, [11], Unit, fun _ => .bool (r29.2.2 != 0), fun _ => [], [], [], []⟩, ⟨true, 86, [10, 12], Unit, fun _ => .bool (bif bif bif r12.2 != 0 then true else r17.2 != 0 then true else r21.2 != 0 then true else r29.2.2 != 0), fun _ => [], [], [], []⟩, ⟨true, 87, [13], Unit, fun _ => .bool (bif bif bif r12.2 != 0 then true else r17.2 != 0 then true else r21.2 != 0 then true else r29.2.2 != 0), fun _ => [], [], [], []⟩, ⟨!(bif bif bif r12.2 != 0 then true else r17.2 != 0 then true else r21.2 != 0 then true else r29.2.2 != 0), 88, [], Unit, fun _ => .int .i64 (r36.2.2), fun _ => [], [], [], []⟩, ⟨!(bif bif bif r12.2 != 0 then true else r17.2 != 0 then true else r21.2 != 0 then true else r29.2.2 != 0), 89, [15], Unit, fun _ => .bool (r36.2.2 != 0), fun _ => [], [], [], []⟩, ⟨true, 90, [14, 16], Unit, fun _ => .bool (bif bif bif bif r12.2 != 0 then true else r17.2 != 0 then true else r21.2 != 0 then true else r29.2.2 != 0 then true else r36.2.2 != 0), fun _ => [], [], [], []⟩, ⟨true, 91, [17], Unit, fun _ => .bool (bif bif bif bif r12.2 != 0 then true else r17.2 != 0 then true else r21.2 != 0 then true else r29.2.2 != 0 then true else r36.2.2 != 0), fun _ => [], [], [], []⟩, ⟨!(bif bif bif bif r12.2 != 0 then true else r17.2 != 0 then true else r21.2 != 0 then true else r29.2.2 != 0 then true else r36.2.2 != 0), 92, [], Unit, fun _ => .int .i64 (r25.2), fun _ => [], [], [], []⟩, ⟨!(bif bif bif bif r12.2 != 0 then true else r17.2 != 0 then true else r21.2 != 0 then true else r29.2.2 != 0 then true else r36.2.2 != 0), 93, [19], Unit, fun _ => .bool (r25.2 != 8), fun _ => [], [], [], []⟩, ⟨true, 94, [18, 20], Unit, fun _ => .bool (bif bif bif bif bif r12.2 != 0 then true else r17.2 != 0 then true else r21.2 != 0 then true else r29.2.2 != 0 then true else r36.2.2 != 0 then true else r25.2 != 8), fun _ => [], [], [], []⟩, ⟨true, 95, [21], Unit, fun _ => .bool (bif bif bif bif bif r12.2 != 0 then true else r17.2 != 0 then true else r21.2 != 0 then true else r29.2.2 != 0 then true else r36.2.2 != 0 then true else r25.2 != 8), fun _ => [], [], [], []⟩, ⟨!(bif bif bif bif bif r12.2 != 0 then true else r17.2 != 0 then true else r21.2 != 0 then true else r29.2.2 != 0 then true else r36.2.2 != 0 then true else r25.2 != 8), 96, [], Unit, fun _ => .int .i64 (r49.2.2), fun _ => [], [], [], []⟩, ⟨!(bif bif bif bif bif r12.2 != 0 then true else r17.2 != 0 then true else r21.2 != 0 then true else r29.2.2 != 0 then true else r36.2.2 != 0 then true else r25.2 != 8), 97, [23], Unit, fun _ => .bool (r49.2.2 != 6), fun _ => [], [], [], []⟩, ⟨true, 98, [22, 24], Unit, fun _ => .bool (bif bif bif bif bif bif r12.2 != 0 then true else r17.2 != 0 then true else r21.2 != 0 then true else r29.2.2 != 0 then true else r36.2.2 != 0 then true else r25.2 != 8 then true else r49.2.2 != 6), fun _ => [], [], [], []⟩, ⟨true, 99, [25], Unit, fun _ => .bool (bif bif bif bif bif bif r12.2 != 0 then true else r17.2 != 0 then true else r21.2 != 0 then true else r29.2.2 != 0 then true else r36.2.2 != 0 then true else r25.2 != 8 then true else r49.2.2 != 6), fun _ => [], [], [], []⟩, ⟨!(bif bif bif bif bif bif r12.2 != 0 then true else r17.2 != 0 then true else r21.2 != 0 then true else r29.2.2 != 0 then true else r36.2.2 != 0 then true else r25.2 != 8 then true else r49.2.2 != 6), 100, [], Unit, fun _ => .pointer (some ⟨b16, 0, none⟩), fun _ => [], [], [], []⟩, ⟨!(bif bif bif bif bif bif r12.2 != 0 then true else r17.2 != 0 then true else r21.2 != 0 then true else r29.2.2 != 0 then true else r36.2.2 != 0 then true else r25.2 != 8 then true else r49.2.2 != 6), 101, [27], Unit, fun _ => .int .i64 (r12.1.1), fun _ => [], [], [], []⟩, ⟨!(bif bif bif bif bif bif r12.2 != 0 then true else r17.2 != 0 then true else r21.2 != 0 then true else r29.2.2 != 0 then true else r36.2.2 != 0 then true else r25.2 != 8 then true else r49.2.2 != 6), 102, [28], Unit, fun _ => .bool (r12.1.1 != (-1)), fun _ => [], [], [], []⟩, ⟨true, 103, [26, 29], Unit, fun _ => .bool (bif bif bif bif bif bif bif r12.2 != 0 then true else r17.2 != 0 then true else r21.2 != 0 then true else r29.2.2 != 0 then true else r36.2.2 != 0 then true else r25.2 != 8 then true else r49.2.2 != 6 then true else r12.1.1 != (-1)), fun _ => [], [], [], []⟩, ⟨true, 104, [30], Unit, fun _ => .bool (bif bif bif bif bif bif bif r12.2 != 0 then true else r17.2 != 0 then true else r21.2 != 0 then true else r29.2.2 != 0 then true else r36.2.2 != 0 then true else r25.2 != 8 then true else r49.2.2 != 6 then true else r12.1.1 != (-1)), fun _ => [], [], [], []⟩, ⟨!(bif bif bif bif bif bif bif r12.2 != 0 then true else r17.2 != 0 then true else r21.2 != 0 then true else r29.2.2 != 0 then true else r36.2.2 != 0 then true else r25.2 != 8 then true else r49.2.2 != 6 then true else r12.1.1 != (-1)), 105, [], Unit, fun _ => .pointer (some ⟨b16, 1, none⟩), fun _ => [], [], [], []⟩, ⟨!(bif bif bif bif bif bif bif r12.2 != 0 then true else r17.2 != 0 then true else r21.2 != 0 then true else r29.2.2 != 0 then true else r36.2.2 != 0 then true else r25.2 != 8 then true else r49.2.2 != 6 then true else r12.1.1 != (-1)), 106, [32], Unit, fun _ => .int .i64 (r12.1.2.1), fun _ => [], [], [], []⟩, ⟨!(bif bif bif bif bif bif bif r12.2 != 0 then true else r17.2 != 0 then true else r21.2 != 0 then true else r29.2.2 != 0 then true else r36.2.2 != 0 then true else r25.2 != 8 then true else r49.2.2 != 6 then true else r12.1.1 != (-1)), 107, [33], Unit, fun _ => .bool (r12.1.2.1 != 4), fun _ => [], [], [], []⟩, ⟨true, 108, [31, 34], Unit, fun _ => .bool (bif bif bif bif bif bif bif bif r12.2 != 0 then true else r17.2 != 0 then true else r21.2 != 0 then true else r29.2.2 != 0 then true else r36.2.2 != 0 then true else r25.2 != 8 then true else r49.2.2 != 6 then true else r12.1.1 != (-1) then true else r12.1.2.1 != 4), fun _ => [], [], [], []⟩, ⟨true, 109, [35], Unit, fun _ => .bool (bif bif bif bif bif bif bif bif r12.2 != 0 then true else r17.2 != 0 then true else r21.2 != 0 then true else r29.2.2 != 0 then true else r36.2.2 != 0 then true else r25.2 != 8 then true else r49.2.2 != 6 then true else r12.1.1 != (-1) then true else r12.1.2.1 != 4), fun _ => [], [], [], []⟩, ⟨!(bif bif bif bif bif bif bif bif r12.2 != 0 then true else r17.2 != 0 then true else r21.2 != 0 then true else r29.2.2 != 0 then true else r36.2.2 != 0 then true else r25.2 != 8 then true else r49.2.2 != 6 then true else r12.1.1 != (-1) then true else r12.1.2.1 != 4), 110, [], Unit, fun _ => .pointer (some ⟨b20, 0, none⟩), fun _ => [], [], [], []⟩, ⟨!(bif bif bif bif bif bif bif bif r12.2 != 0 then true else r17.2 != 0 then true else r21.2 != 0 then true else r29.2.2 != 0 then true else r36.2.2 != 0 then true else r25.2 != 8 then true else r49.2.2 != 6 then true else r12.1.1 != (-1) then true else r12.1.2.1 != 4), 111, [37], Unit, fun _ => .int .i64 (r17.1.1), fun _ => [], [], [], []⟩, ⟨!(bif bif bif bif bif bif bif bif r12.2 != 0 then true else r17.2 != 0 then true else r21.2 != 0 then true else r29.2.2 != 0 then true else r36.2.2 != 0 then true else r25.2 != 8 then true else r49.2.2 != 6 then true else r12.1.1 != (-1) then true else r12.1.2.1 != 4), 112, [38], Unit, fun _ => .bool (r17.1.1 != 1), fun _ => [], [], [], []⟩, ⟨true, 113, [36, 39], Unit, fun _ => .bool (bif bif bif bif bif bif bif bif bif r12.2 != 0 then true else r17.2 != 0 then true else r21.2 != 0 then true else r29.2.2 != 0 then true else r36.2.2 != 0 then true else r25.2 != 8 then true else r49.2.2 != 6 then true else r12.1.1 != (-1) then true else r12.1.2.1 != 4 then true else r17.1.1 != 1), fun _ => [], [], [], []⟩, ⟨true, 114, [40], Unit, fun _ => .bool (bif bif bif bif bif bif bif bif bif r12.2 != 0 then true else r17.2 != 0 then true else r21.2 != 0 then true else r29.2.2 != 0 then true else r36.2.2 != 0 then true else r25.2 != 8 then true else r49.2.2 != 6 then true else r12.1.1 != (-1) then true else r12.1.2.1 != 4 then true else r17.1.1 != 1), fun _ => [], [], [], []⟩, ⟨!(bif bif bif bif bif bif bif bif bif r12.2 != 0 then true else r17.2 != 0 then true else r21.2 != 0 then true else r29.2.2 != 0 then true else r36.2.2 != 0 then true else r25.2 != 8 then true else r49.2.2 != 6 then true else r12.1.1 != (-1) then true else r12.1.2.1 != 4 then true else r17.1.1 != 1), 115, [], Unit, fun _ => .pointer (some ⟨b24, 1, none⟩), fun _ => [], [], [], []⟩, ⟨!(bif bif bif bif bif bif bif bif bif r12.2 != 0 then true else r17.2 != 0 then true else r21.2 != 0 then true else r29.2.2 != 0 then true else r36.2.2 != 0 then true else r25.2 != 8 then true else r49.2.2 != 6 then true else r12.1.1 != (-1) then true else r12.1.2.1 != 4 then true else r17.1.1 != 1), 116, [42], Unit, fun _ => .int .i64 (r21.1.2.1), fun _ => [], [], [], []⟩, ⟨!(bif bif bif bif bif bif bif bif bif r12.2 != 0 then true else r17.2 != 0 then true else r21.2 != 0 then true else r29.2.2 != 0 then true else r36.2.2 != 0 then true else r25.2 != 8 then true else r49.2.2 != 6 then true else r12.1.1 != (-1) then true else r12.1.2.1 != 4 then true else r17.1.1 != 1), 117, [43], Unit, fun _ => .bool (r21.1.2.1 != 2), fun _ => [], [], [], []⟩, ⟨true, 118, [41, 44], Unit, fun _ => .bool (bif bif bif bif bif bif bif bif bif bif r12.2 != 0 then true else r17.2 != 0 then true else r21.2 != 0 then true else r29.2.2 != 0 then true else r36.2.2 != 0 then true else r25.2 != 8 then true else r49.2.2 != 6 then true else r12.1.1 != (-1) then true else r12.1.2.1 != 4 then true else r17.1.1 != 1 then true else r21.1.2.1 != 2), fun _ => [], [], [], []⟩] [[], [0], [0, 1], [0, 1, 2], [0, 1, 2, 3], [0, 1, 2, 3, 4], [0, 1, 2, 3, 4, 5], [0, 1, 2, 3, 4, 5, 6], [0, 1, 2, 3, 4, 5, 6, 7], [0, 1, 2, 3, 4, 5, 6, 7, 8], [0, 1, 2, 3, 4, 5, 6, 7, 8, 9], [0, 1, 2, 3, 4, 5, 6, 7, 8, 9, 10], [0, 1, 2, 3, 4, 5, 6, 7, 8, 9, 10, 11], [0, 1, 2, 3, 4, 5, 6, 7, 8, 9, 10, 11, 12], [0, 1, 2, 3, 4, 5, 6, 7, 8, 9, 10, 11, 12, 13], [0, 1, 2, 3, 4, 5, 6, 7, 8, 9, 10, 11, 12, 13, 14], [0, 1, 2, 3, 4, 5, 6, 7, 8, 9, 10, 11, 12, 13, 14, 15], [0, 1, 2, 3, 4, 5, 6, 7, 8, 9, 10, 11, 12, 13, 14, 15, 16], [0, 1, 2, 3, 4, 5, 6, 7, 8, 9, 10, 11, 12, 13, 14, 15, 16, 17], [0, 1, 2, 3, 4, 5, 6, 7, 8, 9, 10, 11, 12, 13, 14, 15, 16, 17, 18], [0, 1, 2, 3, 4, 5, 6, 7, 8, 9, 10, 11, 12, 13, 14, 15, 16, 17, 18, 19], [0, 1, 2, 3, 4, 5, 6, 7, 8, 9, 10, 11, 12, 13, 14, 15, 16, 17, 18, 19, 20], [0, 1, 2, 3, 4, 5, 6, 7, 8, 9, 10, 11, 12, 13, 14, 15, 16, 17, 18, 19, 20, 21], [0, 1, 2, 3, 4, 5, 6, 7, 8, 9, 10, 11, 12, 13, 14, 15, 16, 17, 18, 19, 20, 21, 22], [0, 1, 2, 3, 4, 5, 6, 7, 8, 9, 10, 11, 12, 13, 14, 15, 16, 17, 18, 19, 20, 21, 22, 23], [0, 1, 2, 3, 4, 5, 6, 7, 8, 9, 10, 11, 12, 13, 14, 15, 16, 17, 18, 19, 20, 21, 22, 23, 24], [0, 1, 2, 3, 4, 5, 6, 7, 8, 9, 10, 11, 12, 13, 14, 15, 16, 17, 18, 19, 20, 21, 22, 23, 24, 25], [0, 1, 2, 3, 4, 5, 6, 7, 8, 9, 10, 11, 12, 13, 14, 15, 16, 17, 18, 19, 20, 21, 22, 23, 24, 25, 26], [0, 1, 2, 3, 4, 5, 6, 7, 8, 9, 10, 11, 12, 13, 14, 15, 16, 17, 18, 19, 20, 21, 22, 23, 24, 25, 26, 27], [0, 1, 2, 3, 4, 5, 6, 7, 8, 9, 10, 11, 12, 13, 14, 15, 16, 17, 18, 19, 20, 21, 22, 23, 24, 25, 26, 27, 28], [0, 1, 2, 3, 4, 5, 6, 7, 8, 9, 10, 11, 12, 13, 14, 15, 16, 17, 18, 19, 20, 21, 22, 23, 24, 25, 26, 27, 28, 29], [0, 1, 2, 3, 4, 5, 6, 7, 8, 9, 10, 11, 12, 13, 14, 15, 16, 17, 18, 19, 20, 21, 22, 23, 24, 25, 26, 27, 28, 29, 30], [0, 1, 2, 3, 4, 5, 6, 7, 8, 9, 10, 11, 12, 13, 14, 15, 16, 17, 18, 19, 20, 21, 22, 23, 24, 25, 26, 27, 28, 29, 30, 31], [0, 1, 2, 3, 4, 5, 6, 7, 8, 9, 10, 11, 12, 13, 14, 15, 16, 17, 18, 19, 20, 21, 22, 23, 24, 25, 26, 27, 28, 29, 30, 31, 32], [0, 1, 2, 3, 4, 5, 6, 7, 8, 9, 10, 11, 12, 13, 14, 15, 16, 17, 18, 19, 20, 21, 22, 23, 24, 25, 26, 27, 28, 29, 30, 31, 32, 33], [0, 1, 2, 3, 4, 5, 6, 7, 8, 9, 10, 11, 12, 13, 14, 15, 16, 17, 18, 19, 20, 21, 22, 23, 24, 25, 26, 27, 28, 29, 30, 31, 32, 33, 34], [0, 1, 2, 3, 4, 5, 6, 7, 8, 9, 10, 11, 12, 13, 14, 15, 16, 17, 18, 19, 20, 21, 22, 23, 24, 25, 26, 27, 28, 29, 30, 31, 32, 33, 34, 35], [0, 1, 2, 3, 4, 5, 6, 7, 8, 9, 10, 11, 12, 13, 14, 15, 16, 17, 18, 19, 20, 21, 22, 23, 24, 25, 26, 27, 28, 29, 30, 31, 32, 33, 34, 35, 36], [0, 1, 2, 3, 4, 5, 6, 7, 8, 9, 10, 11, 12, 13, 14, 15, 16, 17, 18, 19, 20, 21, 22, 23, 24, 25, 26, 27, 28, 29, 30, 31, 32, 33, 34, 35, 36, 37], [0, 1, 2, 3, 4, 5, 6, 7, 8, 9, 10, 11, 12, 13, 14, 15, 16, 17, 18, 19, 20, 21, 22, 23, 24, 25, 26, 27, 28, 29, 30, 31, 32, 33, 34, 35, 36, 37, 38], [0, 1, 2, 3, 4, 5, 6, 7, 8, 9, 10, 11, 12, 13, 14, 15, 16, 17, 18, 19, 20, 21, 22, 23, 24, 25, 26, 27, 28, 29, 30, 31, 32, 33, 34, 35, 36, 37, 38, 39], [0, 1, 2, 3, 4, 5, 6, 7, 8, 9, 10, 11, 12, 13, 14, 15, 16, 17, 18, 19, 20, 21, 22, 23, 24, 25, 26, 27, 28, 29, 30, 31, 32, 33, 34, 35, 36, 37, 38, 39, 40], [0, 1, 2, 3, 4, 5, 6, 7, 8, 9, 10, 11, 12, 13, 14, 15, 16, 17, 18, 19, 20, 21, 22, 23, 24, 25, 26, 27, 28, 29, 30, 31, 32, 33, 34, 35, 36, 37, 38, 39, 40, 41], [0, 1, 2, 3, 4, 5, 6, 7, 8, 9, 10, 11, 12, 13, 14, 15, 16, 17, 18, 19, 20, 21, 22, 23, 24, 25, 26, 27, 28, 29, 30, 31, 32, 33, 34, 35, 36, 37, 38, 39, 40, 41, 42], [0, 1, 2, 3, 4, 5, 6, 7, 8, 9, 10, 11, 12, 13, 14, 15, 16, 17, 18, 19, 20, 21, 22, 23, 24, 25, 26, 27, 28, 29, 30, 31, 32, 33, 34, 35, 36, 37, 38, 39, 40, 41, 42, 43], [0, 1, 2, 3, 4, 5, 6, 7, 8, 9, 10, 11, 12, 13, 14, 15, 16, 17, 18, 19, 20, 21, 22, 23, 24, 25, 26, 27, 28, 29, 30, 31, 32, 33, 34, 35, 36, 37, 38, 39, 40, 41, 42, 43, 44]] rfl rfl rfl rfl rfl ⟨.inl rfl, .inl rfl, .inl rfl, .inl rfl, .inl rfl, .inl rfl, .inl rfl, .inl rfl, .inl rfl, .inl rfl, .inl rfl, .inl rfl, .inl rfl, .inl rfl, .inl rfl, .inl rfl, .inl rfl, .inl rfl, .inl rfl, .inl rfl, .inl rfl, .inl rfl, .inl rfl, .inl rfl, .inl rfl, .inl rfl, .inl rfl, .inl rfl, .inl rfl, .inl rfl, .inl rfl, .inl rfl, .inl rfl, .inl rfl, .inl rfl, .inl rfl, .inl rfl, .inl rfl, .inl rfl, .inl rfl, .inl rfl, .inl rfl, .inl rfl, .inl rfl, .inl rfl, .inl rfl, trivial⟩ ?_ [45] rfl rfl (fun us => ?_)
   ·
    refine all_cons _ (base_nil rfl) (dst_some rfl rfl) rfl rfl rfl rfl (gd_none rfl rfl) (fun _ => ?_) ?_
    ·
     refine ob_nil rfl ?_
     exact PureOk.op (p_move (v := .int .i64 (r12.2)) rfl rfl)
    refine all_cons _ (base_nil rfl) (dst_some rfl rfl) rfl rfl rfl rfl (gd_none rfl rfl) (fun _ => ?_) ?_
    ·
     refine ob_one rfl rfl (fun _ => ?_)
     refine ob_nil rfl ?_
     exact PureOk.op (p_neq rfl rfl rfl)
    refine all_cons _ (base_nil rfl) (dst_some rfl rfl) rfl rfl rfl rfl (gd_none rfl rfl) (fun _ => ?_) ?_
    ·
     refine ob_one rfl rfl (fun _ => ?_)
     refine ob_nil rfl ?_
     exact PureOk.op (p_move (v := .bool (r12.2 != 0)) rfl rfl)
    refine all_cons _ (base_nil rfl) (dst_some rfl rfl) rfl rfl rfl rfl (gd_some (e := ⟨true, 75, [1], Unit, fun _ => .bool (r12.2 != 0), fun _ => [], [], [], []⟩) (r12.2 != 0) rfl rfl rfl rfl (fun _ => rfl) (gd_f _)) (fun hx55 => ?_) ?_
    ·
     replace hx55 : (!(r12.2 != 0)) = true := hx55
     refine ob_nil rfl ?_
     exact PureOk.op (p_move (v := .int .i64 (r17.2)) rfl rfl)
    refine all_cons _ (base_nil rfl) (dst_some rfl rfl) rfl rfl rfl rfl (gd_some (e := ⟨true, 75, [1], Unit, fun _ => .bool (r12.2 != 0), fun _ => [], [], [], []⟩) (r12.2 != 0) rfl rfl rfl rfl (fun _ => rfl) (gd_f _)) (fun hx56 => ?_) ?_
    ·
     replace hx56 : (!(r12.2 != 0)) = true := hx56
     refine ob_two rfl (fun _ _ => ?_) (fun hn => clash hx56 hn)
     refine ob_nil rfl ?_
     exact PureOk.op (p_neq rfl rfl rfl)
    refine all_cons _ (base_nil rfl) (dst_some rfl rfl) rfl rfl rfl rfl (gd_none rfl rfl) (fun _ => ?_) ?_
    ·
     refine ob_one rfl rfl (fun _ => ?_)
     refine ob_two rfl (fun hq58 _ => ?_) (fun hq58 => ?_)
     rotate_left
     ·
      replace hq58 : (!(r12.2 != 0)) = false := hq58
      refine ob_nil rfl ?_
      exact PureOk.op (p_pick (b := r12.2 != 0) (p := true) (q := r17.2 != 0) rfl rfl (fun _ => rfl) (fun hb => by first | (rw [hb] at hq58; cases hq58; done) | exact absurd hq58 (by rw [hb]; simp) | (simp_all; done)))
     refine ob_nil rfl ?_
     exact PureOk.op (p_pick (b := r12.2 != 0) (p := true) (q := r17.2 != 0) rfl rfl (fun _ => rfl) (fun _ => rfl))
    refine all_cons _ (base_nil rfl) (dst_some rfl rfl) rfl rfl rfl rfl (gd_none rfl rfl) (fun _ => ?_) ?_
    ·
     refine ob_one rfl rfl (fun _ => ?_)
     refine ob_nil rfl ?_
     exact PureOk.op (p_move (v := .bool (bif r12.2 != 0 then true else r17.2 != 0)) rfl rfl)
    refine all_cons _ (base_nil rfl) (dst_some rfl rfl) rfl rfl rfl rfl (gd_some (e := ⟨true, 79, [5], Unit, fun _ => .bool (bif r12.2 != 0 then true else r17.2 != 0), fun _ => [], [], [], []⟩) (bif r12.2 != 0 then true else r17.2 != 0) rfl rfl rfl rfl (fun _ => rfl) (gd_f _)) (fun hx60 => ?_) ?_
    ·
     replace hx60 : (!(bif r12.2 != 0 then true else r17.2 != 0)) = true := hx60
     refine ob_nil rfl ?_
     exact PureOk.op (p_move (v := .int .i64 (r21.2)) rfl rfl)
    refine all_cons _ (base_nil rfl) (dst_some rfl rfl) rfl rfl rfl rfl (gd_some (e := ⟨true, 79, [5], Unit, fun _ => .bool (bif r12.2 != 0 then true else r17.2 != 0), fun _ => [], [], [], []⟩) (bif r12.2 != 0 then true else r17.2 != 0) rfl rfl rfl rfl (fun _ => rfl) (gd_f _)) (fun hx61 => ?_) ?_
    ·
     replace hx61 : (!(bif r12.2 != 0 then true else r17.2 != 0)) = true := hx61
     refine ob_two rfl (fun _ _ => ?_) (fun hn => clash hx61 hn)
     refine ob_nil rfl ?_
     exact PureOk.op (p_neq rfl rfl rfl)
    refine all_cons _ (base_nil rfl) (dst_some rfl rfl) rfl rfl rfl rfl (gd_none rfl rfl) (fun _ => ?_) ?_
    ·
     refine ob_one rfl rfl (fun _ => ?_)
     refine ob_two rfl (fun hq63 _ => ?_) (fun hq63 => ?_)
     rotate_left
     ·
      replace hq63 : (!(bif r12.2 != 0 then true else r17.2 != 0)) = false := hq63
      refine ob_nil rfl ?_
      exact PureOk.op (p_pick (b := bif r12.2 != 0 then true else r17.2 != 0) (p := true) (q := r21.2 != 0) rfl rfl (fun _ => rfl) (fun hb => by first | (rw [hb] at hq63; cases hq63; done) | exact absurd hq63 (by rw [hb]; simp) | (simp_all; done)))
     refine ob_nil rfl ?_
     exact PureOk.op (p_pick (b := bif r12.2 != 0 then true else r17.2 != 0) (p := true) (q := r21.2 != 0) rfl rfl (fun _ => rfl) (fun _ => rfl))
    refine all_cons _ (base_nil rfl) (dst_some rfl rfl) rfl rfl rfl rfl (gd_none rfl rfl) (fun _ => ?_) ?_
    ·
     refine ob_one rfl rfl (fun _ => ?_)
     refine ob_nil rfl ?_
     exact PureOk.op (p_move (v := .bool (bif bif r12.2 != 0 then true else r17.2 != 0 then true else r21.2 != 0)) rfl rfl)
    refine all_cons _ (base_nil rfl) (dst_some rfl rfl) rfl rfl rfl rfl (gd_some (e := ⟨true, 83, [9], Unit, fun _ => .bool (bif bif r12.2 != 0 then true else r17.2 != 0 then true else r21.2 != 0), fun _ => [], [], [], []⟩) (bif bif r12.2 != 0 then true else r17.2 != 0 then true else r21.2 != 0) rfl rfl rfl rfl (fun _ => rfl) (gd_f _)) (fun hx65 => ?_) ?_
    ·
     replace hx65 : (!(bif bif r12.2 != 0 then true else r17.2 != 0 then true else r21.2 != 0)) = true := hx65
     refine ob_nil rfl ?_
     exact PureOk.op (p_move (v := .int .i64 (r29.2.2)) rfl rfl)
    refine all_cons _ (base_nil rfl) (dst_some rfl rfl) rfl rfl rfl rfl (gd_some (e := ⟨true, 83, [9], Unit, fun _ => .bool (bif bif r12.2 != 0 then true else r17.2 != 0 then true else r21.2 != 0), fun _ => [], [], [], []⟩) (bif bif r12.2 != 0 then true else r17.2 != 0 then true else r21.2 != 0) rfl rfl rfl rfl (fun _ => rfl) (gd_f _)) (fun hx66 => ?_) ?_
    ·
     replace hx66 : (!(bif bif r12.2 != 0 then true else r17.2 != 0 then true else r21.2 != 0)) = true := hx66
     refine ob_two rfl (fun _ _ => ?_) (fun hn => clash hx66 hn)
     refine ob_nil rfl ?_
     exact PureOk.op (p_neq rfl rfl rfl)
    refine all_cons _ (base_nil rfl) (dst_some rfl rfl) rfl rfl rfl rfl (gd_none rfl rfl) (fun _ => ?_) ?_
    ·
     refine ob_one rfl rfl (fun _ => ?_)
     refine ob_two rfl (fun hq68 _ => ?_) (fun hq68 => ?_)
     rotate_left
     ·
      replace hq68 : (!(bif bif r12.2 != 0 then true else r17.2 != 0 then true else r21.2 != 0)) = false := hq68
      refine ob_nil rfl ?_
      exact PureOk.op (p_pick (b := bif bif r12.2 != 0 then true else r17.2 != 0 then true else r21.2 != 0) (p := true) (q := r29.2.2 != 0) rfl rfl (fun _ => rfl) (fun hb => by first | (rw [hb] at hq68; cases hq68; done) | exact absurd hq68 (by rw [hb]; simp) | (simp_all; done)))
     refine ob_nil rfl ?_
     exact PureOk.op (p_pick (b := bif bif r12.2 != 0 then true else r17.2 != 0 then true else r21.2 != 0) (p := true) (q := r29.2.2 != 0) rfl rfl (fun _ => rfl) (fun _ => rfl))
    refine all_cons _ (base_nil rfl) (dst_some rfl rfl) rfl rfl rfl rfl (gd_none rfl rfl) (fun _ => ?_) ?_
    ·
     refine ob_one rfl rfl (fun _ => ?_)
     refine ob_nil rfl ?_
     exact PureOk.op (p_move (v := .bool (bif bif bif r12.2 != 0 then true else r17.2 != 0 then true else r21.2 != 0 then true else r29.2.2 != 0)) rfl rfl)
    refine all_cons _ (base_nil rfl) (dst_some rfl rfl) rfl rfl rfl rfl (gd_some (e := ⟨true, 87, [13], Unit, fun _ => .bool (bif bif bif r12.2 != 0 then true else r17.2 != 0 then true else r21.2 != 0 then true else r29.2.2 != 0), fun _ => [], [], [], []⟩) (bif bif bif r12.2 != 0 then true else r17.2 != 0 then true else r21.2 != 0 then true else r29.2.2 != 0) rfl rfl rfl rfl (fun _ => rfl) (gd_f _)) (fun hx70 => ?_) ?_
    ·
     replace hx70 : (!(bif bif bif r12.2 != 0 then true else r17.2 != 0 then true else r21.2 != 0 then true else r29.2.2 != 0)) = true := hx70
     refine ob_nil rfl ?_
     exact PureOk.op (p_move (v := .int .i64 (r36.2.2)) rfl rfl)
    refine all_cons _ (base_nil rfl) (dst_some rfl rfl) rfl rfl rfl rfl (gd_some (e := ⟨true, 87, [13], Unit, fun _ => .bool (bif bif bif r12.2 != 0 then true else r17.2 != 0 then true else r21.2 != 0 then true else r29.2.2 != 0), fun _ => [], [], [], []⟩) (bif bif bif r12.2 != 0 then true else r17.2 != 0 then true else r21.2 != 0 then true else r29.2.2 != 0) rfl rfl rfl rfl (fun _ => rfl) (gd_f _)) (fun hx71 => ?_) ?_
    ·
     replace hx71 : (!(bif bif bif r12.2 != 0 then true else r17.2 != 0 then true else r21.2 != 0 then true else r29.2.2 != 0)) = true := hx71
     refine ob_two rfl (fun _ _ => ?_) (fun hn => clash hx71 hn)
     refine ob_nil rfl ?_
     exact PureOk.op (p_neq rfl rfl rfl)
    refine all_cons _ (base_nil rfl) (dst_some rfl rfl) rfl rfl rfl rfl (gd_none rfl rfl) (fun _ => ?_) ?_
    ·
     refine ob_one rfl rfl (fun _ => ?_)
     refine ob_two rfl (fun hq73 _ => ?_) (fun hq73 => ?_)
     rotate_left
     ·
      replace hq73 : (!(bif bif bif r12.2 != 0 then true else r17.2 != 0 then true else r21.2 != 0 then true else r29.2.2 != 0)) = false := hq73
      refine ob_nil rfl ?_
      exact PureOk.op (p_pick (b := bif bif bif r12.2 != 0 then true else r17.2 != 0 then true else r21.2 != 0 then true else r29.2.2 != 0) (p := true) (q := r36.2.2 != 0) rfl rfl (fun _ => rfl) (fun hb => by first | (rw [hb] at hq73; cases hq73; done) | exact absurd hq73 (by rw [hb]; simp) | (simp_all; done)))
     refine ob_nil rfl ?_
     exact PureOk.op (p_pick (b := bif bif bif r12.2 != 0 then true else r17.2 != 0 then true else r21.2 != 0 then true else r29.2.2 != 0) (p := true) (q := r36.2.2 != 0) rfl rfl (fun _ => rfl) (fun _ => rfl))
    refine all_cons _ (base_nil rfl) (dst_some rfl rfl) rfl rfl rfl rfl (gd_none rfl rfl) (fun _ => ?_) ?_
    ·
     refine ob_one rfl rfl (fun _ => ?_)
     refine ob_nil rfl ?_
     exact PureOk.op (p_move (v := .bool (bif bif bif bif r12.2 != 0 then true else r17.2 != 0 then true else r21.2 != 0 then true else r29.2.2 != 0 then true else r36.2.2 != 0)) rfl rfl)
    refine all_cons _ (base_nil rfl) (dst_some rfl rfl) rfl rfl rfl rfl (gd_some (e := ⟨true, 91, [17], Unit, fun _ => .bool (bif bif bif bif r12.2 != 0 then true else r17.2 != 0 then true else r21.2 != 0 then true else r29.2.2 != 0 then true else r36.2.2 != 0), fun _ => [], [], [], []⟩) (bif bif bif bif r12.2 != 0 then true else r17.2 != 0 then true else r21.2 != 0 then true else r29.2.2 != 0 then true else r36.2.2 != 0) rfl rfl rfl rfl (fun _ => rfl) (gd_f _)) (fun hx75 => ?_) ?_
    ·
     replace hx75 : (!(bif bif bif bif r12.2 != 0 then true else r17.2 != 0 then true else r21.2 != 0 then true else r29.2.2 != 0 then true else r36.2.2 != 0)) = true := hx75
     refine ob_nil rfl ?_
     exact PureOk.op (p_move (v := .int .i64 (r25.2)) rfl rfl)
    refine all_cons _ (base_nil rfl) (dst_some rfl rfl) rfl rfl rfl rfl (gd_some (e := ⟨true, 91, [17], Unit, fun _ => .bool (bif bif bif bif r12.2 != 0 then true else r17.2 != 0 then true else r21.2 != 0 then true else r29.2.2 != 0 then true else r36.2.2 != 0), fun _ => [], [], [], []⟩) (bif bif bif bif r12.2 != 0 then true else r17.2 != 0 then true else r21.2 != 0 then true else r29.2.2 != 0 then true else r36.2.2 != 0) rfl rfl rfl rfl (fun _ => rfl) (gd_f _)) (fun hx76 => ?_) ?_
    ·
     replace hx76 : (!(bif bif bif bif r12.2 != 0 then true else r17.2 != 0 then true else r21.2 != 0 then true else r29.2.2 != 0 then true else r36.2.2 != 0)) = true := hx76
     refine ob_two rfl (fun _ _ => ?_) (fun hn => clash hx76 hn)
     refine ob_nil rfl ?_
     exact PureOk.op (p_neq rfl rfl rfl)
    refine all_cons _ (base_nil rfl) (dst_some rfl rfl) rfl rfl rfl rfl (gd_none rfl rfl) (fun _ => ?_) ?_
    ·
     refine ob_one rfl rfl (fun _ => ?_)
     refine ob_two rfl (fun hq78 _ => ?_) (fun hq78 => ?_)
     rotate_left
     ·
      replace hq78 : (!(bif bif bif bif r12.2 != 0 then true else r17.2 != 0 then true else r21.2 != 0 then true else r29.2.2 != 0 then true else r36.2.2 != 0)) = false := hq78
      refine ob_nil rfl ?_
      exact PureOk.op (p_pick (b := bif bif bif bif r12.2 != 0 then true else r17.2 != 0 then true else r21.2 != 0 then true else r29.2.2 != 0 then true else r36.2.2 != 0) (p := true) (q := r25.2 != 8) rfl rfl (fun _ => rfl) (fun hb => by first | (rw [hb] at hq78; cases hq78; done) | exact absurd hq78 (by rw [hb]; simp) | (simp_all; done)))
     refine ob_nil rfl ?_
     exact PureOk.op (p_pick (b := bif bif bif bif r12.2 != 0 then true else r17.2 != 0 then true else r21.2 != 0 then true else r29.2.2 != 0 then true else r36.2.2 != 0) (p := true) (q := r25.2 != 8) rfl rfl (fun _ => rfl) (fun _ => rfl))
    refine all_cons _ (base_nil rfl) (dst_some rfl rfl) rfl rfl rfl rfl (gd_none rfl rfl) (fun _ => ?_) ?_
    ·
     refine ob_one rfl rfl (fun _ => ?_)
     refine ob_nil rfl ?_
     exact PureOk.op (p_move (v := .bool (bif bif bif bif bif r12.2 != 0 then true else r17.2 != 0 then true else r21.2 != 0 then true else r29.2.2 != 0 then true else r36.2.2 != 0 then true else r25.2 != 8)) rfl rfl)
    refine all_cons _ (base_nil rfl) (dst_some rfl rfl) rfl rfl rfl rfl (gd_some (e := ⟨true, 95, [21], Unit, fun _ => .bool (bif bif bif bif bif r12.2 != 0 then true else r17.2 != 0 then true else r21.2 != 0 then true else r29.2.2 != 0 then true else r36.2.2 != 0 then true else r25.2 != 8), fun _ => [], [], [], []⟩) (bif bif bif bif bif r12.2 != 0 then true else r17.2 != 0 then true else r21.2 != 0 then true else r29.2.2 != 0 then true else r36.2.2 != 0 then true else r25.2 != 8) rfl rfl rfl rfl (fun _ => rfl) (gd_f _)) (fun hx80 => ?_) ?_
    ·
     replace hx80 : (!(bif bif bif bif bif r12.2 != 0 then true else r17.2 != 0 then true else r21.2 != 0 then true else r29.2.2 != 0 then true else r36.2.2 != 0 then true else r25.2 != 8)) = true := hx80
     refine ob_nil rfl ?_
     exact PureOk.op (p_move (v := .int .i64 (r49.2.2)) rfl rfl)
    refine all_cons _ (base_nil rfl) (dst_some rfl rfl) rfl rfl rfl rfl (gd_some (e := ⟨true, 95, [21], Unit, fun _ => .bool (bif bif bif bif bif r12.2 != 0 then true else r17.2 != 0 then true else r21.2 != 0 then true else r29.2.2 != 0 then true else r36.2.2 != 0 then true else r25.2 != 8), fun _ => [], [], [], []⟩) (bif bif bif bif bif r12.2 != 0 then true else r17.2 != 0 then true else r21.2 != 0 then true else r29.2.2 != 0 then true else r36.2.2 != 0 then true else r25.2 != 8) rfl rfl rfl rfl (fun _ => rfl) (gd_f _)) (fun hx81 => ?_) ?_
    ·
     replace hx81 : (!(bif bif bif bif bif r12.2 != 0 then true else r17.2 != 0 then true else r21.2 != 0 then true else r29.2.2 != 0 then true else r36.2.2 != 0 then true else r25.2 != 8)) = true := hx81
     refine ob_two rfl (fun _ _ => ?_) (fun hn => clash hx81 hn)
     refine ob_nil rfl ?_
     exact PureOk.op (p_neq rfl rfl rfl)
    refine all_cons _ (base_nil rfl) (dst_some rfl rfl) rfl rfl rfl rfl (gd_none rfl rfl) (fun _ => ?_) ?_
    ·
     refine ob_one rfl rfl (fun _ => ?_)
     refine ob_two rfl (fun hq83 _ => ?_) (fun hq83 => ?_)
     rotate_left
     ·
      replace hq83 : (!(bif bif bif bif bif r12.2 != 0 then true else r17.2 != 0 then true else r21.2 != 0 then true else r29.2.2 != 0 then true else r36.2.2 != 0 then true else r25.2 != 8)) = false := hq83
      refine ob_nil rfl ?_
      exact PureOk.op (p_pick (b := bif bif bif bif bif r12.2 != 0 then true else r17.2 != 0 then true else r21.2 != 0 then true else r29.2.2 != 0 then true else r36.2.2 != 0 then true else r25.2 != 8) (p := true) (q := r49.2.2 != 6) rfl rfl (fun _ => rfl) (fun hb => by first | (rw [hb] at hq83; cases hq83; done) | exact absurd hq83 (by rw [hb]; simp) | (simp_all; done)))
     refine ob_nil rfl ?_
     exact PureOk.op (p_pick (b := bif bif bif bif bif r12.2 != 0 then true else r17.2 != 0 then true else r21.2 != 0 then true else r29.2.2 != 0 then true else r36.2.2 != 0 then true else r25.2 != 8) (p := true) (q := r49.2.2 != 6) rfl rfl (fun _ => rfl) (fun _ => rfl))
    refine all_cons _ (base_nil rfl) (dst_some rfl rfl) rfl rfl rfl rfl (gd_none rfl rfl) (fun _ => ?_) ?_
    ·
     refine ob_one rfl rfl (fun _ => ?_)
     refine ob_nil rfl ?_
     exact PureOk.op (p_move (v := .bool (bif bif bif bif bif bif r12.2 != 0 then true else r17.2 != 0 then true else r21.2 != 0 then true else r29.2.2 != 0 then true else r36.2.2 != 0 then true else r25.2 != 8 then true else r49.2.2 != 6)) rfl rfl)
    refine all_cons _ (base_nil rfl) (dst_some rfl rfl) rfl rfl rfl rfl (gd_some (e := ⟨true, 99, [25], Unit, fun _ => .bool (bif bif bif bif bif bif r12.2 != 0 then true else r17.2 != 0 then true else r21.2 != 0 then true else r29.2.2 != 0 then true else r36.2.2 != 0 then true else r25.2 != 8 then true else r49.2.2 != 6), fun _ => [], [], [], []⟩) (bif bif bif bif bif bif r12.2 != 0 then true else r17.2 != 0 then true else r21.2 != 0 then true else r29.2.2 != 0 then true else r36.2.2 != 0 then true else r25.2 != 8 then true else r49.2.2 != 6) rfl rfl rfl rfl (fun _ => rfl) (gd_f _)) (fun hx85 => ?_) ?_
    ·
     replace hx85 : (!(bif bif bif bif bif bif r12.2 != 0 then true else r17.2 != 0 then true else r21.2 != 0 then true else r29.2.2 != 0 then true else r36.2.2 != 0 then true else r25.2 != 8 then true else r49.2.2 != 6)) = true := hx85
     refine ob_nil rfl ?_
     exact PureOk.op (p_fieldAddr (fo := 0) rfl Try.underlying33 rfl Try.ti3 rfl rfl rfl)
    refine all_cons _ (base_nil rfl) (dst_some rfl rfl) rfl rfl rfl rfl (gd_some (e := ⟨true, 99, [25], Unit, fun _ => .bool (bif bif bif bif bif bif r12.2 != 0 then true else r17.2 != 0 then true else r21.2 != 0 then true else r29.2.2 != 0 then true else r36.2.2 != 0 then true else r25.2 != 8 then true else r49.2.2 != 6), fun _ => [], [], [], []⟩) (bif bif bif bif bif bif r12.2 != 0 then true else r17.2 != 0 then true else r21.2 != 0 then true else r29.2.2 != 0 then true else r36.2.2 != 0 then true else r25.2 != 8 then true else r49.2.2 != 6) rfl rfl rfl rfl (fun _ => rfl) (gd_f _)) (fun hx86 => ?_) ?_
    ·
     replace hx86 : (!(bif bif bif bif bif bif r12.2 != 0 then true else r17.2 != 0 then true else r21.2 != 0 then true else r29.2.2 != 0 then true else r36.2.2 != 0 then true else r25.2 != 8 then true else r49.2.2 != 6)) = true := hx86
     refine ob_two rfl (fun _ _ => ?_) (fun hn => clash hx86 hn)
     refine ob_nil rfl ?_
     exact PureOk.op (p_load_box (v := .int .i64 (r12.1.1)) 6 rfl rfl Try.underlying3 rfl rfl rfl)
    refine all_cons _ (base_nil rfl) (dst_some rfl rfl) rfl rfl rfl rfl (gd_some (e := ⟨true, 99, [25], Unit, fun _ => .bool (bif bif bif bif bif bif r12.2 != 0 then true else r17.2 != 0 then true else r21.2 != 0 then true else r29.2.2 != 0 then true else r36.2.2 != 0 then true else r25.2 != 8 then true else r49.2.2 != 6), fun _ => [], [], [], []⟩) (bif bif bif bif bif bif r12.2 != 0 then true else r17.2 != 0 then true else r21.2 != 0 then true else r29.2.2 != 0 then true else r36.2.2 != 0 then true else r25.2 != 8 then true else r49.2.2 != 6) rfl rfl rfl rfl (fun _ => rfl) (gd_f _)) (fun hx87 => ?_) ?_
    ·
     replace hx87 : (!(bif bif bif bif bif bif r12.2 != 0 then true else r17.2 != 0 then true else r21.2 != 0 then true else r29.2.2 != 0 then true else r36.2.2 != 0 then true else r25.2 != 8 then true else r49.2.2 != 6)) = true := hx87
     refine ob_two rfl (fun _ _ => ?_) (fun hn => clash hx87 hn)
     refine ob_nil rfl ?_
     exact PureOk.op (p_neq rfl rfl rfl)
    refine all_cons _ (base_nil rfl) (dst_some rfl rfl) rfl rfl rfl rfl (gd_none rfl rfl) (fun _ => ?_) ?_
    ·
     refine ob_one rfl rfl (fun _ => ?_)
     refine ob_two rfl (fun hq89 _ => ?_) (fun hq89 => ?_)
     rotate_left
     ·
      replace hq89 : (!(bif bif bif bif bif bif r12.2 != 0 then true else r17.2 != 0 then true else r21.2 != 0 then true else r29.2.2 != 0 then true else r36.2.2 != 0 then true else r25.2 != 8 then true else r49.2.2 != 6)) = false := hq89
      refine ob_nil rfl ?_
      exact PureOk.op (p_pick (b := bif bif bif bif bif bif r12.2 != 0 then true else r17.2 != 0 then true else r21.2 != 0 then true else r29.2.2 != 0 then true else r36.2.2 != 0 then true else r25.2 != 8 then true else r49.2.2 != 6) (p := true) (q := r12.1.1 != (-1)) rfl rfl (fun _ => rfl) (fun hb => by first | (rw [hb] at hq89; cases hq89; done) | exact absurd hq89 (by rw [hb]; simp) | (simp_all; done)))
     refine ob_nil rfl ?_
     exact PureOk.op (p_pick (b := bif bif bif bif bif bif r12.2 != 0 then true else r17.2 != 0 then true else r21.2 != 0 then true else r29.2.2 != 0 then true else r36.2.2 != 0 then true else r25.2 != 8 then true else r49.2.2 != 6) (p := true) (q := r12.1.1 != (-1)) rfl rfl (fun _ => rfl) (fun _ => rfl))
    refine all_cons _ (base_nil rfl) (dst_some rfl rfl) rfl rfl rfl rfl (gd_none rfl rfl) (fun _ => ?_) ?_
    ·
     refine ob_one rfl rfl (fun _ => ?_)
     refine ob_nil rfl ?_
     exact PureOk.op (p_move (v := .bool (bif bif bif bif bif bif bif r12.2 != 0 then true else r17.2 != 0 then true else r21.2 != 0 then true else r29.2.2 != 0 then true else r36.2.2 != 0 then true else r25.2 != 8 then true else r49.2.2 != 6 then true else r12.1.1 != (-1))) rfl rfl)
    refine all_cons _ (base_nil rfl) (dst_some rfl rfl) rfl rfl rfl rfl (gd_some (e := ⟨true, 104, [30], Unit, fun _ => .bool (bif bif bif bif bif bif bif r12.2 != 0 then true else r17.2 != 0 then true else r21.2 != 0 then true else r29.2.2 != 0 then true else r36.2.2 != 0 then true else r25.2 != 8 then true else r49.2.2 != 6 then true else r12.1.1 != (-1)), fun _ => [], [], [], []⟩) (bif bif bif bif bif bif bif r12.2 != 0 then true else r17.2 != 0 then true else r21.2 != 0 then true else r29.2.2 != 0 then true else r36.2.2 != 0 then true else r25.2 != 8 then true else r49.2.2 != 6 then true else r12.1.1 != (-1)) rfl rfl rfl rfl (fun _ => rfl) (gd_f _)) (fun hx91 => ?_) ?_
    ·
     replace hx91 : (!(bif bif bif bif bif bif bif r12.2 != 0 then true else r17.2 != 0 then true else r21.2 != 0 then true else r29.2.2 != 0 then true else r36.2.2 != 0 then true else r25.2 != 8 then true else r49.2.2 != 6 then true else r12.1.1 != (-1))) = true := hx91
     refine ob_nil rfl ?_
     exact PureOk.op (p_fieldAddr (fo := 1) rfl Try.underlying33 rfl Try.ti3 rfl rfl rfl)
    refine all_cons _ (base_nil rfl) (dst_some rfl rfl) rfl rfl rfl rfl (gd_some (e := ⟨true, 104, [30], Unit, fun _ => .bool (bif bif bif bif bif bif bif r12.2 != 0 then true else r17.2 != 0 then true else r21.2 != 0 then true else r29.2.2 != 0 then true else r36.2.2 != 0 then true else r25.2 != 8 then true else r49.2.2 != 6 then true else r12.1.1 != (-1)), fun _ => [], [], [], []⟩) (bif bif bif bif bif bif bif r12.2 != 0 then true else r17.2 != 0 then true else r21.2 != 0 then true else r29.2.2 != 0 then true else r36.2.2 != 0 then true else r25.2 != 8 then true else r49.2.2 != 6 then true else r12.1.1 != (-1)) rfl rfl rfl rfl (fun _ => rfl) (gd_f _)) (fun hx92 => ?_) ?_
    ·
     replace hx92 : (!(bif bif bif bif bif bif bif r12.2 != 0 then true else r17.2 != 0 then true else r21.2 != 0 then true else r29.2.2 != 0 then true else r36.2.2 != 0 then true else r25.2 != 8 then true else r49.2.2 != 6 then true else r12.1.1 != (-1))) = true := hx92
     refine ob_two rfl (fun _ _ => ?_) (fun hn => clash hx92 hn)
     refine ob_nil rfl ?_
     exact PureOk.op (p_load_box (v := .int .i64 (r12.1.2.1)) 6 rfl rfl Try.underlying3 rfl rfl rfl)
    refine all_cons _ (base_nil rfl) (dst_some rfl rfl) rfl rfl rfl rfl (gd_some (e := ⟨true, 104, [30], Unit, fun _ => .bool (bif bif bif bif bif bif bif r12.2 != 0 then true else r17.2 != 0 then true else r21.2 != 0 then true else r29.2.2 != 0 then true else r36.2.2 != 0 then true else r25.2 != 8 then true else r49.2.2 != 6 then true else r12.1.1 != (-1)), fun _ => [], [], [], []⟩) (bif bif bif bif bif bif bif r12.2 != 0 then true else r17.2 != 0 then true else r21.2 != 0 then true else r29.2.2 != 0 then true else r36.2.2 != 0 then true else r25.2 != 8 then true else r49.2.2 != 6 then true else r12.1.1 != (-1)) rfl rfl rfl rfl (fun _ => rfl) (gd_f _)) (fun hx93 => ?_) ?_
    ·
     replace hx93 : (!(bif bif bif bif bif bif bif r12.2 != 0 then true else r17.2 != 0 then true else r21.2 != 0 then true else r29.2.2 != 0 then true else r36.2.2 != 0 then true else r25.2 != 8 then true else r49.2.2 != 6 then true else r12.1.1 != (-1))) = true := hx93
     refine ob_two rfl (fun _ _ => ?_) (fun hn => clash hx93 hn)
     refine ob_nil rfl ?_
     exact PureOk.op (p_neq rfl rfl rfl)
    refine all_cons _ (base_nil rfl) (dst_some rfl rfl) rfl rfl rfl rfl (gd_none rfl rfl) (fun _ => ?_) ?_
    ·
     refine ob_one rfl rfl (fun _ => ?_)
     refine ob_two rfl (fun hq95 _ => ?_) (fun hq95 => ?_)
     rotate_left
     ·
      replace hq95 : (!(bif bif bif bif bif bif bif r12.2 != 0 then true else r17.2 != 0 then true else r21.2 != 0 then true else r29.2.2 != 0 then true else r36.2.2 != 0 then true else r25.2 != 8 then true else r49.2.2 != 6 then true else r12.1.1 != (-1))) = false := hq95
      refine ob_nil rfl ?_
      exact PureOk.op (p_pick (b := bif bif bif bif bif bif bif r12.2 != 0 then true else r17.2 != 0 then true else r21.2 != 0 then true else r29.2.2 != 0 then true else r36.2.2 != 0 then true else r25.2 != 8 then true else r49.2.2 != 6 then true else r12.1.1 != (-1)) (p := true) (q := r12.1.2.1 != 4) rfl rfl (fun _ => rfl) (fun hb => by first | (rw [hb] at hq95; cases hq95; done) | exact absurd hq95 (by rw [hb]; simp) | (simp_all; done)))
     refine ob_nil rfl ?_
     exact PureOk.op (p_pick (b := bif bif bif bif bif bif bif r12.2 != 0 then true else r17.2 != 0 then true else r21.2 != 0 then true else r29.2.2 != 0 then true else r36.2.2 != 0 then true else r25.2 != 8 then true else r49.2.2 != 6 then true else r12.1.1 != (-1)) (p := true) (q := r12.1.2.1 != 4) rfl rfl (fun _ => rfl) (fun _ => rfl))
    refine all_cons _ (base_nil rfl) (dst_some rfl rfl) rfl rfl rfl rfl (gd_none rfl rfl) (fun _ => ?_) ?_
    ·
     refine ob_one rfl rfl (fun _ => ?_)
     refine ob_nil rfl ?_
     exact PureOk.op (p_move (v := .bool (bif bif bif bif bif bif bif bif r12.2 != 0 then true else r17.2 != 0 then true else r21.2 != 0 then true else r29.2.2 != 0 then true else r36.2.2 != 0 then true else r25.2 != 8 then true else r49.2.2 != 6 then true else r12.1.1 != (-1) then true else r12.1.2.1 != 4)) rfl rfl)
    refine all_cons _ (base_nil rfl) (dst_some rfl rfl) rfl rfl rfl rfl (gd_some (e := ⟨true, 109, [35], Unit, fun _ => .bool (bif bif bif bif bif bif bif bif r12.2 != 0 then true else r17.2 != 0 then true else r21.2 != 0 then true else r29.2.2 != 0 then true else r36.2.2 != 0 then true else r25.2 != 8 then true else r49.2.2 != 6 then true else r12.1.1 != (-1) then true else r12.1.2.1 != 4), fun _ => [], [], [], []⟩) (bif bif bif bif bif bif bif bif r12.2 != 0 then true else r17.2 != 0 then true else r21.2 != 0 then true else r29.2.2 != 0 then true else r36.2.2 != 0 then true else r25.2 != 8 then true else r49.2.2 != 6 then true else r12.1.1 != (-1) then true else r12.1.2.1 != 4) rfl rfl rfl rfl (fun _ => rfl) (gd_f _)) (fun hx97 => ?_) ?_
    ·
     replace hx97 : (!(bif bif bif bif bif bif bif bif r12.2 != 0 then true else r17.2 != 0 then true else r21.2 != 0 then true else r29.2.2 != 0 then true else r36.2.2 != 0 then true else r25.2 != 8 then true else r49.2.2 != 6 then true else r12.1.1 != (-1) then true else r12.1.2.1 != 4)) = true := hx97
     refine ob_nil rfl ?_
     exact PureOk.op (p_fieldAddr (fo := 0) rfl Try.underlying33 rfl Try.ti3 rfl rfl rfl)
    refine all_cons _ (base_nil rfl) (dst_some rfl rfl) rfl rfl rfl rfl (gd_some (e := ⟨true, 109, [35], Unit, fun _ => .bool (bif bif bif bif bif bif bif bif r12.2 != 0 then true else r17.2 != 0 then true else r21.2 != 0 then true else r29.2.2 != 0 then true else r36.2.2 != 0 then true else r25.2 != 8 then true else r49.2.2 != 6 then true else r12.1.1 != (-1) then true else r12.1.2.1 != 4), fun _ => [], [], [], []⟩) (bif bif bif bif bif bif bif bif r12.2 != 0 then true else r17.2 != 0 then true else r21.2 != 0 then true else r29.2.2 != 0 then true else r36.2.2 != 0 then true else r25.2 != 8 then true else r49.2.2 != 6 then true else r12.1.1 != (-1) then true else r12.1.2.1 != 4) rfl rfl rfl rfl (fun _ => rfl) (gd_f _)) (fun hx98 => ?_) ?_
    ·
     replace hx98 : (!(bif bif bif bif bif bif bif bif r12.2 != 0 then true else r17.2 != 0 then true else r21.2 != 0 then true else r29.2.2 != 0 then true else r36.2.2 != 0 then true else r25.2 != 8 then true else r49.2.2 != 6 then true else r12.1.1 != (-1) then true else r12.1.2.1 != 4)) = true := hx98
     refine ob_two rfl (fun _ _ => ?_) (fun hn => clash hx98 hn)
     refine ob_nil rfl ?_
     exact PureOk.op (p_load_box (v := .int .i64 (r17.1.1)) 4 rfl rfl Try.underlying3 rfl rfl rfl)
    refine all_cons _ (base_nil rfl) (dst_some rfl rfl) rfl rfl rfl rfl (gd_some (e := ⟨true, 109, [35], Unit, fun _ => .bool (bif bif bif bif bif bif bif bif r12.2 != 0 then true else r17.2 != 0 then true else r21.2 != 0 then true else r29.2.2 != 0 then true else r36.2.2 != 0 then true else r25.2 != 8 then true else r49.2.2 != 6 then true else r12.1.1 != (-1) then true else r12.1.2.1 != 4), fun _ => [], [], [], []⟩) (bif bif bif bif bif bif bif bif r12.2 != 0 then true else r17.2 != 0 then true else r21.2 != 0 then true else r29.2.2 != 0 then true else r36.2.2 != 0 then true else r25.2 != 8 then true else r49.2.2 != 6 then true else r12.1.1 != (-1) then true else r12.1.2.1 != 4) rfl rfl rfl rfl (fun _ => rfl) (gd_f _)) (fun hx99 => ?_) ?_
    ·
     replace hx99 : (!(bif bif bif bif bif bif bif bif r12.2 != 0 then true else r17.2 != 0 then true else r21.2 != 0 then true else r29.2.2 != 0 then true else r36.2.2 != 0 then true else r25.2 != 8 then true else r49.2.2 != 6 then true else r12.1.1 != (-1) then true else r12.1.2.1 != 4)) = true := hx99
     refine ob_two rfl (fun _ _ => ?_) (fun hn => clash hx99 hn)
     refine ob_nil rfl ?_
     exact PureOk.op (p_neq rfl rfl rfl)
    refine all_cons _ (base_nil rfl) (dst_some rfl rfl) rfl rfl rfl rfl (gd_none rfl rfl) (fun _ => ?_) ?_
    ·
     refine ob_one rfl rfl (fun _ => ?_)
     refine ob_two rfl (fun hq101 _ => ?_) (fun hq101 => ?_)
     rotate_left
     ·
      replace hq101 : (!(bif bif bif bif bif bif bif bif r12.2 != 0 then true else r17.2 != 0 then true else r21.2 != 0 then true else r29.2.2 != 0 then true else r36.2.2 != 0 then true else r25.2 != 8 then true else r49.2.2 != 6 then true else r12.1.1 != (-1) then true else r12.1.2.1 != 4)) = false := hq101
      refine ob_nil rfl ?_
      exact PureOk.op (p_pick (b := bif bif bif bif bif bif bif bif r12.2 != 0 then true else r17.2 != 0 then true else r21.2 != 0 then true else r29.2.2 != 0 then true else r36.2.2 != 0 then true else r25.2 != 8 then true else r49.2.2 != 6 then true else r12.1.1 != (-1) then true else r12.1.2.1 != 4) (p := true) (q := r17.1.1 != 1) rfl rfl (fun _ => rfl) (fun hb => by first | (rw [hb] at hq101; cases hq101; done) | exact absurd hq101 (by rw [hb]; simp) | (simp_all; done)))
     refine ob_nil rfl ?_
     exact PureOk.op (p_pick (b := bif bif bif bif bif bif bif bif r12.2 != 0 then true else r17.2 != 0 then true else r21.2 != 0 then true else r29.2.2 != 0 then true else r36.2.2 != 0 then true else r25.2 != 8 then true else r49.2.2 != 6 then true else r12.1.1 != (-1) then true else r12.1.2.1 != 4) (p := true) (q := r17.1.1 != 1) rfl rfl (fun _ => rfl) (fun _ => rfl))
    refine all_cons _ (base_nil rfl) (dst_some rfl rfl) rfl rfl rfl rfl (gd_none rfl rfl) (fun _ => ?_) ?_
    ·
     refine ob_one rfl rfl (fun _ => ?_)
     refine ob_nil rfl ?_
     exact PureOk.op (p_move (v := .bool (bif bif bif bif bif bif bif bif bif r12.2 != 0 then true else r17.2 != 0 then true else r21.2 != 0 then true else r29.2.2 != 0 then true else r36.2.2 != 0 then true else r25.2 != 8 then true else r49.2.2 != 6 then true else r12.1.1 != (-1) then true else r12.1.2.1 != 4 then true else r17.1.1 != 1)) rfl rfl)
    refine all_cons _ (base_nil rfl) (dst_some rfl rfl) rfl rfl rfl rfl (gd_some (e := ⟨true, 114, [40], Unit, fun _ => .bool (bif bif bif bif bif bif bif bif bif r12.2 != 0 then true else r17.2 != 0 then true else r21.2 != 0 then true else r29.2.2 != 0 then true else r36.2.2 != 0 then true else r25.2 != 8 then true else r49.2.2 != 6 then true else r12.1.1 != (-1) then true else r12.1.2.1 != 4 then true else r17.1.1 != 1), fun _ => [], [], [], []⟩) (bif bif bif bif bif bif bif bif bif r12.2 != 0 then true else r17.2 != 0 then true else r21.2 != 0 then true else r29.2.2 != 0 then true else r36.2.2 != 0 then true else r25.2 != 8 then true else r49.2.2 != 6 then true else r12.1.1 != (-1) then true else r12.1.2.1 != 4 then true else r17.1.1 != 1) rfl rfl rfl rfl (fun _ => rfl) (gd_f _)) (fun hx103 => ?_) ?_
    ·
     replace hx103 : (!(bif bif bif bif bif bif bif bif bif r12.2 != 0 then true else r17.2 != 0 then true else r21.2 != 0 then true else r29.2.2 != 0 then true else r36.2.2 != 0 then true else r25.2 != 8 then true else r49.2.2 != 6 then true else r12.1.1 != (-1) then true else r12.1.2.1 != 4 then true else r17.1.1 != 1)) = true := hx103
     refine ob_nil rfl ?_
     exact PureOk.op (p_fieldAddr (fo := 1) rfl Try.underlying33 rfl Try.ti3 rfl rfl rfl)
    refine all_cons _ (base_nil rfl) (dst_some rfl rfl) rfl rfl rfl rfl (gd_some (e := ⟨true, 114, [40], Unit, fun _ => .bool (bif bif bif bif bif bif bif bif bif r12.2 != 0 then true else r17.2 != 0 then true else r21.2 != 0 then true else r29.2.2 != 0 then true else r36.2.2 != 0 then true else r25.2 != 8 then true else r49.2.2 != 6 then true else r12.1.1 != (-1) then true else r12.1.2.1 != 4 then true else r17.1.1 != 1), fun _ => [], [], [], []⟩) (bif bif bif bif bif bif bif bif bif r12.2 != 0 then true else r17.2 != 0 then true else r21.2 != 0 then true else r29.2.2 != 0 then true else r36.2.2 != 0 then true else r25.2 != 8 then true else r49.2.2 != 6 then true else r12.1.1 != (-1) then true else r12.1.2.1 != 4 then true else r17.1.1 != 1) rfl rfl rfl rfl (fun _ => rfl) (gd_f _)) (fun hx104 => ?_) ?_
    ·
     replace hx104 : (!(bif bif bif bif bif bif bif bif bif r12.2 != 0 then true else r17.2 != 0 then true else r21.2 != 0 then true else r29.2.2 != 0 then true else r36.2.2 != 0 then true else r25.2 != 8 then true else r49.2.2 != 6 then true else r12.1.1 != (-1) then true else r12.1.2.1 != 4 then true else r17.1.1 != 1)) = true := hx104
     refine ob_two rfl (fun _ _ => ?_) (fun hn => clash hx104 hn)
     refine ob_nil rfl ?_
     exact PureOk.op (p_load_box (v := .int .i64 (r21.1.2.1)) 2 rfl rfl Try.underlying3 rfl rfl rfl)
    refine all_cons _ (base_nil rfl) (dst_some rfl rfl) rfl rfl rfl rfl (gd_some (e := ⟨true, 114, [40], Unit, fun _ => .bool (bif bif bif bif bif bif bif bif bif r12.2 != 0 then true else r17.2 != 0 then true else r21.2 != 0 then true else r29.2.2 != 0 then true else r36.2.2 != 0 then true else r25.2 != 8 then true else r49.2.2 != 6 then true else r12.1.1 != (-1) then true else r12.1.2.1 != 4 then true else r17.1.1 != 1), fun _ => [], [], [], []⟩) (bif bif bif bif bif bif bif bif bif r12.2 != 0 then true else r17.2 != 0 then true else r21.2 != 0 then true else r29.2.2 != 0 then true else r36.2.2 != 0 then true else r25.2 != 8 then true else r49.2.2 != 6 then true else r12.1.1 != (-1) then true else r12.1.2.1 != 4 then true else r17.1.1 != 1) rfl rfl rfl rfl (fun _ => rfl) (gd_f _)) (fun hx105 => ?_) ?_
    ·
     replace hx105 : (!(bif bif bif bif bif bif bif bif bif r12.2 != 0 then true else r17.2 != 0 then true else r21.2 != 0 then true else r29.2.2 != 0 then true else r36.2.2 != 0 then true else r25.2 != 8 then true else r49.2.2 != 6 then true else r12.1.1 != (-1) then true else r12.1.2.1 != 4 then true else r17.1.1 != 1)) = true := hx105
     refine ob_two rfl (fun _ _ => ?_) (fun hn => clash hx105 hn)
     refine ob_nil rfl ?_
     exact PureOk.op (p_neq rfl rfl rfl)
    refine all_cons _ (base_nil rfl) (dst_some rfl rfl) rfl rfl rfl rfl (gd_none rfl rfl) (fun _ => ?_) ?_
    ·
     refine ob_one rfl rfl (fun _ => ?_)
     refine ob_two rfl (fun hq107 _ => ?_) (fun hq107 => ?_)
     rotate_left
     ·
      replace hq107 : (!(bif bif bif bif bif bif bif bif bif r12.2 != 0 then true else r17.2 != 0 then true else r21.2 != 0 then true else r29.2.2 != 0 then true else r36.2.2 != 0 then true else r25.2 != 8 then true else r49.2.2 != 6 then true else r12.1.1 != (-1) then true else r12.1.2.1 != 4 then true else r17.1.1 != 1)) = false := hq107
      refine ob_nil rfl ?_
      exact PureOk.op (p_pick (b := bif bif bif bif bif bif bif bif bif r12.2 != 0 then true else r17.2 != 0 then true else r21.2 != 0 then true else r29.2.2 != 0 then true else r36.2.2 != 0 then true else r25.2 != 8 then true else r49.2.2 != 6 then true else r12.1.1 != (-1) then true else r12.1.2.1 != 4 then true else r17.1.1 != 1) (p := true) (q := r21.1.2.1 != 2) rfl rfl (fun _ => rfl) (fun hb => by first | (rw [hb] at hq107; cases hq107; done) | exact absurd hq107 (by rw [hb]; simp) | (simp_all; done)))
     refine ob_nil rfl ?_
     exact PureOk.op (p_pick (b := bif bif bif bif bif bif bif bif bif r12.2 != 0 then true else r17.2 != 0 then true else r21.2 != 0 then true else r29.2.2 != 0 then true else r36.2.2 != 0 then true else r25.2 != 8 then true else r49.2.2 != 6 then true else r12.1.1 != (-1) then true else r12.1.2.1 != 4 then true else r17.1.1 != 1) (p := true) (q := r21.1.2.1 != 2) rfl rfl (fun _ => rfl) (fun _ => rfl))
    exact all_nil
   ·
    refine fin_base _ (base_nil rfl) ?_
    refine fin_one rfl rfl (fun _ => ?_)
    refine fin_nil ?_
    refine s_nil ?_
    refine x_then ?_
    refine s_cond rfl (fun hb108 => ?_) (fun hb108 => ?_)
    ·
     replace hF := cond_t hb108 hF
     refine s_seq ?_
     refine s_region ?_
     refine s_pure (p_assign (v := .bool (false)) rfl rfl) rfl rfl rfl ?_
     refine s_nil ?_
     refine x_then ?_
     refine s_ret ?_
     refine x_then_ret ?_
     replace hF := some_inj hF
     subst hF
     exact x_ret () (res_one rfl (ra_tmp (v := .bool (false)) rfl)) rfl 16 rfl [] 2 rfl trivial
    ·
     replace hF := cond_f hb108 hF
     refine s_skip ?_
     refine x_then ?_
     refine s_seq ?_
     obtain ⟨r110, e111, hF⟩ := bind_some hF
     obtain ⟨r113, e114, hF⟩ := bind_some hF
     obtain ⟨r116, e117, hF⟩ := bind_some hF
     obtain ⟨r119, e120, hF⟩ := bind_some hF
     obtain ⟨r122, e123, hF⟩ := bind_some hF
     refine s_text Try.mixed [⟨true, 119, [], Unit, fun _ => .int .i64 (r29.1), fun _ => [], [], [], []⟩, ⟨true, 120, [0], Unit, fun _ => .bool (r29.1 == 1), fun _ => [], [], [], []⟩, ⟨true, 121, [1], Unit, fun _ => .bool (r29.1 == 1), fun _ => [], [], [], []⟩, ⟨(r29.1 == 1), 122, [], Unit, fun _ => .int .i64 (r29.2.1), fun _ => [], [], [], []⟩, ⟨(r29.1 == 1), 123, [3], Unit, fun _ => .bool (r29.2.1 == 2), fun _ => [], [], [], []⟩, ⟨true, 124, [2, 4], Unit, fun _ => .bool (bif r29.1 == 1 then r29.2.1 == 2 else false), fun _ => [], [], [], []⟩, ⟨true, 125, [5], Unit, fun _ => .bool (bif r29.1 == 1 then r29.2.1 == 2 else false), fun _ => [], [], [], []⟩, ⟨(bif r29.1 == 1 then r29.2.1 == 2 else false), 126, [], Unit, fun _ => .int .i64 (r36.1), fun _ => [], [], [], []⟩, ⟨(bif r29.1 == 1 then r29.2.1 == 2 else false), 127, [7], Unit, fun _ => .bool (r36.1 == 2), fun _ => [], [], [], []⟩, ⟨true, 128, [6, 8], Unit, fun _ => .bool (bif bif r29.1 == 1 then r29.2.1 == 2 else false then r36.1 == 2 else false), fun _ => [], [], [], []⟩, ⟨true, 129, [9], Unit, fun _ => .bool (bif bif r29.1 == 1 then r29.2.1 == 2 else false then r36.1 == 2 else false), fun _ => [], [], [], []⟩, ⟨(bif bif r29.1 == 1 then r29.2.1 == 2 else false then r36.1 == 2 else false), 130, [], Unit, fun _ => .int .i64 (r36.2.1), fun _ => [], [], [], []⟩, ⟨(bif bif r29.1 == 1 then r29.2.1 == 2 else false then r36.1 == 2 else false), 131, [11], Unit, fun _ => .bool (r36.2.1 == 2), fun _ => [], [], [], []⟩, ⟨true, 132, [10, 12], Unit, fun _ => .bool (bif bif bif r29.1 == 1 then r29.2.1 == 2 else false then r36.1 == 2 else false then r36.2.1 == 2 else false), fun _ => [], [], [], []⟩, ⟨true, 133, [13], Unit, fun _ => .bool (bif bif bif r29.1 == 1 then r29.2.1 == 2 else false then r36.1 == 2 else false then r36.2.1 == 2 else false), fun _ => [], [], [], []⟩, ⟨(bif bif bif r29.1 == 1 then r29.2.1 == 2 else false then r36.1 == 2 else false then r36.2.1 == 2 else false), 134, [], Unit, fun _ => .pointer (some ⟨b24, 2, none⟩), fun _ => [], [], [], []⟩, ⟨(bif bif bif r29.1 == 1 then r29.2.1 == 2 else false then r36.1 == 2 else false then r36.2.1 == 2 else false), 135, [15], Unit, fun _ => Hd.val y23, fun _ => [], [], [], []⟩, ⟨(bif bif bif r29.1 == 1 then r29.2.1 == 2 else false then r36.1 == 2 else false then r36.2.1 == 2 else false), 136, [], Hd, fun (h109 : Hd) => Hd.val h109, fun h109 => [.own (tI .i64) 3 144 [] [1, 2] h109], [], [], []⟩, ⟨(bif bif bif r29.1 == 1 then r29.2.1 == 2 else false then r36.1 == 2 else false then r36.2.1 == 2 else false), 137, [16, 17], Unit, fun (y112 : Unit) => .bool (r110), fun _ => [], [], [], []⟩, ⟨true, 138, [14, 18], Unit, fun _ => .bool (bif bif bif bif r29.1 == 1 then r29.2.1 == 2 else false then r36.1 == 2 else false then r36.2.1 == 2 else false then r110 else false), fun _ => [], [], [], []⟩, ⟨true, 139, [19], Unit, fun _ => .bool (bif bif bif bif r29.1 == 1 then r29.2.1 == 2 else false then r36.1 == 2 else false then r36.2.1 == 2 else false then r110 else false), fun _ => [], [], [], []⟩, ⟨(bif bif bif bif r29.1 == 1 then r29.2.1 == 2 else false then r36.1 == 2 else false then r36.2.1 == 2 else false then r110 else false), 140, [], Unit, fun (y115 : Unit) => .int .i64 (r113), fun _ => [], [], [], []⟩, ⟨(bif bif bif bif r29.1 == 1 then r29.2.1 == 2 else false then r36.1 == 2 else false then r36.2.1 == 2 else false then r110 else false), 141, [21], Unit, fun _ => .bool (r113 == 0), fun _ => [], [], [], []⟩, ⟨true, 142, [20, 22], Unit, fun _ => .bool (bif bif bif bif bif r29.1 == 1 then r29.2.1 == 2 else false then r36.1 == 2 else false then r36.2.1 == 2 else false then r110 else false then r113 == 0 else false), fun _ => [], [], [], []⟩, ⟨true, 143, [23], Unit, fun _ => .bool (bif bif bif bif bif r29.1 == 1 then r29.2.1 == 2 else false then r36.1 == 2 else false then r36.2.1 == 2 else false then r110 else false then r113 == 0 else false), fun _ => [], [], [], []⟩, ⟨(bif bif bif bif bif r29.1 == 1 then r29.2.1 == 2 else false then r36.1 == 2 else false then r36.2.1 == 2 else false then r110 else false then r113 == 0 else false), 144, [], Unit, fun (y118 : Unit) => .int .i64 (r116), fun _ => [], [], [], []⟩, ⟨(bif bif bif bif bif r29.1 == 1 then r29.2.1 == 2 else false then r36.1 == 2 else false then r36.2.1 == 2 else false then r110 else false then r113 == 0 else false), 145, [25], Unit, fun _ => .bool (r116 == 1), fun _ => [], [], [], []⟩, ⟨true, 146, [24, 26], Unit, fun _ => .bool (bif bif bif bif bif bif r29.1 == 1 then r29.2.1 == 2 else false then r36.1 == 2 else false then r36.2.1 == 2 else false then r110 else false then r113 == 0 else false then r116 == 1 else false), fun _ => [], [], [], []⟩, ⟨true, 147, [27], Unit, fun _ => .bool (bif bif bif bif bif bif r29.1 == 1 then r29.2.1 == 2 else false then r36.1 == 2 else false then r36.2.1 == 2 else false then r110 else false then r113 == 0 else false then r116 == 1 else false), fun _ => [], [], [], []⟩, ⟨(bif bif bif bif bif bif r29.1 == 1 then r29.2.1 == 2 else false then r36.1 == 2 else false then r36.2.1 == 2 else false then r110 else false then r113 == 0 else false then r116 == 1 else false), 148, [], Unit, fun (y121 : Unit) => .int .i64 (r119), fun _ => [], [], [], []⟩, ⟨(bif bif bif bif bif bif r29.1 == 1 then r29.2.1 == 2 else false then r36.1 == 2 else false then r36.2.1 == 2 else false then r110 else false then r113 == 0 else false then r116 == 1 else false), 149, [29], Unit, fun _ => .bool (r119 == 2), fun _ => [], [], [], []⟩, ⟨true, 150, [28, 30], Unit, fun _ => .bool (bif bif bif bif bif bif bif r29.1 == 1 then r29.2.1 == 2 else false then r36.1 == 2 else false then r36.2.1 == 2 else false then r110 else false then r113 == 0 else false then r116 == 1 else false then r119 == 2 else false), fun _ => [], [], [], []⟩, ⟨true, 151, [31], Unit, fun _ => .bool (bif bif bif bif bif bif bif r29.1 == 1 then r29.2.1 == 2 else false then r36.1 == 2 else false then r36.2.1 == 2 else false then r110 else false then r113 == 0 else false then r116 == 1 else false then r119 == 2 else false), fun _ => [], [], [], []⟩, ⟨(bif bif bif bif bif bif bif r29.1 == 1 then r29.2.1 == 2 else false then r36.1 == 2 else false then r36.2.1 == 2 else false then r110 else false then r113 == 0 else false then r116 == 1 else false then r119 == 2 else false), 152, [], Unit, fun (y124 : Unit) => .int .i64 (r122), fun _ => [], [], [], []⟩, ⟨(bif bif bif bif bif bif bif r29.1 == 1 then r29.2.1 == 2 else false then r36.1 == 2 else false then r36.2.1 == 2 else false then r110 else false then r113 == 0 else false then r116 == 1 else false then r119 == 2 else false), 153, [33], Unit, fun _ => .bool (r122 == 3), fun _ => [], [], [], []⟩, ⟨true, 154, [32, 34], Unit, fun _ => .bool (bif bif bif bif bif bif bif bif r29.1 == 1 then r29.2.1 == 2 else false then r36.1 == 2 else false then r36.2.1 == 2 else false then r110 else false then r113 == 0 else false then r116 == 1 else false then r119 == 2 else false then r122 == 3 else false), fun _ => [], [], [], []⟩] [[], [0], [0, 1], [0, 1, 2], [0, 1, 2, 3], [0, 1, 2, 3, 4], [0, 1, 2, 3, 4, 5], [0, 1, 2, 3, 4, 5, 6], [0, 1, 2, 3, 4, 5, 6, 7], [0, 1, 2, 3, 4, 5, 6, 7, 8], [0, 1, 2, 3, 4, 5, 6, 7, 8, 9], [0, 1, 2, 3, 4, 5, 6, 7, 8, 9, 10], [0, 1, 2, 3, 4, 5, 6, 7, 8, 9, 10, 11], [0, 1, 2, 3, 4, 5, 6, 7, 8, 9, 10, 11, 12], [0, 1, 2, 3, 4, 5, 6, 7, 8, 9, 10, 11, 12, 13], [0, 1, 2, 3, 4, 5, 6, 7, 8, 9, 10, 11, 12, 13, 14], [0, 1, 2, 3, 4, 5, 6, 7, 8, 9, 10, 11, 12, 13, 14, 15], [0, 1, 2, 3, 4, 5, 6, 7, 8, 9, 10, 11, 12, 13, 14], [0, 1, 2, 3, 4, 5, 6, 7, 8, 9, 10, 11, 12, 13, 14, 15, 16, 17], [0, 1, 2, 3, 4, 5, 6, 7, 8, 9, 10, 11, 12, 13, 14, 15, 16, 17, 18], [0, 1, 2, 3, 4, 5, 6, 7, 8, 9, 10, 11, 12, 13, 14, 15, 16, 17, 18, 19], [0, 1, 2, 3, 4, 5, 6, 7, 8, 9, 10, 11, 12, 13, 14, 15, 16, 17, 18, 19, 20], [0, 1, 2, 3, 4, 5, 6, 7, 8, 9, 10, 11, 12, 13, 14, 15, 16, 17, 18, 19, 20, 21], [0, 1, 2, 3, 4, 5, 6, 7, 8, 9, 10, 11, 12, 13, 14, 15, 16, 17, 18, 19, 20, 21, 22], [0, 1, 2, 3, 4, 5, 6, 7, 8, 9, 10, 11, 12, 13, 14, 15, 16, 17, 18, 19, 20, 21, 22, 23], [0, 1, 2, 3, 4, 5, 6, 7, 8, 9, 10, 11, 12, 13, 14, 15, 16, 17, 18, 19, 20, 21, 22, 23, 24], [0, 1, 2, 3, 4, 5, 6, 7, 8, 9, 10, 11, 12, 13, 14, 15, 16, 17, 18, 19, 20, 21, 22, 23, 24, 25], [0, 1, 2, 3, 4, 5, 6, 7, 8, 9, 10, 11, 12, 13, 14, 15, 16, 17, 18, 19, 20, 21, 22, 23, 24, 25, 26], [0, 1, 2, 3, 4, 5, 6, 7, 8, 9, 10, 11, 12, 13, 14, 15, 16, 17, 18, 19, 20, 21, 22, 23, 24, 25, 26, 27], [0, 1, 2, 3, 4, 5, 6, 7, 8, 9, 10, 11, 12, 13, 14, 15, 16, 17, 18, 19, 20, 21, 22, 23, 24, 25, 26, 27, 28], [0, 1, 2, 3, 4, 5, 6, 7, 8, 9, 10, 11, 12, 13, 14, 15, 16, 17, 18, 19, 20, 21, 22, 23, 24, 25, 26, 27, 28, 29], [0, 1, 2, 3, 4, 5, 6, 7, 8, 9, 10, 11, 12, 13, 14, 15, 16, 17, 18, 19, 20, 21, 22, 23, 24, 25, 26, 27, 28, 29, 30], [0, 1, 2, 3, 4, 5, 6, 7, 8, 9, 10, 11, 12, 13, 14, 15, 16, 17, 18, 19, 20, 21, 22, 23, 24, 25, 26, 27, 28, 29, 30, 31], [0, 1, 2, 3, 4, 5, 6, 7, 8, 9, 10, 11, 12, 13, 14, 15, 16, 17, 18, 19, 20, 21, 22, 23, 24, 25, 26, 27, 28, 29, 30, 31, 32], [0, 1, 2, 3, 4, 5, 6, 7, 8, 9, 10, 11, 12, 13, 14, 15, 16, 17, 18, 19, 20, 21, 22, 23, 24, 25, 26, 27, 28, 29, 30, 31, 32, 33], [0, 1, 2, 3, 4, 5, 6, 7, 8, 9, 10, 11, 12, 13, 14, 15, 16, 17, 18, 19, 20, 21, 22, 23, 24, 25, 26, 27, 28, 29, 30, 31, 32, 33, 34], [0, 1, 2, 3, 4, 5, 6, 7, 8, 9, 10, 11, 12, 13, 14, 15, 16, 17, 18, 19, 20, 21, 22, 23, 24, 25, 26, 27, 28, 29, 30, 31, 32, 33, 34, 35]] rfl rfl rfl rfl rfl ⟨.inl rfl, .inl rfl, .inl rfl, .inl rfl, .inl rfl, .inl rfl, .inl rfl, .inl rfl, .inl rfl, .inl rfl, .inl rfl, .inl rfl, .inl rfl, .inl rfl, .inl rfl, .inl rfl, .inl rfl, .inl rfl, .inl rfl, .inl rfl, .inl rfl, .inl rfl, .inl rfl, .inl rfl, .inl rfl, .inl rfl, .inl rfl, .inl rfl, .inl rfl, .inl rfl, .inl rfl, .inl rfl, .inl rfl, .inl rfl, .inl rfl, .inl rfl, trivial⟩ ?_ [35] rfl rfl (fun us => ?_)
     ·
      refine all_cons _ (base_nil rfl) (dst_some rfl rfl) rfl rfl rfl rfl (gd_none rfl rfl) (fun _ => ?_) ?_
      ·
       refine ob_nil rfl ?_
       exact PureOk.op (p_move (v := .int .i64 (r29.1)) rfl rfl)
      refine all_cons _ (base_nil rfl) (dst_some rfl rfl) rfl rfl rfl rfl (gd_none rfl rfl) (fun _ => ?_) ?_
      ·
       refine ob_one rfl rfl (fun _ => ?_)
       refine ob_nil rfl ?_
       exact PureOk.op (p_eql rfl rfl rfl)
      refine all_cons _ (base_nil rfl) (dst_some rfl rfl) rfl rfl rfl rfl (gd_none rfl rfl) (fun _ => ?_) ?_
      ·
       refine ob_one rfl rfl (fun _ => ?_)
       refine ob_nil rfl ?_
       exact PureOk.op (p_move (v := .bool (r29.1 == 1)) rfl rfl)
      refine all_cons _ (base_nil rfl) (dst_some rfl rfl) rfl rfl rfl rfl (gd_some (e := ⟨true, 121, [1], Unit, fun _ => .bool (r29.1 == 1), fun _ => [], [], [], []⟩) (r29.1 == 1) rfl rfl rfl rfl (fun _ => rfl) (gd_t _)) (fun hx128 => ?_) ?_
      ·
       replace hx128 : ((r29.1 == 1)) = true := hx128
       refine ob_nil rfl ?_
       exact PureOk.op (p_move (v := .int .i64 (r29.2.1)) rfl rfl)
      refine all_cons _ (base_nil rfl) (dst_some rfl rfl) rfl rfl rfl rfl (gd_some (e := ⟨true, 121, [1], Unit, fun _ => .bool (r29.1 == 1), fun _ => [], [], [], []⟩) (r29.1 == 1) rfl rfl rfl rfl (fun _ => rfl) (gd_t _)) (fun hx129 => ?_) ?_
      ·
       replace hx129 : ((r29.1 == 1)) = true := hx129
       refine ob_two rfl (fun _ _ => ?_) (fun hn => clash hx129 hn)
       refine ob_nil rfl ?_
       exact PureOk.op (p_eql rfl rfl rfl)
      refine all_cons _ (base_nil rfl) (dst_some rfl rfl) rfl rfl rfl rfl (gd_none rfl rfl) (fun _ => ?_) ?_
      ·
       refine ob_one rfl rfl (fun _ => ?_)
       refine ob_two rfl (fun hq131 _ => ?_) (fun hq131 => ?_)
       rotate_left
       ·
        replace hq131 : ((r29.1 == 1)) = false := hq131
        refine ob_nil rfl ?_
        exact PureOk.op (p_pick (b := r29.1 == 1) (p := r29.2.1 == 2) (q := false) rfl rfl (fun hb => by first | (rw [hb] at hq131; cases hq131; done) | exact absurd hq131 (by rw [hb]; simp) | (simp_all; done)) (fun _ => rfl))
       refine ob_nil rfl ?_
       exact PureOk.op (p_pick (b := r29.1 == 1) (p := r29.2.1 == 2) (q := false) rfl rfl (fun _ => rfl) (fun _ => rfl))
      refine all_cons _ (base_nil rfl) (dst_some rfl rfl) rfl rfl rfl rfl (gd_none rfl rfl) (fun _ => ?_) ?_
      ·
       refine ob_one rfl rfl (fun _ => ?_)
       refine ob_nil rfl ?_
       exact PureOk.op (p_move (v := .bool (bif r29.1 == 1 then r29.2.1 == 2 else false)) rfl rfl)
      refine all_cons _ (base_nil rfl) (dst_some rfl rfl) rfl rfl rfl rfl (gd_some (e := ⟨true, 125, [5], Unit, fun _ => .bool (bif r29.1 == 1 then r29.2.1 == 2 else false), fun _ => [], [], [], []⟩) (bif r29.1 == 1 then r29.2.1 == 2 else false) rfl rfl rfl rfl (fun _ => rfl) (gd_t _)) (fun hx133 => ?_) ?_
      ·
       replace hx133 : ((bif r29.1 == 1 then r29.2.1 == 2 else false)) = true := hx133
       refine ob_nil rfl ?_
       exact PureOk.op (p_move (v := .int .i64 (r36.1)) rfl rfl)
      refine all_cons _ (base_nil rfl) (dst_some rfl rfl) rfl rfl rfl rfl (gd_some (e := ⟨true, 125, [5], Unit, fun _ => .bool (bif r29.1 == 1 then r29.2.1 == 2 else false), fun _ => [], [], [], []⟩) (bif r29.1 == 1 then r29.2.1 == 2 else false) rfl rfl rfl rfl (fun _ => rfl) (gd_t _)) (fun hx134 => ?_) ?_
      ·
       replace hx134 : ((bif r29.1 == 1 then r29.2.1 == 2 else false)) = true := hx134
       refine ob_two rfl (fun _ _ => ?_) (fun hn => clash hx134 hn)
       refine ob_nil rfl ?_
       exact PureOk.op (p_eql rfl rfl rfl)
      refine all_cons _ (base_nil rfl) (dst_some rfl rfl) rfl rfl rfl rfl (gd_none rfl rfl) (fun _ => ?_) ?_
      ·
       refine ob_one rfl rfl (fun _ => ?_)
       refine ob_two rfl (fun hq136 _ => ?_) (fun hq136 => ?_)
       rotate_left
       ·
        replace hq136 : ((bif r29.1 == 1 then r29.2.1 == 2 else false)) = false := hq136
        refine ob_nil rfl ?_
        exact PureOk.op (p_pick (b := bif r29.1 == 1 then r29.2.1 == 2 else false) (p := r36.1 == 2) (q := false) rfl rfl (fun hb => by first | (rw [hb] at hq136; cases hq136; done) | exact absurd hq136 (by rw [hb]; simp) | (simp_all; done)) (fun _ => rfl))
       refine ob_nil rfl ?_
       exact PureOk.op (p_pick (b := bif r29.1 == 1 then r29.2.1 == 2 else false) (p := r36.1 == 2) (q := false) rfl rfl (fun _ => rfl) (fun _ => rfl))
      refine all_cons _ (base_nil rfl) (dst_some rfl rfl) rfl rfl rfl rfl (gd_none rfl rfl) (fun _ => ?_) ?_
      ·
       refine ob_one rfl rfl (fun _ => ?_)
       refine ob_nil rfl ?_
       exact PureOk.op (p_move (v := .bool (bif bif r29.1 == 1 then r29.2.1 == 2 else false then r36.1 == 2 else false)) rfl rfl)
      refine all_cons _ (base_nil rfl) (dst_some rfl rfl) rfl rfl rfl rfl (gd_some (e := ⟨true, 129, [9], Unit, fun _ => .bool (bif bif r29.1 == 1 then r29.2.1 == 2 else false then r36.1 == 2 else false), fun _ => [], [], [], []⟩) (bif bif r29.1 == 1 then r29.2.1 == 2 else false then r36.1 == 2 else false) rfl rfl rfl rfl (fun _ => rfl) (gd_t _)) (fun hx138 => ?_) ?_
      ·
       replace hx138 : ((bif bif r29.1 == 1 then r29.2.1 == 2 else false then r36.1 == 2 else false)) = true := hx138
       refine ob_nil rfl ?_
       exact PureOk.op (p_move (v := .int .i64 (r36.2.1)) rfl rfl)
      refine all_cons _ (base_nil rfl) (dst_some rfl rfl) rfl rfl rfl rfl (gd_some (e := ⟨true, 129, [9], Unit, fun _ => .bool (bif bif r29.1 == 1 then r29.2.1 == 2 else false then r36.1 == 2 else false), fun _ => [], [], [], []⟩) (bif bif r29.1 == 1 then r29.2.1 == 2 else false then r36.1 == 2 else false) rfl rfl rfl rfl (fun _ => rfl) (gd_t _)) (fun hx139 => ?_) ?_
      ·
       replace hx139 : ((bif bif r29.1 == 1 then r29.2.1 == 2 else false then r36.1 == 2 else false)) = true := hx139
       refine ob_two rfl (fun _ _ => ?_) (fun hn => clash hx139 hn)
       refine ob_nil rfl ?_
       exact PureOk.op (p_eql rfl rfl rfl)
      refine all_cons _ (base_nil rfl) (dst_some rfl rfl) rfl rfl rfl rfl (gd_none rfl rfl) (fun _ => ?_) ?_
      ·
       refine ob_one rfl rfl (fun _ => ?_)
       refine ob_two rfl (fun hq141 _ => ?_) (fun hq141 => ?_)
       rotate_left
       ·
        replace hq141 : ((bif bif r29.1 == 1 then r29.2.1 == 2 else false then r36.1 == 2 else false)) = false := hq141
        refine ob_nil rfl ?_
        exact PureOk.op (p_pick (b := bif bif r29.1 == 1 then r29.2.1 == 2 else false then r36.1 == 2 else false) (p := r36.2.1 == 2) (q := false) rfl rfl (fun hb => by first | (rw [hb] at hq141; cases hq141; done) | exact absurd hq141 (by rw [hb]; simp) | (simp_all; done)) (fun _ => rfl))
       refine ob_nil rfl ?_
       exact PureOk.op (p_pick (b := bif bif r29.1 == 1 then r29.2.1 == 2 else false then r36.1 == 2 else false) (p := r36.2.1 == 2) (q := false) rfl rfl (fun _ => rfl) (fun _ => rfl))
      refine all_cons _ (base_nil rfl) (dst_some rfl rfl) rfl rfl rfl rfl (gd_none rfl rfl) (fun _ => ?_) ?_
      ·
       refine ob_one rfl rfl (fun _ => ?_)
       refine ob_nil rfl ?_
       exact PureOk.op (p_move (v := .bool (bif bif bif r29.1 == 1 then r29.2.1 == 2 else false then r36.1 == 2 else false then r36.2.1 == 2 else false)) rfl rfl)
      refine all_cons _ (base_nil rfl) (dst_some rfl rfl) rfl rfl rfl rfl (gd_some (e := ⟨true, 133, [13], Unit, fun _ => .bool (bif bif bif r29.1 == 1 then r29.2.1 == 2 else false then r36.1 == 2 else false then r36.2.1 == 2 else false), fun _ => [], [], [], []⟩) (bif bif bif r29.1 == 1 then r29.2.1 == 2 else false then r36.1 == 2 else false then r36.2.1 == 2 else false) rfl rfl rfl rfl (fun _ => rfl) (gd_t _)) (fun hx143 => ?_) ?_
      ·
       replace hx143 : ((bif bif bif r29.1 == 1 then r29.2.1 == 2 else false then r36.1 == 2 else false then r36.2.1 == 2 else false)) = true := hx143
       refine ob_nil rfl ?_
       exact PureOk.op (p_fieldAddr (fo := 2) rfl Try.underlying33 rfl Try.ti22 rfl rfl rfl)
      refine all_cons _ (base_nil rfl) (dst_some rfl rfl) rfl rfl rfl rfl (gd_some (e := ⟨true, 133, [13], Unit, fun _ => .bool (bif bif bif r29.1 == 1 then r29.2.1 == 2 else false then r36.1 == 2 else false then r36.2.1 == 2 else false), fun _ => [], [], [], []⟩) (bif bif bif r29.1 == 1 then r29.2.1 == 2 else false then r36.1 == 2 else false then r36.2.1 == 2 else false) rfl rfl rfl rfl (fun _ => rfl) (gd_t _)) (fun hx144 => ?_) ?_
      ·
       replace hx144 : ((bif bif bif r29.1 == 1 then r29.2.1 == 2 else false then r36.1 == 2 else false then r36.2.1 == 2 else false)) = true := hx144
       refine ob_two rfl (fun _ _ => ?_) (fun hn => clash hx144 hn)
       refine ob_nil rfl ?_
       exact PureOk.op (p_load_box (v := Hd.val y23) 2 rfl rfl Try.underlying22 rfl rfl rfl)
      refine all_cons _ (base_nil rfl) (dst_some rfl rfl) rfl rfl rfl rfl (gd_some (e := ⟨true, 133, [13], Unit, fun _ => .bool (bif bif bif r29.1 == 1 then r29.2.1 == 2 else false then r36.1 == 2 else false then r36.2.1 == 2 else false), fun _ => [], [], [], []⟩) (bif bif bif r29.1 == 1 then r29.2.1 == 2 else false then r36.1 == 2 else false then r36.2.1 == 2 else false) rfl rfl rfl rfl (fun _ => rfl) (gd_t _)) (fun hx145 => ?_) ?_
      ·
       replace hx145 : ((bif bif bif r29.1 == 1 then r29.2.1 == 2 else false then r36.1 == 2 else false then r36.2.1 == 2 else false)) = true := hx145
       refine ob_nil rfl ?_
       exact ok_buildSlice (N := 144) (vals := [(0, [.int .i64 (1)]), (1, [.int .i64 (2)])]) (cells := [.int .i64 (1)] ++ [.int .i64 (2)]) (ty := (tI .i64)) (K := []) (xs := [1, 2]) (ys := [(), ()]) rfl Try.underlying22 Try.ti3 rfl rfl rfl rfl rfl rfl rfl rfl trivial rfl
      refine all_cons _ (base_nil rfl) (dst_some rfl rfl) rfl rfl rfl rfl (gd_some (e := ⟨true, 133, [13], Unit, fun _ => .bool (bif bif bif r29.1 == 1 then r29.2.1 == 2 else false then r36.1 == 2 else false then r36.2.1 == 2 else false), fun _ => [], [], [], []⟩) (bif bif bif r29.1 == 1 then r29.2.1 == 2 else false then r36.1 == 2 else false then r36.2.1 == 2 else false) rfl rfl rfl rfl (fun _ => rfl) (gd_t _)) (fun hx146 => ?_) ?_
      ·
       replace hx146 : ((bif bif bif r29.1 == 1 then r29.2.1 == 2 else false then r36.1 == 2 else false then r36.2.1 == 2 else false)) = true := hx146
       replace e111 := cond_t hx146 e111
       refine ob_two rfl (fun _ _ => ?_) (fun hn => clash hx146 hn)
       refine ob_two rfl (fun _ h109 => ?_) (fun hn => clash hx146 hn)
       refine ob_nil rfl ?_
       exact ok_call (N := 145) (Φ := fun y112 => []) (culpritref01_SameInts_ok e111) rfl rfl rfl Try.func26 rfl Try.nm26 [69, 144] ⟨.inl ⟨4, _, rfl, cov_own rfl⟩, .inl ⟨0, _, rfl, cov_own rfl⟩, trivial⟩ (fun _ => rfl) (fun _ => rfl) rfl
      refine all_cons _ (base_nil rfl) (dst_some rfl rfl) rfl rfl rfl rfl (gd_none rfl rfl) (fun _ => ?_) ?_
      ·
       refine ob_one rfl rfl (fun _ => ?_)
       refine ob_two rfl (fun hq148 y112 => ?_) (fun hq148 => ?_)
       rotate_left
       ·
        replace hq148 : ((bif bif bif r29.1 == 1 then r29.2.1 == 2 else false then r36.1 == 2 else false then r36.2.1 == 2 else false)) = false := hq148
        refine ob_nil rfl ?_
        exact PureOk.op (p_pick (b := bif bif bif r29.1 == 1 then r29.2.1 == 2 else false then r36.1 == 2 else false then r36.2.1 == 2 else false) (p := r110) (q := false) rfl rfl (fun hb => by first | (rw [hb] at hq148; cases hq148; done) | exact absurd hq148 (by rw [hb]; simp) | (simp_all; done)) (fun _ => rfl))
       refine ob_nil rfl ?_
       exact PureOk.op (p_pick (b := bif bif bif r29.1 == 1 then r29.2.1 == 2 else false then r36.1 == 2 else false then r36.2.1 == 2 else false) (p := r110) (q := false) rfl rfl (fun _ => rfl) (fun _ => rfl))
      refine all_cons _ (base_nil rfl) (dst_some rfl rfl) rfl rfl rfl rfl (gd_none rfl rfl) (fun _ => ?_) ?_
      ·
       refine ob_one rfl rfl (fun _ => ?_)
       refine ob_nil rfl ?_
       exact PureOk.op (p_move (v := .bool (bif bif bif bif r29.1 == 1 then r29.2.1 == 2 else false then r36.1 == 2 else false then r36.2.1 == 2 else false then r110 else false)) rfl rfl)
      refine all_cons _ (base_nil rfl) (dst_some rfl rfl) rfl rfl rfl rfl (gd_some (e := ⟨true, 139, [19], Unit, fun _ => .bool (bif bif bif bif r29.1 == 1 then r29.2.1 == 2 else false then r36.1 == 2 else false then r36.2.1 == 2 else false then r110 else false), fun _ => [], [], [], []⟩) (bif bif bif bif r29.1 == 1 then r29.2.1 == 2 else false then r36.1 == 2 else false then r36.2.1 == 2 else false then r110 else false) rfl rfl rfl rfl (fun _ => rfl) (gd_t _)) (fun hx150 => ?_) ?_
      ·
       replace hx150 : ((bif bif bif bif r29.1 == 1 then r29.2.1 == 2 else false then r36.1 == 2 else false then r36.2.1 == 2 else false then r110 else false)) = true := hx150
       replace e114 := cond_t hx150 e114
       refine ob_nil rfl ?_
       exact ok_call (N := 157) (Φ := fun y115 => []) (dispute_Most_ok e114) rfl rfl rfl Try.func17 rfl Try.nm17 [] trivial (fun _ => rfl) (fun _ => rfl) rfl
      refine all_cons _ (base_nil rfl) (dst_some rfl rfl) rfl rfl rfl rfl (gd_some (e := ⟨true, 139, [19], Unit, fun _ => .bool (bif bif bif bif r29.1 == 1 then r29.2.1 == 2 else false then r36.1 == 2 else false then r36.2.1 == 2 else false then r110 else false), fun _ => [], [], [], []⟩) (bif bif bif bif r29.1 == 1 then r29.2.1 == 2 else false then r36.1 == 2 else false then r36.2.1 == 2 else false then r110 else false) rfl rfl rfl rfl (fun _ => rfl) (gd_t _)) (fun hx151 => ?_) ?_
      ·
       replace hx151 : ((bif bif bif bif r29.1 == 1 then r29.2.1 == 2 else false then r36.1 == 2 else false then r36.2.1 == 2 else false then r110 else false)) = true := hx151
       replace e114 := cond_t hx151 e114
       refine ob_two rfl (fun _ y115 => ?_) (fun hn => clash hx151 hn)
       refine ob_nil rfl ?_
       exact PureOk.op (p_eql rfl rfl rfl)
      refine all_cons _ (base_nil rfl) (dst_some rfl rfl) rfl rfl rfl rfl (gd_none rfl rfl) (fun _ => ?_) ?_
      ·
       refine ob_one rfl rfl (fun _ => ?_)
       refine ob_two rfl (fun hq153 _ => ?_) (fun hq153 => ?_)
       rotate_left
       ·
        replace hq153 : ((bif bif bif bif r29.1 == 1 then r29.2.1 == 2 else false then r36.1 == 2 else false then r36.2.1 == 2 else false then r110 else false)) = false := hq153
        refine ob_nil rfl ?_
        exact PureOk.op (p_pick (b := bif bif bif bif r29.1 == 1 then r29.2.1 == 2 else false then r36.1 == 2 else false then r36.2.1 == 2 else false then r110 else false) (p := r113 == 0) (q := false) rfl rfl (fun hb => by first | (rw [hb] at hq153; cases hq153; done) | exact absurd hq153 (by rw [hb]; simp) | (simp_all; done)) (fun _ => rfl))
       refine ob_nil rfl ?_
       exact PureOk.op (p_pick (b := bif bif bif bif r29.1 == 1 then r29.2.1 == 2 else false then r36.1 == 2 else false then r36.2.1 == 2 else false then r110 else false) (p := r113 == 0) (q := false) rfl rfl (fun _ => rfl) (fun _ => rfl))
      refine all_cons _ (base_nil rfl) (dst_some rfl rfl) rfl rfl rfl rfl (gd_none rfl rfl) (fun _ => ?_) ?_
      ·
       refine ob_one rfl rfl (fun _ => ?_)
       refine ob_nil rfl ?_
       exact PureOk.op (p_move (v := .bool (bif bif bif bif bif r29.1 == 1 then r29.2.1 == 2 else false then r36.1 == 2 else false then r36.2.1 == 2 else false then r110 else false then r113 == 0 else false)) rfl rfl)
      refine all_cons _ (base_nil rfl) (dst_some rfl rfl) rfl rfl rfl rfl (gd_some (e := ⟨true, 143, [23], Unit, fun _ => .bool (bif bif bif bif bif r29.1 == 1 then r29.2.1 == 2 else false then r36.1 == 2 else false then r36.2.1 == 2 else false then r110 else false then r113 == 0 else false), fun _ => [], [], [], []⟩) (bif bif bif bif bif r29.1 == 1 then r29.2.1 == 2 else false then r36.1 == 2 else false then r36.2.1 == 2 else false then r110 else false then r113 == 0 else false) rfl rfl rfl rfl (fun _ => rfl) (gd_t _)) (fun hx155 => ?_) ?_
      ·
       replace hx155 : ((bif bif bif bif bif r29.1 == 1 then r29.2.1 == 2 else false then r36.1 == 2 else false then r36.2.1 == 2 else false then r110 else false then r113 == 0 else false)) = true := hx155
       replace e117 := cond_t hx155 e117
       refine ob_nil rfl ?_
       exact ok_call (N := 169) (Φ := fun y118 => []) (dispute_Most_ok e117) rfl rfl rfl Try.func17 rfl Try.nm17 [] trivial (fun _ => rfl) (fun _ => rfl) rfl
      refine all_cons _ (base_nil rfl) (dst_some rfl rfl) rfl rfl rfl rfl (gd_some (e := ⟨true, 143, [23], Unit, fun _ => .bool (bif bif bif bif bif r29.1 == 1 then r29.2.1 == 2 else false then r36.1 == 2 else false then r36.2.1 == 2 else false then r110 else false then r113 == 0 else false), fun _ => [], [], [], []⟩) (bif bif bif bif bif r29.1 == 1 then r29.2.1 == 2 else false then r36.1 == 2 else false then r36.2.1 == 2 else false then r110 else false then r113 == 0 else false) rfl rfl rfl rfl (fun _ => rfl) (gd_t _)) (fun hx156 => ?_) ?_
      ·
       replace hx156 : ((bif bif bif bif bif r29.1 == 1 then r29.2.1 == 2 else false then r36.1 == 2 else false then r36.2.1 == 2 else false then r110 else false then r113 == 0 else false)) = true := hx156
       replace e117 := cond_t hx156 e117
       refine ob_two rfl (fun _ y118 => ?_) (fun hn => clash hx156 hn)
       refine ob_nil rfl ?_
       exact PureOk.op (p_eql rfl rfl rfl)
      refine all_cons _ (base_nil rfl) (dst_some rfl rfl) rfl rfl rfl rfl (gd_none rfl rfl) (fun _ => ?_) ?_
      ·
       refine ob_one rfl rfl (fun _ => ?_)
       refine ob_two rfl (fun hq158 _ => ?_) (fun hq158 => ?_)
       rotate_left
       ·
        replace hq158 : ((bif bif bif bif bif r29.1 == 1 then r29.2.1 == 2 else false then r36.1 == 2 else false then r36.2.1 == 2 else false then r110 else false then r113 == 0 else false)) = false := hq158
        refine ob_nil rfl ?_
        exact PureOk.op (p_pick (b := bif bif bif bif bif r29.1 == 1 then r29.2.1 == 2 else false then r36.1 == 2 else false then r36.2.1 == 2 else false then r110 else false then r113 == 0 else false) (p := r116 == 1) (q := false) rfl rfl (fun hb => by first | (rw [hb] at hq158; cases hq158; done) | exact absurd hq158 (by rw [hb]; simp) | (simp_all; done)) (fun _ => rfl))
       refine ob_nil rfl ?_
       exact PureOk.op (p_pick (b := bif bif bif bif bif r29.1 == 1 then r29.2.1 == 2 else false then r36.1 == 2 else false then r36.2.1 == 2 else false then r110 else false then r113 == 0 else false) (p := r116 == 1) (q := false) rfl rfl (fun _ => rfl) (fun _ => rfl))
      refine all_cons _ (base_nil rfl) (dst_some rfl rfl) rfl rfl rfl rfl (gd_none rfl rfl) (fun _ => ?_) ?_
      ·
       refine ob_one rfl rfl (fun _ => ?_)
       refine ob_nil rfl ?_
       exact PureOk.op (p_move (v := .bool (bif bif bif bif bif bif r29.1 == 1 then r29.2.1 == 2 else false then r36.1 == 2 else false then r36.2.1 == 2 else false then r110 else false then r113 == 0 else false then r116 == 1 else false)) rfl rfl)
      refine all_cons _ (base_nil rfl) (dst_some rfl rfl) rfl rfl rfl rfl (gd_some (e := ⟨true, 147, [27], Unit, fun _ => .bool (bif bif bif bif bif bif r29.1 == 1 then r29.2.1 == 2 else false then r36.1 == 2 else false then r36.2.1 == 2 else false then r110 else false then r113 == 0 else false then r116 == 1 else false), fun _ => [], [], [], []⟩) (bif bif bif bif bif bif r29.1 == 1 then r29.2.1 == 2 else false then r36.1 == 2 else false then r36.2.1 == 2 else false then r110 else false then r113 == 0 else false then r116 == 1 else false) rfl rfl rfl rfl (fun _ => rfl) (gd_t _)) (fun hx160 => ?_) ?_
      ·
       replace hx160 : ((bif bif bif bif bif bif r29.1 == 1 then r29.2.1 == 2 else false then r36.1 == 2 else false then r36.2.1 == 2 else false then r110 else false then r113 == 0 else false then r116 == 1 else false)) = true := hx160
       replace e120 := cond_t hx160 e120
       refine ob_nil rfl ?_
       exact ok_call (N := 181) (Φ := fun y121 => []) (dispute_Most_ok e120) rfl rfl rfl Try.func17 rfl Try.nm17 [] trivial (fun _ => rfl) (fun _ => rfl) rfl
      refine all_cons _ (base_nil rfl) (dst_some rfl rfl) rfl rfl rfl rfl (gd_some (e := ⟨true, 147, [27], Unit, fun _ => .bool (bif bif bif bif bif bif r29.1 == 1 then r29.2.1 == 2 else false then r36.1 == 2 else false then r36.2.1 == 2 else false then r110 else false then r113 == 0 else false then r116 == 1 else false), fun _ => [], [], [], []⟩) (bif bif bif bif bif bif r29.1 == 1 then r29.2.1 == 2 else false then r36.1 == 2 else false then r36.2.1 == 2 else false then r110 else false then r113 == 0 else false then r116 == 1 else false) rfl rfl rfl rfl (fun _ => rfl) (gd_t _)) (fun hx161 => ?_) ?_
      ·
       replace hx161 : ((bif bif bif bif bif bif r29.1 == 1 then r29.2.1 == 2 else false then r36.1 == 2 else false then r36.2.1 == 2 else false then r110 else false then r113 == 0 else false then r116 == 1 else false)) = true := hx161
       replace e120 := cond_t hx161 e120
       refine ob_two rfl (fun _ y121 => ?_) (fun hn => clash hx161 hn)
       refine ob_nil rfl ?_
       exact PureOk.op (p_eql rfl rfl rfl)
      refine all_cons _ (base_nil rfl) (dst_some rfl rfl) rfl rfl rfl rfl (gd_none rfl rfl) (fun _ => ?_) ?_
      ·
       refine ob_one rfl rfl (fun _ => ?_)
       refine ob_two rfl (fun hq163 _ => ?_) (fun hq163 => ?_)
       rotate_left
       ·
        replace hq163 : ((bif bif bif bif bif bif r29.1 == 1 then r29.2.1 == 2 else false then r36.1 == 2 else false then r36.2.1 == 2 else false then r110 else false then r113 == 0 else false then r116 == 1 else false)) = false := hq163
        refine ob_nil rfl ?_
        exact PureOk.op (p_pick (b := bif bif bif bif bif bif r29.1 == 1 then r29.2.1 == 2 else false then r36.1 == 2 else false then r36.2.1 == 2 else false then r110 else false then r113 == 0 else false then r116 == 1 else false) (p := r119 == 2) (q := false) rfl rfl (fun hb => by first | (rw [hb] at hq163; cases hq163; done) | exact absurd hq163 (by rw [hb]; simp) | (simp_all; done)) (fun _ => rfl))
       refine ob_nil rfl ?_
       exact PureOk.op (p_pick (b := bif bif bif bif bif bif r29.1 == 1 then r29.2.1 == 2 else false then r36.1 == 2 else false then r36.2.1 == 2 else false then r110 else false then r113 == 0 else false then r116 == 1 else false) (p := r119 == 2) (q := false) rfl rfl (fun _ => rfl) (fun _ => rfl))
      refine all_cons _ (base_nil rfl) (dst_some rfl rfl) rfl rfl rfl rfl (gd_none rfl rfl) (fun _ => ?_) ?_
      ·
       refine ob_one rfl rfl (fun _ => ?_)
       refine ob_nil rfl ?_
       exact PureOk.op (p_move (v := .bool (bif bif bif bif bif bif bif r29.1 == 1 then r29.2.1 == 2 else false then r36.1 == 2 else false then r36.2.1 == 2 else false then r110 else false then r113 == 0 else false then r116 == 1 else false then r119 == 2 else false)) rfl rfl)
      refine all_cons _ (base_nil rfl) (dst_some rfl rfl) rfl rfl rfl rfl (gd_some (e := ⟨true, 151, [31], Unit, fun _ => .bool (bif bif bif bif bif bif bif r29.1 == 1 then r29.2.1 == 2 else false then r36.1 == 2 else false then r36.2.1 == 2 else false then r110 else false then r113 == 0 else false then r116 == 1 else false then r119 == 2 else false), fun _ => [], [], [], []⟩) (bif bif bif bif bif bif bif r29.1 == 1 then r29.2.1 == 2 else false then r36.1 == 2 else false then r36.2.1 == 2 else false then r110 else false then r113 == 0 else false then r116 == 1 else false then r119 == 2 else false) rfl rfl rfl rfl (fun _ => rfl) (gd_t _)) (fun hx165 => ?_) ?_
      ·
       replace hx165 : ((bif bif bif bif bif bif bif r29.1 == 1 then r29.2.1 == 2 else false then r36.1 == 2 else false then r36.2.1 == 2 else false then r110 else false then r113 == 0 else false then r116 == 1 else false then r119 == 2 else false)) = true := hx165
       replace e123 := cond_t hx165 e123
       refine ob_nil rfl ?_
       exact ok_call (N := 193) (Φ := fun y124 => []) (dispute_Most_ok e123) rfl rfl rfl Try.func17 rfl Try.nm17 [] trivial (fun _ => rfl) (fun _ => rfl) rfl
      refine all_cons _ (base_nil rfl) (dst_some rfl rfl) rfl rfl rfl rfl (gd_some (e := ⟨true, 151, [31], Unit, fun _ => .bool (bif bif bif bif bif bif bif r29.1 == 1 then r29.2.1 == 2 else false then r36.1 == 2 else false then r36.2.1 == 2 else false then r110 else false then r113 == 0 else false then r116 == 1 else false then r119 == 2 else false), fun _ => [], [], [], []⟩) (bif bif bif bif bif bif bif r29.1 == 1 then r29.2.1 == 2 else false then r36.1 == 2 else false then r36.2.1 == 2 else false then r110 else false then r113 == 0 else false then r116 == 1 else false then r119 == 2 else false) rfl rfl rfl rfl (fun _ => rfl) (gd_t _)) (fun hx166 => ?_) ?_
      ·
       replace hx166 : ((bif bif bif bif bif bif bif r29.1 == 1 then r29.2.1 == 2 else false then r36.1 == 2 else false then r36.2.1 == 2 else false then r110 else false then r113 == 0 else false then r116 == 1 else false then r119 == 2 else false)) = true := hx166
       replace e123 := cond_t hx166 e123
       refine ob_two rfl (fun _ y124 => ?_) (fun hn => clash hx166 hn)
       refine ob_nil rfl ?_
       exact PureOk.op (p_eql rfl rfl rfl)
      refine all_cons _ (base_nil rfl) (dst_some rfl rfl) rfl rfl rfl rfl (gd_none rfl rfl) (fun _ => ?_) ?_
      ·
       refine ob_one rfl rfl (fun _ => ?_)
       refine ob_two rfl (fun hq168 _ => ?_) (fun hq168 => ?_)
       rotate_left
       ·
        replace hq168 : ((bif bif bif bif bif bif bif r29.1 == 1 then r29.2.1 == 2 else false then r36.1 == 2 else false then r36.2.1 == 2 else false then r110 else false then r113 == 0 else false then r116 == 1 else false then r119 == 2 else false)) = false := hq168
        refine ob_nil rfl ?_
        exact PureOk.op (p_pick (b := bif bif bif bif bif bif bif r29.1 == 1 then r29.2.1 == 2 else false then r36.1 == 2 else false then r36.2.1 == 2 else false then r110 else false then r113 == 0 else false then r116 == 1 else false then r119 == 2 else false) (p := r122 == 3) (q := false) rfl rfl (fun hb => by first | (rw [hb] at hq168; cases hq168; done) | exact absurd hq168 (by rw [hb]; simp) | (simp_all; done)) (fun _ => rfl))
       refine ob_nil rfl ?_
       exact PureOk.op (p_pick (b := bif bif bif bif bif bif bif r29.1 == 1 then r29.2.1 == 2 else false then r36.1 == 2 else false then r36.2.1 == 2 else false then r110 else false then r113 == 0 else false then r116 == 1 else false then r119 == 2 else false) (p := r122 == 3) (q := false) rfl rfl (fun _ => rfl) (fun _ => rfl))
      exact all_nil
     ·
      refine fin_base _ (base_nil rfl) ?_
      refine fin_one rfl rfl (fun _ => ?_)
      refine fin_nil ?_
      refine s_pure (p_assign (v := .bool (bif bif bif bif bif bif bif bif r29.1 == 1 then r29.2.1 == 2 else false then r36.1 == 2 else false then r36.2.1 == 2 else false then r110 else false then r113 == 0 else false then r116 == 1 else false then r119 == 2 else false then r122 == 3 else false)) rfl rfl) rfl rfl rfl ?_
      refine s_nil ?_
      refine x_then ?_
      refine s_ret ?_
      replace hF := some_inj hF
      subst hF
      exact x_ret () (res_one rfl (ra_tmp (v := .bool (bif bif bif bif bif bif bif bif r29.1 == 1 then r29.2.1 == 2 else false then r36.1 == 2 else false then r36.2.1 == 2 else false then r110 else false then r113 == 0 else false then r116 == 1 else false then r119 == 2 else false then r122 == 3 else false)) rfl)) rfl 16 rfl [] 2 rfl trivial

end Go.Proofs.Ytimljgafbpbceaa
