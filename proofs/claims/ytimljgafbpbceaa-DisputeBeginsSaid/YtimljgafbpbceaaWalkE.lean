/-
  The functions of the program compute what their Lean functions say. No condition.
-/
import Derived.Test.YtimljgafbpbceaaWalkD
namespace Go.Proofs.Ytimljgafbpbceaa
open Go.Sm
set_option maxHeartbeats 8000000

theorem culpritlaw32_DisputeBegins_ok {x0 : (List Int)} {x1 : (List Int)} {x2 : Int} {x3 : Int} {x4 : Int} {x5 : Int} {x6 : Int} {h0_0 : Hd} {h1_0 : Hd} {r : Bool} (hF : culpritlaw32_DisputeBegins x0 x1 x2 x3 x4 x5 x6 = some r) : ∀ (w : World) (S : Nat → Prop), Heap w (oldc S) [.rep (tI .i64) [1] x0 h0_0, .rep (tI .i64) [1] x1 h1_0] → Calls Try.prog 3 #[Hd.val h0_0, Hd.val h1_0, .int .i64 (x2), .int .i64 (x3), .int .i64 (x4), .int .i64 (x5), .int .i64 (x6)] w (Post w S (fun (_ : Unit) => .bool (r)) (fun (_ : Unit) => [])) := by
  intro w S hL
  refine s_enter (n := 229) Try.func3 rfl rfl _ rfl hL ?_
  refine s_seq ?_
  refine s_region ?_
  refine s_pure (p_assign (v := .bool (false)) rfl rfl) rfl rfl rfl ?_
  refine s_nil ?_
  refine x_then ?_
  refine s_seq ?_
  refine s_region ?_
  refine s_pure (p_move (v := Hd.val h0_0) rfl rfl) rfl rfl rfl ?_
  obtain ⟨r1, e2, hF⟩ := bind_some hF
  refine s_op0 (ok_call (N := 11) (Φ := fun y3 => [.own (tA 16 .u8) 52 11 [] r1 y3]) (culpritref32_Small_ok e2) rfl rfl rfl Try.func5 rfl Try.nm5 [1] ⟨.inl ⟨1, _, rfl, cov_rep rfl⟩, trivial⟩ (fun _ => rfl) (fun _ => rfl) rfl) rfl rfl rfl (fun y3 => ?_)
  refine s_nilrow (tA 16 .u8) 52 24 [] ?_
  refine s_op0 (ok_alloc (N := 25) (cs := [Hd.val (nilH 52)]) rfl Try.ti25 rfl rfl) rfl rfl rfl (fun b5 => ?_)
  refine s_opn (ok_store_box (v := .agg ([Hd.val y3]).toArray) (vs := [Hd.val y3]) (cs' := [Hd.val y3]) 0 rfl rfl Try.ti25 rfl rfl rfl rfl rfl rfl rfl) rfl rfl rfl (fun _ => ?_)
  refine s_nil ?_
  refine x_then ?_
  refine s_seq ?_
  obtain ⟨r6, e7, hF⟩ := bind_some hF
  obtain ⟨r9, e10, hF⟩ := bind_some hF
  obtain ⟨r12, e13, hF⟩ := bind_some hF
  obtain ⟨c16, hF⟩ := chk_some hF
  refine s_draw Try.mixed [⟨true, 39, [], Unit, fun _ => .agg ([Hd.val y3]).toArray, fun _ => [], [], [], []⟩, ⟨true, 40, [], Unit, fun _ => Hd.val h1_0, fun _ => [], [], [], []⟩, ⟨true, 41, [1], Hd, fun (y8 : Hd) => .agg ([Hd.val y8]).toArray, fun y8 => [.own (tA 16 .u8) 52 26 [] r6 y8], [], [], []⟩, ⟨true, 42, [], Unit, fun _ => .agg ([Hd.val y3]).toArray, fun _ => [], [], [], []⟩, ⟨true, 43, [], Unit, fun _ => .int .i64 (x2), fun _ => [], [], [], []⟩, ⟨true, 44, [], Unit, fun _ => .int .i64 (x3), fun _ => [], [], [], []⟩, ⟨true, 45, [3, 4, 5], Hd, fun (y11 : Hd) => .agg ([Hd.val y11]).toArray, fun y11 => [.own (tA 16 .u8) 52 38 [] r9 y11], [], [], []⟩, ⟨true, 46, [], Unit, fun _ => .int .i64 (x3), fun _ => [], [], [], []⟩, ⟨true, 47, [7], Unit, fun (y14 : Unit) => .int .i64 (r12), fun _ => [], [], [], []⟩, ⟨true, 48, [8], Unit, fun _ => .int .i64 (w64 (999 + r12)), fun _ => [], [], [], []⟩, ⟨true, 49, [9], Hd, fun (h15 : Hd) => Hd.val h15, fun h15 => [.own (tA 16 .u8) 52 62 [] (List.replicate (w64 (999 + r12)).toNat (List.replicate 16 0)) h15], [], [], []⟩, ⟨true, 50, [10], Hd, fun (z17 : Hd) => .agg ([Hd.val z17]).toArray, fun z17 => [.own (tA 16 .u8) 52 62 [] (List.replicate (w64 (999 + r12)).toNat (List.replicate 16 0)) z17], [], [], []⟩, ⟨true, 51, [], Unit, fun _ => .agg ([Hd.val (nilH 52)]).toArray, fun _ => [], [], [], []⟩] [[], [], [1], [], [], [], [1, 2, 3, 4, 5], [], [1, 2, 3, 4, 5, 6, 7], [1, 2, 3, 4, 5, 6, 7, 8], [1, 2, 3, 4, 5, 6, 7, 8, 9], [1, 2, 3, 4, 5, 6, 7, 8, 9, 10], [], [0, 1, 2, 3, 4, 5, 6, 7, 8, 9, 10, 11, 12], [0, 1, 2, 3, 4, 5, 6, 7, 8, 9, 10, 11, 12, 13]] rfl rfl rfl rfl rfl ⟨.inl rfl, .inl rfl, .inl rfl, .inl rfl, .inl rfl, .inl rfl, .inl rfl, .inl rfl, .inl rfl, .inl rfl, .inl rfl, .inl rfl, .inl rfl, trivial⟩ ?_ [0, 2, 6, 11, 12] rfl rfl (fun us => ?_)
  ·
   refine all_cons _ (base_nil rfl) (dst_some rfl rfl) rfl rfl rfl rfl (gd_none rfl rfl) (fun _ => ?_) ?_
   ·
    refine ob_nil rfl ?_
    exact PureOk.op (p_loadN_box (cs' := [Hd.val y3]) 0 rfl rfl Try.underlying25 rfl Try.ti25 rfl rfl rfl)
   refine all_cons _ (base_nil rfl) (dst_some rfl rfl) rfl rfl rfl rfl (gd_none rfl rfl) (fun _ => ?_) ?_
   ·
    refine ob_nil rfl ?_
    exact PureOk.op (p_move (v := Hd.val h1_0) rfl rfl)
   refine all_cons _ (base_nil rfl) (dst_some rfl rfl) rfl rfl rfl rfl (gd_none rfl rfl) (fun _ => ?_) ?_
   ·
    refine ob_one rfl rfl (fun _ => ?_)
    refine ob_nil rfl ?_
    exact ok_call (N := 26) (Φ := fun y8 => [.own (tA 16 .u8) 52 26 [] r6 y8]) (culpritref32_Small_ok e7) rfl rfl rfl Try.func5 rfl Try.nm5 [1] ⟨.inl ⟨5, _, rfl, cov_rep rfl⟩, trivial⟩ (fun _ => rfl) (fun _ => rfl) rfl
   refine all_cons _ (base_nil rfl) (dst_some rfl rfl) rfl rfl rfl rfl (gd_none rfl rfl) (fun _ => ?_) ?_
   ·
    refine ob_nil rfl ?_
    exact PureOk.op (p_loadN_box (cs' := [Hd.val y3]) 0 rfl rfl Try.underlying25 rfl Try.ti25 rfl rfl rfl)
   refine all_cons _ (base_nil rfl) (dst_some rfl rfl) rfl rfl rfl rfl (gd_none rfl rfl) (fun _ => ?_) ?_
   ·
    refine ob_nil rfl ?_
    exact PureOk.op (p_move (v := .int .i64 (x2)) rfl rfl)
   refine all_cons _ (base_nil rfl) (dst_some rfl rfl) rfl rfl rfl rfl (gd_none rfl rfl) (fun _ => ?_) ?_
   ·
    refine ob_nil rfl ?_
    exact PureOk.op (p_move (v := .int .i64 (x3)) rfl rfl)
   refine all_cons _ (base_nil rfl) (dst_some rfl rfl) rfl rfl rfl rfl (gd_none rfl rfl) (fun _ => ?_) ?_
   ·
    refine ob_one rfl rfl (fun _ => ?_)
    refine ob_one rfl rfl (fun _ => ?_)
    refine ob_one rfl rfl (fun _ => ?_)
    refine ob_nil rfl ?_
    exact ok_call (N := 38) (Φ := fun y11 => [.own (tA 16 .u8) 52 38 [] r9 y11]) (culpritref32_Bent_ok e10) rfl rfl rfl Try.func6 rfl Try.nm6 [11] ⟨.inl ⟨2, _, rfl, cov_own rfl⟩, trivial⟩ (fun _ => rfl) (fun _ => rfl) rfl
   refine all_cons _ (base_nil rfl) (dst_some rfl rfl) rfl rfl rfl rfl (gd_none rfl rfl) (fun _ => ?_) ?_
   ·
    refine ob_nil rfl ?_
    exact PureOk.op (p_move (v := .int .i64 (x3)) rfl rfl)
   refine all_cons _ (base_nil rfl) (dst_some rfl rfl) rfl rfl rfl rfl (gd_none rfl rfl) (fun _ => ?_) ?_
   ·
    refine ob_one rfl rfl (fun _ => ?_)
    refine ob_nil rfl ?_
    exact ok_call (N := 50) (Φ := fun y14 => []) (culpritref01_Around_ok e13) rfl rfl rfl Try.func7 rfl Try.nm7 [] trivial (fun _ => rfl) (fun _ => rfl) rfl
   refine all_cons _ (base_nil rfl) (dst_some rfl rfl) rfl rfl rfl rfl (gd_none rfl rfl) (fun _ => ?_) ?_
   ·
    refine ob_one rfl rfl (fun y14 => ?_)
    refine ob_nil rfl ?_
    exact PureOk.op (p_add rfl rfl rfl)
   refine all_cons _ (base_nil rfl) (dst_some rfl rfl) rfl rfl rfl rfl (gd_none rfl rfl) (fun _ => ?_) ?_
   ·
    refine ob_one rfl rfl (fun _ => ?_)
    refine ob_nil rfl ?_
    exact ok_makeSlice (N := 62) (K := []) (l := w64 (999 + r12)) (ty := (tA 16 .u8)) (v := (List.replicate 16 0)) (r := ()) rfl Try.underlying23 Try.ti52 rfl rfl trivial rfl rfl c16 rfl
   refine all_cons _ (base_nil rfl) (dst_some rfl rfl) rfl rfl rfl rfl (gd_none rfl rfl) (fun _ => ?_) ?_
   ·
    refine ob_one rfl rfl (fun h15 => ?_)
    refine ob_nil rfl ?_
    exact ok_known (h15) (p_build_struct (vals := [(0, [Hd.val h15])]) (places := [(0, 1)]) (cells := [Hd.val h15]) rfl Try.underlying25 Try.ti25 (⟨rfl, ⟨_, _, Try.ti23⟩, trivial⟩) rfl rfl) rfl [0] rfl
   refine all_cons _ (base_nil rfl) (dst_some rfl rfl) rfl rfl rfl rfl (gd_none rfl rfl) (fun _ => ?_) ?_
   ·
    refine ob_nil rfl ?_
    exact PureOk.op (p_build_struct (vals := []) (places := [(0, 1)]) (cells := [Hd.val (nilH 52)]) rfl Try.underlying25 Try.ti25 (⟨rfl, ⟨_, _, Try.ti23⟩, trivial⟩) rfl rfl)
   exact all_nil
  ·
   refine fin_base _ (base_nil rfl) ?_
   refine fin_one rfl rfl (fun _ => ?_)
   refine fin_one rfl rfl (fun y8 => ?_)
   refine fin_one rfl rfl (fun y11 => ?_)
   refine fin_one rfl rfl (fun z17 => ?_)
   refine fin_one rfl rfl (fun _ => ?_)
   refine fin_nil ?_
   refine s_op0 (ok_buildSlice (N := 63) (vals := [(0, [Hd.val y3]), (1, [Hd.val y8]), (2, [Hd.val y11]), (3, [Hd.val z17]), (4, [Hd.val (nilH 52)])]) (cells := [Hd.val y3] ++ [Hd.val y8] ++ [Hd.val y11] ++ [Hd.val z17] ++ [Hd.val (nilH 52)]) (ty := Ty_culpritref32_Claimant) (K := [11, 26, 38, 62, 24]) (xs := [r1, r6, r9, List.replicate (w64 (999 + r12)).toNat (List.replicate 16 0), ([] : List (List Int))]) (ys := [y3, y8, y11, z17, (nilH 52)]) rfl Try.underlying29 Try.ti25 rfl rfl rfl rfl rfl rfl rfl rfl ⟨.inl ⟨5, _, rfl, weak_own rfl⟩, .inl ⟨2, _, rfl, weak_own rfl⟩, .inl ⟨1, _, rfl, weak_own rfl⟩, .inl ⟨0, _, rfl, weak_own rfl⟩, .inl ⟨4, _, rfl, weak_own rfl⟩, trivial⟩ rfl) rfl rfl rfl (fun h31 => ?_)
   refine s_pure (p_assign (v := Hd.val h31) rfl rfl) rfl rfl rfl ?_
   refine s_nil ?_
   refine x_then ?_
   obtain ⟨r32, e33, hF⟩ := bind_some hF
   refine s_join (fun y34 : Unit => (Sum.elim (fun s35 => [(6, .int .i64 (x6))]) (fun _ => []) r32)) (fun y34 : Unit => (Sum.elim (fun s35 => [.old w S]) (fun _ => [.pure False]) r32)) ?_ ?_
   ·
    refine s_seq ?_
    refine s_region ?_
    refine s_pure (p_assign (v := .int .i64 (0)) rfl rfl) rfl rfl rfl ?_
    refine s_nil ?_
    refine x_then ?_
    refine s_block ?_
    refine sim_loop (fun (s36 : (List ((List (List Int)))) × Int) (y37 : Hd) => [(4, .int .i64 (x4)), (5, .int .i64 (x5)), (6, .int .i64 (x6)), (16, Hd.val y37), (17, .int .i64 (s36.2))]) (fun (s36 : (List ((List (List Int)))) × Int) (y37 : Hd) => [.old w S, .own Ty_culpritref32_Claimant 25 63 [11, 24, 26, 38, 62] s36.1 y37]) h31 e33 [(11, 11), (24, 24), (26, 26), (38, 38), (62, 62), (63, 63)] 2 rfl ⟨rfl, rfl, rfl, rfl, rfl, trivial⟩ ⟨.inl ⟨7, _, rfl, weak_same⟩, .inl ⟨0, _, rfl, weak_ownK rfl⟩, trivial⟩ ?_
    intro s36 y37 ρ' z38 e39
    refine s_seq ?_
    refine s_seq ?_
    refine s_region ?_
    refine s_pure (p_move (v := .int .i64 (s36.2)) rfl rfl) rfl rfl rfl ?_
    refine s_pure (p_move (v := Hd.val y37) rfl rfl) rfl rfl rfl ?_
    refine s_pure (p_len_own (ty := Ty_culpritref32_Claimant) (xs := s36.1) (h := y37) 1 rfl rfl Try.underlying29 rfl) rfl rfl rfl ?_
    refine s_pure (p_lss rfl rfl rfl) rfl rfl rfl ?_
    refine s_nil ?_
    refine x_then ?_
    refine s_cond rfl (fun hb40 => ?_) (fun hb40 => ?_)
    ·
     replace e39 := cond_t hb40 e39
     refine s_skip ?_
     refine x_then ?_
     obtain ⟨r41, e42, e39⟩ := bind_some e39
     refine s_join (fun y43 : Unit => (Sum.elim (fun s44 => [(4, .int .i64 (x4)), (5, .int .i64 (x5)), (6, .int .i64 (x6)), (16, Hd.val y37), (17, .int .i64 (s36.2))]) (fun _ => []) r41)) (fun y43 : Unit => (Sum.elim (fun s44 => [.old w S, .own Ty_culpritref32_Claimant 25 63 [11, 24, 26, 38, 62] s36.1 y37]) (fun _ => [.pure False]) r41)) ?_ ?_
     ·
      refine s_block ?_
      refine s_seq ?_
      refine s_region ?_
      refine s_pure (p_assign (v := .int .i64 (0)) rfl rfl) rfl rfl rfl ?_
      refine s_nil ?_
      refine x_then ?_
      refine s_block ?_
      refine sim_loop (fun (s45 : Int) (y46 : Unit) => [(4, .int .i64 (x4)), (5, .int .i64 (x5)), (6, .int .i64 (x6)), (16, Hd.val y37), (17, .int .i64 (s36.2)), (18, .int .i64 (s45))]) (fun (s45 : Int) (y46 : Unit) => [.old w S, .own Ty_culpritref32_Claimant 25 63 [11, 24, 26, 38, 62] s36.1 y37]) () e42 [(11, 11), (24, 24), (26, 26), (38, 38), (62, 62), (63, 63)] 2 rfl ⟨rfl, rfl, rfl, rfl, rfl, rfl, trivial⟩ ⟨.inl ⟨0, _, rfl, weak_same⟩, .inl ⟨1, _, rfl, weak_ownK rfl⟩, trivial⟩ ?_
      intro s45 y46 ρ' z47 e48
      refine s_seq ?_
      refine s_seq ?_
      refine s_region ?_
      refine s_pure (p_move (v := .int .i64 (s45)) rfl rfl) rfl rfl rfl ?_
      refine s_pure (p_move (v := Hd.val y37) rfl rfl) rfl rfl rfl ?_
      refine s_pure (p_len_own (ty := Ty_culpritref32_Claimant) (xs := s36.1) (h := y37) 1 rfl rfl Try.underlying29 rfl) rfl rfl rfl ?_
      refine s_pure (p_lss rfl rfl rfl) rfl rfl rfl ?_
      refine s_nil ?_
      refine x_then ?_
      refine s_cond rfl (fun hb49 => ?_) (fun hb49 => ?_)
      ·
       replace e48 := cond_t hb49 e48
       refine s_skip ?_
       refine x_then ?_
       obtain ⟨r50, e51, e48⟩ := bind_some e48
       refine s_join (fun y52 : Unit => (Sum.elim (fun s53 => [(4, .int .i64 (x4)), (5, .int .i64 (x5)), (6, .int .i64 (x6)), (16, Hd.val y37), (17, .int .i64 (s36.2)), (18, .int .i64 (s45))]) (fun _ => []) r50)) (fun y52 : Unit => (Sum.elim (fun s53 => [.old w S, .own Ty_culpritref32_Claimant 25 63 [11, 24, 26, 38, 62] s36.1 y37]) (fun _ => [.pure False]) r50)) ?_ ?_
       ·
        refine s_block ?_
        refine s_seq ?_
        refine s_region ?_
        refine s_pure (p_move (v := Hd.val y37) rfl rfl) rfl rfl rfl ?_
        refine s_pure (p_move (v := .int .i64 (s36.2)) rfl rfl) rfl rfl rfl ?_
        obtain ⟨x54, e55, e51⟩ := bind_some e51
        refine s_pure (p_idx_own (h := y37) (i := s36.2) (ty := Ty_culpritref32_Claimant) (xs := s36.1) (v := x54) 1 rfl rfl Try.underlying29 Try.ti25 rfl rfl e55) rfl rfl rfl ?_
        refine s_op0 (ok_load_agg_at (X := s36.2.toNat * 1) (ty := Ty_culpritref32_Claimant) (v := x54) (el_own (ty := Ty_culpritref32_Claimant) (xs := s36.1) (h := y37) (i := s36.2) (v := x54) (sz := 1) 1 rfl rfl e55) rfl Try.underlying25 rfl Try.ti25 rfl rfl) rfl rfl rfl (fun y56 => ?_)
        obtain ⟨r57, e58, e51⟩ := bind_some e51
        refine s_op0 (ok_call (N := 64) (Φ := fun y59 => [.rep (tA 16 .u8) [63, 11, 24, 26, 38, 62] r57 y59]) (culpritlaw32_own_ok e58) rfl rfl rfl Try.func8 rfl Try.nm8 [63, 11, 24, 26, 38, 62] ⟨.inl ⟨0, _, rfl, cov_rep rfl⟩, trivial⟩ (fun _ => rfl) (fun _ => rfl) rfl) rfl rfl rfl (fun y59 => ?_)
        refine s_nilrow (tA 16 .u8) 52 77 [] ?_
        refine s_op0 (ok_alloc (N := 78) (cs := [Hd.val (nilH 52)]) rfl Try.ti30 rfl rfl) rfl rfl rfl (fun b61 => ?_)
        refine s_opn (ok_store_box (v := .agg ([Hd.val y59]).toArray) (vs := [Hd.val y59]) (cs' := [Hd.val y59]) 0 rfl rfl Try.ti30 rfl rfl rfl rfl rfl rfl rfl) rfl rfl rfl (fun _ => ?_)
        refine s_nil ?_
        refine x_then ?_
        refine s_seq ?_
        refine s_region ?_
        refine s_pure (p_move (v := Hd.val y37) rfl rfl) rfl rfl rfl ?_
        refine s_pure (p_move (v := .int .i64 (s45)) rfl rfl) rfl rfl rfl ?_
        obtain ⟨x62, e63, e51⟩ := bind_some e51
        refine s_pure (p_idx_own (h := y37) (i := s45) (ty := Ty_culpritref32_Claimant) (xs := s36.1) (v := x62) 5 rfl rfl Try.underlying29 Try.ti25 rfl rfl e63) rfl rfl rfl ?_
        refine s_op0 (ok_load_agg_at (X := s45.toNat * 1) (ty := Ty_culpritref32_Claimant) (v := x62) (el_own (ty := Ty_culpritref32_Claimant) (xs := s36.1) (h := y37) (i := s45) (v := x62) (sz := 1) 5 rfl rfl e63) rfl Try.underlying25 rfl Try.ti25 rfl rfl) rfl rfl rfl (fun y64 => ?_)
        obtain ⟨r65, e66, e51⟩ := bind_some e51
        refine s_op0 (ok_call (N := 79) (Φ := fun y67 => [.rep (tA 16 .u8) [63, 11, 24, 26, 38, 62] r65 y67]) (culpritlaw32_own_ok e66) rfl rfl rfl Try.func8 rfl Try.nm8 [63, 11, 24, 26, 38, 62] ⟨.inl ⟨0, _, rfl, cov_rep rfl⟩, trivial⟩ (fun _ => rfl) (fun _ => rfl) rfl) rfl rfl rfl (fun y67 => ?_)
        refine s_op0 (ok_alloc (N := 91) (cs := [Hd.val (nilH 52)]) rfl Try.ti30 rfl rfl) rfl rfl rfl (fun b68 => ?_)
        refine s_opn (ok_store_box (v := .agg ([Hd.val y67]).toArray) (vs := [Hd.val y67]) (cs' := [Hd.val y67]) 0 rfl rfl Try.ti30 rfl rfl rfl rfl rfl rfl rfl) rfl rfl rfl (fun _ => ?_)
        refine s_nil ?_
        refine x_then ?_
        refine s_seq ?_
        refine s_region ?_
        refine s_pure (p_loadN_box (cs' := [Hd.val y59]) 3 rfl rfl Try.underlying30 rfl Try.ti30 rfl rfl rfl) rfl rfl rfl ?_
        refine s_pure (p_loadN_box (cs' := [Hd.val y67]) 0 rfl rfl Try.underlying30 rfl Try.ti30 rfl rfl rfl) rfl rfl rfl ?_
        obtain ⟨r69, e70, e51⟩ := bind_some e51
        refine s_op0 (ok_call (N := 92) (Φ := fun y71 => [.own (tI .i64) 3 92 [] r69.1.2.2 y71]) (dispute_Begin_ok e70) rfl rfl rfl Try.func9 rfl Try.nm9 [63, 11, 24, 26, 38, 62] ⟨.inl ⟨5, _, rfl, cov_rep rfl⟩, .inl ⟨1, _, rfl, cov_rep rfl⟩, trivial⟩ (fun _ => rfl) (fun _ => rfl) rfl) rfl rfl rfl (fun y71 => ?_)
        refine s_pure (p_move (v := .tuple #[.agg ([.int .i64 (r69.1.1), .int .i64 (r69.1.2.1), Hd.val y71]).toArray, .int .i64 (r69.2)]) rfl rfl) rfl rfl rfl ?_
        refine s_pure (p_extract (v := .agg ([.int .i64 (r69.1.1), .int .i64 (r69.1.2.1), Hd.val y71]).toArray) rfl rfl rfl) rfl rfl rfl ?_
        refine s_pure (p_extract (v := .int .i64 (r69.2)) rfl rfl rfl) rfl rfl rfl ?_
        refine s_nilrow (tI .i64) 3 105 [] ?_
        refine s_op0 (ok_alloc (N := 106) (cs := [.int .i64 (0), .int .i64 (0), Hd.val (nilH 3)]) rfl Try.ti33 rfl rfl) rfl rfl rfl (fun b73 => ?_)
        refine s_opn (ok_store_box (v := .agg ([.int .i64 (r69.1.1), .int .i64 (r69.1.2.1), Hd.val y71]).toArray) (vs := [.int .i64 (r69.1.1), .int .i64 (r69.1.2.1), Hd.val y71]) (cs' := [.int .i64 (r69.1.1), .int .i64 (r69.1.2.1), Hd.val y71]) 0 rfl rfl Try.ti33 rfl rfl rfl rfl rfl rfl rfl) rfl rfl rfl (fun _ => ?_)
        refine s_pure (p_assign (v := .int .i64 (r69.2)) rfl rfl) rfl rfl rfl ?_
        refine s_nil ?_
        refine x_then ?_
        refine s_seq ?_
        obtain ⟨x74, e75, e51⟩ := bind_some e51
        obtain ⟨x77, e78, e51⟩ := bind_some e51
        obtain ⟨r80, e81, e51⟩ := bind_some e51
        refine s_draw Try.mixed [⟨true, 82, [], Unit, fun _ => Hd.val y37, fun _ => [], [], [], []⟩, ⟨true, 83, [], Unit, fun _ => .int .i64 (s36.2), fun _ => [], [], [], []⟩, ⟨true, 84, [0, 1], Unit, fun _ => .pointer (some (pat y37 (s36.2.toNat * 1))), fun _ => [], [], [], []⟩, ⟨true, 85, [2], Ty.Refs Ty_culpritref32_Claimant, fun (y76 : Ty.Refs Ty_culpritref32_Claimant) => .agg ([Hd.val y76]).toArray, fun y76 => [.rep (tA 16 .u8) [63, 11, 24, 26, 38, 62] x74 y76], [], [], []⟩, ⟨true, 86, [], Unit, fun _ => Hd.val y37, fun _ => [], [], [], []⟩, ⟨true, 87, [], Unit, fun _ => .int .i64 (s45), fun _ => [], [], [], []⟩, ⟨true, 88, [4, 5], Unit, fun _ => .pointer (some (pat y37 (s45.toNat * 1))), fun _ => [], [], [], []⟩, ⟨true, 89, [6], Ty.Refs Ty_culpritref32_Claimant, fun (y79 : Ty.Refs Ty_culpritref32_Claimant) => .agg ([Hd.val y79]).toArray, fun y79 => [.rep (tA 16 .u8) [63, 11, 24, 26, 38, 62] x77 y79], [], [], []⟩, ⟨true, 90, [3, 7], Hd, fun (y82 : Hd) => .tuple #[.agg ([.int .i64 (r80.1.1), .int .i64 (r80.1.2.1), Hd.val y82]).toArray, .int .i64 (r80.2)], fun y82 => [.own (tI .i64) 3 107 [] r80.1.2.2 y82], [], [], []⟩, ⟨true, 81, [8], Hd, fun (z84 : Hd) => .tuple #[.agg ([.int .i64 (r80.1.1), .int .i64 (r80.1.2.1), Hd.val z84]).toArray, .int .i64 (r80.2)], fun z84 => [.own (tI .i64) 3 107 [] r80.1.2.2 z84], [], [], []⟩, ⟨true, 91, [9], Hd, fun (z85 : Hd) => .agg ([.int .i64 (r80.1.1), .int .i64 (r80.1.2.1), Hd.val z85]).toArray, fun z85 => [.own (tI .i64) 3 107 [] r80.1.2.2 z85], [], [], []⟩, ⟨true, 92, [9], Unit, fun _ => .int .i64 (r80.2), fun _ => [], [], [], []⟩, ⟨true, 23, [], Nat, fun (b83 : Nat) => .pointer (some ⟨b83, 0, none⟩), fun b83 => [.box 119 b83 [.int .i64 (0), .int .i64 (0), Hd.val (nilH 3)]], [], [], []⟩, ⟨true, 242, [12, 10], Hd × Nat, fun (z86 : Hd × Nat) => undef, fun z86 => [.box 119 z86.2 [.int .i64 (r80.1.1), .int .i64 (r80.1.2.1), Hd.val z86.1], .own (tI .i64) 3 107 [] r80.1.2.2 z86.1], [119], [12], [(23, fun z86 => .pointer (some ⟨z86.2, 0, none⟩))]⟩] [[], [], [0, 1], [0, 1, 2], [], [], [4, 5], [4, 5, 6], [0, 1, 2, 3, 4, 5, 6, 7], [0, 1, 2, 3, 4, 5, 6, 7, 8], [0, 1, 2, 3, 4, 5, 6, 7, 8, 9], [0, 1, 2, 3, 4, 5, 6, 7, 8, 9], [], [0, 1, 2, 3, 4, 5, 6, 7, 8, 9, 10, 12], [0, 1, 2, 3, 4, 5, 6, 7, 8, 9, 10, 11, 12, 13]] rfl rfl rfl rfl rfl ⟨.inl rfl, .inl rfl, .inl rfl, .inl rfl, .inl rfl, .inl rfl, .inl rfl, .inl rfl, .inl rfl, .inl rfl, .inl rfl, .inl rfl, .inl rfl, .inr ⟨.inr fun _ => rfl, .inr fun _ => rfl, .inr fun _ => rfl, .inr fun _ => rfl, .inr fun _ => rfl, .inr fun _ => rfl, .inr fun _ => rfl, .inr fun _ => rfl, .inr fun _ => rfl, .inr fun _ => rfl, .inr fun _ => rfl, .inr fun _ => rfl, .inl rfl, .inl rfl, trivial⟩, trivial⟩ ?_ [11, 13] rfl rfl (fun us => ?_)
        ·
         refine all_cons [.box 106 b73 [.int .i64 (r69.1.1), .int .i64 (r69.1.2.1), Hd.val y71], .own (tI .i64) 3 105 [] ([] : List Int) (nilH 3), .own (tI .i64) 3 92 [] r69.1.2.2 y71, .box 91 b68 [Hd.val y67], .rep (tA 16 .u8) [63, 11, 24, 26, 38, 62] r65 y67, .rep (tA 16 .u8) [63, 11, 24, 26, 38, 62] x62 y64, .box 78 b61 [Hd.val y59], .own (tA 16 .u8) 52 77 [] ([] : List (List Int)) (nilH 52), .rep (tA 16 .u8) [63, 11, 24, 26, 38, 62] r57 y59, .rep (tA 16 .u8) [63, 11, 24, 26, 38, 62] x54 y56, .old w S, .own Ty_culpritref32_Claimant 25 63 [11, 24, 26, 38, 62] s36.1 y37] rfl (dst_some rfl rfl) rfl rfl rfl rfl (gd_none rfl rfl) (fun _ => ?_) ?_
         ·
          refine ob_nil rfl ?_
          exact PureOk.op (p_move (v := Hd.val y37) rfl rfl)
         refine all_cons [.box 106 b73 [.int .i64 (r69.1.1), .int .i64 (r69.1.2.1), Hd.val y71], .own (tI .i64) 3 105 [] ([] : List Int) (nilH 3), .own (tI .i64) 3 92 [] r69.1.2.2 y71, .box 91 b68 [Hd.val y67], .rep (tA 16 .u8) [63, 11, 24, 26, 38, 62] r65 y67, .rep (tA 16 .u8) [63, 11, 24, 26, 38, 62] x62 y64, .box 78 b61 [Hd.val y59], .own (tA 16 .u8) 52 77 [] ([] : List (List Int)) (nilH 52), .rep (tA 16 .u8) [63, 11, 24, 26, 38, 62] r57 y59, .rep (tA 16 .u8) [63, 11, 24, 26, 38, 62] x54 y56, .old w S, .own Ty_culpritref32_Claimant 25 63 [11, 24, 26, 38, 62] s36.1 y37] rfl (dst_some rfl rfl) rfl rfl rfl rfl (gd_none rfl rfl) (fun _ => ?_) ?_
         ·
          refine ob_nil rfl ?_
          exact PureOk.op (p_move (v := .int .i64 (s36.2)) rfl rfl)
         refine all_cons [.box 106 b73 [.int .i64 (r69.1.1), .int .i64 (r69.1.2.1), Hd.val y71], .own (tI .i64) 3 105 [] ([] : List Int) (nilH 3), .own (tI .i64) 3 92 [] r69.1.2.2 y71, .box 91 b68 [Hd.val y67], .rep (tA 16 .u8) [63, 11, 24, 26, 38, 62] r65 y67, .rep (tA 16 .u8) [63, 11, 24, 26, 38, 62] x62 y64, .box 78 b61 [Hd.val y59], .own (tA 16 .u8) 52 77 [] ([] : List (List Int)) (nilH 52), .rep (tA 16 .u8) [63, 11, 24, 26, 38, 62] r57 y59, .rep (tA 16 .u8) [63, 11, 24, 26, 38, 62] x54 y56, .old w S, .own Ty_culpritref32_Claimant 25 63 [11, 24, 26, 38, 62] s36.1 y37] rfl (dst_some rfl rfl) rfl rfl rfl rfl (gd_none rfl rfl) (fun _ => ?_) ?_
         ·
          refine ob_one rfl rfl (fun _ => ?_)
          refine ob_one rfl rfl (fun _ => ?_)
          refine ob_nil rfl ?_
          exact PureOk.op (p_idx_own (h := y37) (i := s36.2) (ty := Ty_culpritref32_Claimant) (xs := s36.1) (v := x74) 11 rfl rfl Try.underlying29 Try.ti25 rfl rfl e75)
         refine all_cons [.box 106 b73 [.int .i64 (r69.1.1), .int .i64 (r69.1.2.1), Hd.val y71], .own (tI .i64) 3 105 [] ([] : List Int) (nilH 3), .own (tI .i64) 3 92 [] r69.1.2.2 y71, .box 91 b68 [Hd.val y67], .rep (tA 16 .u8) [63, 11, 24, 26, 38, 62] r65 y67, .rep (tA 16 .u8) [63, 11, 24, 26, 38, 62] x62 y64, .box 78 b61 [Hd.val y59], .own (tA 16 .u8) 52 77 [] ([] : List (List Int)) (nilH 52), .rep (tA 16 .u8) [63, 11, 24, 26, 38, 62] r57 y59, .rep (tA 16 .u8) [63, 11, 24, 26, 38, 62] x54 y56, .old w S, .own Ty_culpritref32_Claimant 25 63 [11, 24, 26, 38, 62] s36.1 y37] rfl (dst_some rfl rfl) rfl rfl rfl rfl (gd_none rfl rfl) (fun _ => ?_) ?_
         ·
          refine ob_one rfl rfl (fun _ => ?_)
          refine ob_nil rfl ?_
          exact ok_load_agg_at (X := s36.2.toNat * 1) (ty := Ty_culpritref32_Claimant) (v := x74) (el_own (ty := Ty_culpritref32_Claimant) (xs := s36.1) (h := y37) (i := s36.2) (v := x74) (sz := 1) 11 rfl rfl e75) rfl Try.underlying25 rfl Try.ti25 rfl rfl
         refine all_cons [.box 106 b73 [.int .i64 (r69.1.1), .int .i64 (r69.1.2.1), Hd.val y71], .own (tI .i64) 3 105 [] ([] : List Int) (nilH 3), .own (tI .i64) 3 92 [] r69.1.2.2 y71, .box 91 b68 [Hd.val y67], .rep (tA 16 .u8) [63, 11, 24, 26, 38, 62] r65 y67, .rep (tA 16 .u8) [63, 11, 24, 26, 38, 62] x62 y64, .box 78 b61 [Hd.val y59], .own (tA 16 .u8) 52 77 [] ([] : List (List Int)) (nilH 52), .rep (tA 16 .u8) [63, 11, 24, 26, 38, 62] r57 y59, .rep (tA 16 .u8) [63, 11, 24, 26, 38, 62] x54 y56, .old w S, .own Ty_culpritref32_Claimant 25 63 [11, 24, 26, 38, 62] s36.1 y37] rfl (dst_some rfl rfl) rfl rfl rfl rfl (gd_none rfl rfl) (fun _ => ?_) ?_
         ·
          refine ob_nil rfl ?_
          exact PureOk.op (p_move (v := Hd.val y37) rfl rfl)
         refine all_cons [.box 106 b73 [.int .i64 (r69.1.1), .int .i64 (r69.1.2.1), Hd.val y71], .own (tI .i64) 3 105 [] ([] : List Int) (nilH 3), .own (tI .i64) 3 92 [] r69.1.2.2 y71, .box 91 b68 [Hd.val y67], .rep (tA 16 .u8) [63, 11, 24, 26, 38, 62] r65 y67, .rep (tA 16 .u8) [63, 11, 24, 26, 38, 62] x62 y64, .box 78 b61 [Hd.val y59], .own (tA 16 .u8) 52 77 [] ([] : List (List Int)) (nilH 52), .rep (tA 16 .u8) [63, 11, 24, 26, 38, 62] r57 y59, .rep (tA 16 .u8) [63, 11, 24, 26, 38, 62] x54 y56, .old w S, .own Ty_culpritref32_Claimant 25 63 [11, 24, 26, 38, 62] s36.1 y37] rfl (dst_some rfl rfl) rfl rfl rfl rfl (gd_none rfl rfl) (fun _ => ?_) ?_
         ·
          refine ob_nil rfl ?_
          exact PureOk.op (p_move (v := .int .i64 (s45)) rfl rfl)
         refine all_cons [.box 106 b73 [.int .i64 (r69.1.1), .int .i64 (r69.1.2.1), Hd.val y71], .own (tI .i64) 3 105 [] ([] : List Int) (nilH 3), .own (tI .i64) 3 92 [] r69.1.2.2 y71, .box 91 b68 [Hd.val y67], .rep (tA 16 .u8) [63, 11, 24, 26, 38, 62] r65 y67, .rep (tA 16 .u8) [63, 11, 24, 26, 38, 62] x62 y64, .box 78 b61 [Hd.val y59], .own (tA 16 .u8) 52 77 [] ([] : List (List Int)) (nilH 52), .rep (tA 16 .u8) [63, 11, 24, 26, 38, 62] r57 y59, .rep (tA 16 .u8) [63, 11, 24, 26, 38, 62] x54 y56, .old w S, .own Ty_culpritref32_Claimant 25 63 [11, 24, 26, 38, 62] s36.1 y37] rfl (dst_some rfl rfl) rfl rfl rfl rfl (gd_none rfl rfl) (fun _ => ?_) ?_
         ·
          refine ob_one rfl rfl (fun _ => ?_)
          refine ob_one rfl rfl (fun _ => ?_)
          refine ob_nil rfl ?_
          exact PureOk.op (p_idx_own (h := y37) (i := s45) (ty := Ty_culpritref32_Claimant) (xs := s36.1) (v := x77) 11 rfl rfl Try.underlying29 Try.ti25 rfl rfl e78)
         refine all_cons [.box 106 b73 [.int .i64 (r69.1.1), .int .i64 (r69.1.2.1), Hd.val y71], .own (tI .i64) 3 105 [] ([] : List Int) (nilH 3), .own (tI .i64) 3 92 [] r69.1.2.2 y71, .box 91 b68 [Hd.val y67], .rep (tA 16 .u8) [63, 11, 24, 26, 38, 62] r65 y67, .rep (tA 16 .u8) [63, 11, 24, 26, 38, 62] x62 y64, .box 78 b61 [Hd.val y59], .own (tA 16 .u8) 52 77 [] ([] : List (List Int)) (nilH 52), .rep (tA 16 .u8) [63, 11, 24, 26, 38, 62] r57 y59, .rep (tA 16 .u8) [63, 11, 24, 26, 38, 62] x54 y56, .old w S, .own Ty_culpritref32_Claimant 25 63 [11, 24, 26, 38, 62] s36.1 y37] rfl (dst_some rfl rfl) rfl rfl rfl rfl (gd_none rfl rfl) (fun _ => ?_) ?_
         ·
          refine ob_one rfl rfl (fun _ => ?_)
          refine ob_nil rfl ?_
          exact ok_load_agg_at (X := s45.toNat * 1) (ty := Ty_culpritref32_Claimant) (v := x77) (el_own (ty := Ty_culpritref32_Claimant) (xs := s36.1) (h := y37) (i := s45) (v := x77) (sz := 1) 11 rfl rfl e78) rfl Try.underlying25 rfl Try.ti25 rfl rfl
         refine all_cons [.box 106 b73 [.int .i64 (r69.1.1), .int .i64 (r69.1.2.1), Hd.val y71], .own (tI .i64) 3 105 [] ([] : List Int) (nilH 3), .own (tI .i64) 3 92 [] r69.1.2.2 y71, .box 91 b68 [Hd.val y67], .rep (tA 16 .u8) [63, 11, 24, 26, 38, 62] r65 y67, .rep (tA 16 .u8) [63, 11, 24, 26, 38, 62] x62 y64, .box 78 b61 [Hd.val y59], .own (tA 16 .u8) 52 77 [] ([] : List (List Int)) (nilH 52), .rep (tA 16 .u8) [63, 11, 24, 26, 38, 62] r57 y59, .rep (tA 16 .u8) [63, 11, 24, 26, 38, 62] x54 y56, .old w S, .own Ty_culpritref32_Claimant 25 63 [11, 24, 26, 38, 62] s36.1 y37] rfl (dst_some rfl rfl) rfl rfl rfl rfl (gd_none rfl rfl) (fun _ => ?_) ?_
         ·
          refine ob_one rfl rfl (fun y76 => ?_)
          refine ob_one rfl rfl (fun y79 => ?_)
          refine ob_nil rfl ?_
          exact ok_call (N := 107) (Φ := fun y82 => [.own (tI .i64) 3 107 [] r80.1.2.2 y82]) (culpritref32_Begin_ok e81) rfl rfl rfl Try.func10 rfl Try.nm10 [63, 11, 24, 26, 38, 62] ⟨.inl ⟨1, _, rfl, cov_rep rfl⟩, .inl ⟨0, _, rfl, cov_rep rfl⟩, trivial⟩ (fun _ => rfl) (fun _ => rfl) rfl
         refine all_cons [.box 106 b73 [.int .i64 (r69.1.1), .int .i64 (r69.1.2.1), Hd.val y71], .own (tI .i64) 3 105 [] ([] : List Int) (nilH 3), .own (tI .i64) 3 92 [] r69.1.2.2 y71, .box 91 b68 [Hd.val y67], .rep (tA 16 .u8) [63, 11, 24, 26, 38, 62] r65 y67, .rep (tA 16 .u8) [63, 11, 24, 26, 38, 62] x62 y64, .box 78 b61 [Hd.val y59], .own (tA 16 .u8) 52 77 [] ([] : List (List Int)) (nilH 52), .rep (tA 16 .u8) [63, 11, 24, 26, 38, 62] r57 y59, .rep (tA 16 .u8) [63, 11, 24, 26, 38, 62] x54 y56, .old w S, .own Ty_culpritref32_Claimant 25 63 [11, 24, 26, 38, 62] s36.1 y37] rfl (dst_some rfl rfl) rfl rfl rfl rfl (gd_none rfl rfl) (fun _ => ?_) ?_
         ·
          refine ob_one rfl rfl (fun y82 => ?_)
          refine ob_nil rfl ?_
          exact ok_known (y82) (p_move (v := .tuple #[.agg ([.int .i64 (r80.1.1), .int .i64 (r80.1.2.1), Hd.val y82]).toArray, .int .i64 (r80.2)]) rfl rfl) rfl [0] rfl
         refine all_cons [.box 106 b73 [.int .i64 (r69.1.1), .int .i64 (r69.1.2.1), Hd.val y71], .own (tI .i64) 3 105 [] ([] : List Int) (nilH 3), .own (tI .i64) 3 92 [] r69.1.2.2 y71, .box 91 b68 [Hd.val y67], .rep (tA 16 .u8) [63, 11, 24, 26, 38, 62] r65 y67, .rep (tA 16 .u8) [63, 11, 24, 26, 38, 62] x62 y64, .box 78 b61 [Hd.val y59], .own (tA 16 .u8) 52 77 [] ([] : List (List Int)) (nilH 52), .rep (tA 16 .u8) [63, 11, 24, 26, 38, 62] r57 y59, .rep (tA 16 .u8) [63, 11, 24, 26, 38, 62] x54 y56, .old w S, .own Ty_culpritref32_Claimant 25 63 [11, 24, 26, 38, 62] s36.1 y37] rfl (dst_some rfl rfl) rfl rfl rfl rfl (gd_none rfl rfl) (fun _ => ?_) ?_
         ·
          refine ob_one rfl rfl (fun z84 => ?_)
          refine ob_nil rfl ?_
          exact ok_known (z84) (p_extract (v := .agg ([.int .i64 (r80.1.1), .int .i64 (r80.1.2.1), Hd.val z84]).toArray) rfl rfl rfl) rfl [0] rfl
         refine all_cons [.box 106 b73 [.int .i64 (r69.1.1), .int .i64 (r69.1.2.1), Hd.val y71], .own (tI .i64) 3 105 [] ([] : List Int) (nilH 3), .own (tI .i64) 3 92 [] r69.1.2.2 y71, .box 91 b68 [Hd.val y67], .rep (tA 16 .u8) [63, 11, 24, 26, 38, 62] r65 y67, .rep (tA 16 .u8) [63, 11, 24, 26, 38, 62] x62 y64, .box 78 b61 [Hd.val y59], .own (tA 16 .u8) 52 77 [] ([] : List (List Int)) (nilH 52), .rep (tA 16 .u8) [63, 11, 24, 26, 38, 62] r57 y59, .rep (tA 16 .u8) [63, 11, 24, 26, 38, 62] x54 y56, .old w S, .own Ty_culpritref32_Claimant 25 63 [11, 24, 26, 38, 62] s36.1 y37] rfl (dst_some rfl rfl) rfl rfl rfl rfl (gd_none rfl rfl) (fun _ => ?_) ?_
         ·
          refine ob_one rfl rfl (fun z84 => ?_)
          refine ob_nil rfl ?_
          exact PureOk.op (p_extract (v := .int .i64 (r80.2)) rfl rfl rfl)
         refine all_cons [.box 106 b73 [.int .i64 (r69.1.1), .int .i64 (r69.1.2.1), Hd.val y71], .own (tI .i64) 3 105 [] ([] : List Int) (nilH 3), .own (tI .i64) 3 92 [] r69.1.2.2 y71, .box 91 b68 [Hd.val y67], .rep (tA 16 .u8) [63, 11, 24, 26, 38, 62] r65 y67, .rep (tA 16 .u8) [63, 11, 24, 26, 38, 62] x62 y64, .box 78 b61 [Hd.val y59], .own (tA 16 .u8) 52 77 [] ([] : List (List Int)) (nilH 52), .rep (tA 16 .u8) [63, 11, 24, 26, 38, 62] r57 y59, .rep (tA 16 .u8) [63, 11, 24, 26, 38, 62] x54 y56, .old w S, .own Ty_culpritref32_Claimant 25 63 [11, 24, 26, 38, 62] s36.1 y37] rfl (dst_some rfl rfl) rfl rfl rfl rfl (gd_none rfl rfl) (fun _ => ?_) ?_
         ·
          refine ob_nil rfl ?_
          exact ok_alloc (N := 119) (cs := [.int .i64 (0), .int .i64 (0), Hd.val (nilH 3)]) rfl Try.ti37 rfl rfl
         refine all_cons [.box 106 b73 [.int .i64 (r69.1.1), .int .i64 (r69.1.2.1), Hd.val y71], .own (tI .i64) 3 105 [] ([] : List Int) (nilH 3), .own (tI .i64) 3 92 [] r69.1.2.2 y71, .box 91 b68 [Hd.val y67], .rep (tA 16 .u8) [63, 11, 24, 26, 38, 62] r65 y67, .rep (tA 16 .u8) [63, 11, 24, 26, 38, 62] x62 y64, .box 78 b61 [Hd.val y59], .own (tA 16 .u8) 52 77 [] ([] : List (List Int)) (nilH 52), .rep (tA 16 .u8) [63, 11, 24, 26, 38, 62] r57 y59, .rep (tA 16 .u8) [63, 11, 24, 26, 38, 62] x54 y56, .old w S, .own Ty_culpritref32_Claimant 25 63 [11, 24, 26, 38, 62] s36.1 y37] rfl (dst_none rfl rfl (fun _ => rfl)) rfl rfl rfl rfl (gd_none rfl rfl) (fun _ => ?_) ?_
         ·
          refine ob_one rfl rfl (fun b83 => ?_)
          refine ob_one rfl rfl (fun z85 => ?_)
          exact ob_carry (fun _ => (z85, b83)) (ok_store_box (v := .agg ([.int .i64 (r80.1.1), .int .i64 (r80.1.2.1), Hd.val z85]).toArray) (vs := [.int .i64 (r80.1.1), .int .i64 (r80.1.2.1), Hd.val z85]) (cs' := [.int .i64 (r80.1.1), .int .i64 (r80.1.2.1), Hd.val z85]) 1 rfl rfl Try.ti37 rfl rfl rfl rfl rfl rfl rfl) (fun _ => rfl) [0] _ rfl (fun _ => rfl) (fun _ => tells_cons rfl (tells_nil))
         exact all_nil
        ·
         refine fin_base [.box 106 b73 [.int .i64 (r69.1.1), .int .i64 (r69.1.2.1), Hd.val y71], .own (tI .i64) 3 105 [] ([] : List Int) (nilH 3), .own (tI .i64) 3 92 [] r69.1.2.2 y71, .box 91 b68 [Hd.val y67], .rep (tA 16 .u8) [63, 11, 24, 26, 38, 62] r65 y67, .rep (tA 16 .u8) [63, 11, 24, 26, 38, 62] x62 y64, .box 78 b61 [Hd.val y59], .own (tA 16 .u8) 52 77 [] ([] : List (List Int)) (nilH 52), .rep (tA 16 .u8) [63, 11, 24, 26, 38, 62] r57 y59, .rep (tA 16 .u8) [63, 11, 24, 26, 38, 62] x54 y56, .old w S, .own Ty_culpritref32_Claimant 25 63 [11, 24, 26, 38, 62] s36.1 y37] rfl ?_
         refine fin_one rfl rfl (fun _ => ?_)
         refine fin_one rfl rfl (fun z86 => ?_)
         refine fin_nil ?_
         refine s_pure (p_assign (v := .int .i64 (r80.2)) rfl rfl) rfl rfl rfl ?_
         refine s_nil ?_
         refine x_then ?_
         refine s_seq ?_
         refine s_region ?_
         refine s_pure (p_loadN_box (cs' := [Hd.val y59]) 8 rfl rfl Try.underlying30 rfl Try.ti30 rfl rfl rfl) rfl rfl rfl ?_
         refine s_pure (p_loadN_box (cs' := [Hd.val y67]) 5 rfl rfl Try.underlying30 rfl Try.ti30 rfl rfl rfl) rfl rfl rfl ?_
         obtain ⟨r101, e102, e51⟩ := bind_some e51
         refine s_op0 (ok_call (N := 120) (Φ := fun y103 => []) (dispute_Parts_ok e102) rfl rfl rfl Try.func11 rfl Try.nm11 [63, 11, 24, 26, 38, 62] ⟨.inl ⟨10, _, rfl, cov_rep rfl⟩, .inl ⟨6, _, rfl, cov_rep rfl⟩, trivial⟩ (fun _ => rfl) (fun _ => rfl) rfl) rfl rfl rfl (fun y103 => ?_)
         refine s_pure (p_move (v := .tuple #[.int .i64 (r101.1), .int .i64 (r101.2.1), .int .i64 (r101.2.2)]) rfl rfl) rfl rfl rfl ?_
         refine s_pure (p_extract (v := .int .i64 (r101.1)) rfl rfl rfl) rfl rfl rfl ?_
         refine s_pure (p_extract (v := .int .i64 (r101.2.1)) rfl rfl rfl) rfl rfl rfl ?_
         refine s_pure (p_extract (v := .int .i64 (r101.2.2)) rfl rfl rfl) rfl rfl rfl ?_
         refine s_pure (p_assign (v := .int .i64 (r101.1)) rfl rfl) rfl rfl rfl ?_
         refine s_pure (p_assign (v := .int .i64 (r101.2.1)) rfl rfl) rfl rfl rfl ?_
         refine s_pure (p_assign (v := .int .i64 (r101.2.2)) rfl rfl) rfl rfl rfl ?_
         refine s_nil ?_
         refine x_then ?_
         refine s_seq ?_
         obtain ⟨x104, e105, e51⟩ := bind_some e51
         obtain ⟨x107, e108, e51⟩ := bind_some e51
         obtain ⟨r110, e111, e51⟩ := bind_some e51
         refine s_draw Try.mixed [⟨true, 101, [], Unit, fun _ => Hd.val y37, fun _ => [], [], [], []⟩, ⟨true, 102, [], Unit, fun _ => .int .i64 (s36.2), fun _ => [], [], [], []⟩, ⟨true, 103, [0, 1], Unit, fun _ => .pointer (some (pat y37 (s36.2.toNat * 1))), fun _ => [], [], [], []⟩, ⟨true, 104, [2], Ty.Refs Ty_culpritref32_Claimant, fun (y106 : Ty.Refs Ty_culpritref32_Claimant) => .agg ([Hd.val y106]).toArray, fun y106 => [.rep (tA 16 .u8) [63, 11, 24, 26, 38, 62] x104 y106], [], [], []⟩, ⟨true, 105, [], Unit, fun _ => Hd.val y37, fun _ => [], [], [], []⟩, ⟨true, 106, [], Unit, fun _ => .int .i64 (s45), fun _ => [], [], [], []⟩, ⟨true, 107, [4, 5], Unit, fun _ => .pointer (some (pat y37 (s45.toNat * 1))), fun _ => [], [], [], []⟩, ⟨true, 108, [6], Ty.Refs Ty_culpritref32_Claimant, fun (y109 : Ty.Refs Ty_culpritref32_Claimant) => .agg ([Hd.val y109]).toArray, fun y109 => [.rep (tA 16 .u8) [63, 11, 24, 26, 38, 62] x107 y109], [], [], []⟩, ⟨true, 109, [3, 7], Unit, fun (y112 : Unit) => .tuple #[.int .i64 (r110.1), .int .i64 (r110.2.1), .int .i64 (r110.2.2)], fun _ => [], [], [], []⟩, ⟨true, 100, [8], Unit, fun _ => .tuple #[.int .i64 (r110.1), .int .i64 (r110.2.1), .int .i64 (r110.2.2)], fun _ => [], [], [], []⟩, ⟨true, 110, [9], Unit, fun _ => .int .i64 (r110.1), fun _ => [], [], [], []⟩, ⟨true, 111, [9], Unit, fun _ => .int .i64 (r110.2.1), fun _ => [], [], [], []⟩, ⟨true, 112, [9], Unit, fun _ => .int .i64 (r110.2.2), fun _ => [], [], [], []⟩, ⟨true, 28, [10], Unit, fun _ => .int .i64 (r110.1), fun _ => [], [], [], []⟩, ⟨true, 29, [11], Unit, fun _ => .int .i64 (r110.2.1), fun _ => [], [], [], []⟩] [[], [], [0, 1], [0, 1, 2], [], [], [4, 5], [4, 5, 6], [0, 1, 2, 3, 4, 5, 6, 7], [0, 1, 2, 3, 4, 5, 6, 7, 8], [0, 1, 2, 3, 4, 5, 6, 7, 8, 9], [0, 1, 2, 3, 4, 5, 6, 7, 8, 9], [0, 1, 2, 3, 4, 5, 6, 7, 8, 9], [0, 1, 2, 3, 4, 5, 6, 7, 8, 9, 10], [0, 1, 2, 3, 4, 5, 6, 7, 8, 9, 10, 11, 13], [0, 1, 2, 3, 4, 5, 6, 7, 8, 9, 10, 11, 12, 13, 14]] rfl rfl rfl rfl rfl ⟨.inl rfl, .inl rfl, .inl rfl, .inl rfl, .inl rfl, .inl rfl, .inl rfl, .inl rfl, .inl rfl, .inl rfl, .inl rfl, .inl rfl, .inl rfl, .inl rfl, .inl rfl, trivial⟩ ?_ [12, 13, 14] rfl rfl (fun us => ?_)
         ·
          refine all_cons _ (base_nil rfl) (dst_some rfl rfl) rfl rfl rfl rfl (gd_none rfl rfl) (fun _ => ?_) ?_
          ·
           refine ob_nil rfl ?_
           exact PureOk.op (p_move (v := Hd.val y37) rfl rfl)
          refine all_cons _ (base_nil rfl) (dst_some rfl rfl) rfl rfl rfl rfl (gd_none rfl rfl) (fun _ => ?_) ?_
          ·
           refine ob_nil rfl ?_
           exact PureOk.op (p_move (v := .int .i64 (s36.2)) rfl rfl)
          refine all_cons _ (base_nil rfl) (dst_some rfl rfl) rfl rfl rfl rfl (gd_none rfl rfl) (fun _ => ?_) ?_
          ·
           refine ob_one rfl rfl (fun _ => ?_)
           refine ob_one rfl rfl (fun _ => ?_)
           refine ob_nil rfl ?_
           exact PureOk.op (p_idx_own (h := y37) (i := s36.2) (ty := Ty_culpritref32_Claimant) (xs := s36.1) (v := x104) 13 rfl rfl Try.underlying29 Try.ti25 rfl rfl e105)
          refine all_cons _ (base_nil rfl) (dst_some rfl rfl) rfl rfl rfl rfl (gd_none rfl rfl) (fun _ => ?_) ?_
          ·
           refine ob_one rfl rfl (fun _ => ?_)
           refine ob_nil rfl ?_
           exact ok_load_agg_at (X := s36.2.toNat * 1) (ty := Ty_culpritref32_Claimant) (v := x104) (el_own (ty := Ty_culpritref32_Claimant) (xs := s36.1) (h := y37) (i := s36.2) (v := x104) (sz := 1) 13 rfl rfl e105) rfl Try.underlying25 rfl Try.ti25 rfl rfl
          refine all_cons _ (base_nil rfl) (dst_some rfl rfl) rfl rfl rfl rfl (gd_none rfl rfl) (fun _ => ?_) ?_
          ·
           refine ob_nil rfl ?_
           exact PureOk.op (p_move (v := Hd.val y37) rfl rfl)
          refine all_cons _ (base_nil rfl) (dst_some rfl rfl) rfl rfl rfl rfl (gd_none rfl rfl) (fun _ => ?_) ?_
          ·
           refine ob_nil rfl ?_
           exact PureOk.op (p_move (v := .int .i64 (s45)) rfl rfl)
          refine all_cons _ (base_nil rfl) (dst_some rfl rfl) rfl rfl rfl rfl (gd_none rfl rfl) (fun _ => ?_) ?_
          ·
           refine ob_one rfl rfl (fun _ => ?_)
           refine ob_one rfl rfl (fun _ => ?_)
           refine ob_nil rfl ?_
           exact PureOk.op (p_idx_own (h := y37) (i := s45) (ty := Ty_culpritref32_Claimant) (xs := s36.1) (v := x107) 13 rfl rfl Try.underlying29 Try.ti25 rfl rfl e108)
          refine all_cons _ (base_nil rfl) (dst_some rfl rfl) rfl rfl rfl rfl (gd_none rfl rfl) (fun _ => ?_) ?_
          ·
           refine ob_one rfl rfl (fun _ => ?_)
           refine ob_nil rfl ?_
           exact ok_load_agg_at (X := s45.toNat * 1) (ty := Ty_culpritref32_Claimant) (v := x107) (el_own (ty := Ty_culpritref32_Claimant) (xs := s36.1) (h := y37) (i := s45) (v := x107) (sz := 1) 13 rfl rfl e108) rfl Try.underlying25 rfl Try.ti25 rfl rfl
          refine all_cons _ (base_nil rfl) (dst_some rfl rfl) rfl rfl rfl rfl (gd_none rfl rfl) (fun _ => ?_) ?_
          ·
           refine ob_one rfl rfl (fun y106 => ?_)
           refine ob_one rfl rfl (fun y109 => ?_)
           refine ob_nil rfl ?_
           exact ok_call (N := 132) (Φ := fun y112 => []) (culpritref32_Parts_ok e111) rfl rfl rfl Try.func12 rfl Try.nm12 [63, 11, 24, 26, 38, 62] ⟨.inl ⟨1, _, rfl, cov_rep rfl⟩, .inl ⟨0, _, rfl, cov_rep rfl⟩, trivial⟩ (fun _ => rfl) (fun _ => rfl) rfl
          refine all_cons _ (base_nil rfl) (dst_some rfl rfl) rfl rfl rfl rfl (gd_none rfl rfl) (fun _ => ?_) ?_
          ·
           refine ob_one rfl rfl (fun y112 => ?_)
           refine ob_nil rfl ?_
           exact PureOk.op (p_move (v := .tuple #[.int .i64 (r110.1), .int .i64 (r110.2.1), .int .i64 (r110.2.2)]) rfl rfl)
          refine all_cons _ (base_nil rfl) (dst_some rfl rfl) rfl rfl rfl rfl (gd_none rfl rfl) (fun _ => ?_) ?_
          ·
           refine ob_one rfl rfl (fun _ => ?_)
           refine ob_nil rfl ?_
           exact PureOk.op (p_extract (v := .int .i64 (r110.1)) rfl rfl rfl)
          refine all_cons _ (base_nil rfl) (dst_some rfl rfl) rfl rfl rfl rfl (gd_none rfl rfl) (fun _ => ?_) ?_
          ·
           refine ob_one rfl rfl (fun _ => ?_)
           refine ob_nil rfl ?_
           exact PureOk.op (p_extract (v := .int .i64 (r110.2.1)) rfl rfl rfl)
          refine all_cons _ (base_nil rfl) (dst_some rfl rfl) rfl rfl rfl rfl (gd_none rfl rfl) (fun _ => ?_) ?_
          ·
           refine ob_one rfl rfl (fun _ => ?_)
           refine ob_nil rfl ?_
           exact PureOk.op (p_extract (v := .int .i64 (r110.2.2)) rfl rfl rfl)
          refine all_cons _ (base_nil rfl) (dst_some rfl rfl) rfl rfl rfl rfl (gd_none rfl rfl) (fun _ => ?_) ?_
          ·
           refine ob_one rfl rfl (fun _ => ?_)
           refine ob_nil rfl ?_
           exact PureOk.op (p_assign (v := .int .i64 (r110.1)) rfl rfl)
          refine all_cons _ (base_nil rfl) (dst_some rfl rfl) rfl rfl rfl rfl (gd_none rfl rfl) (fun _ => ?_) ?_
          ·
           refine ob_one rfl rfl (fun _ => ?_)
           refine ob_nil rfl ?_
           exact PureOk.op (p_assign (v := .int .i64 (r110.2.1)) rfl rfl)
          exact all_nil
         ·
          refine fin_base _ (base_nil rfl) ?_
          refine fin_one rfl rfl (fun _ => ?_)
          refine fin_one rfl rfl (fun _ => ?_)
          refine fin_one rfl rfl (fun _ => ?_)
          refine fin_nil ?_
          refine s_pure (p_assign (v := .int .i64 (r110.2.2)) rfl rfl) rfl rfl rfl ?_
          refine s_nil ?_
          refine x_then ?_
          refine s_seq ?_
          refine s_seq ?_
          obtain ⟨r128, e129, e51⟩ := bind_some e51
          obtain ⟨r131, e132, e51⟩ := bind_some e51
          refine s_draw Try.mixed [⟨true, 113, [], Unit, fun _ => .int .i64 (r69.2), fun _ => [], [], [], []⟩, ⟨true, 114, [], Unit, fun _ => .int .i64 (r80.2), fun _ => [], [], [], []⟩, ⟨true, 115, [0, 1], Unit, fun _ => .bool (r69.2 != r80.2), fun _ => [], [], [], []⟩, ⟨true, 116, [2], Unit, fun _ => .bool (r69.2 != r80.2), fun _ => [], [], [], []⟩, ⟨!(r69.2 != r80.2), 117, [], Unit, fun _ => .agg ([.int .i64 (r69.1.1), .int .i64 (r69.1.2.1), Hd.val y71]).toArray, fun _ => [], [], [], []⟩, ⟨!(r69.2 != r80.2), 118, [4], Hd, fun (y130 : Hd) => .agg ([.int .i64 (r128.1), .int .i64 (r128.2.1), Hd.val y130]).toArray, fun y130 => [.rep (tI .i64) [92] r128.2.2 y130], [], [], []⟩, ⟨!(r69.2 != r80.2), 119, [], Unit, fun _ => .agg ([.int .i64 (r80.1.1), .int .i64 (r80.1.2.1), Hd.val z86.1]).toArray, fun _ => [], [], [], []⟩, ⟨!(r69.2 != r80.2), 120, [5, 6], Unit, fun (y133 : Unit) => .bool (r131), fun _ => [], [], [], []⟩, ⟨!(r69.2 != r80.2), 121, [7], Unit, fun _ => .bool (!r131), fun _ => [], [], [], []⟩, ⟨true, 122, [3, 8], Unit, fun _ => .bool (bif r69.2 != r80.2 then true else !r131), fun _ => [], [], [], []⟩, ⟨true, 123, [9], Unit, fun _ => .bool (bif r69.2 != r80.2 then true else !r131), fun _ => [], [], [], []⟩, ⟨!(bif r69.2 != r80.2 then true else !r131), 124, [], Unit, fun _ => .int .i64 (r101.2.2), fun _ => [], [], [], []⟩, ⟨!(bif r69.2 != r80.2 then true else !r131), 125, [], Unit, fun _ => .int .i64 (r110.2.2), fun _ => [], [], [], []⟩, ⟨!(bif r69.2 != r80.2 then true else !r131), 126, [11, 12], Unit, fun _ => .bool (r101.2.2 != r110.2.2), fun _ => [], [], [], []⟩, ⟨true, 127, [10, 13], Unit, fun _ => .bool (bif bif r69.2 != r80.2 then true else !r131 then true else r101.2.2 != r110.2.2), fun _ => [], [], [], []⟩, ⟨true, 128, [14], Unit, fun _ => .bool (bif bif r69.2 != r80.2 then true else !r131 then true else r101.2.2 != r110.2.2), fun _ => [], [], [], []⟩, ⟨!(bif bif r69.2 != r80.2 then true else !r131 then true else r101.2.2 != r110.2.2), 129, [], Unit, fun _ => .int .i64 (r101.1), fun _ => [], [], [], []⟩, ⟨!(bif bif r69.2 != r80.2 then true else !r131 then true else r101.2.2 != r110.2.2), 130, [], Unit, fun _ => .int .i64 (r110.1), fun _ => [], [], [], []⟩, ⟨!(bif bif r69.2 != r80.2 then true else !r131 then true else r101.2.2 != r110.2.2), 131, [16, 17], Unit, fun _ => .bool (r101.1 != r110.1), fun _ => [], [], [], []⟩, ⟨true, 132, [15, 18], Unit, fun _ => .bool (bif bif bif r69.2 != r80.2 then true else !r131 then true else r101.2.2 != r110.2.2 then true else r101.1 != r110.1), fun _ => [], [], [], []⟩, ⟨true, 133, [19], Unit, fun _ => .bool (bif bif bif r69.2 != r80.2 then true else !r131 then true else r101.2.2 != r110.2.2 then true else r101.1 != r110.1), fun _ => [], [], [], []⟩, ⟨!(bif bif bif r69.2 != r80.2 then true else !r131 then true else r101.2.2 != r110.2.2 then true else r101.1 != r110.1), 134, [], Unit, fun _ => .int .i64 (r101.2.1), fun _ => [], [], [], []⟩, ⟨!(bif bif bif r69.2 != r80.2 then true else !r131 then true else r101.2.2 != r110.2.2 then true else r101.1 != r110.1), 135, [], Unit, fun _ => .int .i64 (r110.2.1), fun _ => [], [], [], []⟩, ⟨!(bif bif bif r69.2 != r80.2 then true else !r131 then true else r101.2.2 != r110.2.2 then true else r101.1 != r110.1), 136, [21, 22], Unit, fun _ => .bool (r101.2.1 != r110.2.1), fun _ => [], [], [], []⟩, ⟨true, 137, [20, 23], Unit, fun _ => .bool (bif bif bif bif r69.2 != r80.2 then true else !r131 then true else r101.2.2 != r110.2.2 then true else r101.1 != r110.1 then true else r101.2.1 != r110.2.1), fun _ => [], [], [], []⟩] [[], [], [0, 1], [0, 1, 2], [0, 1, 2, 3], [0, 1, 2, 3, 4], [0, 1, 2, 3], [0, 1, 2, 3, 4, 5, 6], [0, 1, 2, 3, 4, 5, 6, 7], [0, 1, 2, 3, 4, 5, 6, 7, 8], [0, 1, 2, 3, 4, 5, 6, 7, 8, 9], [0, 1, 2, 3, 4, 5, 6, 7, 8, 9, 10], [0, 1, 2, 3, 4, 5, 6, 7, 8, 9, 10], [0, 1, 2, 3, 4, 5, 6, 7, 8, 9, 10, 11, 12], [0, 1, 2, 3, 4, 5, 6, 7, 8, 9, 10, 11, 12, 13], [0, 1, 2, 3, 4, 5, 6, 7, 8, 9, 10, 11, 12, 13, 14], [0, 1, 2, 3, 4, 5, 6, 7, 8, 9, 10, 11, 12, 13, 14, 15], [0, 1, 2, 3, 4, 5, 6, 7, 8, 9, 10, 11, 12, 13, 14, 15], [0, 1, 2, 3, 4, 5, 6, 7, 8, 9, 10, 11, 12, 13, 14, 15, 16, 17], [0, 1, 2, 3, 4, 5, 6, 7, 8, 9, 10, 11, 12, 13, 14, 15, 16, 17, 18], [0, 1, 2, 3, 4, 5, 6, 7, 8, 9, 10, 11, 12, 13, 14, 15, 16, 17, 18, 19], [0, 1, 2, 3, 4, 5, 6, 7, 8, 9, 10, 11, 12, 13, 14, 15, 16, 17, 18, 19, 20], [0, 1, 2, 3, 4, 5, 6, 7, 8, 9, 10, 11, 12, 13, 14, 15, 16, 17, 18, 19, 20], [0, 1, 2, 3, 4, 5, 6, 7, 8, 9, 10, 11, 12, 13, 14, 15, 16, 17, 18, 19, 20, 21, 22], [0, 1, 2, 3, 4, 5, 6, 7, 8, 9, 10, 11, 12, 13, 14, 15, 16, 17, 18, 19, 20, 21, 22, 23]] rfl rfl rfl rfl rfl ⟨.inl rfl, .inl rfl, .inl rfl, .inl rfl, .inl rfl, .inl rfl, .inl rfl, .inl rfl, .inl rfl, .inl rfl, .inl rfl, .inl rfl, .inl rfl, .inl rfl, .inl rfl, .inl rfl, .inl rfl, .inl rfl, .inl rfl, .inl rfl, .inl rfl, .inl rfl, .inl rfl, .inl rfl, .inl rfl, trivial⟩ ?_ [24] rfl rfl (fun us => ?_)
          ·
           refine all_cons _ (base_nil rfl) (dst_some rfl rfl) rfl rfl rfl rfl (gd_none rfl rfl) (fun _ => ?_) ?_
           ·
            refine ob_nil rfl ?_
            exact PureOk.op (p_move (v := .int .i64 (r69.2)) rfl rfl)
           refine all_cons _ (base_nil rfl) (dst_some rfl rfl) rfl rfl rfl rfl (gd_none rfl rfl) (fun _ => ?_) ?_
           ·
            refine ob_nil rfl ?_
            exact PureOk.op (p_move (v := .int .i64 (r80.2)) rfl rfl)
           refine all_cons _ (base_nil rfl) (dst_some rfl rfl) rfl rfl rfl rfl (gd_none rfl rfl) (fun _ => ?_) ?_
           ·
            refine ob_one rfl rfl (fun _ => ?_)
            refine ob_one rfl rfl (fun _ => ?_)
            refine ob_nil rfl ?_
            exact PureOk.op (p_neq rfl rfl rfl)
           refine all_cons _ (base_nil rfl) (dst_some rfl rfl) rfl rfl rfl rfl (gd_none rfl rfl) (fun _ => ?_) ?_
           ·
            refine ob_one rfl rfl (fun _ => ?_)
            refine ob_nil rfl ?_
            exact PureOk.op (p_move (v := .bool (r69.2 != r80.2)) rfl rfl)
           refine all_cons _ (base_nil rfl) (dst_some rfl rfl) rfl rfl rfl rfl (gd_some (e := ⟨true, 116, [2], Unit, fun _ => .bool (r69.2 != r80.2), fun _ => [], [], [], []⟩) (r69.2 != r80.2) rfl rfl rfl rfl (fun _ => rfl) (gd_f _)) (fun hx138 => ?_) ?_
           ·
            replace hx138 : (!(r69.2 != r80.2)) = true := hx138
            refine ob_nil rfl ?_
            exact PureOk.op (p_loadN_box (cs' := [.int .i64 (r69.1.1), .int .i64 (r69.1.2.1), Hd.val y71]) 2 rfl rfl Try.underlying33 rfl Try.ti33 rfl rfl rfl)
           refine all_cons _ (base_nil rfl) (dst_some rfl rfl) rfl rfl rfl rfl (gd_some (e := ⟨true, 116, [2], Unit, fun _ => .bool (r69.2 != r80.2), fun _ => [], [], [], []⟩) (r69.2 != r80.2) rfl rfl rfl rfl (fun _ => rfl) (gd_f _)) (fun hx139 => ?_) ?_
           ·
            replace hx139 : (!(r69.2 != r80.2)) = true := hx139
            replace e129 := cond_t hx139 e129
            refine ob_two rfl (fun _ _ => ?_) (fun hn => clash hx139 hn)
            refine ob_nil rfl ?_
            exact ok_call (N := 144) (Φ := fun y130 => [.rep (tI .i64) [92] r128.2.2 y130]) (culpritlaw32_game_ok e129) rfl rfl rfl Try.func14 rfl Try.nm14 [92] ⟨.inl ⟨4, _, rfl, cov_own rfl⟩, trivial⟩ (fun _ => rfl) (fun _ => rfl) rfl
           refine all_cons _ (base_nil rfl) (dst_some rfl rfl) rfl rfl rfl rfl (gd_some (e := ⟨true, 116, [2], Unit, fun _ => .bool (r69.2 != r80.2), fun _ => [], [], [], []⟩) (r69.2 != r80.2) rfl rfl rfl rfl (fun _ => rfl) (gd_f _)) (fun hx140 => ?_) ?_
           ·
            replace hx140 : (!(r69.2 != r80.2)) = true := hx140
            replace e129 := cond_t hx140 e129
            refine ob_nil rfl ?_
            exact PureOk.op (p_loadN_box (cs' := [.int .i64 (r80.1.1), .int .i64 (r80.1.2.1), Hd.val z86.1]) 0 rfl rfl Try.underlying37 rfl Try.ti37 rfl rfl rfl)
           refine all_cons _ (base_nil rfl) (dst_some rfl rfl) rfl rfl rfl rfl (gd_some (e := ⟨true, 116, [2], Unit, fun _ => .bool (r69.2 != r80.2), fun _ => [], [], [], []⟩) (r69.2 != r80.2) rfl rfl rfl rfl (fun _ => rfl) (gd_f _)) (fun hx141 => ?_) ?_
           ·
            replace hx141 : (!(r69.2 != r80.2)) = true := hx141
            replace e129 := cond_t hx141 e129
            replace e132 := cond_t hx141 e132
            refine ob_two rfl (fun _ y130 => ?_) (fun hn => clash hx141 hn)
            refine ob_two rfl (fun _ _ => ?_) (fun hn => clash hx141 hn)
            refine ob_nil rfl ?_
            exact ok_call (N := 156) (Φ := fun y133 => []) (culpritref32_SameGame_ok e132) rfl rfl rfl Try.func13 rfl Try.nm13 [92, 107] ⟨.inl ⟨0, _, rfl, cov_rep rfl⟩, .inl ⟨2, _, rfl, cov_own rfl⟩, trivial⟩ (fun _ => rfl) (fun _ => rfl) rfl
           refine all_cons _ (base_nil rfl) (dst_some rfl rfl) rfl rfl rfl rfl (gd_some (e := ⟨true, 116, [2], Unit, fun _ => .bool (r69.2 != r80.2), fun _ => [], [], [], []⟩) (r69.2 != r80.2) rfl rfl rfl rfl (fun _ => rfl) (gd_f _)) (fun hx142 => ?_) ?_
           ·
            replace hx142 : (!(r69.2 != r80.2)) = true := hx142
            replace e129 := cond_t hx142 e129
            replace e132 := cond_t hx142 e132
            refine ob_two rfl (fun _ y133 => ?_) (fun hn => clash hx142 hn)
            refine ob_nil rfl ?_
            exact PureOk.op (p_not rfl rfl)
           refine all_cons _ (base_nil rfl) (dst_some rfl rfl) rfl rfl rfl rfl (gd_none rfl rfl) (fun _ => ?_) ?_
           ·
            refine ob_one rfl rfl (fun _ => ?_)
            refine ob_two rfl (fun hq144 _ => ?_) (fun hq144 => ?_)
            rotate_left
            ·
             replace hq144 : (!(r69.2 != r80.2)) = false := hq144
             refine ob_nil rfl ?_
             exact PureOk.op (p_pick (b := r69.2 != r80.2) (p := true) (q := !r131) rfl rfl (fun _ => rfl) (fun hb => by first | (rw [hb] at hq144; cases hq144; done) | exact absurd hq144 (by rw [hb]; simp) | (simp_all; done)))
            refine ob_nil rfl ?_
            exact PureOk.op (p_pick (b := r69.2 != r80.2) (p := true) (q := !r131) rfl rfl (fun _ => rfl) (fun _ => rfl))
           refine all_cons _ (base_nil rfl) (dst_some rfl rfl) rfl rfl rfl rfl (gd_none rfl rfl) (fun _ => ?_) ?_
           ·
            refine ob_one rfl rfl (fun _ => ?_)
            refine ob_nil rfl ?_
            exact PureOk.op (p_move (v := .bool (bif r69.2 != r80.2 then true else !r131)) rfl rfl)
           refine all_cons _ (base_nil rfl) (dst_some rfl rfl) rfl rfl rfl rfl (gd_some (e := ⟨true, 123, [9], Unit, fun _ => .bool (bif r69.2 != r80.2 then true else !r131), fun _ => [], [], [], []⟩) (bif r69.2 != r80.2 then true else !r131) rfl rfl rfl rfl (fun _ => rfl) (gd_f _)) (fun hx146 => ?_) ?_
           ·
            replace hx146 : (!(bif r69.2 != r80.2 then true else !r131)) = true := hx146
            refine ob_nil rfl ?_
            exact PureOk.op (p_move (v := .int .i64 (r101.2.2)) rfl rfl)
           refine all_cons _ (base_nil rfl) (dst_some rfl rfl) rfl rfl rfl rfl (gd_some (e := ⟨true, 123, [9], Unit, fun _ => .bool (bif r69.2 != r80.2 then true else !r131), fun _ => [], [], [], []⟩) (bif r69.2 != r80.2 then true else !r131) rfl rfl rfl rfl (fun _ => rfl) (gd_f _)) (fun hx147 => ?_) ?_
           ·
            replace hx147 : (!(bif r69.2 != r80.2 then true else !r131)) = true := hx147
            refine ob_nil rfl ?_
            exact PureOk.op (p_move (v := .int .i64 (r110.2.2)) rfl rfl)
           refine all_cons _ (base_nil rfl) (dst_some rfl rfl) rfl rfl rfl rfl (gd_some (e := ⟨true, 123, [9], Unit, fun _ => .bool (bif r69.2 != r80.2 then true else !r131), fun _ => [], [], [], []⟩) (bif r69.2 != r80.2 then true else !r131) rfl rfl rfl rfl (fun _ => rfl) (gd_f _)) (fun hx148 => ?_) ?_
           ·
            replace hx148 : (!(bif r69.2 != r80.2 then true else !r131)) = true := hx148
            refine ob_two rfl (fun _ _ => ?_) (fun hn => clash hx148 hn)
            refine ob_two rfl (fun _ _ => ?_) (fun hn => clash hx148 hn)
            refine ob_nil rfl ?_
            exact PureOk.op (p_neq rfl rfl rfl)
           refine all_cons _ (base_nil rfl) (dst_some rfl rfl) rfl rfl rfl rfl (gd_none rfl rfl) (fun _ => ?_) ?_
           ·
            refine ob_one rfl rfl (fun _ => ?_)
            refine ob_two rfl (fun hq150 _ => ?_) (fun hq150 => ?_)
            rotate_left
            ·
             replace hq150 : (!(bif r69.2 != r80.2 then true else !r131)) = false := hq150
             refine ob_nil rfl ?_
             exact PureOk.op (p_pick (b := bif r69.2 != r80.2 then true else !r131) (p := true) (q := r101.2.2 != r110.2.2) rfl rfl (fun _ => rfl) (fun hb => by first | (rw [hb] at hq150; cases hq150; done) | exact absurd hq150 (by rw [hb]; simp) | (simp_all; done)))
            refine ob_nil rfl ?_
            exact PureOk.op (p_pick (b := bif r69.2 != r80.2 then true else !r131) (p := true) (q := r101.2.2 != r110.2.2) rfl rfl (fun _ => rfl) (fun _ => rfl))
           refine all_cons _ (base_nil rfl) (dst_some rfl rfl) rfl rfl rfl rfl (gd_none rfl rfl) (fun _ => ?_) ?_
           ·
            refine ob_one rfl rfl (fun _ => ?_)
            refine ob_nil rfl ?_
            exact PureOk.op (p_move (v := .bool (bif bif r69.2 != r80.2 then true else !r131 then true else r101.2.2 != r110.2.2)) rfl rfl)
           refine all_cons _ (base_nil rfl) (dst_some rfl rfl) rfl rfl rfl rfl (gd_some (e := ⟨true, 128, [14], Unit, fun _ => .bool (bif bif r69.2 != r80.2 then true else !r131 then true else r101.2.2 != r110.2.2), fun _ => [], [], [], []⟩) (bif bif r69.2 != r80.2 then true else !r131 then true else r101.2.2 != r110.2.2) rfl rfl rfl rfl (fun _ => rfl) (gd_f _)) (fun hx152 => ?_) ?_
           ·
            replace hx152 : (!(bif bif r69.2 != r80.2 then true else !r131 then true else r101.2.2 != r110.2.2)) = true := hx152
            refine ob_nil rfl ?_
            exact PureOk.op (p_move (v := .int .i64 (r101.1)) rfl rfl)
           refine all_cons _ (base_nil rfl) (dst_some rfl rfl) rfl rfl rfl rfl (gd_some (e := ⟨true, 128, [14], Unit, fun _ => .bool (bif bif r69.2 != r80.2 then true else !r131 then true else r101.2.2 != r110.2.2), fun _ => [], [], [], []⟩) (bif bif r69.2 != r80.2 then true else !r131 then true else r101.2.2 != r110.2.2) rfl rfl rfl rfl (fun _ => rfl) (gd_f _)) (fun hx153 => ?_) ?_
           ·
            replace hx153 : (!(bif bif r69.2 != r80.2 then true else !r131 then true else r101.2.2 != r110.2.2)) = true := hx153
            refine ob_nil rfl ?_
            exact PureOk.op (p_move (v := .int .i64 (r110.1)) rfl rfl)
           refine all_cons _ (base_nil rfl) (dst_some rfl rfl) rfl rfl rfl rfl (gd_some (e := ⟨true, 128, [14], Unit, fun _ => .bool (bif bif r69.2 != r80.2 then true else !r131 then true else r101.2.2 != r110.2.2), fun _ => [], [], [], []⟩) (bif bif r69.2 != r80.2 then true else !r131 then true else r101.2.2 != r110.2.2) rfl rfl rfl rfl (fun _ => rfl) (gd_f _)) (fun hx154 => ?_) ?_
           ·
            replace hx154 : (!(bif bif r69.2 != r80.2 then true else !r131 then true else r101.2.2 != r110.2.2)) = true := hx154
            refine ob_two rfl (fun _ _ => ?_) (fun hn => clash hx154 hn)
            refine ob_two rfl (fun _ _ => ?_) (fun hn => clash hx154 hn)
            refine ob_nil rfl ?_
            exact PureOk.op (p_neq rfl rfl rfl)
           refine all_cons _ (base_nil rfl) (dst_some rfl rfl) rfl rfl rfl rfl (gd_none rfl rfl) (fun _ => ?_) ?_
           ·
            refine ob_one rfl rfl (fun _ => ?_)
            refine ob_two rfl (fun hq156 _ => ?_) (fun hq156 => ?_)
            rotate_left
            ·
             replace hq156 : (!(bif bif r69.2 != r80.2 then true else !r131 then true else r101.2.2 != r110.2.2)) = false := hq156
             refine ob_nil rfl ?_
             exact PureOk.op (p_pick (b := bif bif r69.2 != r80.2 then true else !r131 then true else r101.2.2 != r110.2.2) (p := true) (q := r101.1 != r110.1) rfl rfl (fun _ => rfl) (fun hb => by first | (rw [hb] at hq156; cases hq156; done) | exact absurd hq156 (by rw [hb]; simp) | (simp_all; done)))
            refine ob_nil rfl ?_
            exact PureOk.op (p_pick (b := bif bif r69.2 != r80.2 then true else !r131 then true else r101.2.2 != r110.2.2) (p := true) (q := r101.1 != r110.1) rfl rfl (fun _ => rfl) (fun _ => rfl))
           refine all_cons _ (base_nil rfl) (dst_some rfl rfl) rfl rfl rfl rfl (gd_none rfl rfl) (fun _ => ?_) ?_
           ·
            refine ob_one rfl rfl (fun _ => ?_)
            refine ob_nil rfl ?_
            exact PureOk.op (p_move (v := .bool (bif bif bif r69.2 != r80.2 then true else !r131 then true else r101.2.2 != r110.2.2 then true else r101.1 != r110.1)) rfl rfl)
           refine all_cons _ (base_nil rfl) (dst_some rfl rfl) rfl rfl rfl rfl (gd_some (e := ⟨true, 133, [19], Unit, fun _ => .bool (bif bif bif r69.2 != r80.2 then true else !r131 then true else r101.2.2 != r110.2.2 then true else r101.1 != r110.1), fun _ => [], [], [], []⟩) (bif bif bif r69.2 != r80.2 then true else !r131 then true else r101.2.2 != r110.2.2 then true else r101.1 != r110.1) rfl rfl rfl rfl (fun _ => rfl) (gd_f _)) (fun hx158 => ?_) ?_
           ·
            replace hx158 : (!(bif bif bif r69.2 != r80.2 then true else !r131 then true else r101.2.2 != r110.2.2 then true else r101.1 != r110.1)) = true := hx158
            refine ob_nil rfl ?_
            exact PureOk.op (p_move (v := .int .i64 (r101.2.1)) rfl rfl)
           refine all_cons _ (base_nil rfl) (dst_some rfl rfl) rfl rfl rfl rfl (gd_some (e := ⟨true, 133, [19], Unit, fun _ => .bool (bif bif bif r69.2 != r80.2 then true else !r131 then true else r101.2.2 != r110.2.2 then true else r101.1 != r110.1), fun _ => [], [], [], []⟩) (bif bif bif r69.2 != r80.2 then true else !r131 then true else r101.2.2 != r110.2.2 then true else r101.1 != r110.1) rfl rfl rfl rfl (fun _ => rfl) (gd_f _)) (fun hx159 => ?_) ?_
           ·
            replace hx159 : (!(bif bif bif r69.2 != r80.2 then true else !r131 then true else r101.2.2 != r110.2.2 then true else r101.1 != r110.1)) = true := hx159
            refine ob_nil rfl ?_
            exact PureOk.op (p_move (v := .int .i64 (r110.2.1)) rfl rfl)
           refine all_cons _ (base_nil rfl) (dst_some rfl rfl) rfl rfl rfl rfl (gd_some (e := ⟨true, 133, [19], Unit, fun _ => .bool (bif bif bif r69.2 != r80.2 then true else !r131 then true else r101.2.2 != r110.2.2 then true else r101.1 != r110.1), fun _ => [], [], [], []⟩) (bif bif bif r69.2 != r80.2 then true else !r131 then true else r101.2.2 != r110.2.2 then true else r101.1 != r110.1) rfl rfl rfl rfl (fun _ => rfl) (gd_f _)) (fun hx160 => ?_) ?_
           ·
            replace hx160 : (!(bif bif bif r69.2 != r80.2 then true else !r131 then true else r101.2.2 != r110.2.2 then true else r101.1 != r110.1)) = true := hx160
            refine ob_two rfl (fun _ _ => ?_) (fun hn => clash hx160 hn)
            refine ob_two rfl (fun _ _ => ?_) (fun hn => clash hx160 hn)
            refine ob_nil rfl ?_
            exact PureOk.op (p_neq rfl rfl rfl)
           refine all_cons _ (base_nil rfl) (dst_some rfl rfl) rfl rfl rfl rfl (gd_none rfl rfl) (fun _ => ?_) ?_
           ·
            refine ob_one rfl rfl (fun _ => ?_)
            refine ob_two rfl (fun hq162 _ => ?_) (fun hq162 => ?_)
            rotate_left
            ·
             replace hq162 : (!(bif bif bif r69.2 != r80.2 then true else !r131 then true else r101.2.2 != r110.2.2 then true else r101.1 != r110.1)) = false := hq162
             refine ob_nil rfl ?_
             exact PureOk.op (p_pick (b := bif bif bif r69.2 != r80.2 then true else !r131 then true else r101.2.2 != r110.2.2 then true else r101.1 != r110.1) (p := true) (q := r101.2.1 != r110.2.1) rfl rfl (fun _ => rfl) (fun hb => by first | (rw [hb] at hq162; cases hq162; done) | exact absurd hq162 (by rw [hb]; simp) | (simp_all; done)))
            refine ob_nil rfl ?_
            exact PureOk.op (p_pick (b := bif bif bif r69.2 != r80.2 then true else !r131 then true else r101.2.2 != r110.2.2 then true else r101.1 != r110.1) (p := true) (q := r101.2.1 != r110.2.1) rfl rfl (fun _ => rfl) (fun _ => rfl))
           exact all_nil
          ·
           refine fin_base _ (base_nil rfl) ?_
           refine fin_one rfl rfl (fun _ => ?_)
           refine fin_nil ?_
           refine s_nil ?_
           refine x_then ?_
           refine s_cond rfl (fun hb163 => ?_) (fun hb163 => ?_)
           ·
            replace e51 := cond_t hb163 e51
            refine s_seq ?_
            refine s_region ?_
            refine s_pure (p_assign (v := .bool (false)) rfl rfl) rfl rfl rfl ?_
            refine s_nil ?_
            refine x_then ?_
            refine s_ret ?_
            refine x_then_ret ?_
            refine x_block_ret ?_
            replace e51 := some_inj e51
            subst e51
            refine x_join_ret ?_
            refine x_out_ret e48 (fun e164 => ?_)
            subst e164
            refine x_block_ret ?_
            refine x_block_ret ?_
            refine x_join_ret ?_
            refine x_out_ret e39 (fun e165 => ?_)
            subst e165
            refine x_block_ret ?_
            refine x_join_ret ?_
            replace hF := some_inj hF
            subst hF
            exact x_ret () (res_one rfl (ra_tmp (v := .bool (false)) rfl)) rfl 12 rfl [] 2 rfl trivial
           ·
            replace e51 := cond_f hb163 e51
            refine s_skip ?_
            refine x_then ?_
            refine s_seq ?_
            obtain ⟨r166, e167, e51⟩ := bind_some e51
            obtain ⟨r169, e170, e51⟩ := bind_some e51
            obtain ⟨x173, e174, e51⟩ := bind_some e51
            refine s_draw Try.mixed [⟨true, 138, [], Unit, fun _ => .agg ([.int .i64 (r80.1.1), .int .i64 (r80.1.2.1), Hd.val z86.1]).toArray, fun _ => [], [], [], []⟩, ⟨true, 139, [], Unit, fun _ => .int .i64 (x4), fun _ => [], [], [], []⟩, ⟨true, 140, [], Unit, fun _ => .int .i64 (x5), fun _ => [], [], [], []⟩, ⟨true, 141, [1, 2], Unit, fun _ => .agg ([.int .i64 (x4), .int .i64 (x5), Hd.val (nilH 3)]).toArray, fun _ => [], [], [], []⟩, ⟨true, 142, [], Unit, fun _ => .int .i64 (x4), fun _ => [], [], [], []⟩, ⟨true, 143, [4], Unit, fun (y168 : Unit) => .int .i64 (r166), fun _ => [], [], [], []⟩, ⟨true, 144, [5], Unit, fun _ => .int .i64 (w64 (r166 - 1)), fun _ => [], [], [], []⟩, ⟨true, 145, [], Unit, fun _ => .int .i64 (x5), fun _ => [], [], [], []⟩, ⟨true, 146, [7], Unit, fun (y171 : Unit) => .int .i64 (r169), fun _ => [], [], [], []⟩, ⟨true, 147, [], Unit, fun _ => .int .i64 (x6), fun _ => [], [], [], []⟩, ⟨true, 148, [9], Hd, fun (h172 : Hd) => Hd.val h172, fun h172 => [.own (tI .i64) 3 192 [] [x6] h172], [], [], []⟩, ⟨true, 149, [6, 8, 10], Hd, fun (z176 : Hd) => .agg ([.int .i64 (w64 (r166 - 1)), .int .i64 (r169), Hd.val z176]).toArray, fun z176 => [.own (tI .i64) 3 192 [] [x6] z176], [], [], []⟩, ⟨true, 150, [], Unit, fun _ => Hd.val y37, fun _ => [], [], [], []⟩, ⟨true, 151, [], Unit, fun _ => .int .i64 (s36.2), fun _ => [], [], [], []⟩, ⟨true, 152, [12, 13], Unit, fun _ => .pointer (some (pat y37 (s36.2.toNat * 1))), fun _ => [], [], [], []⟩, ⟨true, 153, [14], Unit, fun _ => .pointer (some (pat y37 (s36.2.toNat * 1 + 0))), fun _ => [], [], [], []⟩, ⟨true, 154, [15], Hd, fun (h175 : Hd) => Hd.val h175, fun h175 => [.rep (tA 16 .u8) [63, 11, 24, 26, 38, 62] x173 h175], [], [], []⟩, ⟨true, 155, [16], Unit, fun _ => .int .i64 ((x173.length : Int)), fun _ => [], [], [], []⟩, ⟨true, 156, [17], Unit, fun _ => .agg ([.int .i64 (-1), .int .i64 ((x173.length : Int)), Hd.val (nilH 3)]).toArray, fun _ => [], [], [], []⟩] [[], [], [], [1, 2], [], [4], [4, 5], [], [4, 5, 7], [], [9], [4, 5, 6, 7, 8, 9, 10], [], [], [12, 13], [12, 13, 14], [12, 13, 14, 15], [12, 13, 14, 15, 16], [12, 13, 14, 15, 16, 17], [0, 1, 2, 3, 4, 5, 6, 7, 8, 9, 10, 11, 12, 13, 14, 15, 16, 17, 18], [0, 1, 2, 3, 4, 5, 6, 7, 8, 9, 10, 11, 12, 13, 14, 15, 16, 17, 18, 19]] rfl rfl rfl rfl rfl ⟨.inl rfl, .inl rfl, .inl rfl, .inl rfl, .inl rfl, .inl rfl, .inl rfl, .inl rfl, .inl rfl, .inl rfl, .inl rfl, .inl rfl, .inl rfl, .inl rfl, .inl rfl, .inl rfl, .inl rfl, .inl rfl, .inl rfl, trivial⟩ ?_ [0, 3, 11, 18] rfl rfl (fun us => ?_)
            ·
             refine all_cons _ (base_nil rfl) (dst_some rfl rfl) rfl rfl rfl rfl (gd_none rfl rfl) (fun _ => ?_) ?_
             ·
              refine ob_nil rfl ?_
              exact PureOk.op (p_loadN_box (cs' := [.int .i64 (r80.1.1), .int .i64 (r80.1.2.1), Hd.val z86.1]) 0 rfl rfl Try.underlying37 rfl Try.ti37 rfl rfl rfl)
             refine all_cons _ (base_nil rfl) (dst_some rfl rfl) rfl rfl rfl rfl (gd_none rfl rfl) (fun _ => ?_) ?_
             ·
              refine ob_nil rfl ?_
              exact PureOk.op (p_move (v := .int .i64 (x4)) rfl rfl)
             refine all_cons _ (base_nil rfl) (dst_some rfl rfl) rfl rfl rfl rfl (gd_none rfl rfl) (fun _ => ?_) ?_
             ·
              refine ob_nil rfl ?_
              exact PureOk.op (p_move (v := .int .i64 (x5)) rfl rfl)
             refine all_cons _ (base_nil rfl) (dst_some rfl rfl) rfl rfl rfl rfl (gd_none rfl rfl) (fun _ => ?_) ?_
             ·
              refine ob_one rfl rfl (fun _ => ?_)
              refine ob_one rfl rfl (fun _ => ?_)
              refine ob_nil rfl ?_
              exact PureOk.op (p_build_struct (vals := [(0, [.int .i64 (x4)]), (1, [.int .i64 (x5)])]) (places := [(0, 1), (1, 1), (2, 1)]) (cells := [.int .i64 (x4), .int .i64 (x5), Hd.val (nilH 3)]) rfl Try.underlying37 Try.ti37 (⟨rfl, ⟨_, _, Try.ti3⟩, ⟨rfl, ⟨_, _, Try.ti3⟩, ⟨rfl, ⟨_, _, Try.ti22⟩, trivial⟩⟩⟩) rfl rfl)
             refine all_cons _ (base_nil rfl) (dst_some rfl rfl) rfl rfl rfl rfl (gd_none rfl rfl) (fun _ => ?_) ?_
             ·
              refine ob_nil rfl ?_
              exact PureOk.op (p_move (v := .int .i64 (x4)) rfl rfl)
             refine all_cons _ (base_nil rfl) (dst_some rfl rfl) rfl rfl rfl rfl (gd_none rfl rfl) (fun _ => ?_) ?_
             ·
              refine ob_one rfl rfl (fun _ => ?_)
              refine ob_nil rfl ?_
              exact ok_call (N := 168) (Φ := fun y168 => []) (culpritref01_Around_ok e167) rfl rfl rfl Try.func7 rfl Try.nm7 [] trivial (fun _ => rfl) (fun _ => rfl) rfl
             refine all_cons _ (base_nil rfl) (dst_some rfl rfl) rfl rfl rfl rfl (gd_none rfl rfl) (fun _ => ?_) ?_
             ·
              refine ob_one rfl rfl (fun y168 => ?_)
              refine ob_nil rfl ?_
              exact PureOk.op (p_sub rfl rfl rfl)
             refine all_cons _ (base_nil rfl) (dst_some rfl rfl) rfl rfl rfl rfl (gd_none rfl rfl) (fun _ => ?_) ?_
             ·
              refine ob_nil rfl ?_
              exact PureOk.op (p_move (v := .int .i64 (x5)) rfl rfl)
             refine all_cons _ (base_nil rfl) (dst_some rfl rfl) rfl rfl rfl rfl (gd_none rfl rfl) (fun _ => ?_) ?_
             ·
              refine ob_one rfl rfl (fun _ => ?_)
              refine ob_nil rfl ?_
              exact ok_call (N := 180) (Φ := fun y171 => []) (culpritref01_Around_ok e170) rfl rfl rfl Try.func7 rfl Try.nm7 [] trivial (fun _ => rfl) (fun _ => rfl) rfl
             refine all_cons _ (base_nil rfl) (dst_some rfl rfl) rfl rfl rfl rfl (gd_none rfl rfl) (fun _ => ?_) ?_
             ·
              refine ob_nil rfl ?_
              exact PureOk.op (p_move (v := .int .i64 (x6)) rfl rfl)
             refine all_cons _ (base_nil rfl) (dst_some rfl rfl) rfl rfl rfl rfl (gd_none rfl rfl) (fun _ => ?_) ?_
             ·
              refine ob_one rfl rfl (fun _ => ?_)
              refine ob_nil rfl ?_
              exact ok_buildSlice (N := 192) (vals := [(0, [.int .i64 (x6)])]) (cells := [.int .i64 (x6)]) (ty := (tI .i64)) (K := []) (xs := [x6]) (ys := [()]) rfl Try.underlying22 Try.ti3 rfl rfl rfl rfl rfl rfl rfl rfl trivial rfl
             refine all_cons _ (base_nil rfl) (dst_some rfl rfl) rfl rfl rfl rfl (gd_none rfl rfl) (fun _ => ?_) ?_
             ·
              refine ob_one rfl rfl (fun _ => ?_)
              refine ob_one rfl rfl (fun y171 => ?_)
              refine ob_one rfl rfl (fun h172 => ?_)
              refine ob_nil rfl ?_
              exact ok_known (h172) (p_build_struct (vals := [(0, [.int .i64 (w64 (r166 - 1))]), (1, [.int .i64 (r169)]), (2, [Hd.val h172])]) (places := [(0, 1), (1, 1), (2, 1)]) (cells := [.int .i64 (w64 (r166 - 1)), .int .i64 (r169), Hd.val h172]) rfl Try.underlying37 Try.ti37 (⟨rfl, ⟨_, _, Try.ti3⟩, ⟨rfl, ⟨_, _, Try.ti3⟩, ⟨rfl, ⟨_, _, Try.ti22⟩, trivial⟩⟩⟩) rfl rfl) rfl [0] rfl
             refine all_cons _ (base_nil rfl) (dst_some rfl rfl) rfl rfl rfl rfl (gd_none rfl rfl) (fun _ => ?_) ?_
             ·
              refine ob_nil rfl ?_
              exact PureOk.op (p_move (v := Hd.val y37) rfl rfl)
             refine all_cons _ (base_nil rfl) (dst_some rfl rfl) rfl rfl rfl rfl (gd_none rfl rfl) (fun _ => ?_) ?_
             ·
              refine ob_nil rfl ?_
              exact PureOk.op (p_move (v := .int .i64 (s36.2)) rfl rfl)
             refine all_cons _ (base_nil rfl) (dst_some rfl rfl) rfl rfl rfl rfl (gd_none rfl rfl) (fun _ => ?_) ?_
             ·
              refine ob_one rfl rfl (fun _ => ?_)
              refine ob_one rfl rfl (fun _ => ?_)
              refine ob_nil rfl ?_
              exact PureOk.op (p_idx_own (h := y37) (i := s36.2) (ty := Ty_culpritref32_Claimant) (xs := s36.1) (v := x173) 13 rfl rfl Try.underlying29 Try.ti25 rfl rfl e174)
             refine all_cons _ (base_nil rfl) (dst_some rfl rfl) rfl rfl rfl rfl (gd_none rfl rfl) (fun _ => ?_) ?_
             ·
              refine ob_one rfl rfl (fun _ => ?_)
              refine ob_nil rfl ?_
              exact PureOk.op (p_field_at (X := s36.2.toNat * 1) (fo := 0) (el_own (ty := Ty_culpritref32_Claimant) (xs := s36.1) (h := y37) (i := s36.2) (v := x173) (sz := 1) 13 rfl rfl e174) rfl Try.underlying25 rfl Try.ti23 rfl rfl rfl)
             refine all_cons _ (base_nil rfl) (dst_some rfl rfl) rfl rfl rfl rfl (gd_none rfl rfl) (fun _ => ?_) ?_
             ·
              refine ob_one rfl rfl (fun _ => ?_)
              refine ob_nil rfl ?_
              exact ok_load_sl_at (X := s36.2.toNat * 1 + 0) (el_pth (t := Ty_culpritref32_Claimant) (u := (Ty.slice (tA 16 .u8))) (v := x173) (v' := x173) (fo := 0) (.here) (el_own (ty := Ty_culpritref32_Claimant) (xs := s36.1) (h := y37) (i := s36.2) (v := x173) (sz := 1) 13 rfl rfl e174) rfl rfl) rfl Try.underlying23 rfl rfl
             refine all_cons _ (base_nil rfl) (dst_some rfl rfl) rfl rfl rfl rfl (gd_none rfl rfl) (fun _ => ?_) ?_
             ·
              refine ob_one rfl rfl (fun h175 => ?_)
              refine ob_nil rfl ?_
              exact PureOk.op (p_len_rep (ty := (tA 16 .u8)) (xs := x173) (h := h175) 0 rfl rfl Try.underlying23 rfl)
             refine all_cons _ (base_nil rfl) (dst_some rfl rfl) rfl rfl rfl rfl (gd_none rfl rfl) (fun _ => ?_) ?_
             ·
              refine ob_one rfl rfl (fun _ => ?_)
              refine ob_nil rfl ?_
              exact PureOk.op (p_build_struct (vals := [(0, [.int .i64 (-1)]), (1, [.int .i64 ((x173.length : Int))])]) (places := [(0, 1), (1, 1), (2, 1)]) (cells := [.int .i64 (-1), .int .i64 ((x173.length : Int)), Hd.val (nilH 3)]) rfl Try.underlying37 Try.ti37 (⟨rfl, ⟨_, _, Try.ti3⟩, ⟨rfl, ⟨_, _, Try.ti3⟩, ⟨rfl, ⟨_, _, Try.ti22⟩, trivial⟩⟩⟩) rfl rfl)
             exact all_nil
            ·
             refine fin_base _ (base_nil rfl) ?_
             refine fin_one rfl rfl (fun _ => ?_)
             refine fin_one rfl rfl (fun _ => ?_)
             refine fin_one rfl rfl (fun z176 => ?_)
             refine fin_one rfl rfl (fun _ => ?_)
             refine fin_nil ?_
             refine s_op0 (ok_buildSlice (N := 193) (vals := [(0, [.int .i64 (r80.1.1), .int .i64 (r80.1.2.1), Hd.val z86.1]), (1, [.int .i64 (x4), .int .i64 (x5), Hd.val (nilH 3)]), (2, [.int .i64 (w64 (r166 - 1)), .int .i64 (r169), Hd.val z176]), (3, [.int .i64 (-1), .int .i64 ((x173.length : Int)), Hd.val (nilH 3)])]) (cells := [.int .i64 (r80.1.1), .int .i64 (r80.1.2.1), Hd.val z86.1] ++ [.int .i64 (x4), .int .i64 (x5), Hd.val (nilH 3)] ++ [.int .i64 (w64 (r166 - 1)), .int .i64 (r169), Hd.val z176] ++ [.int .i64 (-1), .int .i64 ((x173.length : Int)), Hd.val (nilH 3)]) (ty := Ty_culpritref32_Game) (K := [107, 105, 192]) (xs := [(r80.1.1, r80.1.2.1, r80.1.2.2), (x4, x5, ([] : List Int)), (w64 (r166 - 1), r169, [x6]), (-1, (x173.length : Int), ([] : List Int))]) (ys := [((), (), z86.1), ((), (), (nilH 3)), ((), (), z176), ((), (), (nilH 3))]) rfl Try.underlying45 Try.ti37 rfl rfl rfl rfl rfl rfl rfl rfl ⟨.inl ⟨2, _, rfl, weak_own rfl⟩, .inl ⟨4, _, rfl, weak_own rfl⟩, .inl ⟨0, _, rfl, weak_own rfl⟩, .inl ⟨4, _, rfl, weak_own rfl⟩, trivial⟩ rfl) rfl rfl rfl (fun h196 => ?_)
             refine s_pure (p_assign (v := Hd.val h196) rfl rfl) rfl rfl rfl ?_
             refine s_nil ?_
             refine x_then ?_
             refine s_seq ?_
             refine s_region ?_
             refine s_pure (p_assign (v := .int .i64 (0)) rfl rfl) rfl rfl rfl ?_
             refine s_nil ?_
             refine x_then ?_
             refine s_block ?_
             refine sim_loop (fun (s197 : Int) (y198 : Unit) => [(4, .int .i64 (x4)), (5, .int .i64 (x5)), (6, .int .i64 (x6)), (16, Hd.val y37), (17, .int .i64 (s36.2)), (18, .int .i64 (s45)), (19, .pointer (some ⟨b61, 0, none⟩)), (20, .pointer (some ⟨b68, 0, none⟩)), (31, Hd.val h196), (32, .int .i64 (s197))]) (fun (s197 : Int) (y198 : Unit) => [.old w S, .box 78 b61 [Hd.val y59], .box 91 b68 [Hd.val y67], .own Ty_culpritref32_Claimant 25 63 [11, 24, 26, 38, 62] s36.1 y37, .own Ty_culpritref32_Game 37 193 [105, 107, 192] [(r80.1.1, r80.1.2.1, r80.1.2.2), (x4, x5, ([] : List Int)), (w64 (r166 - 1), r169, [x6]), (-1, (x173.length : Int), ([] : List Int))] h196, .rep (tA 16 .u8) [11, 24, 26, 38, 62, 63] r57 y59, .rep (tA 16 .u8) [11, 24, 26, 38, 62, 63] r65 y67]) () e51 [(11, 11), (24, 24), (26, 26), (38, 38), (62, 62), (63, 63), (78, 78), (91, 91), (105, 105), (107, 107), (192, 192), (193, 193)] 2 rfl ⟨rfl, rfl, rfl, rfl, rfl, rfl, rfl, rfl, rfl, rfl, trivial⟩ ⟨.inl ⟨14, _, rfl, weak_same⟩, .inl ⟨10, _, rfl, weak_same⟩, .inl ⟨7, _, rfl, weak_same⟩, .inl ⟨15, _, rfl, weak_ownK rfl⟩, .inl ⟨0, _, rfl, weak_ownK rfl⟩, .inl ⟨12, _, rfl, weak_rep rfl⟩, .inl ⟨8, _, rfl, weak_rep rfl⟩, trivial⟩ ?_
             intro s197 y198 ρ' z199 e200
             refine s_seq ?_
             refine s_seq ?_
             refine s_region ?_
             refine s_pure (p_move (v := .int .i64 (s197)) rfl rfl) rfl rfl rfl ?_
             refine s_pure (p_move (v := Hd.val h196) rfl rfl) rfl rfl rfl ?_
             refine s_pure (p_len_own (ty := Ty_culpritref32_Game) (xs := [(r80.1.1, r80.1.2.1, r80.1.2.2), (x4, x5, ([] : List Int)), (w64 (r166 - 1), r169, [x6]), (-1, (x173.length : Int), ([] : List Int))]) (h := h196) 4 rfl rfl Try.underlying45 rfl) rfl rfl rfl ?_
             refine s_pure (p_lss rfl rfl rfl) rfl rfl rfl ?_
             refine s_nil ?_
             refine x_then ?_
             refine s_cond rfl (fun hb201 => ?_) (fun hb201 => ?_)
             ·
              replace e200 := cond_t hb201 e200
              refine s_skip ?_
              refine x_then ?_
              refine s_seq ?_
              refine s_block ?_
              refine s_seq ?_
              refine s_nilrow' (tI .i64) 3 194 [] ?_
              obtain ⟨x202, e203, e200⟩ := bind_some e200
              obtain ⟨x204, e205, e200⟩ := bind_some e200
              obtain ⟨x206, e207, e200⟩ := bind_some e200
              obtain ⟨r209, e210, e200⟩ := bind_some e200
              refine s_draw Try.mixed [⟨true, 165, [], Unit, fun _ => Hd.val h196, fun _ => [], [], [], []⟩, ⟨true, 166, [], Unit, fun _ => .int .i64 (s197), fun _ => [], [], [], []⟩, ⟨true, 167, [0, 1], Unit, fun _ => .pointer (some (pat h196 (s197.toNat * 3))), fun _ => [], [], [], []⟩, ⟨true, 168, [2], Unit, fun _ => .pointer (some (pat h196 (s197.toNat * 3 + 0))), fun _ => [], [], [], []⟩, ⟨true, 169, [3], Unit, fun _ => .int .i64 (x202.1), fun _ => [], [], [], []⟩, ⟨true, 170, [], Unit, fun _ => Hd.val h196, fun _ => [], [], [], []⟩, ⟨true, 171, [], Unit, fun _ => .int .i64 (s197), fun _ => [], [], [], []⟩, ⟨true, 172, [5, 6], Unit, fun _ => .pointer (some (pat h196 (s197.toNat * 3))), fun _ => [], [], [], []⟩, ⟨true, 173, [7], Unit, fun _ => .pointer (some (pat h196 (s197.toNat * 3 + 1))), fun _ => [], [], [], []⟩, ⟨true, 174, [8], Unit, fun _ => .int .i64 (x204.2.1), fun _ => [], [], [], []⟩, ⟨true, 175, [], Unit, fun _ => Hd.val h196, fun _ => [], [], [], []⟩, ⟨true, 176, [], Unit, fun _ => .int .i64 (s197), fun _ => [], [], [], []⟩, ⟨true, 177, [10, 11], Unit, fun _ => .pointer (some (pat h196 (s197.toNat * 3))), fun _ => [], [], [], []⟩, ⟨true, 178, [12], Unit, fun _ => .pointer (some (pat h196 (s197.toNat * 3 + 2))), fun _ => [], [], [], []⟩, ⟨true, 179, [13], Hd, fun (h208 : Hd) => Hd.val h208, fun h208 => [.rep (tI .i64) [193, 105, 107, 192] x206.2.2 h208], [], [], []⟩, ⟨true, 180, [4, 9, 14], Hd, fun (z213 : Hd) => .agg ([.int .i64 (x202.1), .int .i64 (x204.2.1), Hd.val z213]).toArray, fun z213 => [.rep (tI .i64) [193, 105, 107, 192] x206.2.2 z213], [], [], []⟩, ⟨true, 181, [], Unit, fun _ => .agg ([Hd.val y59]).toArray, fun _ => [], [], [], []⟩, ⟨true, 182, [], Unit, fun _ => .agg ([Hd.val y67]).toArray, fun _ => [], [], [], []⟩, ⟨true, 183, [15, 16, 17], Hd, fun (y211 : Hd) => .tuple #[.agg ([.int .i64 (r209.1.1), .int .i64 (r209.1.2.1), Hd.val y211]).toArray, .int .i64 (r209.2)], fun y211 => [.own (tI .i64) 3 195 [] r209.1.2.2 y211], [], [], []⟩, ⟨true, 164, [18], Hd, fun (z214 : Hd) => .tuple #[.agg ([.int .i64 (r209.1.1), .int .i64 (r209.1.2.1), Hd.val z214]).toArray, .int .i64 (r209.2)], fun z214 => [.own (tI .i64) 3 195 [] r209.1.2.2 z214], [], [], []⟩, ⟨true, 184, [19], Hd, fun (z215 : Hd) => .agg ([.int .i64 (r209.1.1), .int .i64 (r209.1.2.1), Hd.val z215]).toArray, fun z215 => [.own (tI .i64) 3 195 [] r209.1.2.2 z215], [], [], []⟩, ⟨true, 185, [19], Unit, fun _ => .int .i64 (r209.2), fun _ => [], [], [], []⟩, ⟨true, 33, [], Nat, fun (b212 : Nat) => .pointer (some ⟨b212, 0, none⟩), fun b212 => [.box 207 b212 [.int .i64 (0), .int .i64 (0), Hd.val (nilH 3)]], [], [], []⟩, ⟨true, 252, [22, 20], Hd × Nat, fun (z216 : Hd × Nat) => undef, fun z216 => [.box 207 z216.2 [.int .i64 (r209.1.1), .int .i64 (r209.1.2.1), Hd.val z216.1], .own (tI .i64) 3 195 [] r209.1.2.2 z216.1], [207], [22], [(33, fun z216 => .pointer (some ⟨z216.2, 0, none⟩))]⟩] [[], [], [0, 1], [0, 1, 2], [0, 1, 2, 3], [], [], [5, 6], [5, 6, 7], [5, 6, 7, 8], [], [], [10, 11], [10, 11, 12], [10, 11, 12, 13], [0, 1, 2, 3, 4, 5, 6, 7, 8, 9, 10, 11, 12, 13, 14], [], [], [0, 1, 2, 3, 4, 5, 6, 7, 8, 9, 10, 11, 12, 13, 14, 15, 16, 17], [0, 1, 2, 3, 4, 5, 6, 7, 8, 9, 10, 11, 12, 13, 14, 15, 16, 17, 18], [0, 1, 2, 3, 4, 5, 6, 7, 8, 9, 10, 11, 12, 13, 14, 15, 16, 17, 18, 19], [0, 1, 2, 3, 4, 5, 6, 7, 8, 9, 10, 11, 12, 13, 14, 15, 16, 17, 18, 19], [], [0, 1, 2, 3, 4, 5, 6, 7, 8, 9, 10, 11, 12, 13, 14, 15, 16, 17, 18, 19, 20, 22], [0, 1, 2, 3, 4, 5, 6, 7, 8, 9, 10, 11, 12, 13, 14, 15, 16, 17, 18, 19, 20, 21, 22, 23]] rfl rfl rfl rfl rfl ⟨.inl rfl, .inl rfl, .inl rfl, .inl rfl, .inl rfl, .inl rfl, .inl rfl, .inl rfl, .inl rfl, .inl rfl, .inl rfl, .inl rfl, .inl rfl, .inl rfl, .inl rfl, .inl rfl, .inl rfl, .inl rfl, .inl rfl, .inl rfl, .inl rfl, .inl rfl, .inl rfl, .inr ⟨.inr fun _ => rfl, .inr fun _ => rfl, .inr fun _ => rfl, .inr fun _ => rfl, .inr fun _ => rfl, .inr fun _ => rfl, .inr fun _ => rfl, .inr fun _ => rfl, .inr fun _ => rfl, .inr fun _ => rfl, .inr fun _ => rfl, .inr fun _ => rfl, .inr fun _ => rfl, .inr fun _ => rfl, .inr fun _ => rfl, .inr fun _ => rfl, .inr fun _ => rfl, .inr fun _ => rfl, .inr fun _ => rfl, .inr fun _ => rfl, .inr fun _ => rfl, .inr fun _ => rfl, .inl rfl, .inl rfl, trivial⟩, trivial⟩ ?_ [21, 23] rfl rfl (fun us => ?_)
              ·
               refine all_cons [.own (tI .i64) 3 194 [] ([] : List Int) (nilH 3), .old w S, .box 78 b61 [Hd.val y59], .box 91 b68 [Hd.val y67], .own Ty_culpritref32_Claimant 25 63 [11, 24, 26, 38, 62] s36.1 y37, .own Ty_culpritref32_Game 37 193 [105, 107, 192] [(r80.1.1, r80.1.2.1, r80.1.2.2), (x4, x5, ([] : List Int)), (w64 (r166 - 1), r169, [x6]), (-1, (x173.length : Int), ([] : List Int))] h196, .rep (tA 16 .u8) [11, 24, 26, 38, 62, 63] r57 y59, .rep (tA 16 .u8) [11, 24, 26, 38, 62, 63] r65 y67] rfl (dst_some rfl rfl) rfl rfl rfl rfl (gd_none rfl rfl) (fun _ => ?_) ?_
               ·
                refine ob_nil rfl ?_
                exact PureOk.op (p_move (v := Hd.val h196) rfl rfl)
               refine all_cons [.own (tI .i64) 3 194 [] ([] : List Int) (nilH 3), .old w S, .box 78 b61 [Hd.val y59], .box 91 b68 [Hd.val y67], .own Ty_culpritref32_Claimant 25 63 [11, 24, 26, 38, 62] s36.1 y37, .own Ty_culpritref32_Game 37 193 [105, 107, 192] [(r80.1.1, r80.1.2.1, r80.1.2.2), (x4, x5, ([] : List Int)), (w64 (r166 - 1), r169, [x6]), (-1, (x173.length : Int), ([] : List Int))] h196, .rep (tA 16 .u8) [11, 24, 26, 38, 62, 63] r57 y59, .rep (tA 16 .u8) [11, 24, 26, 38, 62, 63] r65 y67] rfl (dst_some rfl rfl) rfl rfl rfl rfl (gd_none rfl rfl) (fun _ => ?_) ?_
               ·
                refine ob_nil rfl ?_
                exact PureOk.op (p_move (v := .int .i64 (s197)) rfl rfl)
               refine all_cons [.own (tI .i64) 3 194 [] ([] : List Int) (nilH 3), .old w S, .box 78 b61 [Hd.val y59], .box 91 b68 [Hd.val y67], .own Ty_culpritref32_Claimant 25 63 [11, 24, 26, 38, 62] s36.1 y37, .own Ty_culpritref32_Game 37 193 [105, 107, 192] [(r80.1.1, r80.1.2.1, r80.1.2.2), (x4, x5, ([] : List Int)), (w64 (r166 - 1), r169, [x6]), (-1, (x173.length : Int), ([] : List Int))] h196, .rep (tA 16 .u8) [11, 24, 26, 38, 62, 63] r57 y59, .rep (tA 16 .u8) [11, 24, 26, 38, 62, 63] r65 y67] rfl (dst_some rfl rfl) rfl rfl rfl rfl (gd_none rfl rfl) (fun _ => ?_) ?_
               ·
                refine ob_one rfl rfl (fun _ => ?_)
                refine ob_one rfl rfl (fun _ => ?_)
                refine ob_nil rfl ?_
                exact PureOk.op (p_idx_own (h := h196) (i := s197) (ty := Ty_culpritref32_Game) (xs := [(r80.1.1, r80.1.2.1, r80.1.2.2), (x4, x5, ([] : List Int)), (w64 (r166 - 1), r169, [x6]), (-1, (x173.length : Int), ([] : List Int))]) (v := x202) 5 rfl rfl Try.underlying45 Try.ti37 rfl rfl e203)
               refine all_cons [.own (tI .i64) 3 194 [] ([] : List Int) (nilH 3), .old w S, .box 78 b61 [Hd.val y59], .box 91 b68 [Hd.val y67], .own Ty_culpritref32_Claimant 25 63 [11, 24, 26, 38, 62] s36.1 y37, .own Ty_culpritref32_Game 37 193 [105, 107, 192] [(r80.1.1, r80.1.2.1, r80.1.2.2), (x4, x5, ([] : List Int)), (w64 (r166 - 1), r169, [x6]), (-1, (x173.length : Int), ([] : List Int))] h196, .rep (tA 16 .u8) [11, 24, 26, 38, 62, 63] r57 y59, .rep (tA 16 .u8) [11, 24, 26, 38, 62, 63] r65 y67] rfl (dst_some rfl rfl) rfl rfl rfl rfl (gd_none rfl rfl) (fun _ => ?_) ?_
               ·
                refine ob_one rfl rfl (fun _ => ?_)
                refine ob_nil rfl ?_
                exact PureOk.op (p_field_at (X := s197.toNat * 3) (fo := 0) (el_own (ty := Ty_culpritref32_Game) (xs := [(r80.1.1, r80.1.2.1, r80.1.2.2), (x4, x5, ([] : List Int)), (w64 (r166 - 1), r169, [x6]), (-1, (x173.length : Int), ([] : List Int))]) (h := h196) (i := s197) (v := x202) (sz := 3) 5 rfl rfl e203) rfl Try.underlying37 rfl Try.ti3 rfl rfl rfl)
               refine all_cons [.own (tI .i64) 3 194 [] ([] : List Int) (nilH 3), .old w S, .box 78 b61 [Hd.val y59], .box 91 b68 [Hd.val y67], .own Ty_culpritref32_Claimant 25 63 [11, 24, 26, 38, 62] s36.1 y37, .own Ty_culpritref32_Game 37 193 [105, 107, 192] [(r80.1.1, r80.1.2.1, r80.1.2.2), (x4, x5, ([] : List Int)), (w64 (r166 - 1), r169, [x6]), (-1, (x173.length : Int), ([] : List Int))] h196, .rep (tA 16 .u8) [11, 24, 26, 38, 62, 63] r57 y59, .rep (tA 16 .u8) [11, 24, 26, 38, 62, 63] r65 y67] rfl (dst_some rfl rfl) rfl rfl rfl rfl (gd_none rfl rfl) (fun _ => ?_) ?_
               ·
                refine ob_one rfl rfl (fun _ => ?_)
                refine ob_nil rfl ?_
                exact PureOk.op (p_load_at (X := s197.toNat * 3 + 0) (el_pth (t := Ty_culpritref32_Game) (u := (tI .i64)) (v := x202) (v' := x202.1) (fo := 0) (.fst .here) (el_own (ty := Ty_culpritref32_Game) (xs := [(r80.1.1, r80.1.2.1, r80.1.2.2), (x4, x5, ([] : List Int)), (w64 (r166 - 1), r169, [x6]), (-1, (x173.length : Int), ([] : List Int))]) (h := h196) (i := s197) (v := x202) (sz := 3) 5 rfl rfl e203) rfl rfl) rfl Try.underlying3 rfl rfl)
               refine all_cons [.own (tI .i64) 3 194 [] ([] : List Int) (nilH 3), .old w S, .box 78 b61 [Hd.val y59], .box 91 b68 [Hd.val y67], .own Ty_culpritref32_Claimant 25 63 [11, 24, 26, 38, 62] s36.1 y37, .own Ty_culpritref32_Game 37 193 [105, 107, 192] [(r80.1.1, r80.1.2.1, r80.1.2.2), (x4, x5, ([] : List Int)), (w64 (r166 - 1), r169, [x6]), (-1, (x173.length : Int), ([] : List Int))] h196, .rep (tA 16 .u8) [11, 24, 26, 38, 62, 63] r57 y59, .rep (tA 16 .u8) [11, 24, 26, 38, 62, 63] r65 y67] rfl (dst_some rfl rfl) rfl rfl rfl rfl (gd_none rfl rfl) (fun _ => ?_) ?_
               ·
                refine ob_nil rfl ?_
                exact PureOk.op (p_move (v := Hd.val h196) rfl rfl)
               refine all_cons [.own (tI .i64) 3 194 [] ([] : List Int) (nilH 3), .old w S, .box 78 b61 [Hd.val y59], .box 91 b68 [Hd.val y67], .own Ty_culpritref32_Claimant 25 63 [11, 24, 26, 38, 62] s36.1 y37, .own Ty_culpritref32_Game 37 193 [105, 107, 192] [(r80.1.1, r80.1.2.1, r80.1.2.2), (x4, x5, ([] : List Int)), (w64 (r166 - 1), r169, [x6]), (-1, (x173.length : Int), ([] : List Int))] h196, .rep (tA 16 .u8) [11, 24, 26, 38, 62, 63] r57 y59, .rep (tA 16 .u8) [11, 24, 26, 38, 62, 63] r65 y67] rfl (dst_some rfl rfl) rfl rfl rfl rfl (gd_none rfl rfl) (fun _ => ?_) ?_
               ·
                refine ob_nil rfl ?_
                exact PureOk.op (p_move (v := .int .i64 (s197)) rfl rfl)
               refine all_cons [.own (tI .i64) 3 194 [] ([] : List Int) (nilH 3), .old w S, .box 78 b61 [Hd.val y59], .box 91 b68 [Hd.val y67], .own Ty_culpritref32_Claimant 25 63 [11, 24, 26, 38, 62] s36.1 y37, .own Ty_culpritref32_Game 37 193 [105, 107, 192] [(r80.1.1, r80.1.2.1, r80.1.2.2), (x4, x5, ([] : List Int)), (w64 (r166 - 1), r169, [x6]), (-1, (x173.length : Int), ([] : List Int))] h196, .rep (tA 16 .u8) [11, 24, 26, 38, 62, 63] r57 y59, .rep (tA 16 .u8) [11, 24, 26, 38, 62, 63] r65 y67] rfl (dst_some rfl rfl) rfl rfl rfl rfl (gd_none rfl rfl) (fun _ => ?_) ?_
               ·
                refine ob_one rfl rfl (fun _ => ?_)
                refine ob_one rfl rfl (fun _ => ?_)
                refine ob_nil rfl ?_
                exact PureOk.op (p_idx_own (h := h196) (i := s197) (ty := Ty_culpritref32_Game) (xs := [(r80.1.1, r80.1.2.1, r80.1.2.2), (x4, x5, ([] : List Int)), (w64 (r166 - 1), r169, [x6]), (-1, (x173.length : Int), ([] : List Int))]) (v := x204) 5 rfl rfl Try.underlying45 Try.ti37 rfl rfl e205)
               refine all_cons [.own (tI .i64) 3 194 [] ([] : List Int) (nilH 3), .old w S, .box 78 b61 [Hd.val y59], .box 91 b68 [Hd.val y67], .own Ty_culpritref32_Claimant 25 63 [11, 24, 26, 38, 62] s36.1 y37, .own Ty_culpritref32_Game 37 193 [105, 107, 192] [(r80.1.1, r80.1.2.1, r80.1.2.2), (x4, x5, ([] : List Int)), (w64 (r166 - 1), r169, [x6]), (-1, (x173.length : Int), ([] : List Int))] h196, .rep (tA 16 .u8) [11, 24, 26, 38, 62, 63] r57 y59, .rep (tA 16 .u8) [11, 24, 26, 38, 62, 63] r65 y67] rfl (dst_some rfl rfl) rfl rfl rfl rfl (gd_none rfl rfl) (fun _ => ?_) ?_
               ·
                refine ob_one rfl rfl (fun _ => ?_)
                refine ob_nil rfl ?_
                exact PureOk.op (p_field_at (X := s197.toNat * 3) (fo := 1) (el_own (ty := Ty_culpritref32_Game) (xs := [(r80.1.1, r80.1.2.1, r80.1.2.2), (x4, x5, ([] : List Int)), (w64 (r166 - 1), r169, [x6]), (-1, (x173.length : Int), ([] : List Int))]) (h := h196) (i := s197) (v := x204) (sz := 3) 5 rfl rfl e205) rfl Try.underlying37 rfl Try.ti3 rfl rfl rfl)
               refine all_cons [.own (tI .i64) 3 194 [] ([] : List Int) (nilH 3), .old w S, .box 78 b61 [Hd.val y59], .box 91 b68 [Hd.val y67], .own Ty_culpritref32_Claimant 25 63 [11, 24, 26, 38, 62] s36.1 y37, .own Ty_culpritref32_Game 37 193 [105, 107, 192] [(r80.1.1, r80.1.2.1, r80.1.2.2), (x4, x5, ([] : List Int)), (w64 (r166 - 1), r169, [x6]), (-1, (x173.length : Int), ([] : List Int))] h196, .rep (tA 16 .u8) [11, 24, 26, 38, 62, 63] r57 y59, .rep (tA 16 .u8) [11, 24, 26, 38, 62, 63] r65 y67] rfl (dst_some rfl rfl) rfl rfl rfl rfl (gd_none rfl rfl) (fun _ => ?_) ?_
               ·
                refine ob_one rfl rfl (fun _ => ?_)
                refine ob_nil rfl ?_
                exact PureOk.op (p_load_at (X := s197.toNat * 3 + 1) (el_pth (t := Ty_culpritref32_Game) (u := (tI .i64)) (v := x204) (v' := x204.2.1) (fo := 1) (.snd (.fst .here)) (el_own (ty := Ty_culpritref32_Game) (xs := [(r80.1.1, r80.1.2.1, r80.1.2.2), (x4, x5, ([] : List Int)), (w64 (r166 - 1), r169, [x6]), (-1, (x173.length : Int), ([] : List Int))]) (h := h196) (i := s197) (v := x204) (sz := 3) 5 rfl rfl e205) rfl rfl) rfl Try.underlying3 rfl rfl)
               refine all_cons [.own (tI .i64) 3 194 [] ([] : List Int) (nilH 3), .old w S, .box 78 b61 [Hd.val y59], .box 91 b68 [Hd.val y67], .own Ty_culpritref32_Claimant 25 63 [11, 24, 26, 38, 62] s36.1 y37, .own Ty_culpritref32_Game 37 193 [105, 107, 192] [(r80.1.1, r80.1.2.1, r80.1.2.2), (x4, x5, ([] : List Int)), (w64 (r166 - 1), r169, [x6]), (-1, (x173.length : Int), ([] : List Int))] h196, .rep (tA 16 .u8) [11, 24, 26, 38, 62, 63] r57 y59, .rep (tA 16 .u8) [11, 24, 26, 38, 62, 63] r65 y67] rfl (dst_some rfl rfl) rfl rfl rfl rfl (gd_none rfl rfl) (fun _ => ?_) ?_
               ·
                refine ob_nil rfl ?_
                exact PureOk.op (p_move (v := Hd.val h196) rfl rfl)
               refine all_cons [.own (tI .i64) 3 194 [] ([] : List Int) (nilH 3), .old w S, .box 78 b61 [Hd.val y59], .box 91 b68 [Hd.val y67], .own Ty_culpritref32_Claimant 25 63 [11, 24, 26, 38, 62] s36.1 y37, .own Ty_culpritref32_Game 37 193 [105, 107, 192] [(r80.1.1, r80.1.2.1, r80.1.2.2), (x4, x5, ([] : List Int)), (w64 (r166 - 1), r169, [x6]), (-1, (x173.length : Int), ([] : List Int))] h196, .rep (tA 16 .u8) [11, 24, 26, 38, 62, 63] r57 y59, .rep (tA 16 .u8) [11, 24, 26, 38, 62, 63] r65 y67] rfl (dst_some rfl rfl) rfl rfl rfl rfl (gd_none rfl rfl) (fun _ => ?_) ?_
               ·
                refine ob_nil rfl ?_
                exact PureOk.op (p_move (v := .int .i64 (s197)) rfl rfl)
               refine all_cons [.own (tI .i64) 3 194 [] ([] : List Int) (nilH 3), .old w S, .box 78 b61 [Hd.val y59], .box 91 b68 [Hd.val y67], .own Ty_culpritref32_Claimant 25 63 [11, 24, 26, 38, 62] s36.1 y37, .own Ty_culpritref32_Game 37 193 [105, 107, 192] [(r80.1.1, r80.1.2.1, r80.1.2.2), (x4, x5, ([] : List Int)), (w64 (r166 - 1), r169, [x6]), (-1, (x173.length : Int), ([] : List Int))] h196, .rep (tA 16 .u8) [11, 24, 26, 38, 62, 63] r57 y59, .rep (tA 16 .u8) [11, 24, 26, 38, 62, 63] r65 y67] rfl (dst_some rfl rfl) rfl rfl rfl rfl (gd_none rfl rfl) (fun _ => ?_) ?_
               ·
                refine ob_one rfl rfl (fun _ => ?_)
                refine ob_one rfl rfl (fun _ => ?_)
                refine ob_nil rfl ?_
                exact PureOk.op (p_idx_own (h := h196) (i := s197) (ty := Ty_culpritref32_Game) (xs := [(r80.1.1, r80.1.2.1, r80.1.2.2), (x4, x5, ([] : List Int)), (w64 (r166 - 1), r169, [x6]), (-1, (x173.length : Int), ([] : List Int))]) (v := x206) 5 rfl rfl Try.underlying45 Try.ti37 rfl rfl e207)
               refine all_cons [.own (tI .i64) 3 194 [] ([] : List Int) (nilH 3), .old w S, .box 78 b61 [Hd.val y59], .box 91 b68 [Hd.val y67], .own Ty_culpritref32_Claimant 25 63 [11, 24, 26, 38, 62] s36.1 y37, .own Ty_culpritref32_Game 37 193 [105, 107, 192] [(r80.1.1, r80.1.2.1, r80.1.2.2), (x4, x5, ([] : List Int)), (w64 (r166 - 1), r169, [x6]), (-1, (x173.length : Int), ([] : List Int))] h196, .rep (tA 16 .u8) [11, 24, 26, 38, 62, 63] r57 y59, .rep (tA 16 .u8) [11, 24, 26, 38, 62, 63] r65 y67] rfl (dst_some rfl rfl) rfl rfl rfl rfl (gd_none rfl rfl) (fun _ => ?_) ?_
               ·
                refine ob_one rfl rfl (fun _ => ?_)
                refine ob_nil rfl ?_
                exact PureOk.op (p_field_at (X := s197.toNat * 3) (fo := 2) (el_own (ty := Ty_culpritref32_Game) (xs := [(r80.1.1, r80.1.2.1, r80.1.2.2), (x4, x5, ([] : List Int)), (w64 (r166 - 1), r169, [x6]), (-1, (x173.length : Int), ([] : List Int))]) (h := h196) (i := s197) (v := x206) (sz := 3) 5 rfl rfl e207) rfl Try.underlying37 rfl Try.ti22 rfl rfl rfl)
               refine all_cons [.own (tI .i64) 3 194 [] ([] : List Int) (nilH 3), .old w S, .box 78 b61 [Hd.val y59], .box 91 b68 [Hd.val y67], .own Ty_culpritref32_Claimant 25 63 [11, 24, 26, 38, 62] s36.1 y37, .own Ty_culpritref32_Game 37 193 [105, 107, 192] [(r80.1.1, r80.1.2.1, r80.1.2.2), (x4, x5, ([] : List Int)), (w64 (r166 - 1), r169, [x6]), (-1, (x173.length : Int), ([] : List Int))] h196, .rep (tA 16 .u8) [11, 24, 26, 38, 62, 63] r57 y59, .rep (tA 16 .u8) [11, 24, 26, 38, 62, 63] r65 y67] rfl (dst_some rfl rfl) rfl rfl rfl rfl (gd_none rfl rfl) (fun _ => ?_) ?_
               ·
                refine ob_one rfl rfl (fun _ => ?_)
                refine ob_nil rfl ?_
                exact ok_load_sl_at (X := s197.toNat * 3 + 2) (el_pth (t := Ty_culpritref32_Game) (u := (Ty.slice (tI .i64))) (v := x206) (v' := x206.2.2) (fo := 2) (.snd (.snd (.here))) (el_own (ty := Ty_culpritref32_Game) (xs := [(r80.1.1, r80.1.2.1, r80.1.2.2), (x4, x5, ([] : List Int)), (w64 (r166 - 1), r169, [x6]), (-1, (x173.length : Int), ([] : List Int))]) (h := h196) (i := s197) (v := x206) (sz := 3) 5 rfl rfl e207) rfl rfl) rfl Try.underlying22 rfl rfl
               refine all_cons [.own (tI .i64) 3 194 [] ([] : List Int) (nilH 3), .old w S, .box 78 b61 [Hd.val y59], .box 91 b68 [Hd.val y67], .own Ty_culpritref32_Claimant 25 63 [11, 24, 26, 38, 62] s36.1 y37, .own Ty_culpritref32_Game 37 193 [105, 107, 192] [(r80.1.1, r80.1.2.1, r80.1.2.2), (x4, x5, ([] : List Int)), (w64 (r166 - 1), r169, [x6]), (-1, (x173.length : Int), ([] : List Int))] h196, .rep (tA 16 .u8) [11, 24, 26, 38, 62, 63] r57 y59, .rep (tA 16 .u8) [11, 24, 26, 38, 62, 63] r65 y67] rfl (dst_some rfl rfl) rfl rfl rfl rfl (gd_none rfl rfl) (fun _ => ?_) ?_
               ·
                refine ob_one rfl rfl (fun _ => ?_)
                refine ob_one rfl rfl (fun _ => ?_)
                refine ob_one rfl rfl (fun h208 => ?_)
                refine ob_nil rfl ?_
                exact ok_known (h208) (p_build_struct (vals := [(0, [.int .i64 (x202.1)]), (1, [.int .i64 (x204.2.1)]), (2, [Hd.val h208])]) (places := [(0, 1), (1, 1), (2, 1)]) (cells := [.int .i64 (x202.1), .int .i64 (x204.2.1), Hd.val h208]) rfl Try.underlying33 Try.ti33 (⟨rfl, ⟨_, _, Try.ti3⟩, ⟨rfl, ⟨_, _, Try.ti3⟩, ⟨rfl, ⟨_, _, Try.ti22⟩, trivial⟩⟩⟩) rfl rfl) rfl [0] rfl
               refine all_cons [.own (tI .i64) 3 194 [] ([] : List Int) (nilH 3), .old w S, .box 78 b61 [Hd.val y59], .box 91 b68 [Hd.val y67], .own Ty_culpritref32_Claimant 25 63 [11, 24, 26, 38, 62] s36.1 y37, .own Ty_culpritref32_Game 37 193 [105, 107, 192] [(r80.1.1, r80.1.2.1, r80.1.2.2), (x4, x5, ([] : List Int)), (w64 (r166 - 1), r169, [x6]), (-1, (x173.length : Int), ([] : List Int))] h196, .rep (tA 16 .u8) [11, 24, 26, 38, 62, 63] r57 y59, .rep (tA 16 .u8) [11, 24, 26, 38, 62, 63] r65 y67] rfl (dst_some rfl rfl) rfl rfl rfl rfl (gd_none rfl rfl) (fun _ => ?_) ?_
               ·
                refine ob_nil rfl ?_
                exact PureOk.op (p_loadN_box (cs' := [Hd.val y59]) 2 rfl rfl Try.underlying30 rfl Try.ti30 rfl rfl rfl)
               refine all_cons [.own (tI .i64) 3 194 [] ([] : List Int) (nilH 3), .old w S, .box 78 b61 [Hd.val y59], .box 91 b68 [Hd.val y67], .own Ty_culpritref32_Claimant 25 63 [11, 24, 26, 38, 62] s36.1 y37, .own Ty_culpritref32_Game 37 193 [105, 107, 192] [(r80.1.1, r80.1.2.1, r80.1.2.2), (x4, x5, ([] : List Int)), (w64 (r166 - 1), r169, [x6]), (-1, (x173.length : Int), ([] : List Int))] h196, .rep (tA 16 .u8) [11, 24, 26, 38, 62, 63] r57 y59, .rep (tA 16 .u8) [11, 24, 26, 38, 62, 63] r65 y67] rfl (dst_some rfl rfl) rfl rfl rfl rfl (gd_none rfl rfl) (fun _ => ?_) ?_
               ·
                refine ob_nil rfl ?_
                exact PureOk.op (p_loadN_box (cs' := [Hd.val y67]) 3 rfl rfl Try.underlying30 rfl Try.ti30 rfl rfl rfl)
               refine all_cons [.own (tI .i64) 3 194 [] ([] : List Int) (nilH 3), .old w S, .box 78 b61 [Hd.val y59], .box 91 b68 [Hd.val y67], .own Ty_culpritref32_Claimant 25 63 [11, 24, 26, 38, 62] s36.1 y37, .own Ty_culpritref32_Game 37 193 [105, 107, 192] [(r80.1.1, r80.1.2.1, r80.1.2.2), (x4, x5, ([] : List Int)), (w64 (r166 - 1), r169, [x6]), (-1, (x173.length : Int), ([] : List Int))] h196, .rep (tA 16 .u8) [11, 24, 26, 38, 62, 63] r57 y59, .rep (tA 16 .u8) [11, 24, 26, 38, 62, 63] r65 y67] rfl (dst_some rfl rfl) rfl rfl rfl rfl (gd_none rfl rfl) (fun _ => ?_) ?_
               ·
                refine ob_one rfl rfl (fun z213 => ?_)
                refine ob_one rfl rfl (fun _ => ?_)
                refine ob_one rfl rfl (fun _ => ?_)
                refine ob_nil rfl ?_
                exact ok_call (N := 195) (Φ := fun y211 => [.own (tI .i64) 3 195 [] r209.1.2.2 y211]) (dispute_Halve_ok e210) rfl rfl rfl Try.func15 rfl Try.nm15 [193, 105, 107, 192, 11, 24, 26, 38, 62, 63] ⟨.inl ⟨0, _, rfl, cov_rep rfl⟩, .inl ⟨7, _, rfl, cov_rep rfl⟩, .inl ⟨8, _, rfl, cov_rep rfl⟩, trivial⟩ (fun _ => rfl) (fun _ => rfl) rfl
               refine all_cons [.own (tI .i64) 3 194 [] ([] : List Int) (nilH 3), .old w S, .box 78 b61 [Hd.val y59], .box 91 b68 [Hd.val y67], .own Ty_culpritref32_Claimant 25 63 [11, 24, 26, 38, 62] s36.1 y37, .own Ty_culpritref32_Game 37 193 [105, 107, 192] [(r80.1.1, r80.1.2.1, r80.1.2.2), (x4, x5, ([] : List Int)), (w64 (r166 - 1), r169, [x6]), (-1, (x173.length : Int), ([] : List Int))] h196, .rep (tA 16 .u8) [11, 24, 26, 38, 62, 63] r57 y59, .rep (tA 16 .u8) [11, 24, 26, 38, 62, 63] r65 y67] rfl (dst_some rfl rfl) rfl rfl rfl rfl (gd_none rfl rfl) (fun _ => ?_) ?_
               ·
                refine ob_one rfl rfl (fun y211 => ?_)
                refine ob_nil rfl ?_
                exact ok_known (y211) (p_move (v := .tuple #[.agg ([.int .i64 (r209.1.1), .int .i64 (r209.1.2.1), Hd.val y211]).toArray, .int .i64 (r209.2)]) rfl rfl) rfl [0] rfl
               refine all_cons [.own (tI .i64) 3 194 [] ([] : List Int) (nilH 3), .old w S, .box 78 b61 [Hd.val y59], .box 91 b68 [Hd.val y67], .own Ty_culpritref32_Claimant 25 63 [11, 24, 26, 38, 62] s36.1 y37, .own Ty_culpritref32_Game 37 193 [105, 107, 192] [(r80.1.1, r80.1.2.1, r80.1.2.2), (x4, x5, ([] : List Int)), (w64 (r166 - 1), r169, [x6]), (-1, (x173.length : Int), ([] : List Int))] h196, .rep (tA 16 .u8) [11, 24, 26, 38, 62, 63] r57 y59, .rep (tA 16 .u8) [11, 24, 26, 38, 62, 63] r65 y67] rfl (dst_some rfl rfl) rfl rfl rfl rfl (gd_none rfl rfl) (fun _ => ?_) ?_
               ·
                refine ob_one rfl rfl (fun z214 => ?_)
                refine ob_nil rfl ?_
                exact ok_known (z214) (p_extract (v := .agg ([.int .i64 (r209.1.1), .int .i64 (r209.1.2.1), Hd.val z214]).toArray) rfl rfl rfl) rfl [0] rfl
               refine all_cons [.own (tI .i64) 3 194 [] ([] : List Int) (nilH 3), .old w S, .box 78 b61 [Hd.val y59], .box 91 b68 [Hd.val y67], .own Ty_culpritref32_Claimant 25 63 [11, 24, 26, 38, 62] s36.1 y37, .own Ty_culpritref32_Game 37 193 [105, 107, 192] [(r80.1.1, r80.1.2.1, r80.1.2.2), (x4, x5, ([] : List Int)), (w64 (r166 - 1), r169, [x6]), (-1, (x173.length : Int), ([] : List Int))] h196, .rep (tA 16 .u8) [11, 24, 26, 38, 62, 63] r57 y59, .rep (tA 16 .u8) [11, 24, 26, 38, 62, 63] r65 y67] rfl (dst_some rfl rfl) rfl rfl rfl rfl (gd_none rfl rfl) (fun _ => ?_) ?_
               ·
                refine ob_one rfl rfl (fun z214 => ?_)
                refine ob_nil rfl ?_
                exact PureOk.op (p_extract (v := .int .i64 (r209.2)) rfl rfl rfl)
               refine all_cons [.own (tI .i64) 3 194 [] ([] : List Int) (nilH 3), .old w S, .box 78 b61 [Hd.val y59], .box 91 b68 [Hd.val y67], .own Ty_culpritref32_Claimant 25 63 [11, 24, 26, 38, 62] s36.1 y37, .own Ty_culpritref32_Game 37 193 [105, 107, 192] [(r80.1.1, r80.1.2.1, r80.1.2.2), (x4, x5, ([] : List Int)), (w64 (r166 - 1), r169, [x6]), (-1, (x173.length : Int), ([] : List Int))] h196, .rep (tA 16 .u8) [11, 24, 26, 38, 62, 63] r57 y59, .rep (tA 16 .u8) [11, 24, 26, 38, 62, 63] r65 y67] rfl (dst_some rfl rfl) rfl rfl rfl rfl (gd_none rfl rfl) (fun _ => ?_) ?_
               ·
                refine ob_nil rfl ?_
                exact ok_alloc (N := 207) (cs := [.int .i64 (0), .int .i64 (0), Hd.val (nilH 3)]) rfl Try.ti33 rfl rfl
               refine all_cons [.own (tI .i64) 3 194 [] ([] : List Int) (nilH 3), .old w S, .box 78 b61 [Hd.val y59], .box 91 b68 [Hd.val y67], .own Ty_culpritref32_Claimant 25 63 [11, 24, 26, 38, 62] s36.1 y37, .own Ty_culpritref32_Game 37 193 [105, 107, 192] [(r80.1.1, r80.1.2.1, r80.1.2.2), (x4, x5, ([] : List Int)), (w64 (r166 - 1), r169, [x6]), (-1, (x173.length : Int), ([] : List Int))] h196, .rep (tA 16 .u8) [11, 24, 26, 38, 62, 63] r57 y59, .rep (tA 16 .u8) [11, 24, 26, 38, 62, 63] r65 y67] rfl (dst_none rfl rfl (fun _ => rfl)) rfl rfl rfl rfl (gd_none rfl rfl) (fun _ => ?_) ?_
               ·
                refine ob_one rfl rfl (fun b212 => ?_)
                refine ob_one rfl rfl (fun z215 => ?_)
                exact ob_carry (fun _ => (z215, b212)) (ok_store_box (v := .agg ([.int .i64 (r209.1.1), .int .i64 (r209.1.2.1), Hd.val z215]).toArray) (vs := [.int .i64 (r209.1.1), .int .i64 (r209.1.2.1), Hd.val z215]) (cs' := [.int .i64 (r209.1.1), .int .i64 (r209.1.2.1), Hd.val z215]) 1 rfl rfl Try.ti33 rfl rfl rfl rfl rfl rfl rfl) (fun _ => rfl) [0] _ rfl (fun _ => rfl) (fun _ => tells_cons rfl (tells_nil))
               exact all_nil
              ·
               refine fin_base [.own (tI .i64) 3 194 [] ([] : List Int) (nilH 3), .old w S, .box 78 b61 [Hd.val y59], .box 91 b68 [Hd.val y67], .own Ty_culpritref32_Claimant 25 63 [11, 24, 26, 38, 62] s36.1 y37, .own Ty_culpritref32_Game 37 193 [105, 107, 192] [(r80.1.1, r80.1.2.1, r80.1.2.2), (x4, x5, ([] : List Int)), (w64 (r166 - 1), r169, [x6]), (-1, (x173.length : Int), ([] : List Int))] h196, .rep (tA 16 .u8) [11, 24, 26, 38, 62, 63] r57 y59, .rep (tA 16 .u8) [11, 24, 26, 38, 62, 63] r65 y67] rfl ?_
               refine fin_one rfl rfl (fun _ => ?_)
               refine fin_one rfl rfl (fun z216 => ?_)
               refine fin_nil ?_
               refine s_pure (p_assign (v := .int .i64 (r209.2)) rfl rfl) rfl rfl rfl ?_
               refine s_nil ?_
               refine x_then ?_
               refine s_seq ?_
               obtain ⟨x241, e242, e200⟩ := bind_some e200
               obtain ⟨x244, e245, e200⟩ := bind_some e200
               obtain ⟨x247, e248, e200⟩ := bind_some e200
               obtain ⟨r250, e251, e200⟩ := bind_some e200
               refine s_draw Try.mixed [⟨true, 187, [], Unit, fun _ => Hd.val h196, fun _ => [], [], [], []⟩, ⟨true, 188, [], Unit, fun _ => .int .i64 (s197), fun _ => [], [], [], []⟩, ⟨true, 189, [0, 1], Unit, fun _ => .pointer (some (pat h196 (s197.toNat * 3))), fun _ => [], [], [], []⟩, ⟨true, 190, [2], Ty.Refs Ty_culpritref32_Game, fun (y243 : Ty.Refs Ty_culpritref32_Game) => .agg ([.int .i64 (x241.1), .int .i64 (x241.2.1), Hd.val y243.2.2]).toArray, fun y243 => [.rep (tI .i64) [193, 105, 107, 192] x241.2.2 y243.2.2], [], [], []⟩, ⟨true, 191, [], Unit, fun _ => Hd.val y37, fun _ => [], [], [], []⟩, ⟨true, 192, [], Unit, fun _ => .int .i64 (s36.2), fun _ => [], [], [], []⟩, ⟨true, 193, [4, 5], Unit, fun _ => .pointer (some (pat y37 (s36.2.toNat * 1))), fun _ => [], [], [], []⟩, ⟨true, 194, [6], Ty.Refs Ty_culpritref32_Claimant, fun (y246 : Ty.Refs Ty_culpritref32_Claimant) => .agg ([Hd.val y246]).toArray, fun y246 => [.rep (tA 16 .u8) [63, 11, 24, 26, 38, 62] x244 y246], [], [], []⟩, ⟨true, 195, [], Unit, fun _ => Hd.val y37, fun _ => [], [], [], []⟩, ⟨true, 196, [], Unit, fun _ => .int .i64 (s45), fun _ => [], [], [], []⟩, ⟨true, 197, [8, 9], Unit, fun _ => .pointer (some (pat y37 (s45.toNat * 1))), fun _ => [], [], [], []⟩, ⟨true, 198, [10], Ty.Refs Ty_culpritref32_Claimant, fun (y249 : Ty.Refs Ty_culpritref32_Claimant) => .agg ([Hd.val y249]).toArray, fun y249 => [.rep (tA 16 .u8) [63, 11, 24, 26, 38, 62] x247 y249], [], [], []⟩, ⟨true, 199, [3, 7, 11], Hd, fun (y252 : Hd) => .tuple #[.agg ([.int .i64 (r250.1.1), .int .i64 (r250.1.2.1), Hd.val y252]).toArray, .int .i64 (r250.2)], fun y252 => [.own (tI .i64) 3 208 [] r250.1.2.2 y252], [], [], []⟩, ⟨true, 186, [12], Hd, fun (z254 : Hd) => .tuple #[.agg ([.int .i64 (r250.1.1), .int .i64 (r250.1.2.1), Hd.val z254]).toArray, .int .i64 (r250.2)], fun z254 => [.own (tI .i64) 3 208 [] r250.1.2.2 z254], [], [], []⟩, ⟨true, 200, [13], Hd, fun (z255 : Hd) => .agg ([.int .i64 (r250.1.1), .int .i64 (r250.1.2.1), Hd.val z255]).toArray, fun z255 => [.own (tI .i64) 3 208 [] r250.1.2.2 z255], [], [], []⟩, ⟨true, 201, [13], Unit, fun _ => .int .i64 (r250.2), fun _ => [], [], [], []⟩, ⟨true, 35, [], Nat, fun (b253 : Nat) => .pointer (some ⟨b253, 0, none⟩), fun b253 => [.box 220 b253 [.int .i64 (0), .int .i64 (0), Hd.val (nilH 3)]], [], [], []⟩, ⟨true, 246, [16, 14], Hd × Nat, fun (z256 : Hd × Nat) => undef, fun z256 => [.box 220 z256.2 [.int .i64 (r250.1.1), .int .i64 (r250.1.2.1), Hd.val z256.1], .own (tI .i64) 3 208 [] r250.1.2.2 z256.1], [220], [16], [(35, fun z256 => .pointer (some ⟨z256.2, 0, none⟩))]⟩] [[], [], [0, 1], [0, 1, 2], [], [], [4, 5], [4, 5, 6], [], [], [8, 9], [8, 9, 10], [0, 1, 2, 3, 4, 5, 6, 7, 8, 9, 10, 11], [0, 1, 2, 3, 4, 5, 6, 7, 8, 9, 10, 11, 12], [0, 1, 2, 3, 4, 5, 6, 7, 8, 9, 10, 11, 12, 13], [0, 1, 2, 3, 4, 5, 6, 7, 8, 9, 10, 11, 12, 13], [], [0, 1, 2, 3, 4, 5, 6, 7, 8, 9, 10, 11, 12, 13, 14, 16], [0, 1, 2, 3, 4, 5, 6, 7, 8, 9, 10, 11, 12, 13, 14, 15, 16, 17]] rfl rfl rfl rfl rfl ⟨.inl rfl, .inl rfl, .inl rfl, .inl rfl, .inl rfl, .inl rfl, .inl rfl, .inl rfl, .inl rfl, .inl rfl, .inl rfl, .inl rfl, .inl rfl, .inl rfl, .inl rfl, .inl rfl, .inl rfl, .inr ⟨.inr fun _ => rfl, .inr fun _ => rfl, .inr fun _ => rfl, .inr fun _ => rfl, .inr fun _ => rfl, .inr fun _ => rfl, .inr fun _ => rfl, .inr fun _ => rfl, .inr fun _ => rfl, .inr fun _ => rfl, .inr fun _ => rfl, .inr fun _ => rfl, .inr fun _ => rfl, .inr fun _ => rfl, .inr fun _ => rfl, .inr fun _ => rfl, .inl rfl, .inl rfl, trivial⟩, trivial⟩ ?_ [15, 17] rfl rfl (fun us => ?_)
               ·
                refine all_cons [.box 207 z216.2 [.int .i64 (r209.1.1), .int .i64 (r209.1.2.1), Hd.val z216.1], .own (tI .i64) 3 195 [] r209.1.2.2 z216.1, .own (tI .i64) 3 194 [] ([] : List Int) (nilH 3), .old w S, .box 78 b61 [Hd.val y59], .box 91 b68 [Hd.val y67], .own Ty_culpritref32_Claimant 25 63 [11, 24, 26, 38, 62] s36.1 y37, .own Ty_culpritref32_Game 37 193 [105, 107, 192] [(r80.1.1, r80.1.2.1, r80.1.2.2), (x4, x5, ([] : List Int)), (w64 (r166 - 1), r169, [x6]), (-1, (x173.length : Int), ([] : List Int))] h196, .rep (tA 16 .u8) [11, 24, 26, 38, 62, 63] r57 y59, .rep (tA 16 .u8) [11, 24, 26, 38, 62, 63] r65 y67] rfl (dst_some rfl rfl) rfl rfl rfl rfl (gd_none rfl rfl) (fun _ => ?_) ?_
                ·
                 refine ob_nil rfl ?_
                 exact PureOk.op (p_move (v := Hd.val h196) rfl rfl)
                refine all_cons [.box 207 z216.2 [.int .i64 (r209.1.1), .int .i64 (r209.1.2.1), Hd.val z216.1], .own (tI .i64) 3 195 [] r209.1.2.2 z216.1, .own (tI .i64) 3 194 [] ([] : List Int) (nilH 3), .old w S, .box 78 b61 [Hd.val y59], .box 91 b68 [Hd.val y67], .own Ty_culpritref32_Claimant 25 63 [11, 24, 26, 38, 62] s36.1 y37, .own Ty_culpritref32_Game 37 193 [105, 107, 192] [(r80.1.1, r80.1.2.1, r80.1.2.2), (x4, x5, ([] : List Int)), (w64 (r166 - 1), r169, [x6]), (-1, (x173.length : Int), ([] : List Int))] h196, .rep (tA 16 .u8) [11, 24, 26, 38, 62, 63] r57 y59, .rep (tA 16 .u8) [11, 24, 26, 38, 62, 63] r65 y67] rfl (dst_some rfl rfl) rfl rfl rfl rfl (gd_none rfl rfl) (fun _ => ?_) ?_
                ·
                 refine ob_nil rfl ?_
                 exact PureOk.op (p_move (v := .int .i64 (s197)) rfl rfl)
                refine all_cons [.box 207 z216.2 [.int .i64 (r209.1.1), .int .i64 (r209.1.2.1), Hd.val z216.1], .own (tI .i64) 3 195 [] r209.1.2.2 z216.1, .own (tI .i64) 3 194 [] ([] : List Int) (nilH 3), .old w S, .box 78 b61 [Hd.val y59], .box 91 b68 [Hd.val y67], .own Ty_culpritref32_Claimant 25 63 [11, 24, 26, 38, 62] s36.1 y37, .own Ty_culpritref32_Game 37 193 [105, 107, 192] [(r80.1.1, r80.1.2.1, r80.1.2.2), (x4, x5, ([] : List Int)), (w64 (r166 - 1), r169, [x6]), (-1, (x173.length : Int), ([] : List Int))] h196, .rep (tA 16 .u8) [11, 24, 26, 38, 62, 63] r57 y59, .rep (tA 16 .u8) [11, 24, 26, 38, 62, 63] r65 y67] rfl (dst_some rfl rfl) rfl rfl rfl rfl (gd_none rfl rfl) (fun _ => ?_) ?_
                ·
                 refine ob_one rfl rfl (fun _ => ?_)
                 refine ob_one rfl rfl (fun _ => ?_)
                 refine ob_nil rfl ?_
                 exact PureOk.op (p_idx_own (h := h196) (i := s197) (ty := Ty_culpritref32_Game) (xs := [(r80.1.1, r80.1.2.1, r80.1.2.2), (x4, x5, ([] : List Int)), (w64 (r166 - 1), r169, [x6]), (-1, (x173.length : Int), ([] : List Int))]) (v := x241) 7 rfl rfl Try.underlying45 Try.ti37 rfl rfl e242)
                refine all_cons [.box 207 z216.2 [.int .i64 (r209.1.1), .int .i64 (r209.1.2.1), Hd.val z216.1], .own (tI .i64) 3 195 [] r209.1.2.2 z216.1, .own (tI .i64) 3 194 [] ([] : List Int) (nilH 3), .old w S, .box 78 b61 [Hd.val y59], .box 91 b68 [Hd.val y67], .own Ty_culpritref32_Claimant 25 63 [11, 24, 26, 38, 62] s36.1 y37, .own Ty_culpritref32_Game 37 193 [105, 107, 192] [(r80.1.1, r80.1.2.1, r80.1.2.2), (x4, x5, ([] : List Int)), (w64 (r166 - 1), r169, [x6]), (-1, (x173.length : Int), ([] : List Int))] h196, .rep (tA 16 .u8) [11, 24, 26, 38, 62, 63] r57 y59, .rep (tA 16 .u8) [11, 24, 26, 38, 62, 63] r65 y67] rfl (dst_some rfl rfl) rfl rfl rfl rfl (gd_none rfl rfl) (fun _ => ?_) ?_
                ·
                 refine ob_one rfl rfl (fun _ => ?_)
                 refine ob_nil rfl ?_
                 exact ok_load_agg_at (X := s197.toNat * 3) (ty := Ty_culpritref32_Game) (v := x241) (el_own (ty := Ty_culpritref32_Game) (xs := [(r80.1.1, r80.1.2.1, r80.1.2.2), (x4, x5, ([] : List Int)), (w64 (r166 - 1), r169, [x6]), (-1, (x173.length : Int), ([] : List Int))]) (h := h196) (i := s197) (v := x241) (sz := 3) 7 rfl rfl e242) rfl Try.underlying37 rfl Try.ti37 rfl rfl
                refine all_cons [.box 207 z216.2 [.int .i64 (r209.1.1), .int .i64 (r209.1.2.1), Hd.val z216.1], .own (tI .i64) 3 195 [] r209.1.2.2 z216.1, .own (tI .i64) 3 194 [] ([] : List Int) (nilH 3), .old w S, .box 78 b61 [Hd.val y59], .box 91 b68 [Hd.val y67], .own Ty_culpritref32_Claimant 25 63 [11, 24, 26, 38, 62] s36.1 y37, .own Ty_culpritref32_Game 37 193 [105, 107, 192] [(r80.1.1, r80.1.2.1, r80.1.2.2), (x4, x5, ([] : List Int)), (w64 (r166 - 1), r169, [x6]), (-1, (x173.length : Int), ([] : List Int))] h196, .rep (tA 16 .u8) [11, 24, 26, 38, 62, 63] r57 y59, .rep (tA 16 .u8) [11, 24, 26, 38, 62, 63] r65 y67] rfl (dst_some rfl rfl) rfl rfl rfl rfl (gd_none rfl rfl) (fun _ => ?_) ?_
                ·
                 refine ob_nil rfl ?_
                 exact PureOk.op (p_move (v := Hd.val y37) rfl rfl)
                refine all_cons [.box 207 z216.2 [.int .i64 (r209.1.1), .int .i64 (r209.1.2.1), Hd.val z216.1], .own (tI .i64) 3 195 [] r209.1.2.2 z216.1, .own (tI .i64) 3 194 [] ([] : List Int) (nilH 3), .old w S, .box 78 b61 [Hd.val y59], .box 91 b68 [Hd.val y67], .own Ty_culpritref32_Claimant 25 63 [11, 24, 26, 38, 62] s36.1 y37, .own Ty_culpritref32_Game 37 193 [105, 107, 192] [(r80.1.1, r80.1.2.1, r80.1.2.2), (x4, x5, ([] : List Int)), (w64 (r166 - 1), r169, [x6]), (-1, (x173.length : Int), ([] : List Int))] h196, .rep (tA 16 .u8) [11, 24, 26, 38, 62, 63] r57 y59, .rep (tA 16 .u8) [11, 24, 26, 38, 62, 63] r65 y67] rfl (dst_some rfl rfl) rfl rfl rfl rfl (gd_none rfl rfl) (fun _ => ?_) ?_
                ·
                 refine ob_nil rfl ?_
                 exact PureOk.op (p_move (v := .int .i64 (s36.2)) rfl rfl)
                refine all_cons [.box 207 z216.2 [.int .i64 (r209.1.1), .int .i64 (r209.1.2.1), Hd.val z216.1], .own (tI .i64) 3 195 [] r209.1.2.2 z216.1, .own (tI .i64) 3 194 [] ([] : List Int) (nilH 3), .old w S, .box 78 b61 [Hd.val y59], .box 91 b68 [Hd.val y67], .own Ty_culpritref32_Claimant 25 63 [11, 24, 26, 38, 62] s36.1 y37, .own Ty_culpritref32_Game 37 193 [105, 107, 192] [(r80.1.1, r80.1.2.1, r80.1.2.2), (x4, x5, ([] : List Int)), (w64 (r166 - 1), r169, [x6]), (-1, (x173.length : Int), ([] : List Int))] h196, .rep (tA 16 .u8) [11, 24, 26, 38, 62, 63] r57 y59, .rep (tA 16 .u8) [11, 24, 26, 38, 62, 63] r65 y67] rfl (dst_some rfl rfl) rfl rfl rfl rfl (gd_none rfl rfl) (fun _ => ?_) ?_
                ·
                 refine ob_one rfl rfl (fun _ => ?_)
                 refine ob_one rfl rfl (fun _ => ?_)
                 refine ob_nil rfl ?_
                 exact PureOk.op (p_idx_own (h := y37) (i := s36.2) (ty := Ty_culpritref32_Claimant) (xs := s36.1) (v := x244) 6 rfl rfl Try.underlying29 Try.ti25 rfl rfl e245)
                refine all_cons [.box 207 z216.2 [.int .i64 (r209.1.1), .int .i64 (r209.1.2.1), Hd.val z216.1], .own (tI .i64) 3 195 [] r209.1.2.2 z216.1, .own (tI .i64) 3 194 [] ([] : List Int) (nilH 3), .old w S, .box 78 b61 [Hd.val y59], .box 91 b68 [Hd.val y67], .own Ty_culpritref32_Claimant 25 63 [11, 24, 26, 38, 62] s36.1 y37, .own Ty_culpritref32_Game 37 193 [105, 107, 192] [(r80.1.1, r80.1.2.1, r80.1.2.2), (x4, x5, ([] : List Int)), (w64 (r166 - 1), r169, [x6]), (-1, (x173.length : Int), ([] : List Int))] h196, .rep (tA 16 .u8) [11, 24, 26, 38, 62, 63] r57 y59, .rep (tA 16 .u8) [11, 24, 26, 38, 62, 63] r65 y67] rfl (dst_some rfl rfl) rfl rfl rfl rfl (gd_none rfl rfl) (fun _ => ?_) ?_
                ·
                 refine ob_one rfl rfl (fun _ => ?_)
                 refine ob_nil rfl ?_
                 exact ok_load_agg_at (X := s36.2.toNat * 1) (ty := Ty_culpritref32_Claimant) (v := x244) (el_own (ty := Ty_culpritref32_Claimant) (xs := s36.1) (h := y37) (i := s36.2) (v := x244) (sz := 1) 6 rfl rfl e245) rfl Try.underlying25 rfl Try.ti25 rfl rfl
                refine all_cons [.box 207 z216.2 [.int .i64 (r209.1.1), .int .i64 (r209.1.2.1), Hd.val z216.1], .own (tI .i64) 3 195 [] r209.1.2.2 z216.1, .own (tI .i64) 3 194 [] ([] : List Int) (nilH 3), .old w S, .box 78 b61 [Hd.val y59], .box 91 b68 [Hd.val y67], .own Ty_culpritref32_Claimant 25 63 [11, 24, 26, 38, 62] s36.1 y37, .own Ty_culpritref32_Game 37 193 [105, 107, 192] [(r80.1.1, r80.1.2.1, r80.1.2.2), (x4, x5, ([] : List Int)), (w64 (r166 - 1), r169, [x6]), (-1, (x173.length : Int), ([] : List Int))] h196, .rep (tA 16 .u8) [11, 24, 26, 38, 62, 63] r57 y59, .rep (tA 16 .u8) [11, 24, 26, 38, 62, 63] r65 y67] rfl (dst_some rfl rfl) rfl rfl rfl rfl (gd_none rfl rfl) (fun _ => ?_) ?_
                ·
                 refine ob_nil rfl ?_
                 exact PureOk.op (p_move (v := Hd.val y37) rfl rfl)
                refine all_cons [.box 207 z216.2 [.int .i64 (r209.1.1), .int .i64 (r209.1.2.1), Hd.val z216.1], .own (tI .i64) 3 195 [] r209.1.2.2 z216.1, .own (tI .i64) 3 194 [] ([] : List Int) (nilH 3), .old w S, .box 78 b61 [Hd.val y59], .box 91 b68 [Hd.val y67], .own Ty_culpritref32_Claimant 25 63 [11, 24, 26, 38, 62] s36.1 y37, .own Ty_culpritref32_Game 37 193 [105, 107, 192] [(r80.1.1, r80.1.2.1, r80.1.2.2), (x4, x5, ([] : List Int)), (w64 (r166 - 1), r169, [x6]), (-1, (x173.length : Int), ([] : List Int))] h196, .rep (tA 16 .u8) [11, 24, 26, 38, 62, 63] r57 y59, .rep (tA 16 .u8) [11, 24, 26, 38, 62, 63] r65 y67] rfl (dst_some rfl rfl) rfl rfl rfl rfl (gd_none rfl rfl) (fun _ => ?_) ?_
                ·
                 refine ob_nil rfl ?_
                 exact PureOk.op (p_move (v := .int .i64 (s45)) rfl rfl)
                refine all_cons [.box 207 z216.2 [.int .i64 (r209.1.1), .int .i64 (r209.1.2.1), Hd.val z216.1], .own (tI .i64) 3 195 [] r209.1.2.2 z216.1, .own (tI .i64) 3 194 [] ([] : List Int) (nilH 3), .old w S, .box 78 b61 [Hd.val y59], .box 91 b68 [Hd.val y67], .own Ty_culpritref32_Claimant 25 63 [11, 24, 26, 38, 62] s36.1 y37, .own Ty_culpritref32_Game 37 193 [105, 107, 192] [(r80.1.1, r80.1.2.1, r80.1.2.2), (x4, x5, ([] : List Int)), (w64 (r166 - 1), r169, [x6]), (-1, (x173.length : Int), ([] : List Int))] h196, .rep (tA 16 .u8) [11, 24, 26, 38, 62, 63] r57 y59, .rep (tA 16 .u8) [11, 24, 26, 38, 62, 63] r65 y67] rfl (dst_some rfl rfl) rfl rfl rfl rfl (gd_none rfl rfl) (fun _ => ?_) ?_
                ·
                 refine ob_one rfl rfl (fun _ => ?_)
                 refine ob_one rfl rfl (fun _ => ?_)
                 refine ob_nil rfl ?_
                 exact PureOk.op (p_idx_own (h := y37) (i := s45) (ty := Ty_culpritref32_Claimant) (xs := s36.1) (v := x247) 6 rfl rfl Try.underlying29 Try.ti25 rfl rfl e248)
                refine all_cons [.box 207 z216.2 [.int .i64 (r209.1.1), .int .i64 (r209.1.2.1), Hd.val z216.1], .own (tI .i64) 3 195 [] r209.1.2.2 z216.1, .own (tI .i64) 3 194 [] ([] : List Int) (nilH 3), .old w S, .box 78 b61 [Hd.val y59], .box 91 b68 [Hd.val y67], .own Ty_culpritref32_Claimant 25 63 [11, 24, 26, 38, 62] s36.1 y37, .own Ty_culpritref32_Game 37 193 [105, 107, 192] [(r80.1.1, r80.1.2.1, r80.1.2.2), (x4, x5, ([] : List Int)), (w64 (r166 - 1), r169, [x6]), (-1, (x173.length : Int), ([] : List Int))] h196, .rep (tA 16 .u8) [11, 24, 26, 38, 62, 63] r57 y59, .rep (tA 16 .u8) [11, 24, 26, 38, 62, 63] r65 y67] rfl (dst_some rfl rfl) rfl rfl rfl rfl (gd_none rfl rfl) (fun _ => ?_) ?_
                ·
                 refine ob_one rfl rfl (fun _ => ?_)
                 refine ob_nil rfl ?_
                 exact ok_load_agg_at (X := s45.toNat * 1) (ty := Ty_culpritref32_Claimant) (v := x247) (el_own (ty := Ty_culpritref32_Claimant) (xs := s36.1) (h := y37) (i := s45) (v := x247) (sz := 1) 6 rfl rfl e248) rfl Try.underlying25 rfl Try.ti25 rfl rfl
                refine all_cons [.box 207 z216.2 [.int .i64 (r209.1.1), .int .i64 (r209.1.2.1), Hd.val z216.1], .own (tI .i64) 3 195 [] r209.1.2.2 z216.1, .own (tI .i64) 3 194 [] ([] : List Int) (nilH 3), .old w S, .box 78 b61 [Hd.val y59], .box 91 b68 [Hd.val y67], .own Ty_culpritref32_Claimant 25 63 [11, 24, 26, 38, 62] s36.1 y37, .own Ty_culpritref32_Game 37 193 [105, 107, 192] [(r80.1.1, r80.1.2.1, r80.1.2.2), (x4, x5, ([] : List Int)), (w64 (r166 - 1), r169, [x6]), (-1, (x173.length : Int), ([] : List Int))] h196, .rep (tA 16 .u8) [11, 24, 26, 38, 62, 63] r57 y59, .rep (tA 16 .u8) [11, 24, 26, 38, 62, 63] r65 y67] rfl (dst_some rfl rfl) rfl rfl rfl rfl (gd_none rfl rfl) (fun _ => ?_) ?_
                ·
                 refine ob_one rfl rfl (fun y243 => ?_)
                 refine ob_one rfl rfl (fun y246 => ?_)
                 refine ob_one rfl rfl (fun y249 => ?_)
                 refine ob_nil rfl ?_
                 exact ok_call (N := 208) (Φ := fun y252 => [.own (tI .i64) 3 208 [] r250.1.2.2 y252]) (culpritref32_Halve_ok e251) rfl rfl rfl Try.func16 rfl Try.nm16 [193, 105, 107, 192, 63, 11, 24, 26, 38, 62] ⟨.inl ⟨2, _, rfl, cov_rep rfl⟩, .inl ⟨1, _, rfl, cov_rep rfl⟩, .inl ⟨0, _, rfl, cov_rep rfl⟩, trivial⟩ (fun _ => rfl) (fun _ => rfl) rfl
                refine all_cons [.box 207 z216.2 [.int .i64 (r209.1.1), .int .i64 (r209.1.2.1), Hd.val z216.1], .own (tI .i64) 3 195 [] r209.1.2.2 z216.1, .own (tI .i64) 3 194 [] ([] : List Int) (nilH 3), .old w S, .box 78 b61 [Hd.val y59], .box 91 b68 [Hd.val y67], .own Ty_culpritref32_Claimant 25 63 [11, 24, 26, 38, 62] s36.1 y37, .own Ty_culpritref32_Game 37 193 [105, 107, 192] [(r80.1.1, r80.1.2.1, r80.1.2.2), (x4, x5, ([] : List Int)), (w64 (r166 - 1), r169, [x6]), (-1, (x173.length : Int), ([] : List Int))] h196, .rep (tA 16 .u8) [11, 24, 26, 38, 62, 63] r57 y59, .rep (tA 16 .u8) [11, 24, 26, 38, 62, 63] r65 y67] rfl (dst_some rfl rfl) rfl rfl rfl rfl (gd_none rfl rfl) (fun _ => ?_) ?_
                ·
                 refine ob_one rfl rfl (fun y252 => ?_)
                 refine ob_nil rfl ?_
                 exact ok_known (y252) (p_move (v := .tuple #[.agg ([.int .i64 (r250.1.1), .int .i64 (r250.1.2.1), Hd.val y252]).toArray, .int .i64 (r250.2)]) rfl rfl) rfl [0] rfl
                refine all_cons [.box 207 z216.2 [.int .i64 (r209.1.1), .int .i64 (r209.1.2.1), Hd.val z216.1], .own (tI .i64) 3 195 [] r209.1.2.2 z216.1, .own (tI .i64) 3 194 [] ([] : List Int) (nilH 3), .old w S, .box 78 b61 [Hd.val y59], .box 91 b68 [Hd.val y67], .own Ty_culpritref32_Claimant 25 63 [11, 24, 26, 38, 62] s36.1 y37, .own Ty_culpritref32_Game 37 193 [105, 107, 192] [(r80.1.1, r80.1.2.1, r80.1.2.2), (x4, x5, ([] : List Int)), (w64 (r166 - 1), r169, [x6]), (-1, (x173.length : Int), ([] : List Int))] h196, .rep (tA 16 .u8) [11, 24, 26, 38, 62, 63] r57 y59, .rep (tA 16 .u8) [11, 24, 26, 38, 62, 63] r65 y67] rfl (dst_some rfl rfl) rfl rfl rfl rfl (gd_none rfl rfl) (fun _ => ?_) ?_
                ·
                 refine ob_one rfl rfl (fun z254 => ?_)
                 refine ob_nil rfl ?_
                 exact ok_known (z254) (p_extract (v := .agg ([.int .i64 (r250.1.1), .int .i64 (r250.1.2.1), Hd.val z254]).toArray) rfl rfl rfl) rfl [0] rfl
                refine all_cons [.box 207 z216.2 [.int .i64 (r209.1.1), .int .i64 (r209.1.2.1), Hd.val z216.1], .own (tI .i64) 3 195 [] r209.1.2.2 z216.1, .own (tI .i64) 3 194 [] ([] : List Int) (nilH 3), .old w S, .box 78 b61 [Hd.val y59], .box 91 b68 [Hd.val y67], .own Ty_culpritref32_Claimant 25 63 [11, 24, 26, 38, 62] s36.1 y37, .own Ty_culpritref32_Game 37 193 [105, 107, 192] [(r80.1.1, r80.1.2.1, r80.1.2.2), (x4, x5, ([] : List Int)), (w64 (r166 - 1), r169, [x6]), (-1, (x173.length : Int), ([] : List Int))] h196, .rep (tA 16 .u8) [11, 24, 26, 38, 62, 63] r57 y59, .rep (tA 16 .u8) [11, 24, 26, 38, 62, 63] r65 y67] rfl (dst_some rfl rfl) rfl rfl rfl rfl (gd_none rfl rfl) (fun _ => ?_) ?_
                ·
                 refine ob_one rfl rfl (fun z254 => ?_)
                 refine ob_nil rfl ?_
                 exact PureOk.op (p_extract (v := .int .i64 (r250.2)) rfl rfl rfl)
                refine all_cons [.box 207 z216.2 [.int .i64 (r209.1.1), .int .i64 (r209.1.2.1), Hd.val z216.1], .own (tI .i64) 3 195 [] r209.1.2.2 z216.1, .own (tI .i64) 3 194 [] ([] : List Int) (nilH 3), .old w S, .box 78 b61 [Hd.val y59], .box 91 b68 [Hd.val y67], .own Ty_culpritref32_Claimant 25 63 [11, 24, 26, 38, 62] s36.1 y37, .own Ty_culpritref32_Game 37 193 [105, 107, 192] [(r80.1.1, r80.1.2.1, r80.1.2.2), (x4, x5, ([] : List Int)), (w64 (r166 - 1), r169, [x6]), (-1, (x173.length : Int), ([] : List Int))] h196, .rep (tA 16 .u8) [11, 24, 26, 38, 62, 63] r57 y59, .rep (tA 16 .u8) [11, 24, 26, 38, 62, 63] r65 y67] rfl (dst_some rfl rfl) rfl rfl rfl rfl (gd_none rfl rfl) (fun _ => ?_) ?_
                ·
                 refine ob_nil rfl ?_
                 exact ok_alloc (N := 220) (cs := [.int .i64 (0), .int .i64 (0), Hd.val (nilH 3)]) rfl Try.ti37 rfl rfl
                refine all_cons [.box 207 z216.2 [.int .i64 (r209.1.1), .int .i64 (r209.1.2.1), Hd.val z216.1], .own (tI .i64) 3 195 [] r209.1.2.2 z216.1, .own (tI .i64) 3 194 [] ([] : List Int) (nilH 3), .old w S, .box 78 b61 [Hd.val y59], .box 91 b68 [Hd.val y67], .own Ty_culpritref32_Claimant 25 63 [11, 24, 26, 38, 62] s36.1 y37, .own Ty_culpritref32_Game 37 193 [105, 107, 192] [(r80.1.1, r80.1.2.1, r80.1.2.2), (x4, x5, ([] : List Int)), (w64 (r166 - 1), r169, [x6]), (-1, (x173.length : Int), ([] : List Int))] h196, .rep (tA 16 .u8) [11, 24, 26, 38, 62, 63] r57 y59, .rep (tA 16 .u8) [11, 24, 26, 38, 62, 63] r65 y67] rfl (dst_none rfl rfl (fun _ => rfl)) rfl rfl rfl rfl (gd_none rfl rfl) (fun _ => ?_) ?_
                ·
                 refine ob_one rfl rfl (fun b253 => ?_)
                 refine ob_one rfl rfl (fun z255 => ?_)
                 exact ob_carry (fun _ => (z255, b253)) (ok_store_box (v := .agg ([.int .i64 (r250.1.1), .int .i64 (r250.1.2.1), Hd.val z255]).toArray) (vs := [.int .i64 (r250.1.1), .int .i64 (r250.1.2.1), Hd.val z255]) (cs' := [.int .i64 (r250.1.1), .int .i64 (r250.1.2.1), Hd.val z255]) 1 rfl rfl Try.ti37 rfl rfl rfl rfl rfl rfl rfl) (fun _ => rfl) [0] _ rfl (fun _ => rfl) (fun _ => tells_cons rfl (tells_nil))
                exact all_nil
               ·
                refine fin_base [.box 207 z216.2 [.int .i64 (r209.1.1), .int .i64 (r209.1.2.1), Hd.val z216.1], .own (tI .i64) 3 195 [] r209.1.2.2 z216.1, .own (tI .i64) 3 194 [] ([] : List Int) (nilH 3), .old w S, .box 78 b61 [Hd.val y59], .box 91 b68 [Hd.val y67], .own Ty_culpritref32_Claimant 25 63 [11, 24, 26, 38, 62] s36.1 y37, .own Ty_culpritref32_Game 37 193 [105, 107, 192] [(r80.1.1, r80.1.2.1, r80.1.2.2), (x4, x5, ([] : List Int)), (w64 (r166 - 1), r169, [x6]), (-1, (x173.length : Int), ([] : List Int))] h196, .rep (tA 16 .u8) [11, 24, 26, 38, 62, 63] r57 y59, .rep (tA 16 .u8) [11, 24, 26, 38, 62, 63] r65 y67] rfl ?_
                refine fin_one rfl rfl (fun _ => ?_)
                refine fin_one rfl rfl (fun z256 => ?_)
                refine fin_nil ?_
                refine s_pure (p_assign (v := .int .i64 (r250.2)) rfl rfl) rfl rfl rfl ?_
                refine s_nil ?_
                refine x_then ?_
                refine s_seq ?_
                obtain ⟨r275, e276, e200⟩ := bind_some e200
                obtain ⟨r278, e279, e200⟩ := bind_some e200
                refine s_draw Try.mixed [⟨true, 202, [], Unit, fun _ => .int .i64 (r209.2), fun _ => [], [], [], []⟩, ⟨true, 203, [], Unit, fun _ => .int .i64 (r250.2), fun _ => [], [], [], []⟩, ⟨true, 204, [0, 1], Unit, fun _ => .bool (r209.2 != r250.2), fun _ => [], [], [], []⟩, ⟨true, 205, [2], Unit, fun _ => .bool (r209.2 != r250.2), fun _ => [], [], [], []⟩, ⟨!(r209.2 != r250.2), 206, [], Unit, fun _ => .agg ([.int .i64 (r209.1.1), .int .i64 (r209.1.2.1), Hd.val z216.1]).toArray, fun _ => [], [], [], []⟩, ⟨!(r209.2 != r250.2), 207, [4], Hd, fun (y277 : Hd) => .agg ([.int .i64 (r275.1), .int .i64 (r275.2.1), Hd.val y277]).toArray, fun y277 => [.rep (tI .i64) [195] r275.2.2 y277], [], [], []⟩, ⟨!(r209.2 != r250.2), 208, [], Unit, fun _ => .agg ([.int .i64 (r250.1.1), .int .i64 (r250.1.2.1), Hd.val z256.1]).toArray, fun _ => [], [], [], []⟩, ⟨!(r209.2 != r250.2), 209, [5, 6], Unit, fun (y280 : Unit) => .bool (r278), fun _ => [], [], [], []⟩, ⟨!(r209.2 != r250.2), 210, [7], Unit, fun _ => .bool (!r278), fun _ => [], [], [], []⟩, ⟨true, 211, [3, 8], Unit, fun _ => .bool (bif r209.2 != r250.2 then true else !r278), fun _ => [], [], [], []⟩] [[], [], [0, 1], [0, 1, 2], [0, 1, 2, 3], [0, 1, 2, 3, 4], [0, 1, 2, 3], [0, 1, 2, 3, 4, 5, 6], [0, 1, 2, 3, 4, 5, 6, 7], [0, 1, 2, 3, 4, 5, 6, 7, 8]] rfl rfl rfl rfl rfl ⟨.inl rfl, .inl rfl, .inl rfl, .inl rfl, .inl rfl, .inl rfl, .inl rfl, .inl rfl, .inl rfl, .inl rfl, trivial⟩ ?_ [9] rfl rfl (fun us => ?_)
                ·
                 refine all_cons _ (base_nil rfl) (dst_some rfl rfl) rfl rfl rfl rfl (gd_none rfl rfl) (fun _ => ?_) ?_
                 ·
                  refine ob_nil rfl ?_
                  exact PureOk.op (p_move (v := .int .i64 (r209.2)) rfl rfl)
                 refine all_cons _ (base_nil rfl) (dst_some rfl rfl) rfl rfl rfl rfl (gd_none rfl rfl) (fun _ => ?_) ?_
                 ·
                  refine ob_nil rfl ?_
                  exact PureOk.op (p_move (v := .int .i64 (r250.2)) rfl rfl)
                 refine all_cons _ (base_nil rfl) (dst_some rfl rfl) rfl rfl rfl rfl (gd_none rfl rfl) (fun _ => ?_) ?_
                 ·
                  refine ob_one rfl rfl (fun _ => ?_)
                  refine ob_one rfl rfl (fun _ => ?_)
                  refine ob_nil rfl ?_
                  exact PureOk.op (p_neq rfl rfl rfl)
                 refine all_cons _ (base_nil rfl) (dst_some rfl rfl) rfl rfl rfl rfl (gd_none rfl rfl) (fun _ => ?_) ?_
                 ·
                  refine ob_one rfl rfl (fun _ => ?_)
                  refine ob_nil rfl ?_
                  exact PureOk.op (p_move (v := .bool (r209.2 != r250.2)) rfl rfl)
                 refine all_cons _ (base_nil rfl) (dst_some rfl rfl) rfl rfl rfl rfl (gd_some (e := ⟨true, 205, [2], Unit, fun _ => .bool (r209.2 != r250.2), fun _ => [], [], [], []⟩) (r209.2 != r250.2) rfl rfl rfl rfl (fun _ => rfl) (gd_f _)) (fun hx285 => ?_) ?_
                 ·
                  replace hx285 : (!(r209.2 != r250.2)) = true := hx285
                  refine ob_nil rfl ?_
                  exact PureOk.op (p_loadN_box (cs' := [.int .i64 (r209.1.1), .int .i64 (r209.1.2.1), Hd.val z216.1]) 2 rfl rfl Try.underlying33 rfl Try.ti33 rfl rfl rfl)
                 refine all_cons _ (base_nil rfl) (dst_some rfl rfl) rfl rfl rfl rfl (gd_some (e := ⟨true, 205, [2], Unit, fun _ => .bool (r209.2 != r250.2), fun _ => [], [], [], []⟩) (r209.2 != r250.2) rfl rfl rfl rfl (fun _ => rfl) (gd_f _)) (fun hx286 => ?_) ?_
                 ·
                  replace hx286 : (!(r209.2 != r250.2)) = true := hx286
                  replace e276 := cond_t hx286 e276
                  refine ob_two rfl (fun _ _ => ?_) (fun hn => clash hx286 hn)
                  refine ob_nil rfl ?_
                  exact ok_call (N := 221) (Φ := fun y277 => [.rep (tI .i64) [195] r275.2.2 y277]) (culpritlaw32_game_ok e276) rfl rfl rfl Try.func14 rfl Try.nm14 [195] ⟨.inl ⟨3, _, rfl, cov_own rfl⟩, trivial⟩ (fun _ => rfl) (fun _ => rfl) rfl
                 refine all_cons _ (base_nil rfl) (dst_some rfl rfl) rfl rfl rfl rfl (gd_some (e := ⟨true, 205, [2], Unit, fun _ => .bool (r209.2 != r250.2), fun _ => [], [], [], []⟩) (r209.2 != r250.2) rfl rfl rfl rfl (fun _ => rfl) (gd_f _)) (fun hx287 => ?_) ?_
                 ·
                  replace hx287 : (!(r209.2 != r250.2)) = true := hx287
                  replace e276 := cond_t hx287 e276
                  refine ob_nil rfl ?_
                  exact PureOk.op (p_loadN_box (cs' := [.int .i64 (r250.1.1), .int .i64 (r250.1.2.1), Hd.val z256.1]) 0 rfl rfl Try.underlying37 rfl Try.ti37 rfl rfl rfl)
                 refine all_cons _ (base_nil rfl) (dst_some rfl rfl) rfl rfl rfl rfl (gd_some (e := ⟨true, 205, [2], Unit, fun _ => .bool (r209.2 != r250.2), fun _ => [], [], [], []⟩) (r209.2 != r250.2) rfl rfl rfl rfl (fun _ => rfl) (gd_f _)) (fun hx288 => ?_) ?_
                 ·
                  replace hx288 : (!(r209.2 != r250.2)) = true := hx288
                  replace e276 := cond_t hx288 e276
                  replace e279 := cond_t hx288 e279
                  refine ob_two rfl (fun _ y277 => ?_) (fun hn => clash hx288 hn)
                  refine ob_two rfl (fun _ _ => ?_) (fun hn => clash hx288 hn)
                  refine ob_nil rfl ?_
                  exact ok_call (N := 233) (Φ := fun y280 => []) (culpritref32_SameGame_ok e279) rfl rfl rfl Try.func13 rfl Try.nm13 [195, 208] ⟨.inl ⟨0, _, rfl, cov_rep rfl⟩, .inl ⟨2, _, rfl, cov_own rfl⟩, trivial⟩ (fun _ => rfl) (fun _ => rfl) rfl
                 refine all_cons _ (base_nil rfl) (dst_some rfl rfl) rfl rfl rfl rfl (gd_some (e := ⟨true, 205, [2], Unit, fun _ => .bool (r209.2 != r250.2), fun _ => [], [], [], []⟩) (r209.2 != r250.2) rfl rfl rfl rfl (fun _ => rfl) (gd_f _)) (fun hx289 => ?_) ?_
                 ·
                  replace hx289 : (!(r209.2 != r250.2)) = true := hx289
                  replace e276 := cond_t hx289 e276
                  replace e279 := cond_t hx289 e279
                  refine ob_two rfl (fun _ y280 => ?_) (fun hn => clash hx289 hn)
                  refine ob_nil rfl ?_
                  exact PureOk.op (p_not rfl rfl)
                 refine all_cons _ (base_nil rfl) (dst_some rfl rfl) rfl rfl rfl rfl (gd_none rfl rfl) (fun _ => ?_) ?_
                 ·
                  refine ob_one rfl rfl (fun _ => ?_)
                  refine ob_two rfl (fun hq291 _ => ?_) (fun hq291 => ?_)
                  rotate_left
                  ·
                   replace hq291 : (!(r209.2 != r250.2)) = false := hq291
                   refine ob_nil rfl ?_
                   exact PureOk.op (p_pick (b := r209.2 != r250.2) (p := true) (q := !r278) rfl rfl (fun _ => rfl) (fun hb => by first | (rw [hb] at hq291; cases hq291; done) | exact absurd hq291 (by rw [hb]; simp) | (simp_all; done)))
                  refine ob_nil rfl ?_
                  exact PureOk.op (p_pick (b := r209.2 != r250.2) (p := true) (q := !r278) rfl rfl (fun _ => rfl) (fun _ => rfl))
                 exact all_nil
                ·
                 refine fin_base _ (base_nil rfl) ?_
                 refine fin_one rfl rfl (fun _ => ?_)
                 refine fin_nil ?_
                 refine s_nil ?_
                 refine x_then ?_
                 refine s_cond rfl (fun hb292 => ?_) (fun hb292 => ?_)
                 ·
                  replace e200 := cond_t hb292 e200
                  refine s_seq ?_
                  refine s_region ?_
                  refine s_pure (p_assign (v := .bool (false)) rfl rfl) rfl rfl rfl ?_
                  refine s_nil ?_
                  refine x_then ?_
                  refine s_ret ?_
                  refine x_block_ret ?_
                  refine x_then_ret ?_
                  refine x_out_ret e200 (fun e293 => ?_)
                  subst e293
                  refine x_block_ret ?_
                  refine x_block_ret ?_
                  refine x_join_ret ?_
                  refine x_out_ret e48 (fun e294 => ?_)
                  subst e294
                  refine x_block_ret ?_
                  refine x_block_ret ?_
                  refine x_join_ret ?_
                  refine x_out_ret e39 (fun e295 => ?_)
                  subst e295
                  refine x_block_ret ?_
                  refine x_join_ret ?_
                  replace hF := some_inj hF
                  subst hF
                  exact x_ret () (res_one rfl (ra_tmp (v := .bool (false)) rfl)) rfl 5 rfl [] 2 rfl trivial
                 ·
                  replace e200 := cond_f hb292 e200
                  refine s_skip ?_
                  refine x_block ?_
                  refine x_then ?_
                  refine s_region ?_
                  refine s_pure (p_move (v := .int .i64 (s197)) rfl rfl) rfl rfl rfl ?_
                  refine s_pure (p_add rfl rfl rfl) rfl rfl rfl ?_
                  refine s_pure (p_assign (v := .int .i64 (w64 (s197 + 1))) rfl rfl) rfl rfl rfl ?_
                  refine s_nil ?_
                  exact x_next () e200 [(11, 11), (24, 24), (26, 26), (38, 38), (62, 62), (63, 63), (78, 78), (91, 91), (105, 105), (107, 107), (192, 192), (193, 193)] 2 rfl ⟨rfl, rfl, rfl, rfl, rfl, rfl, rfl, rfl, rfl, rfl, trivial⟩ ⟨.inl ⟨5, _, rfl, weak_same⟩, .inl ⟨6, _, rfl, weak_same⟩, .inl ⟨7, _, rfl, weak_same⟩, .inl ⟨8, _, rfl, weak_ownK rfl⟩, .inl ⟨9, _, rfl, weak_ownK rfl⟩, .inl ⟨10, _, rfl, weak_rep rfl⟩, .inl ⟨11, _, rfl, weak_rep rfl⟩, trivial⟩
             ·
              replace e200 := cond_f hb201 e200
              refine s_exit ?_
              refine x_then_exit ?_
              refine x_out e200 (fun e296 => ?_)
              subst e296
              refine x_block_exit ?_
              refine x_block ?_
              exact x_join () [(11, 11), (24, 24), (26, 26), (38, 38), (62, 62), (63, 63)] 2 rfl ⟨rfl, rfl, rfl, rfl, rfl, rfl, trivial⟩ ⟨.inl ⟨0, _, rfl, weak_same⟩, .inl ⟨3, _, rfl, weak_ownK rfl⟩, trivial⟩
       ·
        intro y52 ρ'
        rcases r50 with s53 | t297
        rotate_left
        · exact s_absurd 0 rfl
        refine s_region ?_
        refine s_pure (p_move (v := .int .i64 (s45)) rfl rfl) rfl rfl rfl ?_
        refine s_pure (p_add rfl rfl rfl) rfl rfl rfl ?_
        refine s_pure (p_assign (v := .int .i64 (w64 (s45 + 1))) rfl rfl) rfl rfl rfl ?_
        refine s_nil ?_
        exact x_next () e48 [(11, 11), (24, 24), (26, 26), (38, 38), (62, 62), (63, 63)] 2 rfl ⟨rfl, rfl, rfl, rfl, rfl, rfl, trivial⟩ ⟨.inl ⟨0, _, rfl, weak_same⟩, .inl ⟨1, _, rfl, weak_ownK rfl⟩, trivial⟩
      ·
       replace e48 := cond_f hb49 e48
       refine s_exit ?_
       refine x_then_exit ?_
       refine x_out e48 (fun e299 => ?_)
       subst e299
       refine x_block_exit ?_
       refine x_block ?_
       exact x_join () [(11, 11), (24, 24), (26, 26), (38, 38), (62, 62), (63, 63)] 2 rfl ⟨rfl, rfl, rfl, rfl, rfl, trivial⟩ ⟨.inl ⟨0, _, rfl, weak_same⟩, .inl ⟨1, _, rfl, weak_ownK rfl⟩, trivial⟩
     ·
      intro y43 ρ'
      rcases r41 with s44 | t300
      rotate_left
      · exact s_absurd 0 rfl
      refine s_region ?_
      refine s_pure (p_move (v := .int .i64 (s36.2)) rfl rfl) rfl rfl rfl ?_
      refine s_pure (p_add rfl rfl rfl) rfl rfl rfl ?_
      refine s_pure (p_assign (v := .int .i64 (w64 (s36.2 + 1))) rfl rfl) rfl rfl rfl ?_
      refine s_nil ?_
      exact x_next y37 e39 [(11, 11), (24, 24), (26, 26), (38, 38), (62, 62), (63, 63)] 2 rfl ⟨rfl, rfl, rfl, rfl, rfl, trivial⟩ ⟨.inl ⟨0, _, rfl, weak_same⟩, .inl ⟨1, _, rfl, weak_ownK rfl⟩, trivial⟩
    ·
     replace e39 := cond_f hb40 e39
     refine s_exit ?_
     refine x_then_exit ?_
     refine x_out e39 (fun e302 => ?_)
     subst e302
     refine x_block_exit ?_
     exact x_join () [] 2 rfl ⟨rfl, trivial⟩ ⟨.inl ⟨0, _, rfl, weak_same⟩, trivial⟩
   ·
    intro y34 ρ'
    rcases r32 with s35 | t303
    rotate_left
    · exact s_absurd 0 rfl
    refine s_seq ?_
    obtain ⟨r304, e305, hF⟩ := bind_some hF
    obtain ⟨r307, e308, hF⟩ := bind_some hF
    obtain ⟨r310, e311, hF⟩ := bind_some hF
    obtain ⟨r313, e314, hF⟩ := bind_some hF
    obtain ⟨r316, e317, hF⟩ := bind_some hF
    obtain ⟨r319, e320, hF⟩ := bind_some hF
    obtain ⟨r322, e323, hF⟩ := bind_some hF
    refine s_text Try.mixed [⟨true, 212, [], Unit, fun _ => .int .i64 (x6), fun _ => [], [], [], []⟩, ⟨true, 213, [0], Unit, fun (y306 : Unit) => .int .i64 (r304), fun _ => [], [], [], []⟩, ⟨true, 214, [], Unit, fun _ => .int .i64 (x6), fun _ => [], [], [], []⟩, ⟨true, 215, [2], Unit, fun (y309 : Unit) => .int .i64 (r307), fun _ => [], [], [], []⟩, ⟨true, 216, [1, 3], Unit, fun _ => .bool (r304 == r307), fun _ => [], [], [], []⟩, ⟨true, 217, [4], Unit, fun _ => .bool (r304 == r307), fun _ => [], [], [], []⟩, ⟨(r304 == r307), 218, [], Unit, fun _ => .int .i64 (x6), fun _ => [], [], [], []⟩, ⟨(r304 == r307), 219, [6], Unit, fun (y312 : Unit) => .int .i64 (r310), fun _ => [], [], [], []⟩, ⟨(r304 == r307), 220, [7], Unit, fun (y315 : Unit) => .int .i64 (r313), fun _ => [], [], [], []⟩, ⟨(r304 == r307), 221, [], Unit, fun _ => .int .i64 (x6), fun _ => [], [], [], []⟩, ⟨(r304 == r307), 222, [9], Unit, fun (y318 : Unit) => .int .i64 (r316), fun _ => [], [], [], []⟩, ⟨(r304 == r307), 223, [10], Unit, fun (y321 : Unit) => .int .i64 (r319), fun _ => [], [], [], []⟩, ⟨(r304 == r307), 224, [8, 11], Unit, fun _ => .bool (r313 == r319), fun _ => [], [], [], []⟩, ⟨true, 225, [5, 12], Unit, fun _ => .bool (bif r304 == r307 then r313 == r319 else false), fun _ => [], [], [], []⟩, ⟨true, 226, [13], Unit, fun _ => .bool (bif r304 == r307 then r313 == r319 else false), fun _ => [], [], [], []⟩, ⟨(bif r304 == r307 then r313 == r319 else false), 227, [], Unit, fun (y324 : Unit) => .bool (r322), fun _ => [], [], [], []⟩, ⟨true, 228, [14, 15], Unit, fun _ => .bool (bif bif r304 == r307 then r313 == r319 else false then r322 else false), fun _ => [], [], [], []⟩] [[], [0], [], [0, 1, 2], [0, 1, 2, 3], [0, 1, 2, 3, 4], [0, 1, 2, 3, 4, 5], [0, 1, 2, 3, 4, 5, 6], [0, 1, 2, 3, 4, 5, 6, 7], [0, 1, 2, 3, 4, 5], [0, 1, 2, 3, 4, 5, 6, 7, 8, 9], [0, 1, 2, 3, 4, 5, 6, 7, 8, 9, 10], [0, 1, 2, 3, 4, 5, 6, 7, 8, 9, 10, 11], [0, 1, 2, 3, 4, 5, 6, 7, 8, 9, 10, 11, 12], [0, 1, 2, 3, 4, 5, 6, 7, 8, 9, 10, 11, 12, 13], [0, 1, 2, 3, 4, 5, 6, 7, 8, 9, 10, 11, 12, 13, 14], [0, 1, 2, 3, 4, 5, 6, 7, 8, 9, 10, 11, 12, 13, 14, 15], [0, 1, 2, 3, 4, 5, 6, 7, 8, 9, 10, 11, 12, 13, 14, 15, 16]] rfl rfl rfl rfl rfl ⟨.inl rfl, .inl rfl, .inl rfl, .inl rfl, .inl rfl, .inl rfl, .inl rfl, .inl rfl, .inl rfl, .inl rfl, .inl rfl, .inl rfl, .inl rfl, .inl rfl, .inl rfl, .inl rfl, .inl rfl, trivial⟩ ?_ [16] rfl rfl (fun us => ?_)
    ·
     refine all_cons _ (base_nil rfl) (dst_some rfl rfl) rfl rfl rfl rfl (gd_none rfl rfl) (fun _ => ?_) ?_
     ·
      refine ob_nil rfl ?_
      exact PureOk.op (p_move (v := .int .i64 (x6)) rfl rfl)
     refine all_cons _ (base_nil rfl) (dst_some rfl rfl) rfl rfl rfl rfl (gd_none rfl rfl) (fun _ => ?_) ?_
     ·
      refine ob_one rfl rfl (fun _ => ?_)
      refine ob_nil rfl ?_
      exact ok_call (N := 245) (Φ := fun y306 => []) (dispute_Most_ok e305) rfl rfl rfl Try.func17 rfl Try.nm17 [] trivial (fun _ => rfl) (fun _ => rfl) rfl
     refine all_cons _ (base_nil rfl) (dst_some rfl rfl) rfl rfl rfl rfl (gd_none rfl rfl) (fun _ => ?_) ?_
     ·
      refine ob_nil rfl ?_
      exact PureOk.op (p_move (v := .int .i64 (x6)) rfl rfl)
     refine all_cons _ (base_nil rfl) (dst_some rfl rfl) rfl rfl rfl rfl (gd_none rfl rfl) (fun _ => ?_) ?_
     ·
      refine ob_one rfl rfl (fun _ => ?_)
      refine ob_nil rfl ?_
      exact ok_call (N := 257) (Φ := fun y309 => []) (culpritref32_Most_ok e308) rfl rfl rfl Try.func18 rfl Try.nm18 [] trivial (fun _ => rfl) (fun _ => rfl) rfl
     refine all_cons _ (base_nil rfl) (dst_some rfl rfl) rfl rfl rfl rfl (gd_none rfl rfl) (fun _ => ?_) ?_
     ·
      refine ob_one rfl rfl (fun y306 => ?_)
      refine ob_one rfl rfl (fun y309 => ?_)
      refine ob_nil rfl ?_
      exact PureOk.op (p_eql rfl rfl rfl)
     refine all_cons _ (base_nil rfl) (dst_some rfl rfl) rfl rfl rfl rfl (gd_none rfl rfl) (fun _ => ?_) ?_
     ·
      refine ob_one rfl rfl (fun _ => ?_)
      refine ob_nil rfl ?_
      exact PureOk.op (p_move (v := .bool (r304 == r307)) rfl rfl)
     refine all_cons _ (base_nil rfl) (dst_some rfl rfl) rfl rfl rfl rfl (gd_some (e := ⟨true, 217, [4], Unit, fun _ => .bool (r304 == r307), fun _ => [], [], [], []⟩) (r304 == r307) rfl rfl rfl rfl (fun _ => rfl) (gd_t _)) (fun hx331 => ?_) ?_
     ·
      replace hx331 : ((r304 == r307)) = true := hx331
      refine ob_nil rfl ?_
      exact PureOk.op (p_move (v := .int .i64 (x6)) rfl rfl)
     refine all_cons _ (base_nil rfl) (dst_some rfl rfl) rfl rfl rfl rfl (gd_some (e := ⟨true, 217, [4], Unit, fun _ => .bool (r304 == r307), fun _ => [], [], [], []⟩) (r304 == r307) rfl rfl rfl rfl (fun _ => rfl) (gd_t _)) (fun hx332 => ?_) ?_
     ·
      replace hx332 : ((r304 == r307)) = true := hx332
      replace e311 := cond_t hx332 e311
      refine ob_two rfl (fun _ _ => ?_) (fun hn => clash hx332 hn)
      refine ob_nil rfl ?_
      exact ok_call (N := 269) (Φ := fun y312 => []) (culpritref01_Around_ok e311) rfl rfl rfl Try.func7 rfl Try.nm7 [] trivial (fun _ => rfl) (fun _ => rfl) rfl
     refine all_cons _ (base_nil rfl) (dst_some rfl rfl) rfl rfl rfl rfl (gd_some (e := ⟨true, 217, [4], Unit, fun _ => .bool (r304 == r307), fun _ => [], [], [], []⟩) (r304 == r307) rfl rfl rfl rfl (fun _ => rfl) (gd_t _)) (fun hx333 => ?_) ?_
     ·
      replace hx333 : ((r304 == r307)) = true := hx333
      replace e311 := cond_t hx333 e311
      replace e314 := cond_t hx333 e314
      refine ob_two rfl (fun _ y312 => ?_) (fun hn => clash hx333 hn)
      refine ob_nil rfl ?_
      exact ok_call (N := 281) (Φ := fun y315 => []) (dispute_Most_ok e314) rfl rfl rfl Try.func17 rfl Try.nm17 [] trivial (fun _ => rfl) (fun _ => rfl) rfl
     refine all_cons _ (base_nil rfl) (dst_some rfl rfl) rfl rfl rfl rfl (gd_some (e := ⟨true, 217, [4], Unit, fun _ => .bool (r304 == r307), fun _ => [], [], [], []⟩) (r304 == r307) rfl rfl rfl rfl (fun _ => rfl) (gd_t _)) (fun hx334 => ?_) ?_
     ·
      replace hx334 : ((r304 == r307)) = true := hx334
      replace e311 := cond_t hx334 e311
      replace e314 := cond_t hx334 e314
      refine ob_nil rfl ?_
      exact PureOk.op (p_move (v := .int .i64 (x6)) rfl rfl)
     refine all_cons _ (base_nil rfl) (dst_some rfl rfl) rfl rfl rfl rfl (gd_some (e := ⟨true, 217, [4], Unit, fun _ => .bool (r304 == r307), fun _ => [], [], [], []⟩) (r304 == r307) rfl rfl rfl rfl (fun _ => rfl) (gd_t _)) (fun hx335 => ?_) ?_
     ·
      replace hx335 : ((r304 == r307)) = true := hx335
      replace e311 := cond_t hx335 e311
      replace e314 := cond_t hx335 e314
      replace e317 := cond_t hx335 e317
      refine ob_two rfl (fun _ _ => ?_) (fun hn => clash hx335 hn)
      refine ob_nil rfl ?_
      exact ok_call (N := 293) (Φ := fun y318 => []) (culpritref01_Around_ok e317) rfl rfl rfl Try.func7 rfl Try.nm7 [] trivial (fun _ => rfl) (fun _ => rfl) rfl
     refine all_cons _ (base_nil rfl) (dst_some rfl rfl) rfl rfl rfl rfl (gd_some (e := ⟨true, 217, [4], Unit, fun _ => .bool (r304 == r307), fun _ => [], [], [], []⟩) (r304 == r307) rfl rfl rfl rfl (fun _ => rfl) (gd_t _)) (fun hx336 => ?_) ?_
     ·
      replace hx336 : ((r304 == r307)) = true := hx336
      replace e311 := cond_t hx336 e311
      replace e314 := cond_t hx336 e314
      replace e317 := cond_t hx336 e317
      replace e320 := cond_t hx336 e320
      refine ob_two rfl (fun _ y318 => ?_) (fun hn => clash hx336 hn)
      refine ob_nil rfl ?_
      exact ok_call (N := 305) (Φ := fun y321 => []) (culpritref32_Most_ok e320) rfl rfl rfl Try.func18 rfl Try.nm18 [] trivial (fun _ => rfl) (fun _ => rfl) rfl
     refine all_cons _ (base_nil rfl) (dst_some rfl rfl) rfl rfl rfl rfl (gd_some (e := ⟨true, 217, [4], Unit, fun _ => .bool (r304 == r307), fun _ => [], [], [], []⟩) (r304 == r307) rfl rfl rfl rfl (fun _ => rfl) (gd_t _)) (fun hx337 => ?_) ?_
     ·
      replace hx337 : ((r304 == r307)) = true := hx337
      replace e311 := cond_t hx337 e311
      replace e314 := cond_t hx337 e314
      replace e317 := cond_t hx337 e317
      replace e320 := cond_t hx337 e320
      refine ob_two rfl (fun _ y315 => ?_) (fun hn => clash hx337 hn)
      refine ob_two rfl (fun _ y321 => ?_) (fun hn => clash hx337 hn)
      refine ob_nil rfl ?_
      exact PureOk.op (p_eql rfl rfl rfl)
     refine all_cons _ (base_nil rfl) (dst_some rfl rfl) rfl rfl rfl rfl (gd_none rfl rfl) (fun _ => ?_) ?_
     ·
      refine ob_one rfl rfl (fun _ => ?_)
      refine ob_two rfl (fun hq339 _ => ?_) (fun hq339 => ?_)
      rotate_left
      ·
       replace hq339 : ((r304 == r307)) = false := hq339
       refine ob_nil rfl ?_
       exact PureOk.op (p_pick (b := r304 == r307) (p := r313 == r319) (q := false) rfl rfl (fun hb => by first | (rw [hb] at hq339; cases hq339; done) | exact absurd hq339 (by rw [hb]; simp) | (simp_all; done)) (fun _ => rfl))
      refine ob_nil rfl ?_
      exact PureOk.op (p_pick (b := r304 == r307) (p := r313 == r319) (q := false) rfl rfl (fun _ => rfl) (fun _ => rfl))
     refine all_cons _ (base_nil rfl) (dst_some rfl rfl) rfl rfl rfl rfl (gd_none rfl rfl) (fun _ => ?_) ?_
     ·
      refine ob_one rfl rfl (fun _ => ?_)
      refine ob_nil rfl ?_
      exact PureOk.op (p_move (v := .bool (bif r304 == r307 then r313 == r319 else false)) rfl rfl)
     refine all_cons _ (base_nil rfl) (dst_some rfl rfl) rfl rfl rfl rfl (gd_some (e := ⟨true, 226, [13], Unit, fun _ => .bool (bif r304 == r307 then r313 == r319 else false), fun _ => [], [], [], []⟩) (bif r304 == r307 then r313 == r319 else false) rfl rfl rfl rfl (fun _ => rfl) (gd_t _)) (fun hx341 => ?_) ?_
     ·
      replace hx341 : ((bif r304 == r307 then r313 == r319 else false)) = true := hx341
      replace e323 := cond_t hx341 e323
      refine ob_nil rfl ?_
      exact ok_call (N := 317) (Φ := fun y324 => []) (culpritlaw32_lives_ok e323) rfl rfl rfl Try.func19 rfl Try.nm19 [] trivial (fun _ => rfl) (fun _ => rfl) rfl
     refine all_cons _ (base_nil rfl) (dst_some rfl rfl) rfl rfl rfl rfl (gd_none rfl rfl) (fun _ => ?_) ?_
     ·
      refine ob_one rfl rfl (fun _ => ?_)
      refine ob_two rfl (fun hq343 y324 => ?_) (fun hq343 => ?_)
      rotate_left
      ·
       replace hq343 : ((bif r304 == r307 then r313 == r319 else false)) = false := hq343
       refine ob_nil rfl ?_
       exact PureOk.op (p_pick (b := bif r304 == r307 then r313 == r319 else false) (p := r322) (q := false) rfl rfl (fun hb => by first | (rw [hb] at hq343; cases hq343; done) | exact absurd hq343 (by rw [hb]; simp) | (simp_all; done)) (fun _ => rfl))
      refine ob_nil rfl ?_
      exact PureOk.op (p_pick (b := bif r304 == r307 then r313 == r319 else false) (p := r322) (q := false) rfl rfl (fun _ => rfl) (fun _ => rfl))
     exact all_nil
    ·
     refine fin_base _ (base_nil rfl) ?_
     refine fin_one rfl rfl (fun _ => ?_)
     refine fin_nil ?_
     refine s_pure (p_assign (v := .bool (bif bif r304 == r307 then r313 == r319 else false then r322 else false)) rfl rfl) rfl rfl rfl ?_
     refine s_nil ?_
     refine x_then ?_
     refine s_ret ?_
     replace hF := some_inj hF
     subst hF
     exact x_ret () (res_one rfl (ra_tmp (v := .bool (bif bif r304 == r307 then r313 == r319 else false then r322 else false)) rfl)) rfl 0 rfl [] 2 rfl trivial

end Go.Proofs.Ytimljgafbpbceaa
