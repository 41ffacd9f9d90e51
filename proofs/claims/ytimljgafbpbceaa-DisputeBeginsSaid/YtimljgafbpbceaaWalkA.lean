/-
  The functions of the program compute what their Lean functions say. No condition.
-/
import Derived.Test.YtimljgafbpbceaaTab
namespace Go.Proofs.Ytimljgafbpbceaa
open Go.Sm
set_option maxHeartbeats 8000000

theorem culpritref01_Around_ok {x0 : Int} {x1 : Int} {r : Int} (hF : culpritref01_Around x0 x1 = some r) : ∀ (w : World) (S : Nat → Prop), Heap w (oldc S) [] → Calls Try.prog 7 #[.int .i64 (x0), .int .i64 (x1)] w (Post w S (fun (_ : Unit) => .int .i64 (r)) (fun (_ : Unit) => [])) := by
  intro w S hL
  refine s_enter (n := 13) Try.func7 rfl rfl _ rfl hL ?_
  refine s_seq ?_
  refine s_region ?_
  refine s_pure (p_assign (v := .int .i64 (0)) rfl rfl) rfl rfl rfl ?_
  refine s_nil ?_
  refine x_then ?_
  obtain ⟨r1, e2, hF⟩ := bind_some hF
  refine s_join (fun y3 : Unit => [(0, .int .i64 (r1)), (1, .int .i64 (x1))]) (fun y3 : Unit => [.old w S]) ?_ ?_
  ·
   refine s_seq ?_
   refine s_region ?_
   refine s_pure (p_move (v := .int .i64 (x0)) rfl rfl) rfl rfl rfl ?_
   refine s_pure (p_lss rfl rfl rfl) rfl rfl rfl ?_
   refine s_nil ?_
   refine x_then ?_
   refine s_cond rfl (fun hb4 => ?_) (fun hb4 => ?_)
   ·
    replace e2 := cond_t hb4 e2
    refine s_region ?_
    refine s_pure (p_move (v := .int .i64 (x0)) rfl rfl) rfl rfl rfl ?_
    refine s_pure (p_add rfl rfl rfl) rfl rfl rfl ?_
    refine s_pure (p_neg rfl rfl) rfl rfl rfl ?_
    refine s_pure (p_assign (v := .int .i64 (w64 (0 - (w64 (x0 + 1))))) rfl rfl) rfl rfl rfl ?_
    refine s_nil ?_
    replace e2 := some_inj e2
    subst e2
    exact x_join () [] 2 rfl ⟨rfl, rfl, trivial⟩ ⟨.inl ⟨0, _, rfl, weak_same⟩, trivial⟩
   ·
    replace e2 := cond_f hb4 e2
    refine s_skip ?_
    replace e2 := some_inj e2
    subst e2
    exact x_join () [] 2 rfl ⟨rfl, rfl, trivial⟩ ⟨.inl ⟨0, _, rfl, weak_same⟩, trivial⟩
  ·
   intro y3 ρ'
   refine s_seq ?_
   refine s_region ?_
   refine s_pure (p_move (v := .int .i64 (r1)) rfl rfl) rfl rfl rfl ?_
   refine s_pure (p_move (v := .int .i64 (x1)) rfl rfl) rfl rfl rfl ?_
   obtain ⟨c5, hF⟩ := chk_some hF
   refine s_pure (p_rem rfl rfl rfl (not_t c5)) rfl rfl rfl ?_
   refine s_pure (p_assign (v := .int .i64 (Int.tmod r1 x1)) rfl rfl) rfl rfl rfl ?_
   refine s_nil ?_
   refine x_then ?_
   refine s_ret ?_
   replace hF := some_inj hF
   subst hF
   exact x_ret () (res_one rfl (ra_tmp (v := .int .i64 (Int.tmod r1 x1)) rfl)) rfl 0 rfl [] 2 rfl trivial

theorem culpritref32_Small_ok {x0 : (List Int)} {h0_0 : Hd} {r : ((List (List Int)))} (hF : culpritref32_Small x0 = some r) : ∀ (w : World) (S : Nat → Prop), Heap w (oldc S) [.rep (tI .i64) [1] x0 h0_0] → Calls Try.prog 5 #[Hd.val h0_0] w (Post w S (fun (y40 : Hd) => .agg ([Hd.val y40]).toArray) (fun (y40 : Hd) => [.own (tA 16 .u8) 52 2 [] r y40])) := by
  intro w S hL
  refine s_enter (n := 28) Try.func5 rfl rfl _ rfl hL ?_
  refine s_seq ?_
  refine s_region ?_
  refine s_nilrow (tA 16 .u8) 52 12 [] ?_
  refine s_op0 (ok_alloc (N := 13) (cs := [Hd.val (nilH 52)]) rfl Try.ti25 rfl rfl) rfl rfl rfl (fun b2 => ?_)
  refine s_nil ?_
  refine x_then ?_
  refine s_seq ?_
  refine s_region ?_
  refine s_op0 (ok_alloc (N := 14) (cs := [Hd.val (nilH 52)]) rfl Try.ti25 rfl rfl) rfl rfl rfl (fun b3 => ?_)
  refine s_nil ?_
  refine x_then ?_
  obtain ⟨r4, e5, hF⟩ := bind_some hF
  refine s_join (fun y6 : Hd => [(2, .pointer (some ⟨b2, 0, none⟩)), (3, .pointer (some ⟨b3, 0, none⟩))]) (fun y6 : Hd => [.old w S, .box 13 b2 [Hd.val (nilH 52)], .box 14 b3 [Hd.val y6], .own (tA 16 .u8) 52 501 [] r4 y6]) ?_ ?_
  ·
   refine s_seq ?_
   refine s_region ?_
   refine s_pure (p_assign (v := .int .i64 (0)) rfl rfl) rfl rfl rfl ?_
   refine s_nil ?_
   refine x_then ?_
   refine s_block ?_
   refine sim_loop (fun (s7 : Int × (List (List Int))) (y8 : Hd) => [(0, Hd.val h0_0), (2, .pointer (some ⟨b2, 0, none⟩)), (3, .pointer (some ⟨b3, 0, none⟩)), (4, .int .i64 (s7.1))]) (fun (s7 : Int × (List (List Int))) (y8 : Hd) => [.old w S, .box 13 b2 [Hd.val (nilH 52)], .box 14 b3 [Hd.val y8], .rep (tI .i64) [1] x0 h0_0, .own (tA 16 .u8) 52 501 [] s7.2 y8]) (nilH 52) e5 [(13, 13), (14, 14)] 2 rfl ⟨rfl, rfl, rfl, rfl, trivial⟩ ⟨.inl ⟨3, _, rfl, weak_same⟩, .inl ⟨1, _, rfl, weak_same⟩, .inl ⟨0, _, rfl, weak_same⟩, .inl ⟨4, _, rfl, weak_rep rfl⟩, .inr free_own, trivial⟩ ?_
   intro s7 y8 ρ' z9 e10
   refine s_seq ?_
   refine s_seq ?_
   refine s_text Try.mixed [⟨true, 5, [], Unit, fun _ => .int .i64 (s7.1), fun _ => [], [], [], []⟩, ⟨true, 6, [], Unit, fun _ => Hd.val h0_0, fun _ => [], [], [], []⟩, ⟨true, 7, [1], Unit, fun _ => .int .i64 ((x0.length : Int)), fun _ => [], [], [], []⟩, ⟨true, 8, [0, 2], Unit, fun _ => .bool (decide (s7.1 < (x0.length : Int))), fun _ => [], [], [], []⟩, ⟨true, 9, [3], Unit, fun _ => .bool (decide (s7.1 < (x0.length : Int))), fun _ => [], [], [], []⟩, ⟨(decide (s7.1 < (x0.length : Int))), 10, [], Unit, fun _ => .int .i64 (s7.1), fun _ => [], [], [], []⟩, ⟨(decide (s7.1 < (x0.length : Int))), 11, [5], Unit, fun _ => .bool (decide (s7.1 < 24)), fun _ => [], [], [], []⟩, ⟨true, 12, [4, 6], Unit, fun _ => .bool (bif decide (s7.1 < (x0.length : Int)) then decide (s7.1 < 24) else false), fun _ => [], [], [], []⟩] [[], [], [1], [0, 1, 2], [0, 1, 2, 3], [0, 1, 2, 3, 4], [0, 1, 2, 3, 4, 5], [0, 1, 2, 3, 4, 5, 6]] rfl rfl rfl rfl rfl ⟨.inl rfl, .inl rfl, .inl rfl, .inl rfl, .inl rfl, .inl rfl, .inl rfl, .inl rfl, trivial⟩ ?_ [7] rfl rfl (fun us => ?_)
   ·
    refine all_cons _ (base_nil rfl) (dst_some rfl rfl) rfl rfl rfl rfl (gd_none rfl rfl) (fun _ => ?_) ?_
    ·
     refine ob_nil rfl ?_
     exact PureOk.op (p_move (v := .int .i64 (s7.1)) rfl rfl)
    refine all_cons _ (base_nil rfl) (dst_some rfl rfl) rfl rfl rfl rfl (gd_none rfl rfl) (fun _ => ?_) ?_
    ·
     refine ob_nil rfl ?_
     exact PureOk.op (p_move (v := Hd.val h0_0) rfl rfl)
    refine all_cons _ (base_nil rfl) (dst_some rfl rfl) rfl rfl rfl rfl (gd_none rfl rfl) (fun _ => ?_) ?_
    ·
     refine ob_one rfl rfl (fun _ => ?_)
     refine ob_nil rfl ?_
     exact PureOk.op (p_len_rep (ty := (tI .i64)) (xs := x0) (h := h0_0) 3 rfl rfl Try.underlying22 rfl)
    refine all_cons _ (base_nil rfl) (dst_some rfl rfl) rfl rfl rfl rfl (gd_none rfl rfl) (fun _ => ?_) ?_
    ·
     refine ob_one rfl rfl (fun _ => ?_)
     refine ob_one rfl rfl (fun _ => ?_)
     refine ob_nil rfl ?_
     exact PureOk.op (p_lss rfl rfl rfl)
    refine all_cons _ (base_nil rfl) (dst_some rfl rfl) rfl rfl rfl rfl (gd_none rfl rfl) (fun _ => ?_) ?_
    ·
     refine ob_one rfl rfl (fun _ => ?_)
     refine ob_nil rfl ?_
     exact PureOk.op (p_move (v := .bool (decide (s7.1 < (x0.length : Int)))) rfl rfl)
    refine all_cons _ (base_nil rfl) (dst_some rfl rfl) rfl rfl rfl rfl (gd_some (e := ⟨true, 9, [3], Unit, fun _ => .bool (decide (s7.1 < (x0.length : Int))), fun _ => [], [], [], []⟩) (decide (s7.1 < (x0.length : Int))) rfl rfl rfl rfl (fun _ => rfl) (gd_t _)) (fun hx16 => ?_) ?_
    ·
     replace hx16 : ((decide (s7.1 < (x0.length : Int)))) = true := hx16
     refine ob_nil rfl ?_
     exact PureOk.op (p_move (v := .int .i64 (s7.1)) rfl rfl)
    refine all_cons _ (base_nil rfl) (dst_some rfl rfl) rfl rfl rfl rfl (gd_some (e := ⟨true, 9, [3], Unit, fun _ => .bool (decide (s7.1 < (x0.length : Int))), fun _ => [], [], [], []⟩) (decide (s7.1 < (x0.length : Int))) rfl rfl rfl rfl (fun _ => rfl) (gd_t _)) (fun hx17 => ?_) ?_
    ·
     replace hx17 : ((decide (s7.1 < (x0.length : Int)))) = true := hx17
     refine ob_two rfl (fun _ _ => ?_) (fun hn => clash hx17 hn)
     refine ob_nil rfl ?_
     exact PureOk.op (p_lss rfl rfl rfl)
    refine all_cons _ (base_nil rfl) (dst_some rfl rfl) rfl rfl rfl rfl (gd_none rfl rfl) (fun _ => ?_) ?_
    ·
     refine ob_one rfl rfl (fun _ => ?_)
     refine ob_two rfl (fun hq19 _ => ?_) (fun hq19 => ?_)
     rotate_left
     ·
      replace hq19 : ((decide (s7.1 < (x0.length : Int)))) = false := hq19
      refine ob_nil rfl ?_
      exact PureOk.op (p_pick (b := decide (s7.1 < (x0.length : Int))) (p := decide (s7.1 < 24)) (q := false) rfl rfl (fun hb => by first | (rw [hb] at hq19; cases hq19; done) | exact absurd hq19 (by rw [hb]; simp) | (simp_all; done)) (fun _ => rfl))
     refine ob_nil rfl ?_
     exact PureOk.op (p_pick (b := decide (s7.1 < (x0.length : Int))) (p := decide (s7.1 < 24)) (q := false) rfl rfl (fun _ => rfl) (fun _ => rfl))
    exact all_nil
   ·
    refine fin_base _ (base_nil rfl) ?_
    refine fin_one rfl rfl (fun _ => ?_)
    refine fin_nil ?_
    refine s_nil ?_
    refine x_then ?_
    refine s_cond rfl (fun hb20 => ?_) (fun hb20 => ?_)
    ·
     replace e10 := cond_t hb20 e10
     refine s_skip ?_
     refine x_then ?_
     refine s_seq ?_
     refine s_block ?_
     obtain ⟨x21, e22, e10⟩ := bind_some e10
     obtain ⟨r23, e24, e10⟩ := bind_some e10
     refine s_draw Try.mixed [⟨true, 15, [], Unit, fun _ => .pointer (some ⟨b3, 0, none⟩), fun _ => [], [], [], []⟩, ⟨true, 16, [0], Unit, fun _ => Hd.val y8, fun _ => [], [], [], []⟩, ⟨true, 17, [], Unit, fun _ => Hd.val h0_0, fun _ => [], [], [], []⟩, ⟨true, 18, [], Unit, fun _ => .int .i64 (s7.1), fun _ => [], [], [], []⟩, ⟨true, 19, [2, 3], Unit, fun _ => .pointer (some (pat h0_0 (s7.1.toNat * 1))), fun _ => [], [], [], []⟩, ⟨true, 20, [4], Unit, fun _ => .int .i64 (x21), fun _ => [], [], [], []⟩, ⟨true, 21, [5], Unit, fun (y25 : Unit) => .int .i64 (r23), fun _ => [], [], [], []⟩, ⟨true, 22, [6], Unit, fun _ => .int .u8 (IntKind.u8.wrap r23), fun _ => [], [], [], []⟩, ⟨true, 23, [7], Unit, fun _ => .agg (((tA 16 .u8).fill ((List.replicate 16 0).set 0 (IntKind.u8.wrap r23)) ())).toArray, fun _ => [], [], [], []⟩, ⟨true, 24, [8], Hd, fun (h26 : Hd) => Hd.val h26, fun h26 => [.own (tA 16 .u8) 52 27 [] [((List.replicate 16 0).set 0 (IntKind.u8.wrap r23))] h26], [], [], []⟩] [[], [0], [], [], [2, 3], [2, 3, 4], [2, 3, 4, 5], [2, 3, 4, 5, 6], [2, 3, 4, 5, 6, 7], [2, 3, 4, 5, 6, 7, 8], [0, 1, 2, 3, 4, 5, 6, 7, 8, 9], [0, 1, 2, 3, 4, 5, 6, 7, 8, 9, 10], [0, 1, 2, 3, 4, 5, 6, 7, 8, 9, 10, 11]] rfl rfl rfl rfl rfl ⟨.inl rfl, .inl rfl, .inl rfl, .inl rfl, .inl rfl, .inl rfl, .inl rfl, .inl rfl, .inl rfl, .inl rfl, trivial⟩ ?_ [1, 9] rfl rfl (fun us => ?_)
     ·
      refine all_cons _ (base_nil rfl) (dst_some rfl rfl) rfl rfl rfl rfl (gd_none rfl rfl) (fun _ => ?_) ?_
      ·
       refine ob_nil rfl ?_
       exact PureOk.op (p_fieldAddr (fo := 0) rfl Try.underlying25 rfl Try.ti23 rfl rfl rfl)
      refine all_cons _ (base_nil rfl) (dst_some rfl rfl) rfl rfl rfl rfl (gd_none rfl rfl) (fun _ => ?_) ?_
      ·
       refine ob_one rfl rfl (fun _ => ?_)
       refine ob_nil rfl ?_
       exact PureOk.op (p_load_box (v := Hd.val y8) 2 rfl rfl Try.underlying23 rfl rfl rfl)
      refine all_cons _ (base_nil rfl) (dst_some rfl rfl) rfl rfl rfl rfl (gd_none rfl rfl) (fun _ => ?_) ?_
      ·
       refine ob_nil rfl ?_
       exact PureOk.op (p_move (v := Hd.val h0_0) rfl rfl)
      refine all_cons _ (base_nil rfl) (dst_some rfl rfl) rfl rfl rfl rfl (gd_none rfl rfl) (fun _ => ?_) ?_
      ·
       refine ob_nil rfl ?_
       exact PureOk.op (p_move (v := .int .i64 (s7.1)) rfl rfl)
      refine all_cons _ (base_nil rfl) (dst_some rfl rfl) rfl rfl rfl rfl (gd_none rfl rfl) (fun _ => ?_) ?_
      ·
       refine ob_one rfl rfl (fun _ => ?_)
       refine ob_one rfl rfl (fun _ => ?_)
       refine ob_nil rfl ?_
       exact PureOk.op (p_idx (h := h0_0) (i := s7.1) (ty := (tI .i64)) (xs := x0) (v := x21) 3 rfl rfl Try.underlying22 Try.ti3 rfl rfl e22)
      refine all_cons _ (base_nil rfl) (dst_some rfl rfl) rfl rfl rfl rfl (gd_none rfl rfl) (fun _ => ?_) ?_
      ·
       refine ob_one rfl rfl (fun _ => ?_)
       refine ob_nil rfl ?_
       exact PureOk.op (p_load_at (X := s7.1.toNat * 1) (el_rep (ty := (tI .i64)) (xs := x0) (h := h0_0) (i := s7.1) (v := x21) (sz := 1) 3 rfl rfl e22) rfl Try.underlying3 rfl rfl)
      refine all_cons _ (base_nil rfl) (dst_some rfl rfl) rfl rfl rfl rfl (gd_none rfl rfl) (fun _ => ?_) ?_
      ·
       refine ob_one rfl rfl (fun _ => ?_)
       refine ob_nil rfl ?_
       exact ok_call (N := 15) (Φ := fun y25 => []) (culpritref01_Around_ok e24) rfl rfl rfl Try.func7 rfl Try.nm7 [] trivial (fun _ => rfl) (fun _ => rfl) rfl
      refine all_cons _ (base_nil rfl) (dst_some rfl rfl) rfl rfl rfl rfl (gd_none rfl rfl) (fun _ => ?_) ?_
      ·
       refine ob_one rfl rfl (fun y25 => ?_)
       refine ob_nil rfl ?_
       exact PureOk.op (p_conv rfl Try.underlying3 Try.underlying5 rfl)
      refine all_cons _ (base_nil rfl) (dst_some rfl rfl) rfl rfl rfl rfl (gd_none rfl rfl) (fun _ => ?_) ?_
      ·
       refine ob_one rfl rfl (fun _ => ?_)
       refine ob_nil rfl ?_
       exact PureOk.op (p_build_array (vals := [(0, [.int .u8 (IntKind.u8.wrap r23)])]) (cells := ((tA 16 .u8).fill ((List.replicate 16 0).set 0 (IntKind.u8.wrap r23)) ())) rfl Try.underlying52 Try.ti52 Try.ti5 rfl rfl)
      refine all_cons _ (base_nil rfl) (dst_some rfl rfl) rfl rfl rfl rfl (gd_none rfl rfl) (fun _ => ?_) ?_
      ·
       refine ob_one rfl rfl (fun _ => ?_)
       refine ob_nil rfl ?_
       exact ok_buildSlice (N := 27) (vals := [(0, ((tA 16 .u8).fill ((List.replicate 16 0).set 0 (IntKind.u8.wrap r23)) ()))]) (cells := ((tA 16 .u8).fill ((List.replicate 16 0).set 0 (IntKind.u8.wrap r23)) ())) (ty := (tA 16 .u8)) (K := []) (xs := [((List.replicate 16 0).set 0 (IntKind.u8.wrap r23))]) (ys := [()]) rfl Try.underlying23 Try.ti52 rfl rfl rfl rfl rfl rfl rfl rfl trivial rfl
      exact all_nil
     ·
      refine fin_base _ (base_nil rfl) ?_
      refine fin_one rfl rfl (fun _ => ?_)
      refine fin_one rfl rfl (fun h26 => ?_)
      refine fin_nil ?_
      obtain ⟨c37, e10⟩ := chk_some e10
      refine s_op (ok_append_p (ty := (tA 16 .u8)) (xs := s7.2) (ys := [((List.replicate 16 0).set 0 (IntKind.u8.wrap r23))]) (h := y8) (hx := h26) (K2 := [27]) rfl 5 0 rfl _ rfl (weak_own rfl) rfl Try.underlying23 Try.ti52 rfl rfl rfl rfl rfl c37 rfl rfl) rfl rfl rfl rfl (fun h38 => ?_)
      refine s_pure (p_fieldAddr (fo := 0) rfl Try.underlying25 rfl Try.ti23 rfl rfl rfl) rfl rfl rfl ?_
      refine s_opn (ok_store_box (v := Hd.val h38) (vs := [Hd.val h38]) (cs' := [Hd.val h38]) 4 rfl rfl Try.ti23 rfl rfl rfl rfl rfl rfl rfl) rfl rfl rfl (fun _ => ?_)
      refine s_nil ?_
      refine x_block ?_
      refine x_then ?_
      refine s_region ?_
      refine s_pure (p_move (v := .int .i64 (s7.1)) rfl rfl) rfl rfl rfl ?_
      refine s_pure (p_add rfl rfl rfl) rfl rfl rfl ?_
      refine s_pure (p_assign (v := .int .i64 (w64 (s7.1 + 1))) rfl rfl) rfl rfl rfl ?_
      refine s_nil ?_
      exact x_next h38 e10 [(13, 13), (14, 14), (501, 501)] 2 rfl ⟨rfl, rfl, rfl, rfl, trivial⟩ ⟨.inl ⟨3, _, rfl, weak_same⟩, .inl ⟨4, _, rfl, weak_same⟩, .inl ⟨0, _, rfl, weak_same⟩, .inl ⟨5, _, rfl, weak_rep rfl⟩, .inl ⟨1, _, rfl, weak_slim rfl⟩, trivial⟩
    ·
     replace e10 := cond_f hb20 e10
     refine s_exit ?_
     refine x_then_exit ?_
     refine x_out e10 (fun e39 => ?_)
     subst e39
     refine x_block_exit ?_
     exact x_join y8 [(13, 13), (14, 14), (501, 501)] 2 rfl ⟨rfl, rfl, trivial⟩ ⟨.inl ⟨0, _, rfl, weak_same⟩, .inl ⟨1, _, rfl, weak_same⟩, .inl ⟨2, _, rfl, weak_same⟩, .inl ⟨4, _, rfl, weak_slim rfl⟩, trivial⟩
  ·
   intro y6 ρ'
   refine s_seq ?_
   refine s_region ?_
   refine s_pure (p_loadN_box (cs' := [Hd.val y6]) 2 rfl rfl Try.underlying25 rfl Try.ti25 rfl rfl rfl) rfl rfl rfl ?_
   refine s_opn (ok_store_box (v := .agg ([Hd.val y6]).toArray) (vs := [Hd.val y6]) (cs' := [Hd.val y6]) 1 rfl rfl Try.ti25 rfl rfl rfl rfl rfl rfl rfl) rfl rfl rfl (fun _ => ?_)
   refine s_nil ?_
   refine x_then ?_
   refine s_ret ?_
   replace hF := some_inj hF
   subst hF
   exact x_ret y6 (res_one rfl (ra_cellN (cs := [Hd.val y6]) 0 rfl Try.underlying25 rfl Try.ti25 rfl rfl)) rfl 1 rfl [(501, 2)] 2 rfl ⟨.inl ⟨3, _, rfl, weak_slim rfl⟩, trivial⟩

theorem culpritlaw32_own_ok {x0 : ((List (List Int)))} {h0_0 : Hd} {r : ((List (List Int)))} (hF : culpritlaw32_own x0 = some r) : ∀ (w : World) (S : Nat → Prop), Heap w (oldc S) [.rep (tA 16 .u8) [1] x0 h0_0] → Calls Try.prog 8 #[.agg ([Hd.val h0_0]).toArray] w (Post w S (fun (y4 : Hd) => .agg ([Hd.val y4]).toArray) (fun (y4 : Hd) => [.rep (tA 16 .u8) [1] r y4])) := by
  intro w S hL
  refine s_enter (n := 6) Try.func8 rfl rfl _ rfl hL ?_
  refine s_seq ?_
  refine s_region ?_
  refine s_op0 (ok_box (N := 11) (v := .agg ([Hd.val h0_0]).toArray) (cs := [Hd.val h0_0]) rfl rfl rfl rfl) rfl rfl rfl (fun b1 => ?_)
  refine s_nilrow (tA 16 .u8) 52 13 [] ?_
  refine s_op0 (ok_alloc (N := 14) (cs := [Hd.val (nilH 52)]) rfl Try.ti30 rfl rfl) rfl rfl rfl (fun b3 => ?_)
  refine s_nil ?_
  refine x_then ?_
  refine s_seq ?_
  refine s_region ?_
  refine s_pure (p_fieldAddr (fo := 0) rfl Try.underlying25 rfl Try.ti23 rfl rfl rfl) rfl rfl rfl ?_
  refine s_pure (p_load_box (v := Hd.val h0_0) 2 rfl rfl Try.underlying23 rfl rfl rfl) rfl rfl rfl ?_
  refine s_pure (p_build_struct (vals := [(0, [Hd.val h0_0])]) (places := [(0, 1)]) (cells := [Hd.val h0_0]) rfl Try.underlying30 Try.ti30 (⟨rfl, ⟨_, _, Try.ti23⟩, trivial⟩) rfl rfl) rfl rfl rfl ?_
  refine s_opn (ok_store_box (v := .agg ([Hd.val h0_0]).toArray) (vs := [Hd.val h0_0]) (cs' := [Hd.val h0_0]) 0 rfl rfl Try.ti30 rfl rfl rfl rfl rfl rfl rfl) rfl rfl rfl (fun _ => ?_)
  refine s_nil ?_
  refine x_then ?_
  refine s_ret ?_
  replace hF := some_inj hF
  subst hF
  exact x_ret h0_0 (res_one rfl (ra_cellN (cs := [Hd.val h0_0]) 0 rfl Try.underlying30 rfl Try.ti30 rfl rfl)) rfl 3 rfl [] 2 rfl ⟨.inl ⟨4, _, rfl, weak_rep rfl⟩, trivial⟩

theorem culpritlaw32_game_ok {x0 : (Int × Int × (List Int))} {h0_0 : Hd} {r : (Int × Int × (List Int))} (hF : culpritlaw32_game x0 = some r) : ∀ (w : World) (S : Nat → Prop), Heap w (oldc S) [.rep (tI .i64) [1] x0.2.2 h0_0] → Calls Try.prog 14 #[.agg ([.int .i64 (x0.1), .int .i64 (x0.2.1), Hd.val h0_0]).toArray] w (Post w S (fun (y4 : Hd) => .agg ([.int .i64 (r.1), .int .i64 (r.2.1), Hd.val y4]).toArray) (fun (y4 : Hd) => [.rep (tI .i64) [1] r.2.2 y4])) := by
  intro w S hL
  refine s_enter (n := 10) Try.func14 rfl rfl _ rfl hL ?_
  refine s_seq ?_
  refine s_region ?_
  refine s_op0 (ok_box (N := 11) (v := .agg ([.int .i64 (x0.1), .int .i64 (x0.2.1), Hd.val h0_0]).toArray) (cs := [.int .i64 (x0.1), .int .i64 (x0.2.1), Hd.val h0_0]) rfl rfl rfl rfl) rfl rfl rfl (fun b1 => ?_)
  refine s_nilrow (tI .i64) 3 13 [] ?_
  refine s_op0 (ok_alloc (N := 14) (cs := [.int .i64 (0), .int .i64 (0), Hd.val (nilH 3)]) rfl Try.ti37 rfl rfl) rfl rfl rfl (fun b3 => ?_)
  refine s_nil ?_
  refine x_then ?_
  refine s_seq ?_
  refine s_region ?_
  refine s_pure (p_fieldAddr (fo := 0) rfl Try.underlying33 rfl Try.ti3 rfl rfl rfl) rfl rfl rfl ?_
  refine s_pure (p_load_box (v := .int .i64 (x0.1)) 2 rfl rfl Try.underlying3 rfl rfl rfl) rfl rfl rfl ?_
  refine s_pure (p_fieldAddr (fo := 1) rfl Try.underlying33 rfl Try.ti3 rfl rfl rfl) rfl rfl rfl ?_
  refine s_pure (p_load_box (v := .int .i64 (x0.2.1)) 2 rfl rfl Try.underlying3 rfl rfl rfl) rfl rfl rfl ?_
  refine s_pure (p_fieldAddr (fo := 2) rfl Try.underlying33 rfl Try.ti22 rfl rfl rfl) rfl rfl rfl ?_
  refine s_pure (p_load_box (v := Hd.val h0_0) 2 rfl rfl Try.underlying22 rfl rfl rfl) rfl rfl rfl ?_
  refine s_pure (p_build_struct (vals := [(0, [.int .i64 (x0.1)]), (1, [.int .i64 (x0.2.1)]), (2, [Hd.val h0_0])]) (places := [(0, 1), (1, 1), (2, 1)]) (cells := [.int .i64 (x0.1), .int .i64 (x0.2.1), Hd.val h0_0]) rfl Try.underlying37 Try.ti37 (⟨rfl, ⟨_, _, Try.ti3⟩, ⟨rfl, ⟨_, _, Try.ti3⟩, ⟨rfl, ⟨_, _, Try.ti22⟩, trivial⟩⟩⟩) rfl rfl) rfl rfl rfl ?_
  refine s_opn (ok_store_box (v := .agg ([.int .i64 (x0.1), .int .i64 (x0.2.1), Hd.val h0_0]).toArray) (vs := [.int .i64 (x0.1), .int .i64 (x0.2.1), Hd.val h0_0]) (cs' := [.int .i64 (x0.1), .int .i64 (x0.2.1), Hd.val h0_0]) 0 rfl rfl Try.ti37 rfl rfl rfl rfl rfl rfl rfl) rfl rfl rfl (fun _ => ?_)
  refine s_nil ?_
  refine x_then ?_
  refine s_ret ?_
  replace hF := some_inj hF
  subst hF
  exact x_ret h0_0 (res_one rfl (ra_cellN (cs := [.int .i64 (x0.1), .int .i64 (x0.2.1), Hd.val h0_0]) 0 rfl Try.underlying37 rfl Try.ti37 rfl rfl)) rfl 3 rfl [] 2 rfl ⟨.inl ⟨4, _, rfl, weak_rep rfl⟩, trivial⟩

theorem dispute_long_ok {x0 : ((List (List Int)))} {x1 : ((List (List Int)))} {h0_0 : Hd} {h1_0 : Hd} {r : Bool} (hF : dispute_long x0 x1 = some r) : ∀ (w : World) (S : Nat → Prop), Heap w (oldc S) [.rep (tA 16 .u8) [1] x0 h0_0, .rep (tA 16 .u8) [1] x1 h1_0] → Calls Try.prog 22 #[.agg ([Hd.val h0_0]).toArray, .agg ([Hd.val h1_0]).toArray] w (Post w S (fun (_ : Unit) => .bool (r)) (fun (_ : Unit) => [])) := by
  intro w S hL
  refine s_enter (n := 13) Try.func22 rfl rfl _ rfl hL ?_
  refine s_seq ?_
  refine s_region ?_
  refine s_op0 (ok_box (N := 11) (v := .agg ([Hd.val h0_0]).toArray) (cs := [Hd.val h0_0]) rfl rfl rfl rfl) rfl rfl rfl (fun b1 => ?_)
  refine s_op0 (ok_box (N := 12) (v := .agg ([Hd.val h1_0]).toArray) (cs := [Hd.val h1_0]) rfl rfl rfl rfl) rfl rfl rfl (fun b2 => ?_)
  refine s_pure (p_assign (v := .bool (false)) rfl rfl) rfl rfl rfl ?_
  refine s_nil ?_
  refine x_then ?_
  refine s_seq ?_
  refine s_region ?_
  refine s_pure (p_fieldAddr (fo := 0) rfl Try.underlying30 rfl Try.ti23 rfl rfl rfl) rfl rfl rfl ?_
  refine s_pure (p_load_box (v := Hd.val h0_0) 1 rfl rfl Try.underlying23 rfl rfl rfl) rfl rfl rfl ?_
  refine s_pure (p_len_rep (ty := (tA 16 .u8)) (xs := x0) (h := h0_0) 3 rfl rfl Try.underlying23 rfl) rfl rfl rfl ?_
  refine s_pure (p_fieldAddr (fo := 0) rfl Try.underlying30 rfl Try.ti23 rfl rfl rfl) rfl rfl rfl ?_
  refine s_pure (p_load_box (v := Hd.val h1_0) 0 rfl rfl Try.underlying23 rfl rfl rfl) rfl rfl rfl ?_
  refine s_pure (p_len_rep (ty := (tA 16 .u8)) (xs := x1) (h := h1_0) 4 rfl rfl Try.underlying23 rfl) rfl rfl rfl ?_
  refine s_pure (p_max rfl rfl rfl) rfl rfl rfl ?_
  refine s_pure (p_gtr rfl rfl rfl) rfl rfl rfl ?_
  refine s_pure (p_assign (v := .bool (decide (1000 < (if (x1.length : Int) > (x0.length : Int) then (x1.length : Int) else (x0.length : Int))))) rfl rfl) rfl rfl rfl ?_
  refine s_nil ?_
  refine x_then ?_
  refine s_ret ?_
  replace hF := some_inj hF
  subst hF
  exact x_ret () (res_one rfl (ra_tmp (v := .bool (decide (1000 < (if (x1.length : Int) > (x0.length : Int) then (x1.length : Int) else (x0.length : Int))))) rfl)) rfl 2 rfl [] 2 rfl trivial

theorem slices_Clone_int_int_ok {x0 : (List Int)} {h0_0 : Hd} {r : (List Int)} (hF : slices_Clone_int_int x0 = some r) : ∀ (w : World) (S : Nat → Prop), Heap w (oldc S) [.rep (tI .i64) [1] x0 h0_0] → Calls Try.prog 28 #[Hd.val h0_0] w (Post w S (fun (y6 : Hd) => Hd.val y6) (fun (y6 : Hd) => [.own (tI .i64) 3 2 [] r y6])) := by
  intro w S hL
  refine s_enter (n := 8) Try.func28 rfl rfl _ rfl hL ?_
  refine s_seq ?_
  refine s_region ?_
  refine s_nilrow (tI .i64) 3 11 [] ?_
  refine s_pure (p_assign (v := Hd.val (nilH 3)) rfl rfl) rfl rfl rfl ?_
  refine s_nil ?_
  refine x_then ?_
  refine s_seq ?_
  refine s_seq ?_
  refine s_region ?_
  refine s_pure (p_move (v := Hd.val h0_0) rfl rfl) rfl rfl rfl ?_
  refine s_pure (p_eqnil (h := h0_0) rfl Try.underlying22 rfl rfl) rfl rfl rfl ?_
  refine s_nil ?_
  refine x_then ?_
  refine s_cond rfl (fun hb1 => ?_) (fun hb1 => ?_)
  ·
   refine nil_data (ty := (tI .i64)) (xs := x0) (h := h0_0) 2 rfl hb1 (fun hn2 => ?_)
   rw [hn2] at hF
   replace hF : ((some ([] : List Int)) : Option _) = _ := hF
   refine s_seq ?_
   refine s_region ?_
   refine s_pure (p_assign (v := Hd.val (nilH 3)) rfl rfl) rfl rfl rfl ?_
   refine s_nil ?_
   refine x_then ?_
   refine s_ret ?_
   refine x_then_ret ?_
   replace hF := some_inj hF
   subst hF
   exact x_ret (nilH 3) (res_one rfl (ra_tmp (v := Hd.val (nilH 3)) rfl)) rfl 1 rfl [] 2 rfl ⟨.inr free_own, trivial⟩
  ·
   refine s_skip ?_
   refine x_then ?_
   refine s_seq ?_
   refine s_region ?_
   refine s_op0 (ok_buildSlice0 (N := 12) (ty := (tI .i64)) (K := []) rfl Try.underlying22 Try.ti3 rfl rfl) rfl rfl rfl (fun h3 => ?_)
   refine s_pure (p_move (v := Hd.val h0_0) rfl rfl) rfl rfl rfl ?_
   obtain ⟨c4, hF⟩ := chk_some hF
   refine s_op (ok_append_p (ty := (tI .i64)) (xs := ([] : List Int)) (ys := x0) (h := h3) (hx := h0_0) (K2 := [1]) rfl 0 3 rfl _ rfl (weak_same) rfl Try.underlying22 Try.ti3 rfl rfl rfl rfl rfl c4 rfl rfl) rfl rfl rfl rfl (fun h5 => ?_)
   refine s_pure (p_assign (v := Hd.val h5) rfl rfl) rfl rfl rfl ?_
   refine s_nil ?_
   refine x_then ?_
   refine s_ret ?_
   replace hF := some_inj hF
   subst hF
   exact x_ret h5 (res_one rfl (ra_tmp (v := Hd.val h5) rfl)) rfl 2 rfl [(12, 2)] 2 rfl ⟨.inl ⟨0, _, rfl, weak_slim rfl⟩, trivial⟩

theorem culpritref32_Says_ok {x0 : ((List (List Int)))} {x1 : Int} {h0_0 : Hd} {r : ((List Int) × Bool)} (hF : culpritref32_Says x0 x1 = some r) : ∀ (w : World) (S : Nat → Prop), Heap w (oldc S) [.rep (tA 16 .u8) [1] x0 h0_0] → Calls Try.prog 32 #[.agg ([Hd.val h0_0]).toArray, .int .i64 (x1)] w (Post w S (fun (_ : Unit) => .tuple #[.agg (((tA 16 .u8).fill r.1 ())).toArray, .bool (r.2)]) (fun (_ : Unit) => [])) := by
  intro w S hL
  refine s_enter (n := 21) Try.func32 rfl rfl _ rfl hL ?_
  refine s_seq ?_
  refine s_region ?_
  refine s_op0 (ok_box (N := 11) (v := .agg ([Hd.val h0_0]).toArray) (cs := [Hd.val h0_0]) rfl rfl rfl rfl) rfl rfl rfl (fun b1 => ?_)
  refine s_op0 (ok_alloc (N := 12) (cs := ((tA 16 .u8).fill (List.replicate 16 0) ())) rfl Try.ti52 rfl rfl) rfl rfl rfl (fun b2 => ?_)
  refine s_pure (p_assign (v := .bool (false)) rfl rfl) rfl rfl rfl ?_
  refine s_nil ?_
  refine x_then ?_
  refine s_seq ?_
  refine s_seq ?_
  refine s_text Try.mixed [⟨true, 6, [], Unit, fun _ => .int .i64 (x1), fun _ => [], [], [], []⟩, ⟨true, 7, [0], Unit, fun _ => .bool (decide (x1 < 0)), fun _ => [], [], [], []⟩, ⟨true, 8, [1], Unit, fun _ => .bool (decide (x1 < 0)), fun _ => [], [], [], []⟩, ⟨!(decide (x1 < 0)), 9, [], Unit, fun _ => .int .i64 (x1), fun _ => [], [], [], []⟩, ⟨!(decide (x1 < 0)), 10, [], Unit, fun _ => .pointer (some ⟨b1, 0, none⟩), fun _ => [], [], [], []⟩, ⟨!(decide (x1 < 0)), 11, [4], Unit, fun _ => Hd.val h0_0, fun _ => [], [], [], []⟩, ⟨!(decide (x1 < 0)), 12, [5], Unit, fun _ => .int .i64 ((x0.length : Int)), fun _ => [], [], [], []⟩, ⟨!(decide (x1 < 0)), 13, [3, 6], Unit, fun _ => .bool (decide ((x0.length : Int) ≤ x1)), fun _ => [], [], [], []⟩, ⟨true, 14, [2, 7], Unit, fun _ => .bool (bif decide (x1 < 0) then true else decide ((x0.length : Int) ≤ x1)), fun _ => [], [], [], []⟩] [[], [0], [0, 1], [0, 1, 2], [0, 1, 2], [0, 1, 2, 4], [0, 1, 2, 4, 5], [0, 1, 2, 3, 4, 5, 6], [0, 1, 2, 3, 4, 5, 6, 7]] rfl rfl rfl rfl rfl ⟨.inl rfl, .inl rfl, .inl rfl, .inl rfl, .inl rfl, .inl rfl, .inl rfl, .inl rfl, .inl rfl, trivial⟩ ?_ [8] rfl rfl (fun us => ?_)
  ·
   refine all_cons _ (base_nil rfl) (dst_some rfl rfl) rfl rfl rfl rfl (gd_none rfl rfl) (fun _ => ?_) ?_
   ·
    refine ob_nil rfl ?_
    exact PureOk.op (p_move (v := .int .i64 (x1)) rfl rfl)
   refine all_cons _ (base_nil rfl) (dst_some rfl rfl) rfl rfl rfl rfl (gd_none rfl rfl) (fun _ => ?_) ?_
   ·
    refine ob_one rfl rfl (fun _ => ?_)
    refine ob_nil rfl ?_
    exact PureOk.op (p_lss rfl rfl rfl)
   refine all_cons _ (base_nil rfl) (dst_some rfl rfl) rfl rfl rfl rfl (gd_none rfl rfl) (fun _ => ?_) ?_
   ·
    refine ob_one rfl rfl (fun _ => ?_)
    refine ob_nil rfl ?_
    exact PureOk.op (p_move (v := .bool (decide (x1 < 0))) rfl rfl)
   refine all_cons _ (base_nil rfl) (dst_some rfl rfl) rfl rfl rfl rfl (gd_some (e := ⟨true, 8, [1], Unit, fun _ => .bool (decide (x1 < 0)), fun _ => [], [], [], []⟩) (decide (x1 < 0)) rfl rfl rfl rfl (fun _ => rfl) (gd_f _)) (fun hx6 => ?_) ?_
   ·
    replace hx6 : (!(decide (x1 < 0))) = true := hx6
    refine ob_nil rfl ?_
    exact PureOk.op (p_move (v := .int .i64 (x1)) rfl rfl)
   refine all_cons _ (base_nil rfl) (dst_some rfl rfl) rfl rfl rfl rfl (gd_some (e := ⟨true, 8, [1], Unit, fun _ => .bool (decide (x1 < 0)), fun _ => [], [], [], []⟩) (decide (x1 < 0)) rfl rfl rfl rfl (fun _ => rfl) (gd_f _)) (fun hx7 => ?_) ?_
   ·
    replace hx7 : (!(decide (x1 < 0))) = true := hx7
    refine ob_nil rfl ?_
    exact PureOk.op (p_fieldAddr (fo := 0) rfl Try.underlying25 rfl Try.ti23 rfl rfl rfl)
   refine all_cons _ (base_nil rfl) (dst_some rfl rfl) rfl rfl rfl rfl (gd_some (e := ⟨true, 8, [1], Unit, fun _ => .bool (decide (x1 < 0)), fun _ => [], [], [], []⟩) (decide (x1 < 0)) rfl rfl rfl rfl (fun _ => rfl) (gd_f _)) (fun hx8 => ?_) ?_
   ·
    replace hx8 : (!(decide (x1 < 0))) = true := hx8
    refine ob_two rfl (fun _ _ => ?_) (fun hn => clash hx8 hn)
    refine ob_nil rfl ?_
    exact PureOk.op (p_load_box (v := Hd.val h0_0) 1 rfl rfl Try.underlying23 rfl rfl rfl)
   refine all_cons _ (base_nil rfl) (dst_some rfl rfl) rfl rfl rfl rfl (gd_some (e := ⟨true, 8, [1], Unit, fun _ => .bool (decide (x1 < 0)), fun _ => [], [], [], []⟩) (decide (x1 < 0)) rfl rfl rfl rfl (fun _ => rfl) (gd_f _)) (fun hx9 => ?_) ?_
   ·
    replace hx9 : (!(decide (x1 < 0))) = true := hx9
    refine ob_two rfl (fun _ _ => ?_) (fun hn => clash hx9 hn)
    refine ob_nil rfl ?_
    exact PureOk.op (p_len_rep (ty := (tA 16 .u8)) (xs := x0) (h := h0_0) 3 rfl rfl Try.underlying23 rfl)
   refine all_cons _ (base_nil rfl) (dst_some rfl rfl) rfl rfl rfl rfl (gd_some (e := ⟨true, 8, [1], Unit, fun _ => .bool (decide (x1 < 0)), fun _ => [], [], [], []⟩) (decide (x1 < 0)) rfl rfl rfl rfl (fun _ => rfl) (gd_f _)) (fun hx10 => ?_) ?_
   ·
    replace hx10 : (!(decide (x1 < 0))) = true := hx10
    refine ob_two rfl (fun _ _ => ?_) (fun hn => clash hx10 hn)
    refine ob_two rfl (fun _ _ => ?_) (fun hn => clash hx10 hn)
    refine ob_nil rfl ?_
    exact PureOk.op (p_geq rfl rfl rfl)
   refine all_cons _ (base_nil rfl) (dst_some rfl rfl) rfl rfl rfl rfl (gd_none rfl rfl) (fun _ => ?_) ?_
   ·
    refine ob_one rfl rfl (fun _ => ?_)
    refine ob_two rfl (fun hq12 _ => ?_) (fun hq12 => ?_)
    rotate_left
    ·
     replace hq12 : (!(decide (x1 < 0))) = false := hq12
     refine ob_nil rfl ?_
     exact PureOk.op (p_pick (b := decide (x1 < 0)) (p := true) (q := decide ((x0.length : Int) ≤ x1)) rfl rfl (fun _ => rfl) (fun hb => by first | (rw [hb] at hq12; cases hq12; done) | exact absurd hq12 (by rw [hb]; simp) | (simp_all; done)))
    refine ob_nil rfl ?_
    exact PureOk.op (p_pick (b := decide (x1 < 0)) (p := true) (q := decide ((x0.length : Int) ≤ x1)) rfl rfl (fun _ => rfl) (fun _ => rfl))
   exact all_nil
  ·
   refine fin_base _ (base_nil rfl) ?_
   refine fin_one rfl rfl (fun _ => ?_)
   refine fin_nil ?_
   refine s_nil ?_
   refine x_then ?_
   refine s_cond rfl (fun hb13 => ?_) (fun hb13 => ?_)
   ·
    replace hF := cond_t hb13 hF
    refine s_seq ?_
    refine s_region ?_
    refine s_pure (p_build_array (vals := []) (cells := ((tA 16 .u8).fill (List.replicate 16 0) ())) rfl Try.underlying52 Try.ti52 Try.ti5 rfl rfl) rfl rfl rfl ?_
    refine s_opn (ok_store_box (v := .agg (((tA 16 .u8).fill (List.replicate 16 0) ())).toArray) (vs := ((tA 16 .u8).fill (List.replicate 16 0) ())) (cs' := ((tA 16 .u8).fill (List.replicate 16 0) ())) 0 rfl rfl Try.ti52 rfl rfl rfl rfl rfl rfl rfl) rfl rfl rfl (fun _ => ?_)
    refine s_pure (p_assign (v := .bool (false)) rfl rfl) rfl rfl rfl ?_
    refine s_nil ?_
    refine x_then ?_
    refine s_ret ?_
    refine x_then_ret ?_
    replace hF := some_inj hF
    subst hF
    exact x_ret () (res_many (rs := [.cell 4 52, .tmp 5]) (vs := [.agg (((tA 16 .u8).fill (List.replicate 16 0) ())).toArray, .bool (false)]) rfl ⟨ra_cellN (cs := ((tA 16 .u8).fill (List.replicate 16 0) ())) 0 rfl Try.underlying52 rfl Try.ti52 rfl rfl, ra_tmp (v := .bool (false)) rfl, trivial⟩ rfl) rfl 2 rfl [] 2 rfl trivial
   ·
    replace hF := cond_f hb13 hF
    refine s_skip ?_
    refine x_then ?_
    refine s_seq ?_
    refine s_region ?_
    refine s_pure (p_fieldAddr (fo := 0) rfl Try.underlying25 rfl Try.ti23 rfl rfl rfl) rfl rfl rfl ?_
    refine s_pure (p_load_box (v := Hd.val h0_0) 1 rfl rfl Try.underlying23 rfl rfl rfl) rfl rfl rfl ?_
    refine s_pure (p_move (v := .int .i64 (x1)) rfl rfl) rfl rfl rfl ?_
    obtain ⟨x14, e15, hF⟩ := bind_some hF
    refine s_pure (p_idx (h := h0_0) (i := x1) (ty := (tA 16 .u8)) (xs := x0) (v := x14) 3 rfl rfl Try.underlying23 Try.ti52 rfl rfl e15) rfl rfl rfl ?_
    refine s_pure (p_loadA_at (X := x1.toNat * 16) (el_rep (ty := (tA 16 .u8)) (xs := x0) (h := h0_0) (i := x1) (v := x14) (sz := 16) 3 rfl rfl e15) rfl Try.underlying52 rfl Try.ti52 rfl rfl) rfl rfl rfl ?_
    refine s_opn (ok_store_box (v := .agg (((tA 16 .u8).fill x14 ())).toArray) (vs := ((tA 16 .u8).fill x14 ())) (cs' := ((tA 16 .u8).fill x14 ())) 0 rfl rfl Try.ti52 rfl rfl rfl rfl rfl rfl rfl) rfl rfl rfl (fun _ => ?_)
    refine s_pure (p_assign (v := .bool (true)) rfl rfl) rfl rfl rfl ?_
    refine s_nil ?_
    refine x_then ?_
    refine s_ret ?_
    replace hF := some_inj hF
    subst hF
    exact x_ret () (res_many (rs := [.cell 4 52, .tmp 5]) (vs := [.agg (((tA 16 .u8).fill x14 ())).toArray, .bool (true)]) rfl ⟨ra_cellN (cs := ((tA 16 .u8).fill x14 ())) 0 rfl Try.underlying52 rfl Try.ti52 rfl rfl, ra_tmp (v := .bool (true)) rfl, trivial⟩ rfl) rfl 2 rfl [] 2 rfl trivial

theorem culpritref32_Same_ok {x0 : ((List (List Int)))} {x1 : ((List (List Int)))} {x2 : Int} {h0_0 : Hd} {h1_0 : Hd} {r : Bool} (hF : culpritref32_Same x0 x1 x2 = some r) : ∀ (w : World) (S : Nat → Prop), Heap w (oldc S) [.rep (tA 16 .u8) [1] x0 h0_0, .rep (tA 16 .u8) [1] x1 h1_0] → Calls Try.prog 25 #[.agg ([Hd.val h0_0]).toArray, .agg ([Hd.val h1_0]).toArray, .int .i64 (x2)] w (Post w S (fun (_ : Unit) => .bool (r)) (fun (_ : Unit) => [])) := by
  intro w S hL
  refine s_enter (n := 31) Try.func25 rfl rfl _ rfl hL ?_
  refine s_seq ?_
  refine s_region ?_
  refine s_op0 (ok_box (N := 11) (v := .agg ([Hd.val h0_0]).toArray) (cs := [Hd.val h0_0]) rfl rfl rfl rfl) rfl rfl rfl (fun b1 => ?_)
  refine s_op0 (ok_box (N := 12) (v := .agg ([Hd.val h1_0]).toArray) (cs := [Hd.val h1_0]) rfl rfl rfl rfl) rfl rfl rfl (fun b2 => ?_)
  refine s_pure (p_assign (v := .bool (false)) rfl rfl) rfl rfl rfl ?_
  refine s_nil ?_
  refine x_then ?_
  refine s_seq ?_
  refine s_region ?_
  refine s_pure (p_loadN_box (cs' := [Hd.val h0_0]) 1 rfl rfl Try.underlying25 rfl Try.ti25 rfl rfl rfl) rfl rfl rfl ?_
  refine s_pure (p_move (v := .int .i64 (x2)) rfl rfl) rfl rfl rfl ?_
  obtain ⟨r3, e4, hF⟩ := bind_some hF
  refine s_op0 (ok_call (N := 13) (Φ := fun y5 => []) (culpritref32_Says_ok e4) rfl rfl rfl Try.func32 rfl Try.nm32 [1] ⟨.inl ⟨3, _, rfl, cov_rep rfl⟩, trivial⟩ (fun _ => rfl) (fun _ => rfl) rfl) rfl rfl rfl (fun y5 => ?_)
  refine s_pure (p_move (v := .tuple #[.agg (((tA 16 .u8).fill r3.1 ())).toArray, .bool (r3.2)]) rfl rfl) rfl rfl rfl ?_
  refine s_pure (p_extract (v := .agg (((tA 16 .u8).fill r3.1 ())).toArray) rfl rfl rfl) rfl rfl rfl ?_
  refine s_pure (p_extract (v := .bool (r3.2)) rfl rfl rfl) rfl rfl rfl ?_
  refine s_op0 (ok_alloc (N := 25) (cs := ((tA 16 .u8).fill (List.replicate 16 0) ())) rfl Try.ti52 rfl rfl) rfl rfl rfl (fun b6 => ?_)
  refine s_opn (ok_store_box (v := .agg (((tA 16 .u8).fill r3.1 ())).toArray) (vs := ((tA 16 .u8).fill r3.1 ())) (cs' := ((tA 16 .u8).fill r3.1 ())) 0 rfl rfl Try.ti52 rfl rfl rfl rfl rfl rfl rfl) rfl rfl rfl (fun _ => ?_)
  refine s_pure (p_assign (v := .bool (r3.2)) rfl rfl) rfl rfl rfl ?_
  refine s_nil ?_
  refine x_then ?_
  refine s_seq ?_
  refine s_region ?_
  refine s_pure (p_loadN_box (cs' := [Hd.val h1_0]) 1 rfl rfl Try.underlying25 rfl Try.ti25 rfl rfl rfl) rfl rfl rfl ?_
  refine s_pure (p_move (v := .int .i64 (x2)) rfl rfl) rfl rfl rfl ?_
  obtain ⟨r7, e8, hF⟩ := bind_some hF
  refine s_op0 (ok_call (N := 26) (Φ := fun y9 => []) (culpritref32_Says_ok e8) rfl rfl rfl Try.func32 rfl Try.nm32 [1] ⟨.inl ⟨5, _, rfl, cov_rep rfl⟩, trivial⟩ (fun _ => rfl) (fun _ => rfl) rfl) rfl rfl rfl (fun y9 => ?_)
  refine s_pure (p_move (v := .tuple #[.agg (((tA 16 .u8).fill r7.1 ())).toArray, .bool (r7.2)]) rfl rfl) rfl rfl rfl ?_
  refine s_pure (p_extract (v := .agg (((tA 16 .u8).fill r7.1 ())).toArray) rfl rfl rfl) rfl rfl rfl ?_
  refine s_pure (p_extract (v := .bool (r7.2)) rfl rfl rfl) rfl rfl rfl ?_
  refine s_op0 (ok_alloc (N := 38) (cs := ((tA 16 .u8).fill (List.replicate 16 0) ())) rfl Try.ti52 rfl rfl) rfl rfl rfl (fun b10 => ?_)
  refine s_opn (ok_store_box (v := .agg (((tA 16 .u8).fill r7.1 ())).toArray) (vs := ((tA 16 .u8).fill r7.1 ())) (cs' := ((tA 16 .u8).fill r7.1 ())) 0 rfl rfl Try.ti52 rfl rfl rfl rfl rfl rfl rfl) rfl rfl rfl (fun _ => ?_)
  refine s_pure (p_assign (v := .bool (r7.2)) rfl rfl) rfl rfl rfl ?_
  refine s_nil ?_
  refine x_then ?_
  refine s_seq ?_
  refine s_text Try.mixed [⟨true, 23, [], Unit, fun _ => .bool (r3.2), fun _ => [], [], [], []⟩, ⟨true, 24, [], Unit, fun _ => .bool (r7.2), fun _ => [], [], [], []⟩, ⟨true, 25, [0, 1], Unit, fun _ => .bool (r3.2 == r7.2), fun _ => [], [], [], []⟩, ⟨true, 26, [2], Unit, fun _ => .bool (r3.2 == r7.2), fun _ => [], [], [], []⟩, ⟨(r3.2 == r7.2), 27, [], Unit, fun _ => .agg (((tA 16 .u8).fill r3.1 ())).toArray, fun _ => [], [], [], []⟩, ⟨(r3.2 == r7.2), 28, [], Unit, fun _ => .agg (((tA 16 .u8).fill r7.1 ())).toArray, fun _ => [], [], [], []⟩, ⟨(r3.2 == r7.2), 29, [4, 5], Unit, fun _ => .bool (arrEq 16 r3.1 r7.1), fun _ => [], [], [], []⟩, ⟨true, 30, [3, 6], Unit, fun _ => .bool (bif r3.2 == r7.2 then arrEq 16 r3.1 r7.1 else false), fun _ => [], [], [], []⟩] [[], [], [0, 1], [0, 1, 2], [0, 1, 2, 3], [0, 1, 2, 3], [0, 1, 2, 3, 4, 5], [0, 1, 2, 3, 4, 5, 6], [0, 1, 2, 3, 4, 5, 6, 7]] rfl rfl rfl rfl rfl ⟨.inl rfl, .inl rfl, .inl rfl, .inl rfl, .inl rfl, .inl rfl, .inl rfl, .inl rfl, trivial⟩ ?_ [7] rfl rfl (fun us => ?_)
  ·
   refine all_cons _ (base_nil rfl) (dst_some rfl rfl) rfl rfl rfl rfl (gd_none rfl rfl) (fun _ => ?_) ?_
   ·
    refine ob_nil rfl ?_
    exact PureOk.op (p_move (v := .bool (r3.2)) rfl rfl)
   refine all_cons _ (base_nil rfl) (dst_some rfl rfl) rfl rfl rfl rfl (gd_none rfl rfl) (fun _ => ?_) ?_
   ·
    refine ob_nil rfl ?_
    exact PureOk.op (p_move (v := .bool (r7.2)) rfl rfl)
   refine all_cons _ (base_nil rfl) (dst_some rfl rfl) rfl rfl rfl rfl (gd_none rfl rfl) (fun _ => ?_) ?_
   ·
    refine ob_one rfl rfl (fun _ => ?_)
    refine ob_one rfl rfl (fun _ => ?_)
    refine ob_nil rfl ?_
    exact PureOk.op (p_eql_bool rfl Try.underlying4 rfl rfl)
   refine all_cons _ (base_nil rfl) (dst_some rfl rfl) rfl rfl rfl rfl (gd_none rfl rfl) (fun _ => ?_) ?_
   ·
    refine ob_one rfl rfl (fun _ => ?_)
    refine ob_nil rfl ?_
    exact PureOk.op (p_move (v := .bool (r3.2 == r7.2)) rfl rfl)
   refine all_cons _ (base_nil rfl) (dst_some rfl rfl) rfl rfl rfl rfl (gd_some (e := ⟨true, 26, [2], Unit, fun _ => .bool (r3.2 == r7.2), fun _ => [], [], [], []⟩) (r3.2 == r7.2) rfl rfl rfl rfl (fun _ => rfl) (gd_t _)) (fun hx15 => ?_) ?_
   ·
    replace hx15 : ((r3.2 == r7.2)) = true := hx15
    refine ob_nil rfl ?_
    exact PureOk.op (p_loadN_box (cs' := ((tA 16 .u8).fill r3.1 ())) 1 rfl rfl Try.underlying52 rfl Try.ti52 rfl rfl rfl)
   refine all_cons _ (base_nil rfl) (dst_some rfl rfl) rfl rfl rfl rfl (gd_some (e := ⟨true, 26, [2], Unit, fun _ => .bool (r3.2 == r7.2), fun _ => [], [], [], []⟩) (r3.2 == r7.2) rfl rfl rfl rfl (fun _ => rfl) (gd_t _)) (fun hx16 => ?_) ?_
   ·
    replace hx16 : ((r3.2 == r7.2)) = true := hx16
    refine ob_nil rfl ?_
    exact PureOk.op (p_loadN_box (cs' := ((tA 16 .u8).fill r7.1 ())) 0 rfl rfl Try.underlying52 rfl Try.ti52 rfl rfl rfl)
   refine all_cons _ (base_nil rfl) (dst_some rfl rfl) rfl rfl rfl rfl (gd_some (e := ⟨true, 26, [2], Unit, fun _ => .bool (r3.2 == r7.2), fun _ => [], [], [], []⟩) (r3.2 == r7.2) rfl rfl rfl rfl (fun _ => rfl) (gd_t _)) (fun hx17 => ?_) ?_
   ·
    replace hx17 : ((r3.2 == r7.2)) = true := hx17
    refine ob_two rfl (fun _ _ => ?_) (fun hn => clash hx17 hn)
    refine ob_two rfl (fun _ _ => ?_) (fun hn => clash hx17 hn)
    refine ob_nil rfl ?_
    exact PureOk.op (p_eql_arr (x := r3.1) (y := r7.1) rfl Try.underlying52 Try.underlying5 Try.ti5 Try.eqg52 rfl rfl)
   refine all_cons _ (base_nil rfl) (dst_some rfl rfl) rfl rfl rfl rfl (gd_none rfl rfl) (fun _ => ?_) ?_
   ·
    refine ob_one rfl rfl (fun _ => ?_)
    refine ob_two rfl (fun hq19 _ => ?_) (fun hq19 => ?_)
    rotate_left
    ·
     replace hq19 : ((r3.2 == r7.2)) = false := hq19
     refine ob_nil rfl ?_
     exact PureOk.op (p_pick (b := r3.2 == r7.2) (p := arrEq 16 r3.1 r7.1) (q := false) rfl rfl (fun hb => by first | (rw [hb] at hq19; cases hq19; done) | exact absurd hq19 (by rw [hb]; simp) | (simp_all; done)) (fun _ => rfl))
    refine ob_nil rfl ?_
    exact PureOk.op (p_pick (b := r3.2 == r7.2) (p := arrEq 16 r3.1 r7.1) (q := false) rfl rfl (fun _ => rfl) (fun _ => rfl))
   exact all_nil
  ·
   refine fin_base _ (base_nil rfl) ?_
   refine fin_one rfl rfl (fun _ => ?_)
   refine fin_nil ?_
   refine s_pure (p_assign (v := .bool (bif r3.2 == r7.2 then arrEq 16 r3.1 r7.1 else false)) rfl rfl) rfl rfl rfl ?_
   refine s_nil ?_
   refine x_then ?_
   refine s_ret ?_
   replace hF := some_inj hF
   subst hF
   exact x_ret () (res_one rfl (ra_tmp (v := .bool (bif r3.2 == r7.2 then arrEq 16 r3.1 r7.1 else false)) rfl)) rfl 4 rfl [] 2 rfl trivial

theorem culpritref32_both_ok {x0 : ((List (List Int)))} {x1 : ((List (List Int)))} {x2 : Int} {h0_0 : Hd} {h1_0 : Hd} {r : Bool} (hF : culpritref32_both x0 x1 x2 = some r) : ∀ (w : World) (S : Nat → Prop), Heap w (oldc S) [.rep (tA 16 .u8) [1] x0 h0_0, .rep (tA 16 .u8) [1] x1 h1_0] → Calls Try.prog 29 #[.agg ([Hd.val h0_0]).toArray, .agg ([Hd.val h1_0]).toArray, .int .i64 (x2)] w (Post w S (fun (_ : Unit) => .bool (r)) (fun (_ : Unit) => [])) := by
  intro w S hL
  refine s_enter (n := 22) Try.func29 rfl rfl _ rfl hL ?_
  refine s_seq ?_
  refine s_region ?_
  refine s_op0 (ok_box (N := 11) (v := .agg ([Hd.val h0_0]).toArray) (cs := [Hd.val h0_0]) rfl rfl rfl rfl) rfl rfl rfl (fun b1 => ?_)
  refine s_op0 (ok_box (N := 12) (v := .agg ([Hd.val h1_0]).toArray) (cs := [Hd.val h1_0]) rfl rfl rfl rfl) rfl rfl rfl (fun b2 => ?_)
  refine s_pure (p_assign (v := .bool (false)) rfl rfl) rfl rfl rfl ?_
  refine s_nil ?_
  refine x_then ?_
  refine s_seq ?_
  refine s_region ?_
  refine s_pure (p_loadN_box (cs' := [Hd.val h0_0]) 1 rfl rfl Try.underlying25 rfl Try.ti25 rfl rfl rfl) rfl rfl rfl ?_
  refine s_pure (p_move (v := .int .i64 (x2)) rfl rfl) rfl rfl rfl ?_
  obtain ⟨r3, e4, hF⟩ := bind_some hF
  refine s_op0 (ok_call (N := 13) (Φ := fun y5 => []) (culpritref32_Says_ok e4) rfl rfl rfl Try.func32 rfl Try.nm32 [1] ⟨.inl ⟨3, _, rfl, cov_rep rfl⟩, trivial⟩ (fun _ => rfl) (fun _ => rfl) rfl) rfl rfl rfl (fun y5 => ?_)
  refine s_pure (p_move (v := .tuple #[.agg (((tA 16 .u8).fill r3.1 ())).toArray, .bool (r3.2)]) rfl rfl) rfl rfl rfl ?_
  refine s_pure (p_extract (v := .agg (((tA 16 .u8).fill r3.1 ())).toArray) rfl rfl rfl) rfl rfl rfl ?_
  refine s_pure (p_extract (v := .bool (r3.2)) rfl rfl rfl) rfl rfl rfl ?_
  refine s_op0 (ok_alloc (N := 25) (cs := ((tA 16 .u8).fill (List.replicate 16 0) ())) rfl Try.ti52 rfl rfl) rfl rfl rfl (fun b6 => ?_)
  refine s_opn (ok_store_box (v := .agg (((tA 16 .u8).fill r3.1 ())).toArray) (vs := ((tA 16 .u8).fill r3.1 ())) (cs' := ((tA 16 .u8).fill r3.1 ())) 0 rfl rfl Try.ti52 rfl rfl rfl rfl rfl rfl rfl) rfl rfl rfl (fun _ => ?_)
  refine s_pure (p_assign (v := .bool (r3.2)) rfl rfl) rfl rfl rfl ?_
  refine s_nil ?_
  refine x_then ?_
  refine s_seq ?_
  obtain ⟨r7, e8, hF⟩ := bind_some hF
  refine s_text Try.mixed [⟨true, 15, [], Unit, fun _ => .bool (r3.2), fun _ => [], [], [], []⟩, ⟨true, 16, [0], Unit, fun _ => .bool (r3.2), fun _ => [], [], [], []⟩, ⟨r3.2, 17, [], Unit, fun _ => .agg ([Hd.val h0_0]).toArray, fun _ => [], [], [], []⟩, ⟨r3.2, 18, [], Unit, fun _ => .agg ([Hd.val h1_0]).toArray, fun _ => [], [], [], []⟩, ⟨r3.2, 19, [], Unit, fun _ => .int .i64 (x2), fun _ => [], [], [], []⟩, ⟨r3.2, 20, [2, 3, 4], Unit, fun (y9 : Unit) => .bool (r7), fun _ => [], [], [], []⟩, ⟨true, 21, [1, 5], Unit, fun _ => .bool (bif r3.2 then r7 else false), fun _ => [], [], [], []⟩] [[], [0], [0, 1], [0, 1], [0, 1], [0, 1, 2, 3, 4], [0, 1, 2, 3, 4, 5], [0, 1, 2, 3, 4, 5, 6]] rfl rfl rfl rfl rfl ⟨.inl rfl, .inl rfl, .inl rfl, .inl rfl, .inl rfl, .inl rfl, .inl rfl, trivial⟩ ?_ [6] rfl rfl (fun us => ?_)
  ·
   refine all_cons _ (base_nil rfl) (dst_some rfl rfl) rfl rfl rfl rfl (gd_none rfl rfl) (fun _ => ?_) ?_
   ·
    refine ob_nil rfl ?_
    exact PureOk.op (p_move (v := .bool (r3.2)) rfl rfl)
   refine all_cons _ (base_nil rfl) (dst_some rfl rfl) rfl rfl rfl rfl (gd_none rfl rfl) (fun _ => ?_) ?_
   ·
    refine ob_one rfl rfl (fun _ => ?_)
    refine ob_nil rfl ?_
    exact PureOk.op (p_move (v := .bool (r3.2)) rfl rfl)
   refine all_cons _ (base_nil rfl) (dst_some rfl rfl) rfl rfl rfl rfl (gd_some (e := ⟨true, 16, [0], Unit, fun _ => .bool (r3.2), fun _ => [], [], [], []⟩) (r3.2) rfl rfl rfl rfl (fun _ => rfl) (gd_t _)) (fun hx12 => ?_) ?_
   ·
    replace hx12 : (r3.2) = true := hx12
    refine ob_nil rfl ?_
    exact PureOk.op (p_loadN_box (cs' := [Hd.val h0_0]) 2 rfl rfl Try.underlying25 rfl Try.ti25 rfl rfl rfl)
   refine all_cons _ (base_nil rfl) (dst_some rfl rfl) rfl rfl rfl rfl (gd_some (e := ⟨true, 16, [0], Unit, fun _ => .bool (r3.2), fun _ => [], [], [], []⟩) (r3.2) rfl rfl rfl rfl (fun _ => rfl) (gd_t _)) (fun hx13 => ?_) ?_
   ·
    replace hx13 : (r3.2) = true := hx13
    refine ob_nil rfl ?_
    exact PureOk.op (p_loadN_box (cs' := [Hd.val h1_0]) 1 rfl rfl Try.underlying25 rfl Try.ti25 rfl rfl rfl)
   refine all_cons _ (base_nil rfl) (dst_some rfl rfl) rfl rfl rfl rfl (gd_some (e := ⟨true, 16, [0], Unit, fun _ => .bool (r3.2), fun _ => [], [], [], []⟩) (r3.2) rfl rfl rfl rfl (fun _ => rfl) (gd_t _)) (fun hx14 => ?_) ?_
   ·
    replace hx14 : (r3.2) = true := hx14
    refine ob_nil rfl ?_
    exact PureOk.op (p_move (v := .int .i64 (x2)) rfl rfl)
   refine all_cons _ (base_nil rfl) (dst_some rfl rfl) rfl rfl rfl rfl (gd_some (e := ⟨true, 16, [0], Unit, fun _ => .bool (r3.2), fun _ => [], [], [], []⟩) (r3.2) rfl rfl rfl rfl (fun _ => rfl) (gd_t _)) (fun hx15 => ?_) ?_
   ·
    replace hx15 : (r3.2) = true := hx15
    replace e8 := cond_t hx15 e8
    refine ob_two rfl (fun _ _ => ?_) (fun hn => clash hx15 hn)
    refine ob_two rfl (fun _ _ => ?_) (fun hn => clash hx15 hn)
    refine ob_two rfl (fun _ _ => ?_) (fun hn => clash hx15 hn)
    refine ob_nil rfl ?_
    exact ok_call (N := 26) (Φ := fun y9 => []) (culpritref32_Same_ok e8) rfl rfl rfl Try.func25 rfl Try.nm25 [1] ⟨.inl ⟨4, _, rfl, cov_rep rfl⟩, .inl ⟨5, _, rfl, cov_rep rfl⟩, trivial⟩ (fun _ => rfl) (fun _ => rfl) rfl
   refine all_cons _ (base_nil rfl) (dst_some rfl rfl) rfl rfl rfl rfl (gd_none rfl rfl) (fun _ => ?_) ?_
   ·
    refine ob_one rfl rfl (fun _ => ?_)
    refine ob_two rfl (fun hq17 y9 => ?_) (fun hq17 => ?_)
    rotate_left
    ·
     replace hq17 : (r3.2) = false := hq17
     refine ob_nil rfl ?_
     exact PureOk.op (p_pick (b := r3.2) (p := r7) (q := false) rfl rfl (fun hb => by first | (rw [hb] at hq17; cases hq17; done) | exact absurd hq17 (by rw [hb]; simp) | (simp_all; done)) (fun _ => rfl))
    refine ob_nil rfl ?_
    exact PureOk.op (p_pick (b := r3.2) (p := r7) (q := false) rfl rfl (fun _ => rfl) (fun _ => rfl))
   exact all_nil
  ·
   refine fin_base _ (base_nil rfl) ?_
   refine fin_one rfl rfl (fun _ => ?_)
   refine fin_nil ?_
   refine s_pure (p_assign (v := .bool (bif r3.2 then r7 else false)) rfl rfl) rfl rfl rfl ?_
   refine s_nil ?_
   refine x_then ?_
   refine s_ret ?_
   replace hF := some_inj hF
   subst hF
   exact x_ret () (res_one rfl (ra_tmp (v := .bool (bif r3.2 then r7 else false)) rfl)) rfl 3 rfl [] 2 rfl trivial

theorem culpritref32_Agree_ok {x0 : ((List (List Int)))} {x1 : ((List (List Int)))} {h0_0 : Hd} {h1_0 : Hd} {r : Bool} (hF : culpritref32_Agree x0 x1 = some r) : ∀ (w : World) (S : Nat → Prop), Heap w (oldc S) [.rep (tA 16 .u8) [1] x0 h0_0, .rep (tA 16 .u8) [1] x1 h1_0] → Calls Try.prog 20 #[.agg ([Hd.val h0_0]).toArray, .agg ([Hd.val h1_0]).toArray] w (Post w S (fun (_ : Unit) => .bool (r)) (fun (_ : Unit) => [])) := by
  intro w S hL
  refine s_enter (n := 25) Try.func20 rfl rfl _ rfl hL ?_
  refine s_seq ?_
  refine s_region ?_
  refine s_op0 (ok_box (N := 11) (v := .agg ([Hd.val h0_0]).toArray) (cs := [Hd.val h0_0]) rfl rfl rfl rfl) rfl rfl rfl (fun b1 => ?_)
  refine s_op0 (ok_box (N := 12) (v := .agg ([Hd.val h1_0]).toArray) (cs := [Hd.val h1_0]) rfl rfl rfl rfl) rfl rfl rfl (fun b2 => ?_)
  refine s_pure (p_assign (v := .bool (false)) rfl rfl) rfl rfl rfl ?_
  refine s_nil ?_
  refine x_then ?_
  obtain ⟨r3, e4, hF⟩ := bind_some hF
  refine s_join (fun y5 : Unit => (Sum.elim (fun s6 => []) (fun _ => []) r3)) (fun y5 : Unit => (Sum.elim (fun s6 => [.old w S]) (fun _ => [.pure False]) r3)) ?_ ?_
  ·
   refine s_seq ?_
   refine s_region ?_
   refine s_pure (p_assign (v := .int .i64 (0)) rfl rfl) rfl rfl rfl ?_
   refine s_nil ?_
   refine x_then ?_
   refine s_block ?_
   refine sim_loop (fun (s7 : Int) (y8 : Unit) => [(2, .pointer (some ⟨b1, 0, none⟩)), (3, .pointer (some ⟨b2, 0, none⟩)), (5, .int .i64 (s7))]) (fun (s7 : Int) (y8 : Unit) => [.old w S, .box 11 b1 [Hd.val h0_0], .box 12 b2 [Hd.val h1_0], .rep (tA 16 .u8) [1] x0 h0_0, .rep (tA 16 .u8) [1] x1 h1_0]) () e4 [(11, 11), (12, 12)] 2 rfl ⟨rfl, rfl, rfl, trivial⟩ ⟨.inl ⟨2, _, rfl, weak_same⟩, .inl ⟨1, _, rfl, weak_same⟩, .inl ⟨0, _, rfl, weak_same⟩, .inl ⟨3, _, rfl, weak_rep rfl⟩, .inl ⟨4, _, rfl, weak_rep rfl⟩, trivial⟩ ?_
   intro s7 y8 ρ' z9 e10
   refine s_seq ?_
   refine s_seq ?_
   refine s_text Try.mixed [⟨true, 6, [], Unit, fun _ => .int .i64 (s7), fun _ => [], [], [], []⟩, ⟨true, 7, [], Unit, fun _ => .pointer (some ⟨b1, 0, none⟩), fun _ => [], [], [], []⟩, ⟨true, 8, [1], Unit, fun _ => Hd.val h0_0, fun _ => [], [], [], []⟩, ⟨true, 9, [2], Unit, fun _ => .int .i64 ((x0.length : Int)), fun _ => [], [], [], []⟩, ⟨true, 10, [0, 3], Unit, fun _ => .bool (decide (s7 < (x0.length : Int))), fun _ => [], [], [], []⟩, ⟨true, 11, [4], Unit, fun _ => .bool (decide (s7 < (x0.length : Int))), fun _ => [], [], [], []⟩, ⟨!(decide (s7 < (x0.length : Int))), 12, [], Unit, fun _ => .int .i64 (s7), fun _ => [], [], [], []⟩, ⟨!(decide (s7 < (x0.length : Int))), 13, [], Unit, fun _ => .pointer (some ⟨b2, 0, none⟩), fun _ => [], [], [], []⟩, ⟨!(decide (s7 < (x0.length : Int))), 14, [7], Unit, fun _ => Hd.val h1_0, fun _ => [], [], [], []⟩, ⟨!(decide (s7 < (x0.length : Int))), 15, [8], Unit, fun _ => .int .i64 ((x1.length : Int)), fun _ => [], [], [], []⟩, ⟨!(decide (s7 < (x0.length : Int))), 16, [6, 9], Unit, fun _ => .bool (decide (s7 < (x1.length : Int))), fun _ => [], [], [], []⟩, ⟨true, 17, [5, 10], Unit, fun _ => .bool (bif decide (s7 < (x0.length : Int)) then true else decide (s7 < (x1.length : Int))), fun _ => [], [], [], []⟩] [[], [], [1], [1, 2], [0, 1, 2, 3], [0, 1, 2, 3, 4], [0, 1, 2, 3, 4, 5], [0, 1, 2, 3, 4, 5], [0, 1, 2, 3, 4, 5, 7], [0, 1, 2, 3, 4, 5, 7, 8], [0, 1, 2, 3, 4, 5, 6, 7, 8, 9], [0, 1, 2, 3, 4, 5, 6, 7, 8, 9, 10]] rfl rfl rfl rfl rfl ⟨.inl rfl, .inl rfl, .inl rfl, .inl rfl, .inl rfl, .inl rfl, .inl rfl, .inl rfl, .inl rfl, .inl rfl, .inl rfl, .inl rfl, trivial⟩ ?_ [11] rfl rfl (fun us => ?_)
   ·
    refine all_cons _ (base_nil rfl) (dst_some rfl rfl) rfl rfl rfl rfl (gd_none rfl rfl) (fun _ => ?_) ?_
    ·
     refine ob_nil rfl ?_
     exact PureOk.op (p_move (v := .int .i64 (s7)) rfl rfl)
    refine all_cons _ (base_nil rfl) (dst_some rfl rfl) rfl rfl rfl rfl (gd_none rfl rfl) (fun _ => ?_) ?_
    ·
     refine ob_nil rfl ?_
     exact PureOk.op (p_fieldAddr (fo := 0) rfl Try.underlying25 rfl Try.ti23 rfl rfl rfl)
    refine all_cons _ (base_nil rfl) (dst_some rfl rfl) rfl rfl rfl rfl (gd_none rfl rfl) (fun _ => ?_) ?_
    ·
     refine ob_one rfl rfl (fun _ => ?_)
     refine ob_nil rfl ?_
     exact PureOk.op (p_load_box (v := Hd.val h0_0) 1 rfl rfl Try.underlying23 rfl rfl rfl)
    refine all_cons _ (base_nil rfl) (dst_some rfl rfl) rfl rfl rfl rfl (gd_none rfl rfl) (fun _ => ?_) ?_
    ·
     refine ob_one rfl rfl (fun _ => ?_)
     refine ob_nil rfl ?_
     exact PureOk.op (p_len_rep (ty := (tA 16 .u8)) (xs := x0) (h := h0_0) 3 rfl rfl Try.underlying23 rfl)
    refine all_cons _ (base_nil rfl) (dst_some rfl rfl) rfl rfl rfl rfl (gd_none rfl rfl) (fun _ => ?_) ?_
    ·
     refine ob_one rfl rfl (fun _ => ?_)
     refine ob_one rfl rfl (fun _ => ?_)
     refine ob_nil rfl ?_
     exact PureOk.op (p_lss rfl rfl rfl)
    refine all_cons _ (base_nil rfl) (dst_some rfl rfl) rfl rfl rfl rfl (gd_none rfl rfl) (fun _ => ?_) ?_
    ·
     refine ob_one rfl rfl (fun _ => ?_)
     refine ob_nil rfl ?_
     exact PureOk.op (p_move (v := .bool (decide (s7 < (x0.length : Int)))) rfl rfl)
    refine all_cons _ (base_nil rfl) (dst_some rfl rfl) rfl rfl rfl rfl (gd_some (e := ⟨true, 11, [4], Unit, fun _ => .bool (decide (s7 < (x0.length : Int))), fun _ => [], [], [], []⟩) (decide (s7 < (x0.length : Int))) rfl rfl rfl rfl (fun _ => rfl) (gd_f _)) (fun hx17 => ?_) ?_
    ·
     replace hx17 : (!(decide (s7 < (x0.length : Int)))) = true := hx17
     refine ob_nil rfl ?_
     exact PureOk.op (p_move (v := .int .i64 (s7)) rfl rfl)
    refine all_cons _ (base_nil rfl) (dst_some rfl rfl) rfl rfl rfl rfl (gd_some (e := ⟨true, 11, [4], Unit, fun _ => .bool (decide (s7 < (x0.length : Int))), fun _ => [], [], [], []⟩) (decide (s7 < (x0.length : Int))) rfl rfl rfl rfl (fun _ => rfl) (gd_f _)) (fun hx18 => ?_) ?_
    ·
     replace hx18 : (!(decide (s7 < (x0.length : Int)))) = true := hx18
     refine ob_nil rfl ?_
     exact PureOk.op (p_fieldAddr (fo := 0) rfl Try.underlying25 rfl Try.ti23 rfl rfl rfl)
    refine all_cons _ (base_nil rfl) (dst_some rfl rfl) rfl rfl rfl rfl (gd_some (e := ⟨true, 11, [4], Unit, fun _ => .bool (decide (s7 < (x0.length : Int))), fun _ => [], [], [], []⟩) (decide (s7 < (x0.length : Int))) rfl rfl rfl rfl (fun _ => rfl) (gd_f _)) (fun hx19 => ?_) ?_
    ·
     replace hx19 : (!(decide (s7 < (x0.length : Int)))) = true := hx19
     refine ob_two rfl (fun _ _ => ?_) (fun hn => clash hx19 hn)
     refine ob_nil rfl ?_
     exact PureOk.op (p_load_box (v := Hd.val h1_0) 2 rfl rfl Try.underlying23 rfl rfl rfl)
    refine all_cons _ (base_nil rfl) (dst_some rfl rfl) rfl rfl rfl rfl (gd_some (e := ⟨true, 11, [4], Unit, fun _ => .bool (decide (s7 < (x0.length : Int))), fun _ => [], [], [], []⟩) (decide (s7 < (x0.length : Int))) rfl rfl rfl rfl (fun _ => rfl) (gd_f _)) (fun hx20 => ?_) ?_
    ·
     replace hx20 : (!(decide (s7 < (x0.length : Int)))) = true := hx20
     refine ob_two rfl (fun _ _ => ?_) (fun hn => clash hx20 hn)
     refine ob_nil rfl ?_
     exact PureOk.op (p_len_rep (ty := (tA 16 .u8)) (xs := x1) (h := h1_0) 4 rfl rfl Try.underlying23 rfl)
    refine all_cons _ (base_nil rfl) (dst_some rfl rfl) rfl rfl rfl rfl (gd_some (e := ⟨true, 11, [4], Unit, fun _ => .bool (decide (s7 < (x0.length : Int))), fun _ => [], [], [], []⟩) (decide (s7 < (x0.length : Int))) rfl rfl rfl rfl (fun _ => rfl) (gd_f _)) (fun hx21 => ?_) ?_
    ·
     replace hx21 : (!(decide (s7 < (x0.length : Int)))) = true := hx21
     refine ob_two rfl (fun _ _ => ?_) (fun hn => clash hx21 hn)
     refine ob_two rfl (fun _ _ => ?_) (fun hn => clash hx21 hn)
     refine ob_nil rfl ?_
     exact PureOk.op (p_lss rfl rfl rfl)
    refine all_cons _ (base_nil rfl) (dst_some rfl rfl) rfl rfl rfl rfl (gd_none rfl rfl) (fun _ => ?_) ?_
    ·
     refine ob_one rfl rfl (fun _ => ?_)
     refine ob_two rfl (fun hq23 _ => ?_) (fun hq23 => ?_)
     rotate_left
     ·
      replace hq23 : (!(decide (s7 < (x0.length : Int)))) = false := hq23
      refine ob_nil rfl ?_
      exact PureOk.op (p_pick (b := decide (s7 < (x0.length : Int))) (p := true) (q := decide (s7 < (x1.length : Int))) rfl rfl (fun _ => rfl) (fun hb => by first | (rw [hb] at hq23; cases hq23; done) | exact absurd hq23 (by rw [hb]; simp) | (simp_all; done)))
     refine ob_nil rfl ?_
     exact PureOk.op (p_pick (b := decide (s7 < (x0.length : Int))) (p := true) (q := decide (s7 < (x1.length : Int))) rfl rfl (fun _ => rfl) (fun _ => rfl))
    exact all_nil
   ·
    refine fin_base _ (base_nil rfl) ?_
    refine fin_one rfl rfl (fun _ => ?_)
    refine fin_nil ?_
    refine s_nil ?_
    refine x_then ?_
    refine s_cond rfl (fun hb24 => ?_) (fun hb24 => ?_)
    ·
     replace e10 := cond_t hb24 e10
     refine s_skip ?_
     refine x_then ?_
     refine s_seq ?_
     refine s_block ?_
     refine s_seq ?_
     refine s_region ?_
     refine s_pure (p_loadN_box (cs' := [Hd.val h0_0]) 1 rfl rfl Try.underlying25 rfl Try.ti25 rfl rfl rfl) rfl rfl rfl ?_
     refine s_pure (p_loadN_box (cs' := [Hd.val h1_0]) 2 rfl rfl Try.underlying25 rfl Try.ti25 rfl rfl rfl) rfl rfl rfl ?_
     refine s_pure (p_move (v := .int .i64 (s7)) rfl rfl) rfl rfl rfl ?_
     obtain ⟨r25, e26, e10⟩ := bind_some e10
     refine s_op0 (ok_call (N := 13) (Φ := fun y27 => []) (culpritref32_Same_ok e26) rfl rfl rfl Try.func25 rfl Try.nm25 [1] ⟨.inl ⟨3, _, rfl, cov_rep rfl⟩, .inl ⟨4, _, rfl, cov_rep rfl⟩, trivial⟩ (fun _ => rfl) (fun _ => rfl) rfl) rfl rfl rfl (fun y27 => ?_)
     refine s_pure (p_not rfl rfl) rfl rfl rfl ?_
     refine s_nil ?_
     refine x_then ?_
     refine s_cond rfl (fun hb28 => ?_) (fun hb28 => ?_)
     ·
      replace e10 := cond_t hb28 e10
      refine s_seq ?_
      refine s_region ?_
      refine s_pure (p_assign (v := .bool (false)) rfl rfl) rfl rfl rfl ?_
      refine s_nil ?_
      refine x_then ?_
      refine s_ret ?_
      refine x_block_ret ?_
      refine x_then_ret ?_
      refine x_out_ret e10 (fun e29 => ?_)
      subst e29
      refine x_block_ret ?_
      refine x_join_ret ?_
      replace hF := some_inj hF
      subst hF
      exact x_ret () (res_one rfl (ra_tmp (v := .bool (false)) rfl)) rfl 0 rfl [] 2 rfl trivial
     ·
      replace e10 := cond_f hb28 e10
      refine s_skip ?_
      refine x_block ?_
      refine x_then ?_
      refine s_region ?_
      refine s_pure (p_move (v := .int .i64 (s7)) rfl rfl) rfl rfl rfl ?_
      refine s_pure (p_add rfl rfl rfl) rfl rfl rfl ?_
      refine s_pure (p_assign (v := .int .i64 (w64 (s7 + 1))) rfl rfl) rfl rfl rfl ?_
      refine s_nil ?_
      exact x_next () e10 [(11, 11), (12, 12)] 2 rfl ⟨rfl, rfl, rfl, trivial⟩ ⟨.inl ⟨0, _, rfl, weak_same⟩, .inl ⟨1, _, rfl, weak_same⟩, .inl ⟨2, _, rfl, weak_same⟩, .inl ⟨3, _, rfl, weak_rep rfl⟩, .inl ⟨4, _, rfl, weak_rep rfl⟩, trivial⟩
    ·
     replace e10 := cond_f hb24 e10
     refine s_exit ?_
     refine x_then_exit ?_
     refine x_out e10 (fun e30 => ?_)
     subst e30
     refine x_block_exit ?_
     exact x_join () [] 2 rfl trivial ⟨.inl ⟨0, _, rfl, weak_same⟩, trivial⟩
  ·
   intro y5 ρ'
   rcases r3 with s6 | t31
   rotate_left
   · exact s_absurd 0 rfl
   refine s_seq ?_
   refine s_region ?_
   refine s_pure (p_assign (v := .bool (true)) rfl rfl) rfl rfl rfl ?_
   refine s_nil ?_
   refine x_then ?_
   refine s_ret ?_
   replace hF := some_inj hF
   subst hF
   exact x_ret () (res_one rfl (ra_tmp (v := .bool (true)) rfl)) rfl 0 rfl [] 2 rfl trivial

theorem culpritref01_SameInts_ok {x0 : (List Int)} {x1 : (List Int)} {h0_0 : Hd} {h1_0 : Hd} {r : Bool} (hF : culpritref01_SameInts x0 x1 = some r) : ∀ (w : World) (S : Nat → Prop), Heap w (oldc S) [.rep (tI .i64) [1] x0 h0_0, .rep (tI .i64) [1] x1 h1_0] → Calls Try.prog 26 #[Hd.val h0_0, Hd.val h1_0] w (Post w S (fun (_ : Unit) => .bool (r)) (fun (_ : Unit) => [])) := by
  intro w S hL
  refine s_enter (n := 26) Try.func26 rfl rfl _ rfl hL ?_
  refine s_seq ?_
  refine s_region ?_
  refine s_pure (p_assign (v := .bool (false)) rfl rfl) rfl rfl rfl ?_
  refine s_nil ?_
  refine x_then ?_
  refine s_seq ?_
  refine s_seq ?_
  refine s_region ?_
  refine s_pure (p_move (v := Hd.val h0_0) rfl rfl) rfl rfl rfl ?_
  refine s_pure (p_len_rep (ty := (tI .i64)) (xs := x0) (h := h0_0) 1 rfl rfl Try.underlying22 rfl) rfl rfl rfl ?_
  refine s_pure (p_move (v := Hd.val h1_0) rfl rfl) rfl rfl rfl ?_
  refine s_pure (p_len_rep (ty := (tI .i64)) (xs := x1) (h := h1_0) 2 rfl rfl Try.underlying22 rfl) rfl rfl rfl ?_
  refine s_pure (p_neq rfl rfl rfl) rfl rfl rfl ?_
  refine s_nil ?_
  refine x_then ?_
  refine s_cond rfl (fun hb1 => ?_) (fun hb1 => ?_)
  ·
   replace hF := cond_t hb1 hF
   refine s_seq ?_
   refine s_region ?_
   refine s_pure (p_assign (v := .bool (false)) rfl rfl) rfl rfl rfl ?_
   refine s_nil ?_
   refine x_then ?_
   refine s_ret ?_
   refine x_then_ret ?_
   replace hF := some_inj hF
   subst hF
   exact x_ret () (res_one rfl (ra_tmp (v := .bool (false)) rfl)) rfl 0 rfl [] 2 rfl trivial
  ·
   replace hF := cond_f hb1 hF
   refine s_skip ?_
   refine x_then ?_
   obtain ⟨r2, e3, hF⟩ := bind_some hF
   refine s_join (fun y4 : Unit => (Sum.elim (fun s5 => []) (fun _ => []) r2)) (fun y4 : Unit => (Sum.elim (fun s5 => [.old w S]) (fun _ => [.pure False]) r2)) ?_ ?_
   ·
    refine s_seq ?_
    refine s_region ?_
    refine s_pure (p_assign (v := .int .i64 (0)) rfl rfl) rfl rfl rfl ?_
    refine s_nil ?_
    refine x_then ?_
    refine s_block ?_
    refine sim_loop (fun (s6 : Int) (y7 : Unit) => [(0, Hd.val h0_0), (1, Hd.val h1_0), (5, .int .i64 (s6))]) (fun (s6 : Int) (y7 : Unit) => [.old w S, .rep (tI .i64) [1] x0 h0_0, .rep (tI .i64) [1] x1 h1_0]) () e3 [] 2 rfl ⟨rfl, rfl, rfl, trivial⟩ ⟨.inl ⟨0, _, rfl, weak_same⟩, .inl ⟨1, _, rfl, weak_rep rfl⟩, .inl ⟨2, _, rfl, weak_rep rfl⟩, trivial⟩ ?_
    intro s6 y7 ρ' z8 e9
    refine s_seq ?_
    refine s_seq ?_
    refine s_region ?_
    refine s_pure (p_move (v := .int .i64 (s6)) rfl rfl) rfl rfl rfl ?_
    refine s_pure (p_move (v := Hd.val h0_0) rfl rfl) rfl rfl rfl ?_
    refine s_pure (p_len_rep (ty := (tI .i64)) (xs := x0) (h := h0_0) 1 rfl rfl Try.underlying22 rfl) rfl rfl rfl ?_
    refine s_pure (p_lss rfl rfl rfl) rfl rfl rfl ?_
    refine s_nil ?_
    refine x_then ?_
    refine s_cond rfl (fun hb10 => ?_) (fun hb10 => ?_)
    ·
     replace e9 := cond_t hb10 e9
     refine s_skip ?_
     refine x_then ?_
     refine s_seq ?_
     refine s_block ?_
     refine s_seq ?_
     obtain ⟨x11, e12, e9⟩ := bind_some e9
     obtain ⟨x13, e14, e9⟩ := bind_some e9
     refine s_draw Try.mixed [⟨true, 17, [], Unit, fun _ => Hd.val h0_0, fun _ => [], [], [], []⟩, ⟨true, 18, [], Unit, fun _ => .int .i64 (s6), fun _ => [], [], [], []⟩, ⟨true, 19, [0, 1], Unit, fun _ => .pointer (some (pat h0_0 (s6.toNat * 1))), fun _ => [], [], [], []⟩, ⟨true, 20, [2], Unit, fun _ => .int .i64 (x11), fun _ => [], [], [], []⟩, ⟨true, 21, [], Unit, fun _ => Hd.val h1_0, fun _ => [], [], [], []⟩, ⟨true, 22, [], Unit, fun _ => .int .i64 (s6), fun _ => [], [], [], []⟩, ⟨true, 23, [4, 5], Unit, fun _ => .pointer (some (pat h1_0 (s6.toNat * 1))), fun _ => [], [], [], []⟩, ⟨true, 24, [6], Unit, fun _ => .int .i64 (x13), fun _ => [], [], [], []⟩] [[], [], [0, 1], [0, 1, 2], [], [], [4, 5], [4, 5, 6], [0, 1, 2, 3, 4, 5, 6, 7]] rfl rfl rfl rfl rfl ⟨.inl rfl, .inl rfl, .inl rfl, .inl rfl, .inl rfl, .inl rfl, .inl rfl, .inl rfl, trivial⟩ ?_ [3, 7] rfl rfl (fun us => ?_)
     ·
      refine all_cons _ (base_nil rfl) (dst_some rfl rfl) rfl rfl rfl rfl (gd_none rfl rfl) (fun _ => ?_) ?_
      ·
       refine ob_nil rfl ?_
       exact PureOk.op (p_move (v := Hd.val h0_0) rfl rfl)
      refine all_cons _ (base_nil rfl) (dst_some rfl rfl) rfl rfl rfl rfl (gd_none rfl rfl) (fun _ => ?_) ?_
      ·
       refine ob_nil rfl ?_
       exact PureOk.op (p_move (v := .int .i64 (s6)) rfl rfl)
      refine all_cons _ (base_nil rfl) (dst_some rfl rfl) rfl rfl rfl rfl (gd_none rfl rfl) (fun _ => ?_) ?_
      ·
       refine ob_one rfl rfl (fun _ => ?_)
       refine ob_one rfl rfl (fun _ => ?_)
       refine ob_nil rfl ?_
       exact PureOk.op (p_idx (h := h0_0) (i := s6) (ty := (tI .i64)) (xs := x0) (v := x11) 1 rfl rfl Try.underlying22 Try.ti3 rfl rfl e12)
      refine all_cons _ (base_nil rfl) (dst_some rfl rfl) rfl rfl rfl rfl (gd_none rfl rfl) (fun _ => ?_) ?_
      ·
       refine ob_one rfl rfl (fun _ => ?_)
       refine ob_nil rfl ?_
       exact PureOk.op (p_load_at (X := s6.toNat * 1) (el_rep (ty := (tI .i64)) (xs := x0) (h := h0_0) (i := s6) (v := x11) (sz := 1) 1 rfl rfl e12) rfl Try.underlying3 rfl rfl)
      refine all_cons _ (base_nil rfl) (dst_some rfl rfl) rfl rfl rfl rfl (gd_none rfl rfl) (fun _ => ?_) ?_
      ·
       refine ob_nil rfl ?_
       exact PureOk.op (p_move (v := Hd.val h1_0) rfl rfl)
      refine all_cons _ (base_nil rfl) (dst_some rfl rfl) rfl rfl rfl rfl (gd_none rfl rfl) (fun _ => ?_) ?_
      ·
       refine ob_nil rfl ?_
       exact PureOk.op (p_move (v := .int .i64 (s6)) rfl rfl)
      refine all_cons _ (base_nil rfl) (dst_some rfl rfl) rfl rfl rfl rfl (gd_none rfl rfl) (fun _ => ?_) ?_
      ·
       refine ob_one rfl rfl (fun _ => ?_)
       refine ob_one rfl rfl (fun _ => ?_)
       refine ob_nil rfl ?_
       exact PureOk.op (p_idx (h := h1_0) (i := s6) (ty := (tI .i64)) (xs := x1) (v := x13) 2 rfl rfl Try.underlying22 Try.ti3 rfl rfl e14)
      refine all_cons _ (base_nil rfl) (dst_some rfl rfl) rfl rfl rfl rfl (gd_none rfl rfl) (fun _ => ?_) ?_
      ·
       refine ob_one rfl rfl (fun _ => ?_)
       refine ob_nil rfl ?_
       exact PureOk.op (p_load_at (X := s6.toNat * 1) (el_rep (ty := (tI .i64)) (xs := x1) (h := h1_0) (i := s6) (v := x13) (sz := 1) 2 rfl rfl e14) rfl Try.underlying3 rfl rfl)
      exact all_nil
     ·
      refine fin_base _ (base_nil rfl) ?_
      refine fin_one rfl rfl (fun _ => ?_)
      refine fin_one rfl rfl (fun _ => ?_)
      refine fin_nil ?_
      refine s_pure (p_neq rfl rfl rfl) rfl rfl rfl ?_
      refine s_nil ?_
      refine x_then ?_
      refine s_cond rfl (fun hb23 => ?_) (fun hb23 => ?_)
      ·
       replace e9 := cond_t hb23 e9
       refine s_seq ?_
       refine s_region ?_
       refine s_pure (p_assign (v := .bool (false)) rfl rfl) rfl rfl rfl ?_
       refine s_nil ?_
       refine x_then ?_
       refine s_ret ?_
       refine x_block_ret ?_
       refine x_then_ret ?_
       refine x_out_ret e9 (fun e24 => ?_)
       subst e24
       refine x_block_ret ?_
       refine x_join_ret ?_
       replace hF := some_inj hF
       subst hF
       exact x_ret () (res_one rfl (ra_tmp (v := .bool (false)) rfl)) rfl 0 rfl [] 2 rfl trivial
      ·
       replace e9 := cond_f hb23 e9
       refine s_skip ?_
       refine x_block ?_
       refine x_then ?_
       refine s_region ?_
       refine s_pure (p_move (v := .int .i64 (s6)) rfl rfl) rfl rfl rfl ?_
       refine s_pure (p_add rfl rfl rfl) rfl rfl rfl ?_
       refine s_pure (p_assign (v := .int .i64 (w64 (s6 + 1))) rfl rfl) rfl rfl rfl ?_
       refine s_nil ?_
       exact x_next () e9 [] 2 rfl ⟨rfl, rfl, rfl, trivial⟩ ⟨.inl ⟨0, _, rfl, weak_same⟩, .inl ⟨1, _, rfl, weak_rep rfl⟩, .inl ⟨2, _, rfl, weak_rep rfl⟩, trivial⟩
    ·
     replace e9 := cond_f hb10 e9
     refine s_exit ?_
     refine x_then_exit ?_
     refine x_out e9 (fun e25 => ?_)
     subst e25
     refine x_block_exit ?_
     exact x_join () [] 2 rfl trivial ⟨.inl ⟨0, _, rfl, weak_same⟩, trivial⟩
   ·
    intro y4 ρ'
    rcases r2 with s5 | t26
    rotate_left
    · exact s_absurd 0 rfl
    refine s_seq ?_
    refine s_region ?_
    refine s_pure (p_assign (v := .bool (true)) rfl rfl) rfl rfl rfl ?_
    refine s_nil ?_
    refine x_then ?_
    refine s_ret ?_
    replace hF := some_inj hF
    subst hF
    exact x_ret () (res_one rfl (ra_tmp (v := .bool (true)) rfl)) rfl 0 rfl [] 2 rfl trivial

theorem culpritref32_SameGame_ok {x0 : (Int × Int × (List Int))} {x1 : (Int × Int × (List Int))} {h0_0 : Hd} {h1_0 : Hd} {r : Bool} (hF : culpritref32_SameGame x0 x1 = some r) : ∀ (w : World) (S : Nat → Prop), Heap w (oldc S) [.rep (tI .i64) [1] x0.2.2 h0_0, .rep (tI .i64) [1] x1.2.2 h1_0] → Calls Try.prog 13 #[.agg ([.int .i64 (x0.1), .int .i64 (x0.2.1), Hd.val h0_0]).toArray, .agg ([.int .i64 (x1.1), .int .i64 (x1.2.1), Hd.val h1_0]).toArray] w (Post w S (fun (_ : Unit) => .bool (r)) (fun (_ : Unit) => [])) := by
  intro w S hL
  refine s_enter (n := 24) Try.func13 rfl rfl _ rfl hL ?_
  refine s_seq ?_
  refine s_region ?_
  refine s_op0 (ok_box (N := 11) (v := .agg ([.int .i64 (x0.1), .int .i64 (x0.2.1), Hd.val h0_0]).toArray) (cs := [.int .i64 (x0.1), .int .i64 (x0.2.1), Hd.val h0_0]) rfl rfl rfl rfl) rfl rfl rfl (fun b1 => ?_)
  refine s_op0 (ok_box (N := 12) (v := .agg ([.int .i64 (x1.1), .int .i64 (x1.2.1), Hd.val h1_0]).toArray) (cs := [.int .i64 (x1.1), .int .i64 (x1.2.1), Hd.val h1_0]) rfl rfl rfl rfl) rfl rfl rfl (fun b2 => ?_)
  refine s_pure (p_assign (v := .bool (false)) rfl rfl) rfl rfl rfl ?_
  refine s_nil ?_
  refine x_then ?_
  refine s_seq ?_
  obtain ⟨r3, e4, hF⟩ := bind_some hF
  refine s_text Try.mixed [⟨true, 5, [], Unit, fun _ => .pointer (some ⟨b1, 0, none⟩), fun _ => [], [], [], []⟩, ⟨true, 6, [0], Unit, fun _ => .int .i64 (x0.1), fun _ => [], [], [], []⟩, ⟨true, 7, [], Unit, fun _ => .pointer (some ⟨b2, 0, none⟩), fun _ => [], [], [], []⟩, ⟨true, 8, [2], Unit, fun _ => .int .i64 (x1.1), fun _ => [], [], [], []⟩, ⟨true, 9, [1, 3], Unit, fun _ => .bool (x0.1 == x1.1), fun _ => [], [], [], []⟩, ⟨true, 10, [4], Unit, fun _ => .bool (x0.1 == x1.1), fun _ => [], [], [], []⟩, ⟨(x0.1 == x1.1), 11, [], Unit, fun _ => .pointer (some ⟨b1, 1, none⟩), fun _ => [], [], [], []⟩, ⟨(x0.1 == x1.1), 12, [6], Unit, fun _ => .int .i64 (x0.2.1), fun _ => [], [], [], []⟩, ⟨(x0.1 == x1.1), 13, [], Unit, fun _ => .pointer (some ⟨b2, 1, none⟩), fun _ => [], [], [], []⟩, ⟨(x0.1 == x1.1), 14, [8], Unit, fun _ => .int .i64 (x1.2.1), fun _ => [], [], [], []⟩, ⟨(x0.1 == x1.1), 15, [7, 9], Unit, fun _ => .bool (x0.2.1 == x1.2.1), fun _ => [], [], [], []⟩, ⟨true, 16, [5, 10], Unit, fun _ => .bool (bif x0.1 == x1.1 then x0.2.1 == x1.2.1 else false), fun _ => [], [], [], []⟩, ⟨true, 17, [11], Unit, fun _ => .bool (bif x0.1 == x1.1 then x0.2.1 == x1.2.1 else false), fun _ => [], [], [], []⟩, ⟨(bif x0.1 == x1.1 then x0.2.1 == x1.2.1 else false), 18, [], Unit, fun _ => .pointer (some ⟨b1, 2, none⟩), fun _ => [], [], [], []⟩, ⟨(bif x0.1 == x1.1 then x0.2.1 == x1.2.1 else false), 19, [13], Unit, fun _ => Hd.val h0_0, fun _ => [], [], [], []⟩, ⟨(bif x0.1 == x1.1 then x0.2.1 == x1.2.1 else false), 20, [], Unit, fun _ => .pointer (some ⟨b2, 2, none⟩), fun _ => [], [], [], []⟩, ⟨(bif x0.1 == x1.1 then x0.2.1 == x1.2.1 else false), 21, [15], Unit, fun _ => Hd.val h1_0, fun _ => [], [], [], []⟩, ⟨(bif x0.1 == x1.1 then x0.2.1 == x1.2.1 else false), 22, [14, 16], Unit, fun (y5 : Unit) => .bool (r3), fun _ => [], [], [], []⟩, ⟨true, 23, [12, 17], Unit, fun _ => .bool (bif bif x0.1 == x1.1 then x0.2.1 == x1.2.1 else false then r3 else false), fun _ => [], [], [], []⟩] [[], [0], [], [2], [0, 1, 2, 3], [0, 1, 2, 3, 4], [0, 1, 2, 3, 4, 5], [0, 1, 2, 3, 4, 5, 6], [0, 1, 2, 3, 4, 5], [0, 1, 2, 3, 4, 5, 8], [0, 1, 2, 3, 4, 5, 6, 7, 8, 9], [0, 1, 2, 3, 4, 5, 6, 7, 8, 9, 10], [0, 1, 2, 3, 4, 5, 6, 7, 8, 9, 10, 11], [0, 1, 2, 3, 4, 5, 6, 7, 8, 9, 10, 11, 12], [0, 1, 2, 3, 4, 5, 6, 7, 8, 9, 10, 11, 12, 13], [0, 1, 2, 3, 4, 5, 6, 7, 8, 9, 10, 11, 12], [0, 1, 2, 3, 4, 5, 6, 7, 8, 9, 10, 11, 12, 15], [0, 1, 2, 3, 4, 5, 6, 7, 8, 9, 10, 11, 12, 13, 14, 15, 16], [0, 1, 2, 3, 4, 5, 6, 7, 8, 9, 10, 11, 12, 13, 14, 15, 16, 17], [0, 1, 2, 3, 4, 5, 6, 7, 8, 9, 10, 11, 12, 13, 14, 15, 16, 17, 18]] rfl rfl rfl rfl rfl ⟨.inl rfl, .inl rfl, .inl rfl, .inl rfl, .inl rfl, .inl rfl, .inl rfl, .inl rfl, .inl rfl, .inl rfl, .inl rfl, .inl rfl, .inl rfl, .inl rfl, .inl rfl, .inl rfl, .inl rfl, .inl rfl, .inl rfl, trivial⟩ ?_ [18] rfl rfl (fun us => ?_)
  ·
   refine all_cons _ (base_nil rfl) (dst_some rfl rfl) rfl rfl rfl rfl (gd_none rfl rfl) (fun _ => ?_) ?_
   ·
    refine ob_nil rfl ?_
    exact PureOk.op (p_fieldAddr (fo := 0) rfl Try.underlying37 rfl Try.ti3 rfl rfl rfl)
   refine all_cons _ (base_nil rfl) (dst_some rfl rfl) rfl rfl rfl rfl (gd_none rfl rfl) (fun _ => ?_) ?_
   ·
    refine ob_one rfl rfl (fun _ => ?_)
    refine ob_nil rfl ?_
    exact PureOk.op (p_load_box (v := .int .i64 (x0.1)) 1 rfl rfl Try.underlying3 rfl rfl rfl)
   refine all_cons _ (base_nil rfl) (dst_some rfl rfl) rfl rfl rfl rfl (gd_none rfl rfl) (fun _ => ?_) ?_
   ·
    refine ob_nil rfl ?_
    exact PureOk.op (p_fieldAddr (fo := 0) rfl Try.underlying37 rfl Try.ti3 rfl rfl rfl)
   refine all_cons _ (base_nil rfl) (dst_some rfl rfl) rfl rfl rfl rfl (gd_none rfl rfl) (fun _ => ?_) ?_
   ·
    refine ob_one rfl rfl (fun _ => ?_)
    refine ob_nil rfl ?_
    exact PureOk.op (p_load_box (v := .int .i64 (x1.1)) 0 rfl rfl Try.underlying3 rfl rfl rfl)
   refine all_cons _ (base_nil rfl) (dst_some rfl rfl) rfl rfl rfl rfl (gd_none rfl rfl) (fun _ => ?_) ?_
   ·
    refine ob_one rfl rfl (fun _ => ?_)
    refine ob_one rfl rfl (fun _ => ?_)
    refine ob_nil rfl ?_
    exact PureOk.op (p_eql rfl rfl rfl)
   refine all_cons _ (base_nil rfl) (dst_some rfl rfl) rfl rfl rfl rfl (gd_none rfl rfl) (fun _ => ?_) ?_
   ·
    refine ob_one rfl rfl (fun _ => ?_)
    refine ob_nil rfl ?_
    exact PureOk.op (p_move (v := .bool (x0.1 == x1.1)) rfl rfl)
   refine all_cons _ (base_nil rfl) (dst_some rfl rfl) rfl rfl rfl rfl (gd_some (e := ⟨true, 10, [4], Unit, fun _ => .bool (x0.1 == x1.1), fun _ => [], [], [], []⟩) (x0.1 == x1.1) rfl rfl rfl rfl (fun _ => rfl) (gd_t _)) (fun hx12 => ?_) ?_
   ·
    replace hx12 : ((x0.1 == x1.1)) = true := hx12
    refine ob_nil rfl ?_
    exact PureOk.op (p_fieldAddr (fo := 1) rfl Try.underlying37 rfl Try.ti3 rfl rfl rfl)
   refine all_cons _ (base_nil rfl) (dst_some rfl rfl) rfl rfl rfl rfl (gd_some (e := ⟨true, 10, [4], Unit, fun _ => .bool (x0.1 == x1.1), fun _ => [], [], [], []⟩) (x0.1 == x1.1) rfl rfl rfl rfl (fun _ => rfl) (gd_t _)) (fun hx13 => ?_) ?_
   ·
    replace hx13 : ((x0.1 == x1.1)) = true := hx13
    refine ob_two rfl (fun _ _ => ?_) (fun hn => clash hx13 hn)
    refine ob_nil rfl ?_
    exact PureOk.op (p_load_box (v := .int .i64 (x0.2.1)) 1 rfl rfl Try.underlying3 rfl rfl rfl)
   refine all_cons _ (base_nil rfl) (dst_some rfl rfl) rfl rfl rfl rfl (gd_some (e := ⟨true, 10, [4], Unit, fun _ => .bool (x0.1 == x1.1), fun _ => [], [], [], []⟩) (x0.1 == x1.1) rfl rfl rfl rfl (fun _ => rfl) (gd_t _)) (fun hx14 => ?_) ?_
   ·
    replace hx14 : ((x0.1 == x1.1)) = true := hx14
    refine ob_nil rfl ?_
    exact PureOk.op (p_fieldAddr (fo := 1) rfl Try.underlying37 rfl Try.ti3 rfl rfl rfl)
   refine all_cons _ (base_nil rfl) (dst_some rfl rfl) rfl rfl rfl rfl (gd_some (e := ⟨true, 10, [4], Unit, fun _ => .bool (x0.1 == x1.1), fun _ => [], [], [], []⟩) (x0.1 == x1.1) rfl rfl rfl rfl (fun _ => rfl) (gd_t _)) (fun hx15 => ?_) ?_
   ·
    replace hx15 : ((x0.1 == x1.1)) = true := hx15
    refine ob_two rfl (fun _ _ => ?_) (fun hn => clash hx15 hn)
    refine ob_nil rfl ?_
    exact PureOk.op (p_load_box (v := .int .i64 (x1.2.1)) 0 rfl rfl Try.underlying3 rfl rfl rfl)
   refine all_cons _ (base_nil rfl) (dst_some rfl rfl) rfl rfl rfl rfl (gd_some (e := ⟨true, 10, [4], Unit, fun _ => .bool (x0.1 == x1.1), fun _ => [], [], [], []⟩) (x0.1 == x1.1) rfl rfl rfl rfl (fun _ => rfl) (gd_t _)) (fun hx16 => ?_) ?_
   ·
    replace hx16 : ((x0.1 == x1.1)) = true := hx16
    refine ob_two rfl (fun _ _ => ?_) (fun hn => clash hx16 hn)
    refine ob_two rfl (fun _ _ => ?_) (fun hn => clash hx16 hn)
    refine ob_nil rfl ?_
    exact PureOk.op (p_eql rfl rfl rfl)
   refine all_cons _ (base_nil rfl) (dst_some rfl rfl) rfl rfl rfl rfl (gd_none rfl rfl) (fun _ => ?_) ?_
   ·
    refine ob_one rfl rfl (fun _ => ?_)
    refine ob_two rfl (fun hq18 _ => ?_) (fun hq18 => ?_)
    rotate_left
    ·
     replace hq18 : ((x0.1 == x1.1)) = false := hq18
     refine ob_nil rfl ?_
     exact PureOk.op (p_pick (b := x0.1 == x1.1) (p := x0.2.1 == x1.2.1) (q := false) rfl rfl (fun hb => by first | (rw [hb] at hq18; cases hq18; done) | exact absurd hq18 (by rw [hb]; simp) | (simp_all; done)) (fun _ => rfl))
    refine ob_nil rfl ?_
    exact PureOk.op (p_pick (b := x0.1 == x1.1) (p := x0.2.1 == x1.2.1) (q := false) rfl rfl (fun _ => rfl) (fun _ => rfl))
   refine all_cons _ (base_nil rfl) (dst_some rfl rfl) rfl rfl rfl rfl (gd_none rfl rfl) (fun _ => ?_) ?_
   ·
    refine ob_one rfl rfl (fun _ => ?_)
    refine ob_nil rfl ?_
    exact PureOk.op (p_move (v := .bool (bif x0.1 == x1.1 then x0.2.1 == x1.2.1 else false)) rfl rfl)
   refine all_cons _ (base_nil rfl) (dst_some rfl rfl) rfl rfl rfl rfl (gd_some (e := ⟨true, 17, [11], Unit, fun _ => .bool (bif x0.1 == x1.1 then x0.2.1 == x1.2.1 else false), fun _ => [], [], [], []⟩) (bif x0.1 == x1.1 then x0.2.1 == x1.2.1 else false) rfl rfl rfl rfl (fun _ => rfl) (gd_t _)) (fun hx20 => ?_) ?_
   ·
    replace hx20 : ((bif x0.1 == x1.1 then x0.2.1 == x1.2.1 else false)) = true := hx20
    refine ob_nil rfl ?_
    exact PureOk.op (p_fieldAddr (fo := 2) rfl Try.underlying37 rfl Try.ti22 rfl rfl rfl)
   refine all_cons _ (base_nil rfl) (dst_some rfl rfl) rfl rfl rfl rfl (gd_some (e := ⟨true, 17, [11], Unit, fun _ => .bool (bif x0.1 == x1.1 then x0.2.1 == x1.2.1 else false), fun _ => [], [], [], []⟩) (bif x0.1 == x1.1 then x0.2.1 == x1.2.1 else false) rfl rfl rfl rfl (fun _ => rfl) (gd_t _)) (fun hx21 => ?_) ?_
   ·
    replace hx21 : ((bif x0.1 == x1.1 then x0.2.1 == x1.2.1 else false)) = true := hx21
    refine ob_two rfl (fun _ _ => ?_) (fun hn => clash hx21 hn)
    refine ob_nil rfl ?_
    exact PureOk.op (p_load_box (v := Hd.val h0_0) 1 rfl rfl Try.underlying22 rfl rfl rfl)
   refine all_cons _ (base_nil rfl) (dst_some rfl rfl) rfl rfl rfl rfl (gd_some (e := ⟨true, 17, [11], Unit, fun _ => .bool (bif x0.1 == x1.1 then x0.2.1 == x1.2.1 else false), fun _ => [], [], [], []⟩) (bif x0.1 == x1.1 then x0.2.1 == x1.2.1 else false) rfl rfl rfl rfl (fun _ => rfl) (gd_t _)) (fun hx22 => ?_) ?_
   ·
    replace hx22 : ((bif x0.1 == x1.1 then x0.2.1 == x1.2.1 else false)) = true := hx22
    refine ob_nil rfl ?_
    exact PureOk.op (p_fieldAddr (fo := 2) rfl Try.underlying37 rfl Try.ti22 rfl rfl rfl)
   refine all_cons _ (base_nil rfl) (dst_some rfl rfl) rfl rfl rfl rfl (gd_some (e := ⟨true, 17, [11], Unit, fun _ => .bool (bif x0.1 == x1.1 then x0.2.1 == x1.2.1 else false), fun _ => [], [], [], []⟩) (bif x0.1 == x1.1 then x0.2.1 == x1.2.1 else false) rfl rfl rfl rfl (fun _ => rfl) (gd_t _)) (fun hx23 => ?_) ?_
   ·
    replace hx23 : ((bif x0.1 == x1.1 then x0.2.1 == x1.2.1 else false)) = true := hx23
    refine ob_two rfl (fun _ _ => ?_) (fun hn => clash hx23 hn)
    refine ob_nil rfl ?_
    exact PureOk.op (p_load_box (v := Hd.val h1_0) 0 rfl rfl Try.underlying22 rfl rfl rfl)
   refine all_cons _ (base_nil rfl) (dst_some rfl rfl) rfl rfl rfl rfl (gd_some (e := ⟨true, 17, [11], Unit, fun _ => .bool (bif x0.1 == x1.1 then x0.2.1 == x1.2.1 else false), fun _ => [], [], [], []⟩) (bif x0.1 == x1.1 then x0.2.1 == x1.2.1 else false) rfl rfl rfl rfl (fun _ => rfl) (gd_t _)) (fun hx24 => ?_) ?_
   ·
    replace hx24 : ((bif x0.1 == x1.1 then x0.2.1 == x1.2.1 else false)) = true := hx24
    replace e4 := cond_t hx24 e4
    refine ob_two rfl (fun _ _ => ?_) (fun hn => clash hx24 hn)
    refine ob_two rfl (fun _ _ => ?_) (fun hn => clash hx24 hn)
    refine ob_nil rfl ?_
    exact ok_call (N := 13) (Φ := fun y5 => []) (culpritref01_SameInts_ok e4) rfl rfl rfl Try.func26 rfl Try.nm26 [1] ⟨.inl ⟨3, _, rfl, cov_rep rfl⟩, .inl ⟨4, _, rfl, cov_rep rfl⟩, trivial⟩ (fun _ => rfl) (fun _ => rfl) rfl
   refine all_cons _ (base_nil rfl) (dst_some rfl rfl) rfl rfl rfl rfl (gd_none rfl rfl) (fun _ => ?_) ?_
   ·
    refine ob_one rfl rfl (fun _ => ?_)
    refine ob_two rfl (fun hq26 y5 => ?_) (fun hq26 => ?_)
    rotate_left
    ·
     replace hq26 : ((bif x0.1 == x1.1 then x0.2.1 == x1.2.1 else false)) = false := hq26
     refine ob_nil rfl ?_
     exact PureOk.op (p_pick (b := bif x0.1 == x1.1 then x0.2.1 == x1.2.1 else false) (p := r3) (q := false) rfl rfl (fun hb => by first | (rw [hb] at hq26; cases hq26; done) | exact absurd hq26 (by rw [hb]; simp) | (simp_all; done)) (fun _ => rfl))
    refine ob_nil rfl ?_
    exact PureOk.op (p_pick (b := bif x0.1 == x1.1 then x0.2.1 == x1.2.1 else false) (p := r3) (q := false) rfl rfl (fun _ => rfl) (fun _ => rfl))
   exact all_nil
  ·
   refine fin_base _ (base_nil rfl) ?_
   refine fin_one rfl rfl (fun _ => ?_)
   refine fin_nil ?_
   refine s_pure (p_assign (v := .bool (bif bif x0.1 == x1.1 then x0.2.1 == x1.2.1 else false then r3 else false)) rfl rfl) rfl rfl rfl ?_
   refine s_nil ?_
   refine x_then ?_
   refine s_ret ?_
   replace hF := some_inj hF
   subst hF
   exact x_ret () (res_one rfl (ra_tmp (v := .bool (bif bif x0.1 == x1.1 then x0.2.1 == x1.2.1 else false then r3 else false)) rfl)) rfl 2 rfl [] 2 rfl trivial

theorem culpritref32_Begin_ok {x0 : ((List (List Int)))} {x1 : ((List (List Int)))} {h0_0 : Hd} {h1_0 : Hd} {r : ((Int × Int × (List Int)) × Int)} (hF : culpritref32_Begin x0 x1 = some r) : ∀ (w : World) (S : Nat → Prop), Heap w (oldc S) [.rep (tA 16 .u8) [1] x0 h0_0, .rep (tA 16 .u8) [1] x1 h1_0] → Calls Try.prog 10 #[.agg ([Hd.val h0_0]).toArray, .agg ([Hd.val h1_0]).toArray] w (Post w S (fun (y47 : Hd) => .tuple #[.agg ([.int .i64 (r.1.1), .int .i64 (r.1.2.1), Hd.val y47]).toArray, .int .i64 (r.2)]) (fun (y47 : Hd) => [.own (tI .i64) 3 2 [] r.1.2.2 y47])) := by
  intro w S hL
  refine s_enter (n := 44) Try.func10 rfl rfl _ rfl hL ?_
  refine s_seq ?_
  refine s_region ?_
  refine s_op0 (ok_box (N := 11) (v := .agg ([Hd.val h0_0]).toArray) (cs := [Hd.val h0_0]) rfl rfl rfl rfl) rfl rfl rfl (fun b1 => ?_)
  refine s_op0 (ok_box (N := 12) (v := .agg ([Hd.val h1_0]).toArray) (cs := [Hd.val h1_0]) rfl rfl rfl rfl) rfl rfl rfl (fun b2 => ?_)
  refine s_nilrow (tI .i64) 3 14 [] ?_
  refine s_op0 (ok_alloc (N := 15) (cs := [.int .i64 (0), .int .i64 (0), Hd.val (nilH 3)]) rfl Try.ti37 rfl rfl) rfl rfl rfl (fun b4 => ?_)
  refine s_pure (p_assign (v := .int .i64 (0)) rfl rfl) rfl rfl rfl ?_
  refine s_nil ?_
  refine x_then ?_
  refine s_seq ?_
  refine s_seq ?_
  refine s_text Try.mixed [⟨true, 8, [], Unit, fun _ => .pointer (some ⟨b1, 0, none⟩), fun _ => [], [], [], []⟩, ⟨true, 9, [0], Unit, fun _ => Hd.val h0_0, fun _ => [], [], [], []⟩, ⟨true, 10, [1], Unit, fun _ => .int .i64 ((x0.length : Int)), fun _ => [], [], [], []⟩, ⟨true, 11, [2], Unit, fun _ => .bool (decide (1000 < (x0.length : Int))), fun _ => [], [], [], []⟩, ⟨true, 12, [3], Unit, fun _ => .bool (decide (1000 < (x0.length : Int))), fun _ => [], [], [], []⟩, ⟨!(decide (1000 < (x0.length : Int))), 13, [], Unit, fun _ => .pointer (some ⟨b2, 0, none⟩), fun _ => [], [], [], []⟩, ⟨!(decide (1000 < (x0.length : Int))), 14, [5], Unit, fun _ => Hd.val h1_0, fun _ => [], [], [], []⟩, ⟨!(decide (1000 < (x0.length : Int))), 15, [6], Unit, fun _ => .int .i64 ((x1.length : Int)), fun _ => [], [], [], []⟩, ⟨!(decide (1000 < (x0.length : Int))), 16, [7], Unit, fun _ => .bool (decide (1000 < (x1.length : Int))), fun _ => [], [], [], []⟩, ⟨true, 17, [4, 8], Unit, fun _ => .bool (bif decide (1000 < (x0.length : Int)) then true else decide (1000 < (x1.length : Int))), fun _ => [], [], [], []⟩] [[], [0], [0, 1], [0, 1, 2], [0, 1, 2, 3], [0, 1, 2, 3, 4], [0, 1, 2, 3, 4, 5], [0, 1, 2, 3, 4, 5, 6], [0, 1, 2, 3, 4, 5, 6, 7], [0, 1, 2, 3, 4, 5, 6, 7, 8]] rfl rfl rfl rfl rfl ⟨.inl rfl, .inl rfl, .inl rfl, .inl rfl, .inl rfl, .inl rfl, .inl rfl, .inl rfl, .inl rfl, .inl rfl, trivial⟩ ?_ [9] rfl rfl (fun us => ?_)
  ·
   refine all_cons _ (base_nil rfl) (dst_some rfl rfl) rfl rfl rfl rfl (gd_none rfl rfl) (fun _ => ?_) ?_
   ·
    refine ob_nil rfl ?_
    exact PureOk.op (p_fieldAddr (fo := 0) rfl Try.underlying25 rfl Try.ti23 rfl rfl rfl)
   refine all_cons _ (base_nil rfl) (dst_some rfl rfl) rfl rfl rfl rfl (gd_none rfl rfl) (fun _ => ?_) ?_
   ·
    refine ob_one rfl rfl (fun _ => ?_)
    refine ob_nil rfl ?_
    exact PureOk.op (p_load_box (v := Hd.val h0_0) 3 rfl rfl Try.underlying23 rfl rfl rfl)
   refine all_cons _ (base_nil rfl) (dst_some rfl rfl) rfl rfl rfl rfl (gd_none rfl rfl) (fun _ => ?_) ?_
   ·
    refine ob_one rfl rfl (fun _ => ?_)
    refine ob_nil rfl ?_
    exact PureOk.op (p_len_rep (ty := (tA 16 .u8)) (xs := x0) (h := h0_0) 5 rfl rfl Try.underlying23 rfl)
   refine all_cons _ (base_nil rfl) (dst_some rfl rfl) rfl rfl rfl rfl (gd_none rfl rfl) (fun _ => ?_) ?_
   ·
    refine ob_one rfl rfl (fun _ => ?_)
    refine ob_nil rfl ?_
    exact PureOk.op (p_gtr rfl rfl rfl)
   refine all_cons _ (base_nil rfl) (dst_some rfl rfl) rfl rfl rfl rfl (gd_none rfl rfl) (fun _ => ?_) ?_
   ·
    refine ob_one rfl rfl (fun _ => ?_)
    refine ob_nil rfl ?_
    exact PureOk.op (p_move (v := .bool (decide (1000 < (x0.length : Int)))) rfl rfl)
   refine all_cons _ (base_nil rfl) (dst_some rfl rfl) rfl rfl rfl rfl (gd_some (e := ⟨true, 12, [3], Unit, fun _ => .bool (decide (1000 < (x0.length : Int))), fun _ => [], [], [], []⟩) (decide (1000 < (x0.length : Int))) rfl rfl rfl rfl (fun _ => rfl) (gd_f _)) (fun hx10 => ?_) ?_
   ·
    replace hx10 : (!(decide (1000 < (x0.length : Int)))) = true := hx10
    refine ob_nil rfl ?_
    exact PureOk.op (p_fieldAddr (fo := 0) rfl Try.underlying25 rfl Try.ti23 rfl rfl rfl)
   refine all_cons _ (base_nil rfl) (dst_some rfl rfl) rfl rfl rfl rfl (gd_some (e := ⟨true, 12, [3], Unit, fun _ => .bool (decide (1000 < (x0.length : Int))), fun _ => [], [], [], []⟩) (decide (1000 < (x0.length : Int))) rfl rfl rfl rfl (fun _ => rfl) (gd_f _)) (fun hx11 => ?_) ?_
   ·
    replace hx11 : (!(decide (1000 < (x0.length : Int)))) = true := hx11
    refine ob_two rfl (fun _ _ => ?_) (fun hn => clash hx11 hn)
    refine ob_nil rfl ?_
    exact PureOk.op (p_load_box (v := Hd.val h1_0) 2 rfl rfl Try.underlying23 rfl rfl rfl)
   refine all_cons _ (base_nil rfl) (dst_some rfl rfl) rfl rfl rfl rfl (gd_some (e := ⟨true, 12, [3], Unit, fun _ => .bool (decide (1000 < (x0.length : Int))), fun _ => [], [], [], []⟩) (decide (1000 < (x0.length : Int))) rfl rfl rfl rfl (fun _ => rfl) (gd_f _)) (fun hx12 => ?_) ?_
   ·
    replace hx12 : (!(decide (1000 < (x0.length : Int)))) = true := hx12
    refine ob_two rfl (fun _ _ => ?_) (fun hn => clash hx12 hn)
    refine ob_nil rfl ?_
    exact PureOk.op (p_len_rep (ty := (tA 16 .u8)) (xs := x1) (h := h1_0) 6 rfl rfl Try.underlying23 rfl)
   refine all_cons _ (base_nil rfl) (dst_some rfl rfl) rfl rfl rfl rfl (gd_some (e := ⟨true, 12, [3], Unit, fun _ => .bool (decide (1000 < (x0.length : Int))), fun _ => [], [], [], []⟩) (decide (1000 < (x0.length : Int))) rfl rfl rfl rfl (fun _ => rfl) (gd_f _)) (fun hx13 => ?_) ?_
   ·
    replace hx13 : (!(decide (1000 < (x0.length : Int)))) = true := hx13
    refine ob_two rfl (fun _ _ => ?_) (fun hn => clash hx13 hn)
    refine ob_nil rfl ?_
    exact PureOk.op (p_gtr rfl rfl rfl)
   refine all_cons _ (base_nil rfl) (dst_some rfl rfl) rfl rfl rfl rfl (gd_none rfl rfl) (fun _ => ?_) ?_
   ·
    refine ob_one rfl rfl (fun _ => ?_)
    refine ob_two rfl (fun hq15 _ => ?_) (fun hq15 => ?_)
    rotate_left
    ·
     replace hq15 : (!(decide (1000 < (x0.length : Int)))) = false := hq15
     refine ob_nil rfl ?_
     exact PureOk.op (p_pick (b := decide (1000 < (x0.length : Int))) (p := true) (q := decide (1000 < (x1.length : Int))) rfl rfl (fun _ => rfl) (fun hb => by first | (rw [hb] at hq15; cases hq15; done) | exact absurd hq15 (by rw [hb]; simp) | (simp_all; done)))
    refine ob_nil rfl ?_
    exact PureOk.op (p_pick (b := decide (1000 < (x0.length : Int))) (p := true) (q := decide (1000 < (x1.length : Int))) rfl rfl (fun _ => rfl) (fun _ => rfl))
   exact all_nil
  ·
   refine fin_base _ (base_nil rfl) ?_
   refine fin_one rfl rfl (fun _ => ?_)
   refine fin_nil ?_
   refine s_nil ?_
   refine x_then ?_
   refine s_cond rfl (fun hb16 => ?_) (fun hb16 => ?_)
   ·
    replace hF := cond_t hb16 hF
    refine s_seq ?_
    refine s_region ?_
    refine s_pure (p_build_struct (vals := []) (places := [(0, 1), (1, 1), (2, 1)]) (cells := [.int .i64 (0), .int .i64 (0), Hd.val (nilH 3)]) rfl Try.underlying37 Try.ti37 (⟨rfl, ⟨_, _, Try.ti3⟩, ⟨rfl, ⟨_, _, Try.ti3⟩, ⟨rfl, ⟨_, _, Try.ti22⟩, trivial⟩⟩⟩) rfl rfl) rfl rfl rfl ?_
    refine s_opn (ok_store_box (v := .agg ([.int .i64 (0), .int .i64 (0), Hd.val (nilH 3)]).toArray) (vs := [.int .i64 (0), .int .i64 (0), Hd.val (nilH 3)]) (cs' := [.int .i64 (0), .int .i64 (0), Hd.val (nilH 3)]) 0 rfl rfl Try.ti37 rfl rfl rfl rfl rfl rfl rfl) rfl rfl rfl (fun _ => ?_)
    refine s_pure (p_assign (v := .int .i64 (4)) rfl rfl) rfl rfl rfl ?_
    refine s_nil ?_
    refine x_then ?_
    refine s_ret ?_
    refine x_then_ret ?_
    replace hF := some_inj hF
    subst hF
    exact x_ret (nilH 3) (res_many (rs := [.cell 4 37, .tmp 5]) (vs := [.agg ([.int .i64 (0), .int .i64 (0), Hd.val (nilH 3)]).toArray, .int .i64 (4)]) rfl ⟨ra_cellN (cs := [.int .i64 (0), .int .i64 (0), Hd.val (nilH 3)]) 0 rfl Try.underlying37 rfl Try.ti37 rfl rfl, ra_tmp (v := .int .i64 (4)) rfl, trivial⟩ rfl) rfl 4 rfl [] 2 rfl ⟨.inr free_own, trivial⟩
   ·
    replace hF := cond_f hb16 hF
    refine s_skip ?_
    refine x_then ?_
    refine s_seq ?_
    refine s_region ?_
    refine s_pure (p_assign (v := .int .i64 (-1)) rfl rfl) rfl rfl rfl ?_
    refine s_nil ?_
    refine x_then ?_
    obtain ⟨r17, e18, hF⟩ := bind_some hF
    refine s_join (fun y19 : Unit => [(4, .pointer (some ⟨b4, 0, none⟩)), (6, .int .i64 (r17))]) (fun y19 : Unit => [.old w S, .box 15 b4 [.int .i64 (0), .int .i64 (0), Hd.val (nilH 3)]]) ?_ ?_
    ·
     refine s_seq ?_
     refine s_region ?_
     refine s_pure (p_assign (v := .int .i64 (0)) rfl rfl) rfl rfl rfl ?_
     refine s_nil ?_
     refine x_then ?_
     refine s_block ?_
     refine sim_loop (fun (s20 : Int × Int) (y21 : Unit) => [(2, .pointer (some ⟨b1, 0, none⟩)), (3, .pointer (some ⟨b2, 0, none⟩)), (4, .pointer (some ⟨b4, 0, none⟩)), (6, .int .i64 (s20.1)), (7, .int .i64 (s20.2))]) (fun (s20 : Int × Int) (y21 : Unit) => [.old w S, .box 11 b1 [Hd.val h0_0], .box 12 b2 [Hd.val h1_0], .box 15 b4 [.int .i64 (0), .int .i64 (0), Hd.val (nilH 3)], .rep (tA 16 .u8) [1] x0 h0_0, .rep (tA 16 .u8) [1] x1 h1_0]) () e18 [(11, 11), (12, 12), (15, 15)] 2 rfl ⟨rfl, rfl, rfl, rfl, rfl, trivial⟩ ⟨.inl ⟨4, _, rfl, weak_same⟩, .inl ⟨3, _, rfl, weak_same⟩, .inl ⟨2, _, rfl, weak_same⟩, .inl ⟨0, _, rfl, weak_same⟩, .inl ⟨5, _, rfl, weak_rep rfl⟩, .inl ⟨6, _, rfl, weak_rep rfl⟩, trivial⟩ ?_
     intro s20 y21 ρ' z22 e23
     refine s_seq ?_
     refine s_seq ?_
     refine s_text Try.mixed [⟨true, 19, [], Unit, fun _ => .int .i64 (s20.2), fun _ => [], [], [], []⟩, ⟨true, 20, [], Unit, fun _ => .pointer (some ⟨b1, 0, none⟩), fun _ => [], [], [], []⟩, ⟨true, 21, [1], Unit, fun _ => Hd.val h0_0, fun _ => [], [], [], []⟩, ⟨true, 22, [2], Unit, fun _ => .int .i64 ((x0.length : Int)), fun _ => [], [], [], []⟩, ⟨true, 23, [0, 3], Unit, fun _ => .bool (decide (s20.2 < (x0.length : Int))), fun _ => [], [], [], []⟩, ⟨true, 24, [4], Unit, fun _ => .bool (decide (s20.2 < (x0.length : Int))), fun _ => [], [], [], []⟩, ⟨!(decide (s20.2 < (x0.length : Int))), 25, [], Unit, fun _ => .int .i64 (s20.2), fun _ => [], [], [], []⟩, ⟨!(decide (s20.2 < (x0.length : Int))), 26, [], Unit, fun _ => .pointer (some ⟨b2, 0, none⟩), fun _ => [], [], [], []⟩, ⟨!(decide (s20.2 < (x0.length : Int))), 27, [7], Unit, fun _ => Hd.val h1_0, fun _ => [], [], [], []⟩, ⟨!(decide (s20.2 < (x0.length : Int))), 28, [8], Unit, fun _ => .int .i64 ((x1.length : Int)), fun _ => [], [], [], []⟩, ⟨!(decide (s20.2 < (x0.length : Int))), 29, [6, 9], Unit, fun _ => .bool (decide (s20.2 < (x1.length : Int))), fun _ => [], [], [], []⟩, ⟨true, 30, [5, 10], Unit, fun _ => .bool (bif decide (s20.2 < (x0.length : Int)) then true else decide (s20.2 < (x1.length : Int))), fun _ => [], [], [], []⟩] [[], [], [1], [1, 2], [0, 1, 2, 3], [0, 1, 2, 3, 4], [0, 1, 2, 3, 4, 5], [0, 1, 2, 3, 4, 5], [0, 1, 2, 3, 4, 5, 7], [0, 1, 2, 3, 4, 5, 7, 8], [0, 1, 2, 3, 4, 5, 6, 7, 8, 9], [0, 1, 2, 3, 4, 5, 6, 7, 8, 9, 10]] rfl rfl rfl rfl rfl ⟨.inl rfl, .inl rfl, .inl rfl, .inl rfl, .inl rfl, .inl rfl, .inl rfl, .inl rfl, .inl rfl, .inl rfl, .inl rfl, .inl rfl, trivial⟩ ?_ [11] rfl rfl (fun us => ?_)
     ·
      refine all_cons _ (base_nil rfl) (dst_some rfl rfl) rfl rfl rfl rfl (gd_none rfl rfl) (fun _ => ?_) ?_
      ·
       refine ob_nil rfl ?_
       exact PureOk.op (p_move (v := .int .i64 (s20.2)) rfl rfl)
      refine all_cons _ (base_nil rfl) (dst_some rfl rfl) rfl rfl rfl rfl (gd_none rfl rfl) (fun _ => ?_) ?_
      ·
       refine ob_nil rfl ?_
       exact PureOk.op (p_fieldAddr (fo := 0) rfl Try.underlying25 rfl Try.ti23 rfl rfl rfl)
      refine all_cons _ (base_nil rfl) (dst_some rfl rfl) rfl rfl rfl rfl (gd_none rfl rfl) (fun _ => ?_) ?_
      ·
       refine ob_one rfl rfl (fun _ => ?_)
       refine ob_nil rfl ?_
       exact PureOk.op (p_load_box (v := Hd.val h0_0) 1 rfl rfl Try.underlying23 rfl rfl rfl)
      refine all_cons _ (base_nil rfl) (dst_some rfl rfl) rfl rfl rfl rfl (gd_none rfl rfl) (fun _ => ?_) ?_
      ·
       refine ob_one rfl rfl (fun _ => ?_)
       refine ob_nil rfl ?_
       exact PureOk.op (p_len_rep (ty := (tA 16 .u8)) (xs := x0) (h := h0_0) 4 rfl rfl Try.underlying23 rfl)
      refine all_cons _ (base_nil rfl) (dst_some rfl rfl) rfl rfl rfl rfl (gd_none rfl rfl) (fun _ => ?_) ?_
      ·
       refine ob_one rfl rfl (fun _ => ?_)
       refine ob_one rfl rfl (fun _ => ?_)
       refine ob_nil rfl ?_
       exact PureOk.op (p_lss rfl rfl rfl)
      refine all_cons _ (base_nil rfl) (dst_some rfl rfl) rfl rfl rfl rfl (gd_none rfl rfl) (fun _ => ?_) ?_
      ·
       refine ob_one rfl rfl (fun _ => ?_)
       refine ob_nil rfl ?_
       exact PureOk.op (p_move (v := .bool (decide (s20.2 < (x0.length : Int)))) rfl rfl)
      refine all_cons _ (base_nil rfl) (dst_some rfl rfl) rfl rfl rfl rfl (gd_some (e := ⟨true, 24, [4], Unit, fun _ => .bool (decide (s20.2 < (x0.length : Int))), fun _ => [], [], [], []⟩) (decide (s20.2 < (x0.length : Int))) rfl rfl rfl rfl (fun _ => rfl) (gd_f _)) (fun hx30 => ?_) ?_
      ·
       replace hx30 : (!(decide (s20.2 < (x0.length : Int)))) = true := hx30
       refine ob_nil rfl ?_
       exact PureOk.op (p_move (v := .int .i64 (s20.2)) rfl rfl)
      refine all_cons _ (base_nil rfl) (dst_some rfl rfl) rfl rfl rfl rfl (gd_some (e := ⟨true, 24, [4], Unit, fun _ => .bool (decide (s20.2 < (x0.length : Int))), fun _ => [], [], [], []⟩) (decide (s20.2 < (x0.length : Int))) rfl rfl rfl rfl (fun _ => rfl) (gd_f _)) (fun hx31 => ?_) ?_
      ·
       replace hx31 : (!(decide (s20.2 < (x0.length : Int)))) = true := hx31
       refine ob_nil rfl ?_
       exact PureOk.op (p_fieldAddr (fo := 0) rfl Try.underlying25 rfl Try.ti23 rfl rfl rfl)
      refine all_cons _ (base_nil rfl) (dst_some rfl rfl) rfl rfl rfl rfl (gd_some (e := ⟨true, 24, [4], Unit, fun _ => .bool (decide (s20.2 < (x0.length : Int))), fun _ => [], [], [], []⟩) (decide (s20.2 < (x0.length : Int))) rfl rfl rfl rfl (fun _ => rfl) (gd_f _)) (fun hx32 => ?_) ?_
      ·
       replace hx32 : (!(decide (s20.2 < (x0.length : Int)))) = true := hx32
       refine ob_two rfl (fun _ _ => ?_) (fun hn => clash hx32 hn)
       refine ob_nil rfl ?_
       exact PureOk.op (p_load_box (v := Hd.val h1_0) 2 rfl rfl Try.underlying23 rfl rfl rfl)
      refine all_cons _ (base_nil rfl) (dst_some rfl rfl) rfl rfl rfl rfl (gd_some (e := ⟨true, 24, [4], Unit, fun _ => .bool (decide (s20.2 < (x0.length : Int))), fun _ => [], [], [], []⟩) (decide (s20.2 < (x0.length : Int))) rfl rfl rfl rfl (fun _ => rfl) (gd_f _)) (fun hx33 => ?_) ?_
      ·
       replace hx33 : (!(decide (s20.2 < (x0.length : Int)))) = true := hx33
       refine ob_two rfl (fun _ _ => ?_) (fun hn => clash hx33 hn)
       refine ob_nil rfl ?_
       exact PureOk.op (p_len_rep (ty := (tA 16 .u8)) (xs := x1) (h := h1_0) 5 rfl rfl Try.underlying23 rfl)
      refine all_cons _ (base_nil rfl) (dst_some rfl rfl) rfl rfl rfl rfl (gd_some (e := ⟨true, 24, [4], Unit, fun _ => .bool (decide (s20.2 < (x0.length : Int))), fun _ => [], [], [], []⟩) (decide (s20.2 < (x0.length : Int))) rfl rfl rfl rfl (fun _ => rfl) (gd_f _)) (fun hx34 => ?_) ?_
      ·
       replace hx34 : (!(decide (s20.2 < (x0.length : Int)))) = true := hx34
       refine ob_two rfl (fun _ _ => ?_) (fun hn => clash hx34 hn)
       refine ob_two rfl (fun _ _ => ?_) (fun hn => clash hx34 hn)
       refine ob_nil rfl ?_
       exact PureOk.op (p_lss rfl rfl rfl)
      refine all_cons _ (base_nil rfl) (dst_some rfl rfl) rfl rfl rfl rfl (gd_none rfl rfl) (fun _ => ?_) ?_
      ·
       refine ob_one rfl rfl (fun _ => ?_)
       refine ob_two rfl (fun hq36 _ => ?_) (fun hq36 => ?_)
       rotate_left
       ·
        replace hq36 : (!(decide (s20.2 < (x0.length : Int)))) = false := hq36
        refine ob_nil rfl ?_
        exact PureOk.op (p_pick (b := decide (s20.2 < (x0.length : Int))) (p := true) (q := decide (s20.2 < (x1.length : Int))) rfl rfl (fun _ => rfl) (fun hb => by first | (rw [hb] at hq36; cases hq36; done) | exact absurd hq36 (by rw [hb]; simp) | (simp_all; done)))
       refine ob_nil rfl ?_
       exact PureOk.op (p_pick (b := decide (s20.2 < (x0.length : Int))) (p := true) (q := decide (s20.2 < (x1.length : Int))) rfl rfl (fun _ => rfl) (fun _ => rfl))
      exact all_nil
     ·
      refine fin_base _ (base_nil rfl) ?_
      refine fin_one rfl rfl (fun _ => ?_)
      refine fin_nil ?_
      refine s_nil ?_
      refine x_then ?_
      refine s_cond rfl (fun hb37 => ?_) (fun hb37 => ?_)
      ·
       replace e23 := cond_t hb37 e23
       refine s_skip ?_
       refine x_then ?_
       obtain ⟨r38, e39, e23⟩ := bind_some e23
       refine s_join (fun y40 : Unit => [(2, .pointer (some ⟨b1, 0, none⟩)), (3, .pointer (some ⟨b2, 0, none⟩)), (4, .pointer (some ⟨b4, 0, none⟩)), (6, .int .i64 (r38)), (7, .int .i64 (s20.2))]) (fun y40 : Unit => [.old w S, .box 11 b1 [Hd.val h0_0], .box 12 b2 [Hd.val h1_0], .box 15 b4 [.int .i64 (0), .int .i64 (0), Hd.val (nilH 3)], .rep (tA 16 .u8) [1] x0 h0_0, .rep (tA 16 .u8) [1] x1 h1_0]) ?_ ?_
       ·
        refine s_block ?_
        refine s_seq ?_
        refine s_region ?_
        refine s_pure (p_loadN_box (cs' := [Hd.val h0_0]) 1 rfl rfl Try.underlying25 rfl Try.ti25 rfl rfl rfl) rfl rfl rfl ?_
        refine s_pure (p_loadN_box (cs' := [Hd.val h1_0]) 2 rfl rfl Try.underlying25 rfl Try.ti25 rfl rfl rfl) rfl rfl rfl ?_
        refine s_pure (p_move (v := .int .i64 (s20.2)) rfl rfl) rfl rfl rfl ?_
        obtain ⟨r41, e42, e39⟩ := bind_some e39
        refine s_op0 (ok_call (N := 16) (Φ := fun y43 => []) (culpritref32_Same_ok e42) rfl rfl rfl Try.func25 rfl Try.nm25 [1] ⟨.inl ⟨4, _, rfl, cov_rep rfl⟩, .inl ⟨5, _, rfl, cov_rep rfl⟩, trivial⟩ (fun _ => rfl) (fun _ => rfl) rfl) rfl rfl rfl (fun y43 => ?_)
        refine s_pure (p_not rfl rfl) rfl rfl rfl ?_
        refine s_nil ?_
        refine x_then ?_
        refine s_cond rfl (fun hb44 => ?_) (fun hb44 => ?_)
        ·
         replace e39 := cond_t hb44 e39
         refine s_region ?_
         refine s_pure (p_move (v := .int .i64 (s20.2)) rfl rfl) rfl rfl rfl ?_
         refine s_pure (p_assign (v := .int .i64 (s20.2)) rfl rfl) rfl rfl rfl ?_
         refine s_nil ?_
         refine x_block ?_
         replace e39 := some_inj e39
         subst e39
         exact x_join () [(11, 11), (12, 12), (15, 15)] 2 rfl ⟨rfl, rfl, rfl, rfl, rfl, trivial⟩ ⟨.inl ⟨0, _, rfl, weak_same⟩, .inl ⟨1, _, rfl, weak_same⟩, .inl ⟨2, _, rfl, weak_same⟩, .inl ⟨3, _, rfl, weak_same⟩, .inl ⟨4, _, rfl, weak_rep rfl⟩, .inl ⟨5, _, rfl, weak_rep rfl⟩, trivial⟩
        ·
         replace e39 := cond_f hb44 e39
         refine s_skip ?_
         refine x_block ?_
         replace e39 := some_inj e39
         subst e39
         exact x_join () [(11, 11), (12, 12), (15, 15)] 2 rfl ⟨rfl, rfl, rfl, rfl, rfl, trivial⟩ ⟨.inl ⟨0, _, rfl, weak_same⟩, .inl ⟨1, _, rfl, weak_same⟩, .inl ⟨2, _, rfl, weak_same⟩, .inl ⟨3, _, rfl, weak_same⟩, .inl ⟨4, _, rfl, weak_rep rfl⟩, .inl ⟨5, _, rfl, weak_rep rfl⟩, trivial⟩
       ·
        intro y40 ρ'
        refine s_region ?_
        refine s_pure (p_move (v := .int .i64 (s20.2)) rfl rfl) rfl rfl rfl ?_
        refine s_pure (p_add rfl rfl rfl) rfl rfl rfl ?_
        refine s_pure (p_assign (v := .int .i64 (w64 (s20.2 + 1))) rfl rfl) rfl rfl rfl ?_
        refine s_nil ?_
        exact x_next () e23 [(11, 11), (12, 12), (15, 15)] 2 rfl ⟨rfl, rfl, rfl, rfl, rfl, trivial⟩ ⟨.inl ⟨0, _, rfl, weak_same⟩, .inl ⟨1, _, rfl, weak_same⟩, .inl ⟨2, _, rfl, weak_same⟩, .inl ⟨3, _, rfl, weak_same⟩, .inl ⟨4, _, rfl, weak_rep rfl⟩, .inl ⟨5, _, rfl, weak_rep rfl⟩, trivial⟩
      ·
       replace e23 := cond_f hb37 e23
       refine s_exit ?_
       refine x_then_exit ?_
       refine x_out e23 (fun e45 => ?_)
       subst e45
       refine x_block_exit ?_
       exact x_join () [(15, 15)] 2 rfl ⟨rfl, rfl, trivial⟩ ⟨.inl ⟨0, _, rfl, weak_same⟩, .inl ⟨3, _, rfl, weak_same⟩, trivial⟩
    ·
     intro y19 ρ'
     refine s_seq ?_
     refine s_seq ?_
     refine s_region ?_
     refine s_pure (p_move (v := .int .i64 (r17)) rfl rfl) rfl rfl rfl ?_
     refine s_pure (p_lss rfl rfl rfl) rfl rfl rfl ?_
     refine s_nil ?_
     refine x_then ?_
     refine s_cond rfl (fun hb46 => ?_) (fun hb46 => ?_)
     ·
      replace hF := cond_t hb46 hF
      refine s_seq ?_
      refine s_region ?_
      refine s_nilrow (tI .i64) 3 28 [] ?_
      refine s_pure (p_build_struct (vals := []) (places := [(0, 1), (1, 1), (2, 1)]) (cells := [.int .i64 (0), .int .i64 (0), Hd.val (nilH 3)]) rfl Try.underlying37 Try.ti37 (⟨rfl, ⟨_, _, Try.ti3⟩, ⟨rfl, ⟨_, _, Try.ti3⟩, ⟨rfl, ⟨_, _, Try.ti22⟩, trivial⟩⟩⟩) rfl rfl) rfl rfl rfl ?_
      refine s_opn (ok_store_box (v := .agg ([.int .i64 (0), .int .i64 (0), Hd.val (nilH 3)]).toArray) (vs := [.int .i64 (0), .int .i64 (0), Hd.val (nilH 3)]) (cs' := [.int .i64 (0), .int .i64 (0), Hd.val (nilH 3)]) 2 rfl rfl Try.ti37 rfl rfl rfl rfl rfl rfl rfl) rfl rfl rfl (fun _ => ?_)
      refine s_pure (p_assign (v := .int .i64 (6)) rfl rfl) rfl rfl rfl ?_
      refine s_nil ?_
      refine x_then ?_
      refine s_ret ?_
      refine x_then_ret ?_
      replace hF := some_inj hF
      subst hF
      exact x_ret (nilH 3) (res_many (rs := [.cell 4 37, .tmp 5]) (vs := [.agg ([.int .i64 (0), .int .i64 (0), Hd.val (nilH 3)]).toArray, .int .i64 (6)]) rfl ⟨ra_cellN (cs := [.int .i64 (0), .int .i64 (0), Hd.val (nilH 3)]) 0 rfl Try.underlying37 rfl Try.ti37 rfl rfl, ra_tmp (v := .int .i64 (6)) rfl, trivial⟩ rfl) rfl 2 rfl [] 2 rfl ⟨.inr free_own, trivial⟩
     ·
      replace hF := cond_f hb46 hF
      refine s_skip ?_
      refine x_then ?_
      refine s_seq ?_
      refine s_region ?_
      refine s_pure (p_move (v := .int .i64 (r17)) rfl rfl) rfl rfl rfl ?_
      refine s_nilrow (tI .i64) 3 29 [] ?_
      refine s_pure (p_build_struct (vals := [(0, [.int .i64 (-1)]), (1, [.int .i64 (r17)])]) (places := [(0, 1), (1, 1), (2, 1)]) (cells := [.int .i64 (-1), .int .i64 (r17), Hd.val (nilH 3)]) rfl Try.underlying37 Try.ti37 (⟨rfl, ⟨_, _, Try.ti3⟩, ⟨rfl, ⟨_, _, Try.ti3⟩, ⟨rfl, ⟨_, _, Try.ti22⟩, trivial⟩⟩⟩) rfl rfl) rfl rfl rfl ?_
      refine s_opn (ok_store_box (v := .agg ([.int .i64 (-1), .int .i64 (r17), Hd.val (nilH 3)]).toArray) (vs := [.int .i64 (-1), .int .i64 (r17), Hd.val (nilH 3)]) (cs' := [.int .i64 (-1), .int .i64 (r17), Hd.val (nilH 3)]) 2 rfl rfl Try.ti37 rfl rfl rfl rfl rfl rfl rfl) rfl rfl rfl (fun _ => ?_)
      refine s_pure (p_assign (v := .int .i64 (0)) rfl rfl) rfl rfl rfl ?_
      refine s_nil ?_
      refine x_then ?_
      refine s_ret ?_
      replace hF := some_inj hF
      subst hF
      exact x_ret (nilH 3) (res_many (rs := [.cell 4 37, .tmp 5]) (vs := [.agg ([.int .i64 (-1), .int .i64 (r17), Hd.val (nilH 3)]).toArray, .int .i64 (0)]) rfl ⟨ra_cellN (cs := [.int .i64 (-1), .int .i64 (r17), Hd.val (nilH 3)]) 0 rfl Try.underlying37 rfl Try.ti37 rfl rfl, ra_tmp (v := .int .i64 (0)) rfl, trivial⟩ rfl) rfl 2 rfl [] 2 rfl ⟨.inr free_own, trivial⟩

theorem culpritref32_Proper_ok {x0 : (Int × Int × (List Int))} {x1 : ((List (List Int)))} {x2 : ((List (List Int)))} {h0_0 : Hd} {h1_0 : Hd} {h2_0 : Hd} {r : Bool} (hF : culpritref32_Proper x0 x1 x2 = some r) : ∀ (w : World) (S : Nat → Prop), Heap w (oldc S) [.rep (tI .i64) [1] x0.2.2 h0_0, .rep (tA 16 .u8) [1] x1 h1_0, .rep (tA 16 .u8) [1] x2 h2_0] → Calls Try.prog 21 #[.agg ([.int .i64 (x0.1), .int .i64 (x0.2.1), Hd.val h0_0]).toArray, .agg ([Hd.val h1_0]).toArray, .agg ([Hd.val h2_0]).toArray] w (Post w S (fun (_ : Unit) => .bool (r)) (fun (_ : Unit) => [])) := by
  intro w S hL
  refine s_enter (n := 32) Try.func21 rfl rfl _ rfl hL ?_
  refine s_seq ?_
  refine s_region ?_
  refine s_op0 (ok_box (N := 11) (v := .agg ([.int .i64 (x0.1), .int .i64 (x0.2.1), Hd.val h0_0]).toArray) (cs := [.int .i64 (x0.1), .int .i64 (x0.2.1), Hd.val h0_0]) rfl rfl rfl rfl) rfl rfl rfl (fun b1 => ?_)
  refine s_op0 (ok_box (N := 12) (v := .agg ([Hd.val h1_0]).toArray) (cs := [Hd.val h1_0]) rfl rfl rfl rfl) rfl rfl rfl (fun b2 => ?_)
  refine s_op0 (ok_box (N := 13) (v := .agg ([Hd.val h2_0]).toArray) (cs := [Hd.val h2_0]) rfl rfl rfl rfl) rfl rfl rfl (fun b3 => ?_)
  refine s_pure (p_assign (v := .bool (false)) rfl rfl) rfl rfl rfl ?_
  refine s_nil ?_
  refine x_then ?_
  refine s_seq ?_
  obtain ⟨r4, e5, hF⟩ := bind_some hF
  obtain ⟨r7, e8, hF⟩ := bind_some hF
  refine s_text Try.mixed [⟨true, 7, [], Unit, fun _ => .pointer (some ⟨b1, 0, none⟩), fun _ => [], [], [], []⟩, ⟨true, 8, [0], Unit, fun _ => .int .i64 (x0.1), fun _ => [], [], [], []⟩, ⟨true, 9, [1], Unit, fun _ => .bool (x0.1 == (-1)), fun _ => [], [], [], []⟩, ⟨true, 10, [2], Unit, fun _ => .bool (x0.1 == (-1)), fun _ => [], [], [], []⟩, ⟨!(x0.1 == (-1)), 11, [], Unit, fun _ => .agg ([Hd.val h1_0]).toArray, fun _ => [], [], [], []⟩, ⟨!(x0.1 == (-1)), 12, [], Unit, fun _ => .agg ([Hd.val h2_0]).toArray, fun _ => [], [], [], []⟩, ⟨!(x0.1 == (-1)), 13, [], Unit, fun _ => .pointer (some ⟨b1, 0, none⟩), fun _ => [], [], [], []⟩, ⟨!(x0.1 == (-1)), 14, [6], Unit, fun _ => .int .i64 (x0.1), fun _ => [], [], [], []⟩, ⟨!(x0.1 == (-1)), 15, [4, 5, 7], Unit, fun (y6 : Unit) => .bool (r4), fun _ => [], [], [], []⟩, ⟨true, 16, [3, 8], Unit, fun _ => .bool (bif x0.1 == (-1) then true else r4), fun _ => [], [], [], []⟩, ⟨true, 17, [9], Unit, fun _ => .bool (bif x0.1 == (-1) then true else r4), fun _ => [], [], [], []⟩, ⟨(bif x0.1 == (-1) then true else r4), 18, [], Unit, fun _ => .pointer (some ⟨b1, 1, none⟩), fun _ => [], [], [], []⟩, ⟨(bif x0.1 == (-1) then true else r4), 19, [11], Unit, fun _ => .int .i64 (x0.2.1), fun _ => [], [], [], []⟩, ⟨(bif x0.1 == (-1) then true else r4), 20, [], Unit, fun _ => .pointer (some ⟨b1, 0, none⟩), fun _ => [], [], [], []⟩, ⟨(bif x0.1 == (-1) then true else r4), 21, [13], Unit, fun _ => .int .i64 (x0.1), fun _ => [], [], [], []⟩, ⟨(bif x0.1 == (-1) then true else r4), 22, [12, 14], Unit, fun _ => .bool (decide (x0.1 < x0.2.1)), fun _ => [], [], [], []⟩, ⟨true, 23, [10, 15], Unit, fun _ => .bool (bif bif x0.1 == (-1) then true else r4 then decide (x0.1 < x0.2.1) else false), fun _ => [], [], [], []⟩, ⟨true, 24, [16], Unit, fun _ => .bool (bif bif x0.1 == (-1) then true else r4 then decide (x0.1 < x0.2.1) else false), fun _ => [], [], [], []⟩, ⟨(bif bif x0.1 == (-1) then true else r4 then decide (x0.1 < x0.2.1) else false), 25, [], Unit, fun _ => .agg ([Hd.val h1_0]).toArray, fun _ => [], [], [], []⟩, ⟨(bif bif x0.1 == (-1) then true else r4 then decide (x0.1 < x0.2.1) else false), 26, [], Unit, fun _ => .agg ([Hd.val h2_0]).toArray, fun _ => [], [], [], []⟩, ⟨(bif bif x0.1 == (-1) then true else r4 then decide (x0.1 < x0.2.1) else false), 27, [], Unit, fun _ => .pointer (some ⟨b1, 1, none⟩), fun _ => [], [], [], []⟩, ⟨(bif bif x0.1 == (-1) then true else r4 then decide (x0.1 < x0.2.1) else false), 28, [20], Unit, fun _ => .int .i64 (x0.2.1), fun _ => [], [], [], []⟩, ⟨(bif bif x0.1 == (-1) then true else r4 then decide (x0.1 < x0.2.1) else false), 29, [18, 19, 21], Unit, fun (y9 : Unit) => .bool (r7), fun _ => [], [], [], []⟩, ⟨(bif bif x0.1 == (-1) then true else r4 then decide (x0.1 < x0.2.1) else false), 30, [22], Unit, fun _ => .bool (!r7), fun _ => [], [], [], []⟩, ⟨true, 31, [17, 23], Unit, fun _ => .bool (bif bif bif x0.1 == (-1) then true else r4 then decide (x0.1 < x0.2.1) else false then !r7 else false), fun _ => [], [], [], []⟩] [[], [0], [0, 1], [0, 1, 2], [0, 1, 2, 3], [0, 1, 2, 3], [0, 1, 2, 3], [0, 1, 2, 3, 6], [0, 1, 2, 3, 4, 5, 6, 7], [0, 1, 2, 3, 4, 5, 6, 7, 8], [0, 1, 2, 3, 4, 5, 6, 7, 8, 9], [0, 1, 2, 3, 4, 5, 6, 7, 8, 9, 10], [0, 1, 2, 3, 4, 5, 6, 7, 8, 9, 10, 11], [0, 1, 2, 3, 4, 5, 6, 7, 8, 9, 10], [0, 1, 2, 3, 4, 5, 6, 7, 8, 9, 10, 13], [0, 1, 2, 3, 4, 5, 6, 7, 8, 9, 10, 11, 12, 13, 14], [0, 1, 2, 3, 4, 5, 6, 7, 8, 9, 10, 11, 12, 13, 14, 15], [0, 1, 2, 3, 4, 5, 6, 7, 8, 9, 10, 11, 12, 13, 14, 15, 16], [0, 1, 2, 3, 4, 5, 6, 7, 8, 9, 10, 11, 12, 13, 14, 15, 16, 17], [0, 1, 2, 3, 4, 5, 6, 7, 8, 9, 10, 11, 12, 13, 14, 15, 16, 17], [0, 1, 2, 3, 4, 5, 6, 7, 8, 9, 10, 11, 12, 13, 14, 15, 16, 17], [0, 1, 2, 3, 4, 5, 6, 7, 8, 9, 10, 11, 12, 13, 14, 15, 16, 17, 20], [0, 1, 2, 3, 4, 5, 6, 7, 8, 9, 10, 11, 12, 13, 14, 15, 16, 17, 18, 19, 20, 21], [0, 1, 2, 3, 4, 5, 6, 7, 8, 9, 10, 11, 12, 13, 14, 15, 16, 17, 18, 19, 20, 21, 22], [0, 1, 2, 3, 4, 5, 6, 7, 8, 9, 10, 11, 12, 13, 14, 15, 16, 17, 18, 19, 20, 21, 22, 23], [0, 1, 2, 3, 4, 5, 6, 7, 8, 9, 10, 11, 12, 13, 14, 15, 16, 17, 18, 19, 20, 21, 22, 23, 24]] rfl rfl rfl rfl rfl ⟨.inl rfl, .inl rfl, .inl rfl, .inl rfl, .inl rfl, .inl rfl, .inl rfl, .inl rfl, .inl rfl, .inl rfl, .inl rfl, .inl rfl, .inl rfl, .inl rfl, .inl rfl, .inl rfl, .inl rfl, .inl rfl, .inl rfl, .inl rfl, .inl rfl, .inl rfl, .inl rfl, .inl rfl, .inl rfl, trivial⟩ ?_ [24] rfl rfl (fun us => ?_)
  ·
   refine all_cons _ (base_nil rfl) (dst_some rfl rfl) rfl rfl rfl rfl (gd_none rfl rfl) (fun _ => ?_) ?_
   ·
    refine ob_nil rfl ?_
    exact PureOk.op (p_fieldAddr (fo := 0) rfl Try.underlying37 rfl Try.ti3 rfl rfl rfl)
   refine all_cons _ (base_nil rfl) (dst_some rfl rfl) rfl rfl rfl rfl (gd_none rfl rfl) (fun _ => ?_) ?_
   ·
    refine ob_one rfl rfl (fun _ => ?_)
    refine ob_nil rfl ?_
    exact PureOk.op (p_load_box (v := .int .i64 (x0.1)) 2 rfl rfl Try.underlying3 rfl rfl rfl)
   refine all_cons _ (base_nil rfl) (dst_some rfl rfl) rfl rfl rfl rfl (gd_none rfl rfl) (fun _ => ?_) ?_
   ·
    refine ob_one rfl rfl (fun _ => ?_)
    refine ob_nil rfl ?_
    exact PureOk.op (p_eql rfl rfl rfl)
   refine all_cons _ (base_nil rfl) (dst_some rfl rfl) rfl rfl rfl rfl (gd_none rfl rfl) (fun _ => ?_) ?_
   ·
    refine ob_one rfl rfl (fun _ => ?_)
    refine ob_nil rfl ?_
    exact PureOk.op (p_move (v := .bool (x0.1 == (-1))) rfl rfl)
   refine all_cons _ (base_nil rfl) (dst_some rfl rfl) rfl rfl rfl rfl (gd_some (e := ⟨true, 10, [2], Unit, fun _ => .bool (x0.1 == (-1)), fun _ => [], [], [], []⟩) (x0.1 == (-1)) rfl rfl rfl rfl (fun _ => rfl) (gd_f _)) (fun hx14 => ?_) ?_
   ·
    replace hx14 : (!(x0.1 == (-1))) = true := hx14
    refine ob_nil rfl ?_
    exact PureOk.op (p_loadN_box (cs' := [Hd.val h1_0]) 1 rfl rfl Try.underlying25 rfl Try.ti25 rfl rfl rfl)
   refine all_cons _ (base_nil rfl) (dst_some rfl rfl) rfl rfl rfl rfl (gd_some (e := ⟨true, 10, [2], Unit, fun _ => .bool (x0.1 == (-1)), fun _ => [], [], [], []⟩) (x0.1 == (-1)) rfl rfl rfl rfl (fun _ => rfl) (gd_f _)) (fun hx15 => ?_) ?_
   ·
    replace hx15 : (!(x0.1 == (-1))) = true := hx15
    refine ob_nil rfl ?_
    exact PureOk.op (p_loadN_box (cs' := [Hd.val h2_0]) 0 rfl rfl Try.underlying25 rfl Try.ti25 rfl rfl rfl)
   refine all_cons _ (base_nil rfl) (dst_some rfl rfl) rfl rfl rfl rfl (gd_some (e := ⟨true, 10, [2], Unit, fun _ => .bool (x0.1 == (-1)), fun _ => [], [], [], []⟩) (x0.1 == (-1)) rfl rfl rfl rfl (fun _ => rfl) (gd_f _)) (fun hx16 => ?_) ?_
   ·
    replace hx16 : (!(x0.1 == (-1))) = true := hx16
    refine ob_nil rfl ?_
    exact PureOk.op (p_fieldAddr (fo := 0) rfl Try.underlying37 rfl Try.ti3 rfl rfl rfl)
   refine all_cons _ (base_nil rfl) (dst_some rfl rfl) rfl rfl rfl rfl (gd_some (e := ⟨true, 10, [2], Unit, fun _ => .bool (x0.1 == (-1)), fun _ => [], [], [], []⟩) (x0.1 == (-1)) rfl rfl rfl rfl (fun _ => rfl) (gd_f _)) (fun hx17 => ?_) ?_
   ·
    replace hx17 : (!(x0.1 == (-1))) = true := hx17
    refine ob_two rfl (fun _ _ => ?_) (fun hn => clash hx17 hn)
    refine ob_nil rfl ?_
    exact PureOk.op (p_load_box (v := .int .i64 (x0.1)) 2 rfl rfl Try.underlying3 rfl rfl rfl)
   refine all_cons _ (base_nil rfl) (dst_some rfl rfl) rfl rfl rfl rfl (gd_some (e := ⟨true, 10, [2], Unit, fun _ => .bool (x0.1 == (-1)), fun _ => [], [], [], []⟩) (x0.1 == (-1)) rfl rfl rfl rfl (fun _ => rfl) (gd_f _)) (fun hx18 => ?_) ?_
   ·
    replace hx18 : (!(x0.1 == (-1))) = true := hx18
    replace e5 := cond_t hx18 e5
    refine ob_two rfl (fun _ _ => ?_) (fun hn => clash hx18 hn)
    refine ob_two rfl (fun _ _ => ?_) (fun hn => clash hx18 hn)
    refine ob_two rfl (fun _ _ => ?_) (fun hn => clash hx18 hn)
    refine ob_nil rfl ?_
    exact ok_call (N := 14) (Φ := fun y6 => []) (culpritref32_both_ok e5) rfl rfl rfl Try.func29 rfl Try.nm29 [1] ⟨.inl ⟨5, _, rfl, cov_rep rfl⟩, .inl ⟨6, _, rfl, cov_rep rfl⟩, trivial⟩ (fun _ => rfl) (fun _ => rfl) rfl
   refine all_cons _ (base_nil rfl) (dst_some rfl rfl) rfl rfl rfl rfl (gd_none rfl rfl) (fun _ => ?_) ?_
   ·
    refine ob_one rfl rfl (fun _ => ?_)
    refine ob_two rfl (fun hq20 y6 => ?_) (fun hq20 => ?_)
    rotate_left
    ·
     replace hq20 : (!(x0.1 == (-1))) = false := hq20
     refine ob_nil rfl ?_
     exact PureOk.op (p_pick (b := x0.1 == (-1)) (p := true) (q := r4) rfl rfl (fun _ => rfl) (fun hb => by first | (rw [hb] at hq20; cases hq20; done) | exact absurd hq20 (by rw [hb]; simp) | (simp_all; done)))
    refine ob_nil rfl ?_
    exact PureOk.op (p_pick (b := x0.1 == (-1)) (p := true) (q := r4) rfl rfl (fun _ => rfl) (fun _ => rfl))
   refine all_cons _ (base_nil rfl) (dst_some rfl rfl) rfl rfl rfl rfl (gd_none rfl rfl) (fun _ => ?_) ?_
   ·
    refine ob_one rfl rfl (fun _ => ?_)
    refine ob_nil rfl ?_
    exact PureOk.op (p_move (v := .bool (bif x0.1 == (-1) then true else r4)) rfl rfl)
   refine all_cons _ (base_nil rfl) (dst_some rfl rfl) rfl rfl rfl rfl (gd_some (e := ⟨true, 17, [9], Unit, fun _ => .bool (bif x0.1 == (-1) then true else r4), fun _ => [], [], [], []⟩) (bif x0.1 == (-1) then true else r4) rfl rfl rfl rfl (fun _ => rfl) (gd_t _)) (fun hx22 => ?_) ?_
   ·
    replace hx22 : ((bif x0.1 == (-1) then true else r4)) = true := hx22
    refine ob_nil rfl ?_
    exact PureOk.op (p_fieldAddr (fo := 1) rfl Try.underlying37 rfl Try.ti3 rfl rfl rfl)
   refine all_cons _ (base_nil rfl) (dst_some rfl rfl) rfl rfl rfl rfl (gd_some (e := ⟨true, 17, [9], Unit, fun _ => .bool (bif x0.1 == (-1) then true else r4), fun _ => [], [], [], []⟩) (bif x0.1 == (-1) then true else r4) rfl rfl rfl rfl (fun _ => rfl) (gd_t _)) (fun hx23 => ?_) ?_
   ·
    replace hx23 : ((bif x0.1 == (-1) then true else r4)) = true := hx23
    refine ob_two rfl (fun _ _ => ?_) (fun hn => clash hx23 hn)
    refine ob_nil rfl ?_
    exact PureOk.op (p_load_box (v := .int .i64 (x0.2.1)) 2 rfl rfl Try.underlying3 rfl rfl rfl)
   refine all_cons _ (base_nil rfl) (dst_some rfl rfl) rfl rfl rfl rfl (gd_some (e := ⟨true, 17, [9], Unit, fun _ => .bool (bif x0.1 == (-1) then true else r4), fun _ => [], [], [], []⟩) (bif x0.1 == (-1) then true else r4) rfl rfl rfl rfl (fun _ => rfl) (gd_t _)) (fun hx24 => ?_) ?_
   ·
    replace hx24 : ((bif x0.1 == (-1) then true else r4)) = true := hx24
    refine ob_nil rfl ?_
    exact PureOk.op (p_fieldAddr (fo := 0) rfl Try.underlying37 rfl Try.ti3 rfl rfl rfl)
   refine all_cons _ (base_nil rfl) (dst_some rfl rfl) rfl rfl rfl rfl (gd_some (e := ⟨true, 17, [9], Unit, fun _ => .bool (bif x0.1 == (-1) then true else r4), fun _ => [], [], [], []⟩) (bif x0.1 == (-1) then true else r4) rfl rfl rfl rfl (fun _ => rfl) (gd_t _)) (fun hx25 => ?_) ?_
   ·
    replace hx25 : ((bif x0.1 == (-1) then true else r4)) = true := hx25
    refine ob_two rfl (fun _ _ => ?_) (fun hn => clash hx25 hn)
    refine ob_nil rfl ?_
    exact PureOk.op (p_load_box (v := .int .i64 (x0.1)) 2 rfl rfl Try.underlying3 rfl rfl rfl)
   refine all_cons _ (base_nil rfl) (dst_some rfl rfl) rfl rfl rfl rfl (gd_some (e := ⟨true, 17, [9], Unit, fun _ => .bool (bif x0.1 == (-1) then true else r4), fun _ => [], [], [], []⟩) (bif x0.1 == (-1) then true else r4) rfl rfl rfl rfl (fun _ => rfl) (gd_t _)) (fun hx26 => ?_) ?_
   ·
    replace hx26 : ((bif x0.1 == (-1) then true else r4)) = true := hx26
    refine ob_two rfl (fun _ _ => ?_) (fun hn => clash hx26 hn)
    refine ob_two rfl (fun _ _ => ?_) (fun hn => clash hx26 hn)
    refine ob_nil rfl ?_
    exact PureOk.op (p_gtr rfl rfl rfl)
   refine all_cons _ (base_nil rfl) (dst_some rfl rfl) rfl rfl rfl rfl (gd_none rfl rfl) (fun _ => ?_) ?_
   ·
    refine ob_one rfl rfl (fun _ => ?_)
    refine ob_two rfl (fun hq28 _ => ?_) (fun hq28 => ?_)
    rotate_left
    ·
     replace hq28 : ((bif x0.1 == (-1) then true else r4)) = false := hq28
     refine ob_nil rfl ?_
     exact PureOk.op (p_pick (b := bif x0.1 == (-1) then true else r4) (p := decide (x0.1 < x0.2.1)) (q := false) rfl rfl (fun hb => by first | (rw [hb] at hq28; cases hq28; done) | exact absurd hq28 (by rw [hb]; simp) | (simp_all; done)) (fun _ => rfl))
    refine ob_nil rfl ?_
    exact PureOk.op (p_pick (b := bif x0.1 == (-1) then true else r4) (p := decide (x0.1 < x0.2.1)) (q := false) rfl rfl (fun _ => rfl) (fun _ => rfl))
   refine all_cons _ (base_nil rfl) (dst_some rfl rfl) rfl rfl rfl rfl (gd_none rfl rfl) (fun _ => ?_) ?_
   ·
    refine ob_one rfl rfl (fun _ => ?_)
    refine ob_nil rfl ?_
    exact PureOk.op (p_move (v := .bool (bif bif x0.1 == (-1) then true else r4 then decide (x0.1 < x0.2.1) else false)) rfl rfl)
   refine all_cons _ (base_nil rfl) (dst_some rfl rfl) rfl rfl rfl rfl (gd_some (e := ⟨true, 24, [16], Unit, fun _ => .bool (bif bif x0.1 == (-1) then true else r4 then decide (x0.1 < x0.2.1) else false), fun _ => [], [], [], []⟩) (bif bif x0.1 == (-1) then true else r4 then decide (x0.1 < x0.2.1) else false) rfl rfl rfl rfl (fun _ => rfl) (gd_t _)) (fun hx30 => ?_) ?_
   ·
    replace hx30 : ((bif bif x0.1 == (-1) then true else r4 then decide (x0.1 < x0.2.1) else false)) = true := hx30
    refine ob_nil rfl ?_
    exact PureOk.op (p_loadN_box (cs' := [Hd.val h1_0]) 1 rfl rfl Try.underlying25 rfl Try.ti25 rfl rfl rfl)
   refine all_cons _ (base_nil rfl) (dst_some rfl rfl) rfl rfl rfl rfl (gd_some (e := ⟨true, 24, [16], Unit, fun _ => .bool (bif bif x0.1 == (-1) then true else r4 then decide (x0.1 < x0.2.1) else false), fun _ => [], [], [], []⟩) (bif bif x0.1 == (-1) then true else r4 then decide (x0.1 < x0.2.1) else false) rfl rfl rfl rfl (fun _ => rfl) (gd_t _)) (fun hx31 => ?_) ?_
   ·
    replace hx31 : ((bif bif x0.1 == (-1) then true else r4 then decide (x0.1 < x0.2.1) else false)) = true := hx31
    refine ob_nil rfl ?_
    exact PureOk.op (p_loadN_box (cs' := [Hd.val h2_0]) 0 rfl rfl Try.underlying25 rfl Try.ti25 rfl rfl rfl)
   refine all_cons _ (base_nil rfl) (dst_some rfl rfl) rfl rfl rfl rfl (gd_some (e := ⟨true, 24, [16], Unit, fun _ => .bool (bif bif x0.1 == (-1) then true else r4 then decide (x0.1 < x0.2.1) else false), fun _ => [], [], [], []⟩) (bif bif x0.1 == (-1) then true else r4 then decide (x0.1 < x0.2.1) else false) rfl rfl rfl rfl (fun _ => rfl) (gd_t _)) (fun hx32 => ?_) ?_
   ·
    replace hx32 : ((bif bif x0.1 == (-1) then true else r4 then decide (x0.1 < x0.2.1) else false)) = true := hx32
    refine ob_nil rfl ?_
    exact PureOk.op (p_fieldAddr (fo := 1) rfl Try.underlying37 rfl Try.ti3 rfl rfl rfl)
   refine all_cons _ (base_nil rfl) (dst_some rfl rfl) rfl rfl rfl rfl (gd_some (e := ⟨true, 24, [16], Unit, fun _ => .bool (bif bif x0.1 == (-1) then true else r4 then decide (x0.1 < x0.2.1) else false), fun _ => [], [], [], []⟩) (bif bif x0.1 == (-1) then true else r4 then decide (x0.1 < x0.2.1) else false) rfl rfl rfl rfl (fun _ => rfl) (gd_t _)) (fun hx33 => ?_) ?_
   ·
    replace hx33 : ((bif bif x0.1 == (-1) then true else r4 then decide (x0.1 < x0.2.1) else false)) = true := hx33
    refine ob_two rfl (fun _ _ => ?_) (fun hn => clash hx33 hn)
    refine ob_nil rfl ?_
    exact PureOk.op (p_load_box (v := .int .i64 (x0.2.1)) 2 rfl rfl Try.underlying3 rfl rfl rfl)
   refine all_cons _ (base_nil rfl) (dst_some rfl rfl) rfl rfl rfl rfl (gd_some (e := ⟨true, 24, [16], Unit, fun _ => .bool (bif bif x0.1 == (-1) then true else r4 then decide (x0.1 < x0.2.1) else false), fun _ => [], [], [], []⟩) (bif bif x0.1 == (-1) then true else r4 then decide (x0.1 < x0.2.1) else false) rfl rfl rfl rfl (fun _ => rfl) (gd_t _)) (fun hx34 => ?_) ?_
   ·
    replace hx34 : ((bif bif x0.1 == (-1) then true else r4 then decide (x0.1 < x0.2.1) else false)) = true := hx34
    replace e8 := cond_t hx34 e8
    refine ob_two rfl (fun _ _ => ?_) (fun hn => clash hx34 hn)
    refine ob_two rfl (fun _ _ => ?_) (fun hn => clash hx34 hn)
    refine ob_two rfl (fun _ _ => ?_) (fun hn => clash hx34 hn)
    refine ob_nil rfl ?_
    exact ok_call (N := 26) (Φ := fun y9 => []) (culpritref32_Same_ok e8) rfl rfl rfl Try.func25 rfl Try.nm25 [1] ⟨.inl ⟨5, _, rfl, cov_rep rfl⟩, .inl ⟨6, _, rfl, cov_rep rfl⟩, trivial⟩ (fun _ => rfl) (fun _ => rfl) rfl
   refine all_cons _ (base_nil rfl) (dst_some rfl rfl) rfl rfl rfl rfl (gd_some (e := ⟨true, 24, [16], Unit, fun _ => .bool (bif bif x0.1 == (-1) then true else r4 then decide (x0.1 < x0.2.1) else false), fun _ => [], [], [], []⟩) (bif bif x0.1 == (-1) then true else r4 then decide (x0.1 < x0.2.1) else false) rfl rfl rfl rfl (fun _ => rfl) (gd_t _)) (fun hx35 => ?_) ?_
   ·
    replace hx35 : ((bif bif x0.1 == (-1) then true else r4 then decide (x0.1 < x0.2.1) else false)) = true := hx35
    replace e8 := cond_t hx35 e8
    refine ob_two rfl (fun _ y9 => ?_) (fun hn => clash hx35 hn)
    refine ob_nil rfl ?_
    exact PureOk.op (p_not rfl rfl)
   refine all_cons _ (base_nil rfl) (dst_some rfl rfl) rfl rfl rfl rfl (gd_none rfl rfl) (fun _ => ?_) ?_
   ·
    refine ob_one rfl rfl (fun _ => ?_)
    refine ob_two rfl (fun hq37 _ => ?_) (fun hq37 => ?_)
    rotate_left
    ·
     replace hq37 : ((bif bif x0.1 == (-1) then true else r4 then decide (x0.1 < x0.2.1) else false)) = false := hq37
     refine ob_nil rfl ?_
     exact PureOk.op (p_pick (b := bif bif x0.1 == (-1) then true else r4 then decide (x0.1 < x0.2.1) else false) (p := !r7) (q := false) rfl rfl (fun hb => by first | (rw [hb] at hq37; cases hq37; done) | exact absurd hq37 (by rw [hb]; simp) | (simp_all; done)) (fun _ => rfl))
    refine ob_nil rfl ?_
    exact PureOk.op (p_pick (b := bif bif x0.1 == (-1) then true else r4 then decide (x0.1 < x0.2.1) else false) (p := !r7) (q := false) rfl rfl (fun _ => rfl) (fun _ => rfl))
   exact all_nil
  ·
   refine fin_base _ (base_nil rfl) ?_
   refine fin_one rfl rfl (fun _ => ?_)
   refine fin_nil ?_
   refine s_pure (p_assign (v := .bool (bif bif bif x0.1 == (-1) then true else r4 then decide (x0.1 < x0.2.1) else false then !r7 else false)) rfl rfl) rfl rfl rfl ?_
   refine s_nil ?_
   refine x_then ?_
   refine s_ret ?_
   replace hF := some_inj hF
   subst hF
   exact x_ret () (res_one rfl (ra_tmp (v := .bool (bif bif bif x0.1 == (-1) then true else r4 then decide (x0.1 < x0.2.1) else false then !r7 else false)) rfl)) rfl 3 rfl [] 2 rfl trivial

theorem culpritref32_Halve_ok {x0 : (Int × Int × (List Int))} {x1 : ((List (List Int)))} {x2 : ((List (List Int)))} {h0_0 : Hd} {h1_0 : Hd} {h2_0 : Hd} {r : ((Int × Int × (List Int)) × Int)} (hF : culpritref32_Halve x0 x1 x2 = some r) : ∀ (w : World) (S : Nat → Prop), Heap w (oldc S) [.rep (tI .i64) [1] x0.2.2 h0_0, .rep (tA 16 .u8) [1] x1 h1_0, .rep (tA 16 .u8) [1] x2 h2_0] → Calls Try.prog 16 #[.agg ([.int .i64 (x0.1), .int .i64 (x0.2.1), Hd.val h0_0]).toArray, .agg ([Hd.val h1_0]).toArray, .agg ([Hd.val h2_0]).toArray] w (Post w S (fun (y51 : Hd) => .tuple #[.agg ([.int .i64 (r.1.1), .int .i64 (r.1.2.1), Hd.val y51]).toArray, .int .i64 (r.2)]) (fun (y51 : Hd) => [.own (tI .i64) 3 2 [] r.1.2.2 y51])) := by
  intro w S hL
  refine s_enter (n := 64) Try.func16 rfl rfl _ rfl hL ?_
  refine s_seq ?_
  refine s_region ?_
  refine s_op0 (ok_box (N := 11) (v := .agg ([.int .i64 (x0.1), .int .i64 (x0.2.1), Hd.val h0_0]).toArray) (cs := [.int .i64 (x0.1), .int .i64 (x0.2.1), Hd.val h0_0]) rfl rfl rfl rfl) rfl rfl rfl (fun b1 => ?_)
  refine s_op0 (ok_box (N := 12) (v := .agg ([Hd.val h1_0]).toArray) (cs := [Hd.val h1_0]) rfl rfl rfl rfl) rfl rfl rfl (fun b2 => ?_)
  refine s_op0 (ok_box (N := 13) (v := .agg ([Hd.val h2_0]).toArray) (cs := [Hd.val h2_0]) rfl rfl rfl rfl) rfl rfl rfl (fun b3 => ?_)
  refine s_nilrow (tI .i64) 3 15 [] ?_
  refine s_op0 (ok_alloc (N := 16) (cs := [.int .i64 (0), .int .i64 (0), Hd.val (nilH 3)]) rfl Try.ti37 rfl rfl) rfl rfl rfl (fun b5 => ?_)
  refine s_pure (p_assign (v := .int .i64 (0)) rfl rfl) rfl rfl rfl ?_
  refine s_nil ?_
  refine x_then ?_
  refine s_seq ?_
  refine s_seq ?_
  refine s_text Try.mixed [⟨true, 10, [], Unit, fun _ => .pointer (some ⟨b2, 0, none⟩), fun _ => [], [], [], []⟩, ⟨true, 11, [0], Unit, fun _ => Hd.val h1_0, fun _ => [], [], [], []⟩, ⟨true, 12, [1], Unit, fun _ => .int .i64 ((x1.length : Int)), fun _ => [], [], [], []⟩, ⟨true, 13, [2], Unit, fun _ => .bool (decide (1000 < (x1.length : Int))), fun _ => [], [], [], []⟩, ⟨true, 14, [3], Unit, fun _ => .bool (decide (1000 < (x1.length : Int))), fun _ => [], [], [], []⟩, ⟨!(decide (1000 < (x1.length : Int))), 15, [], Unit, fun _ => .pointer (some ⟨b3, 0, none⟩), fun _ => [], [], [], []⟩, ⟨!(decide (1000 < (x1.length : Int))), 16, [5], Unit, fun _ => Hd.val h2_0, fun _ => [], [], [], []⟩, ⟨!(decide (1000 < (x1.length : Int))), 17, [6], Unit, fun _ => .int .i64 ((x2.length : Int)), fun _ => [], [], [], []⟩, ⟨!(decide (1000 < (x1.length : Int))), 18, [7], Unit, fun _ => .bool (decide (1000 < (x2.length : Int))), fun _ => [], [], [], []⟩, ⟨true, 19, [4, 8], Unit, fun _ => .bool (bif decide (1000 < (x1.length : Int)) then true else decide (1000 < (x2.length : Int))), fun _ => [], [], [], []⟩] [[], [0], [0, 1], [0, 1, 2], [0, 1, 2, 3], [0, 1, 2, 3, 4], [0, 1, 2, 3, 4, 5], [0, 1, 2, 3, 4, 5, 6], [0, 1, 2, 3, 4, 5, 6, 7], [0, 1, 2, 3, 4, 5, 6, 7, 8]] rfl rfl rfl rfl rfl ⟨.inl rfl, .inl rfl, .inl rfl, .inl rfl, .inl rfl, .inl rfl, .inl rfl, .inl rfl, .inl rfl, .inl rfl, trivial⟩ ?_ [9] rfl rfl (fun us => ?_)
  ·
   refine all_cons _ (base_nil rfl) (dst_some rfl rfl) rfl rfl rfl rfl (gd_none rfl rfl) (fun _ => ?_) ?_
   ·
    refine ob_nil rfl ?_
    exact PureOk.op (p_fieldAddr (fo := 0) rfl Try.underlying25 rfl Try.ti23 rfl rfl rfl)
   refine all_cons _ (base_nil rfl) (dst_some rfl rfl) rfl rfl rfl rfl (gd_none rfl rfl) (fun _ => ?_) ?_
   ·
    refine ob_one rfl rfl (fun _ => ?_)
    refine ob_nil rfl ?_
    exact PureOk.op (p_load_box (v := Hd.val h1_0) 3 rfl rfl Try.underlying23 rfl rfl rfl)
   refine all_cons _ (base_nil rfl) (dst_some rfl rfl) rfl rfl rfl rfl (gd_none rfl rfl) (fun _ => ?_) ?_
   ·
    refine ob_one rfl rfl (fun _ => ?_)
    refine ob_nil rfl ?_
    exact PureOk.op (p_len_rep (ty := (tA 16 .u8)) (xs := x1) (h := h1_0) 7 rfl rfl Try.underlying23 rfl)
   refine all_cons _ (base_nil rfl) (dst_some rfl rfl) rfl rfl rfl rfl (gd_none rfl rfl) (fun _ => ?_) ?_
   ·
    refine ob_one rfl rfl (fun _ => ?_)
    refine ob_nil rfl ?_
    exact PureOk.op (p_gtr rfl rfl rfl)
   refine all_cons _ (base_nil rfl) (dst_some rfl rfl) rfl rfl rfl rfl (gd_none rfl rfl) (fun _ => ?_) ?_
   ·
    refine ob_one rfl rfl (fun _ => ?_)
    refine ob_nil rfl ?_
    exact PureOk.op (p_move (v := .bool (decide (1000 < (x1.length : Int)))) rfl rfl)
   refine all_cons _ (base_nil rfl) (dst_some rfl rfl) rfl rfl rfl rfl (gd_some (e := ⟨true, 14, [3], Unit, fun _ => .bool (decide (1000 < (x1.length : Int))), fun _ => [], [], [], []⟩) (decide (1000 < (x1.length : Int))) rfl rfl rfl rfl (fun _ => rfl) (gd_f _)) (fun hx11 => ?_) ?_
   ·
    replace hx11 : (!(decide (1000 < (x1.length : Int)))) = true := hx11
    refine ob_nil rfl ?_
    exact PureOk.op (p_fieldAddr (fo := 0) rfl Try.underlying25 rfl Try.ti23 rfl rfl rfl)
   refine all_cons _ (base_nil rfl) (dst_some rfl rfl) rfl rfl rfl rfl (gd_some (e := ⟨true, 14, [3], Unit, fun _ => .bool (decide (1000 < (x1.length : Int))), fun _ => [], [], [], []⟩) (decide (1000 < (x1.length : Int))) rfl rfl rfl rfl (fun _ => rfl) (gd_f _)) (fun hx12 => ?_) ?_
   ·
    replace hx12 : (!(decide (1000 < (x1.length : Int)))) = true := hx12
    refine ob_two rfl (fun _ _ => ?_) (fun hn => clash hx12 hn)
    refine ob_nil rfl ?_
    exact PureOk.op (p_load_box (v := Hd.val h2_0) 2 rfl rfl Try.underlying23 rfl rfl rfl)
   refine all_cons _ (base_nil rfl) (dst_some rfl rfl) rfl rfl rfl rfl (gd_some (e := ⟨true, 14, [3], Unit, fun _ => .bool (decide (1000 < (x1.length : Int))), fun _ => [], [], [], []⟩) (decide (1000 < (x1.length : Int))) rfl rfl rfl rfl (fun _ => rfl) (gd_f _)) (fun hx13 => ?_) ?_
   ·
    replace hx13 : (!(decide (1000 < (x1.length : Int)))) = true := hx13
    refine ob_two rfl (fun _ _ => ?_) (fun hn => clash hx13 hn)
    refine ob_nil rfl ?_
    exact PureOk.op (p_len_rep (ty := (tA 16 .u8)) (xs := x2) (h := h2_0) 8 rfl rfl Try.underlying23 rfl)
   refine all_cons _ (base_nil rfl) (dst_some rfl rfl) rfl rfl rfl rfl (gd_some (e := ⟨true, 14, [3], Unit, fun _ => .bool (decide (1000 < (x1.length : Int))), fun _ => [], [], [], []⟩) (decide (1000 < (x1.length : Int))) rfl rfl rfl rfl (fun _ => rfl) (gd_f _)) (fun hx14 => ?_) ?_
   ·
    replace hx14 : (!(decide (1000 < (x1.length : Int)))) = true := hx14
    refine ob_two rfl (fun _ _ => ?_) (fun hn => clash hx14 hn)
    refine ob_nil rfl ?_
    exact PureOk.op (p_gtr rfl rfl rfl)
   refine all_cons _ (base_nil rfl) (dst_some rfl rfl) rfl rfl rfl rfl (gd_none rfl rfl) (fun _ => ?_) ?_
   ·
    refine ob_one rfl rfl (fun _ => ?_)
    refine ob_two rfl (fun hq16 _ => ?_) (fun hq16 => ?_)
    rotate_left
    ·
     replace hq16 : (!(decide (1000 < (x1.length : Int)))) = false := hq16
     refine ob_nil rfl ?_
     exact PureOk.op (p_pick (b := decide (1000 < (x1.length : Int))) (p := true) (q := decide (1000 < (x2.length : Int))) rfl rfl (fun _ => rfl) (fun hb => by first | (rw [hb] at hq16; cases hq16; done) | exact absurd hq16 (by rw [hb]; simp) | (simp_all; done)))
    refine ob_nil rfl ?_
    exact PureOk.op (p_pick (b := decide (1000 < (x1.length : Int))) (p := true) (q := decide (1000 < (x2.length : Int))) rfl rfl (fun _ => rfl) (fun _ => rfl))
   exact all_nil
  ·
   refine fin_base _ (base_nil rfl) ?_
   refine fin_one rfl rfl (fun _ => ?_)
   refine fin_nil ?_
   refine s_nil ?_
   refine x_then ?_
   refine s_cond rfl (fun hb17 => ?_) (fun hb17 => ?_)
   ·
    replace hF := cond_t hb17 hF
    refine s_seq ?_
    refine s_region ?_
    refine s_pure (p_build_struct (vals := []) (places := [(0, 1), (1, 1), (2, 1)]) (cells := [.int .i64 (0), .int .i64 (0), Hd.val (nilH 3)]) rfl Try.underlying37 Try.ti37 (⟨rfl, ⟨_, _, Try.ti3⟩, ⟨rfl, ⟨_, _, Try.ti3⟩, ⟨rfl, ⟨_, _, Try.ti22⟩, trivial⟩⟩⟩) rfl rfl) rfl rfl rfl ?_
    refine s_opn (ok_store_box (v := .agg ([.int .i64 (0), .int .i64 (0), Hd.val (nilH 3)]).toArray) (vs := [.int .i64 (0), .int .i64 (0), Hd.val (nilH 3)]) (cs' := [.int .i64 (0), .int .i64 (0), Hd.val (nilH 3)]) 0 rfl rfl Try.ti37 rfl rfl rfl rfl rfl rfl rfl) rfl rfl rfl (fun _ => ?_)
    refine s_pure (p_assign (v := .int .i64 (4)) rfl rfl) rfl rfl rfl ?_
    refine s_nil ?_
    refine x_then ?_
    refine s_ret ?_
    refine x_then_ret ?_
    replace hF := some_inj hF
    subst hF
    exact x_ret (nilH 3) (res_many (rs := [.cell 6 37, .tmp 7]) (vs := [.agg ([.int .i64 (0), .int .i64 (0), Hd.val (nilH 3)]).toArray, .int .i64 (4)]) rfl ⟨ra_cellN (cs := [.int .i64 (0), .int .i64 (0), Hd.val (nilH 3)]) 0 rfl Try.underlying37 rfl Try.ti37 rfl rfl, ra_tmp (v := .int .i64 (4)) rfl, trivial⟩ rfl) rfl 5 rfl [] 2 rfl ⟨.inr free_own, trivial⟩
   ·
    replace hF := cond_f hb17 hF
    refine s_skip ?_
    refine x_then ?_
    refine s_seq ?_
    refine s_seq ?_
    refine s_region ?_
    refine s_pure (p_loadN_box (cs' := [.int .i64 (x0.1), .int .i64 (x0.2.1), Hd.val h0_0]) 4 rfl rfl Try.underlying37 rfl Try.ti37 rfl rfl rfl) rfl rfl rfl ?_
    refine s_pure (p_loadN_box (cs' := [Hd.val h1_0]) 3 rfl rfl Try.underlying25 rfl Try.ti25 rfl rfl rfl) rfl rfl rfl ?_
    refine s_pure (p_loadN_box (cs' := [Hd.val h2_0]) 2 rfl rfl Try.underlying25 rfl Try.ti25 rfl rfl rfl) rfl rfl rfl ?_
    obtain ⟨r18, e19, hF⟩ := bind_some hF
    refine s_op0 (ok_call (N := 17) (Φ := fun y20 => []) (culpritref32_Proper_ok e19) rfl rfl rfl Try.func21 rfl Try.nm21 [1] ⟨.inl ⟨6, _, rfl, cov_rep rfl⟩, .inl ⟨7, _, rfl, cov_rep rfl⟩, .inl ⟨8, _, rfl, cov_rep rfl⟩, trivial⟩ (fun _ => rfl) (fun _ => rfl) rfl) rfl rfl rfl (fun y20 => ?_)
    refine s_pure (p_not rfl rfl) rfl rfl rfl ?_
    refine s_nil ?_
    refine x_then ?_
    refine s_cond rfl (fun hb21 => ?_) (fun hb21 => ?_)
    ·
     replace hF := cond_t hb21 hF
     refine s_seq ?_
     refine s_region ?_
     refine s_pure (p_build_struct (vals := []) (places := [(0, 1), (1, 1), (2, 1)]) (cells := [.int .i64 (0), .int .i64 (0), Hd.val (nilH 3)]) rfl Try.underlying37 Try.ti37 (⟨rfl, ⟨_, _, Try.ti3⟩, ⟨rfl, ⟨_, _, Try.ti3⟩, ⟨rfl, ⟨_, _, Try.ti22⟩, trivial⟩⟩⟩) rfl rfl) rfl rfl rfl ?_
     refine s_opn (ok_store_box (v := .agg ([.int .i64 (0), .int .i64 (0), Hd.val (nilH 3)]).toArray) (vs := [.int .i64 (0), .int .i64 (0), Hd.val (nilH 3)]) (cs' := [.int .i64 (0), .int .i64 (0), Hd.val (nilH 3)]) 0 rfl rfl Try.ti37 rfl rfl rfl rfl rfl rfl rfl) rfl rfl rfl (fun _ => ?_)
     refine s_pure (p_assign (v := .int .i64 (1)) rfl rfl) rfl rfl rfl ?_
     refine s_nil ?_
     refine x_then ?_
     refine s_ret ?_
     refine x_then_ret ?_
     replace hF := some_inj hF
     subst hF
     exact x_ret (nilH 3) (res_many (rs := [.cell 6 37, .tmp 7]) (vs := [.agg ([.int .i64 (0), .int .i64 (0), Hd.val (nilH 3)]).toArray, .int .i64 (1)]) rfl ⟨ra_cellN (cs := [.int .i64 (0), .int .i64 (0), Hd.val (nilH 3)]) 0 rfl Try.underlying37 rfl Try.ti37 rfl rfl, ra_tmp (v := .int .i64 (1)) rfl, trivial⟩ rfl) rfl 5 rfl [] 2 rfl ⟨.inr free_own, trivial⟩
    ·
     replace hF := cond_f hb21 hF
     refine s_skip ?_
     refine x_then ?_
     refine s_seq ?_
     refine s_seq ?_
     refine s_region ?_
     refine s_pure (p_fieldAddr (fo := 1) rfl Try.underlying37 rfl Try.ti3 rfl rfl rfl) rfl rfl rfl ?_
     refine s_pure (p_load_box (v := .int .i64 (x0.2.1)) 4 rfl rfl Try.underlying3 rfl rfl rfl) rfl rfl rfl ?_
     refine s_pure (p_fieldAddr (fo := 0) rfl Try.underlying37 rfl Try.ti3 rfl rfl rfl) rfl rfl rfl ?_
     refine s_pure (p_load_box (v := .int .i64 (x0.1)) 4 rfl rfl Try.underlying3 rfl rfl rfl) rfl rfl rfl ?_
     refine s_pure (p_add rfl rfl rfl) rfl rfl rfl ?_
     refine s_pure (p_eql rfl rfl rfl) rfl rfl rfl ?_
     refine s_nil ?_
     refine x_then ?_
     refine s_cond rfl (fun hb22 => ?_) (fun hb22 => ?_)
     ·
      replace hF := cond_t hb22 hF
      refine s_seq ?_
      refine s_region ?_
      refine s_pure (p_build_struct (vals := []) (places := [(0, 1), (1, 1), (2, 1)]) (cells := [.int .i64 (0), .int .i64 (0), Hd.val (nilH 3)]) rfl Try.underlying37 Try.ti37 (⟨rfl, ⟨_, _, Try.ti3⟩, ⟨rfl, ⟨_, _, Try.ti3⟩, ⟨rfl, ⟨_, _, Try.ti22⟩, trivial⟩⟩⟩) rfl rfl) rfl rfl rfl ?_
      refine s_opn (ok_store_box (v := .agg ([.int .i64 (0), .int .i64 (0), Hd.val (nilH 3)]).toArray) (vs := [.int .i64 (0), .int .i64 (0), Hd.val (nilH 3)]) (cs' := [.int .i64 (0), .int .i64 (0), Hd.val (nilH 3)]) 0 rfl rfl Try.ti37 rfl rfl rfl rfl rfl rfl rfl) rfl rfl rfl (fun _ => ?_)
      refine s_pure (p_assign (v := .int .i64 (8)) rfl rfl) rfl rfl rfl ?_
      refine s_nil ?_
      refine x_then ?_
      refine s_ret ?_
      refine x_then_ret ?_
      replace hF := some_inj hF
      subst hF
      exact x_ret (nilH 3) (res_many (rs := [.cell 6 37, .tmp 7]) (vs := [.agg ([.int .i64 (0), .int .i64 (0), Hd.val (nilH 3)]).toArray, .int .i64 (8)]) rfl ⟨ra_cellN (cs := [.int .i64 (0), .int .i64 (0), Hd.val (nilH 3)]) 0 rfl Try.underlying37 rfl Try.ti37 rfl rfl, ra_tmp (v := .int .i64 (8)) rfl, trivial⟩ rfl) rfl 5 rfl [] 2 rfl ⟨.inr free_own, trivial⟩
     ·
      replace hF := cond_f hb22 hF
      refine s_skip ?_
      refine x_then ?_
      refine s_seq ?_
      refine s_region ?_
      refine s_pure (p_fieldAddr (fo := 0) rfl Try.underlying37 rfl Try.ti3 rfl rfl rfl) rfl rfl rfl ?_
      refine s_pure (p_load_box (v := .int .i64 (x0.1)) 4 rfl rfl Try.underlying3 rfl rfl rfl) rfl rfl rfl ?_
      refine s_pure (p_fieldAddr (fo := 1) rfl Try.underlying37 rfl Try.ti3 rfl rfl rfl) rfl rfl rfl ?_
      refine s_pure (p_load_box (v := .int .i64 (x0.2.1)) 4 rfl rfl Try.underlying3 rfl rfl rfl) rfl rfl rfl ?_
      refine s_pure (p_fieldAddr (fo := 0) rfl Try.underlying37 rfl Try.ti3 rfl rfl rfl) rfl rfl rfl ?_
      refine s_pure (p_load_box (v := .int .i64 (x0.1)) 4 rfl rfl Try.underlying3 rfl rfl rfl) rfl rfl rfl ?_
      refine s_pure (p_sub rfl rfl rfl) rfl rfl rfl ?_
      refine s_pure (p_quo rfl rfl rfl rfl) rfl rfl rfl ?_
      refine s_pure (p_add rfl rfl rfl) rfl rfl rfl ?_
      refine s_pure (p_assign (v := .int .i64 (w64 (x0.1 + (w64 (Int.tdiv (w64 (x0.2.1 - x0.1)) 2))))) rfl rfl) rfl rfl rfl ?_
      refine s_nil ?_
      refine x_then ?_
      refine s_seq ?_
      obtain ⟨c24, hF⟩ := chk_some hF
      obtain ⟨c27, hF⟩ := chk_some hF
      refine s_draw Try.mixed [⟨true, 43, [], Unit, fun _ => .pointer (some ⟨b1, 0, none⟩), fun _ => [], [], [], []⟩, ⟨true, 44, [0], Unit, fun _ => .int .i64 (x0.1), fun _ => [], [], [], []⟩, ⟨true, 45, [], Unit, fun _ => .pointer (some ⟨b1, 1, none⟩), fun _ => [], [], [], []⟩, ⟨true, 46, [2], Unit, fun _ => .int .i64 (x0.2.1), fun _ => [], [], [], []⟩, ⟨true, 47, [], Hd, fun (h23 : Hd) => Hd.val h23, fun h23 => [.own (tI .i64) 3 29 [] ([] : List Int) h23], [], [], []⟩, ⟨true, 48, [], Unit, fun _ => .pointer (some ⟨b1, 2, none⟩), fun _ => [], [], [], []⟩, ⟨true, 49, [5], Unit, fun _ => Hd.val h0_0, fun _ => [], [], [], []⟩, ⟨true, 50, [4, 6], Hd, fun (h25 : Hd) => Hd.val h25, fun h25 => [.own (tI .i64) 3 29 [] (([] : List Int) ++ x0.2.2) h25], [29], [4], []⟩, ⟨true, 51, [], Unit, fun _ => .int .i64 (w64 (x0.1 + (w64 (Int.tdiv (w64 (x0.2.1 - x0.1)) 2)))), fun _ => [], [], [], []⟩, ⟨true, 52, [8], Hd, fun (h26 : Hd) => Hd.val h26, fun h26 => [.own (tI .i64) 3 30 [] [w64 (x0.1 + (w64 (Int.tdiv (w64 (x0.2.1 - x0.1)) 2)))] h26], [], [], []⟩, ⟨true, 53, [7, 9], Hd, fun (h28 : Hd) => Hd.val h28, fun h28 => [.own (tI .i64) 3 29 [] ((([] : List Int) ++ x0.2.2) ++ [w64 (x0.1 + (w64 (Int.tdiv (w64 (x0.2.1 - x0.1)) 2)))]) h28], [29], [4, 7], []⟩, ⟨true, 54, [1, 3, 10], Hd, fun (z30 : Hd) => .agg ([.int .i64 (x0.1), .int .i64 (x0.2.1), Hd.val z30]).toArray, fun z30 => [.own (tI .i64) 3 29 [] ((([] : List Int) ++ x0.2.2) ++ [w64 (x0.1 + (w64 (Int.tdiv (w64 (x0.2.1 - x0.1)) 2)))]) z30], [], [], []⟩, ⟨true, 9, [], Nat, fun (b29 : Nat) => .pointer (some ⟨b29, 0, none⟩), fun b29 => [.box 31 b29 [.int .i64 (0), .int .i64 (0), Hd.val (nilH 3)]], [], [], []⟩] [[], [0], [], [2], [], [], [5], [4, 5, 6], [], [8], [4, 5, 6, 7, 8, 9], [0, 1, 2, 3, 4, 5, 6, 7, 8, 9, 10], [], [0, 1, 2, 3, 4, 5, 6, 7, 8, 9, 10, 11, 12]] rfl rfl rfl rfl rfl ⟨.inl rfl, .inl rfl, .inl rfl, .inl rfl, .inl rfl, .inl rfl, .inl rfl, .inr ⟨.inr fun _ => rfl, .inr fun _ => rfl, .inr fun _ => rfl, .inr fun _ => rfl, .inl rfl, .inr fun _ => rfl, .inr fun _ => rfl, .inl rfl, .inr fun _ => rfl, .inr fun _ => rfl, .inl rfl, .inl rfl, .inr fun _ => rfl, trivial⟩, .inl rfl, .inl rfl, .inr ⟨.inr fun _ => rfl, .inr fun _ => rfl, .inr fun _ => rfl, .inr fun _ => rfl, .inl rfl, .inr fun _ => rfl, .inr fun _ => rfl, .inl rfl, .inr fun _ => rfl, .inr fun _ => rfl, .inl rfl, .inl rfl, .inr fun _ => rfl, trivial⟩, .inl rfl, .inl rfl, trivial⟩ ?_ [11, 12] rfl rfl (fun us => ?_)
      ·
       refine all_cons [.box 16 b5 [.int .i64 (0), .int .i64 (0), Hd.val (nilH 3)], .own (tI .i64) 3 15 [] ([] : List Int) (nilH 3), .box 13 b3 [Hd.val h2_0], .box 12 b2 [Hd.val h1_0], .box 11 b1 [.int .i64 (x0.1), .int .i64 (x0.2.1), Hd.val h0_0], .old w S, .rep (tI .i64) [1] x0.2.2 h0_0, .rep (tA 16 .u8) [1] x1 h1_0, .rep (tA 16 .u8) [1] x2 h2_0] rfl (dst_some rfl rfl) rfl rfl rfl rfl (gd_none rfl rfl) (fun _ => ?_) ?_
       ·
        refine ob_nil rfl ?_
        exact PureOk.op (p_fieldAddr (fo := 0) rfl Try.underlying37 rfl Try.ti3 rfl rfl rfl)
       refine all_cons [.box 16 b5 [.int .i64 (0), .int .i64 (0), Hd.val (nilH 3)], .own (tI .i64) 3 15 [] ([] : List Int) (nilH 3), .box 13 b3 [Hd.val h2_0], .box 12 b2 [Hd.val h1_0], .box 11 b1 [.int .i64 (x0.1), .int .i64 (x0.2.1), Hd.val h0_0], .old w S, .rep (tI .i64) [1] x0.2.2 h0_0, .rep (tA 16 .u8) [1] x1 h1_0, .rep (tA 16 .u8) [1] x2 h2_0] rfl (dst_some rfl rfl) rfl rfl rfl rfl (gd_none rfl rfl) (fun _ => ?_) ?_
       ·
        refine ob_one rfl rfl (fun _ => ?_)
        refine ob_nil rfl ?_
        exact PureOk.op (p_load_box (v := .int .i64 (x0.1)) 4 rfl rfl Try.underlying3 rfl rfl rfl)
       refine all_cons [.box 16 b5 [.int .i64 (0), .int .i64 (0), Hd.val (nilH 3)], .own (tI .i64) 3 15 [] ([] : List Int) (nilH 3), .box 13 b3 [Hd.val h2_0], .box 12 b2 [Hd.val h1_0], .box 11 b1 [.int .i64 (x0.1), .int .i64 (x0.2.1), Hd.val h0_0], .old w S, .rep (tI .i64) [1] x0.2.2 h0_0, .rep (tA 16 .u8) [1] x1 h1_0, .rep (tA 16 .u8) [1] x2 h2_0] rfl (dst_some rfl rfl) rfl rfl rfl rfl (gd_none rfl rfl) (fun _ => ?_) ?_
       ·
        refine ob_nil rfl ?_
        exact PureOk.op (p_fieldAddr (fo := 1) rfl Try.underlying37 rfl Try.ti3 rfl rfl rfl)
       refine all_cons [.box 16 b5 [.int .i64 (0), .int .i64 (0), Hd.val (nilH 3)], .own (tI .i64) 3 15 [] ([] : List Int) (nilH 3), .box 13 b3 [Hd.val h2_0], .box 12 b2 [Hd.val h1_0], .box 11 b1 [.int .i64 (x0.1), .int .i64 (x0.2.1), Hd.val h0_0], .old w S, .rep (tI .i64) [1] x0.2.2 h0_0, .rep (tA 16 .u8) [1] x1 h1_0, .rep (tA 16 .u8) [1] x2 h2_0] rfl (dst_some rfl rfl) rfl rfl rfl rfl (gd_none rfl rfl) (fun _ => ?_) ?_
       ·
        refine ob_one rfl rfl (fun _ => ?_)
        refine ob_nil rfl ?_
        exact PureOk.op (p_load_box (v := .int .i64 (x0.2.1)) 4 rfl rfl Try.underlying3 rfl rfl rfl)
       refine all_cons [.box 16 b5 [.int .i64 (0), .int .i64 (0), Hd.val (nilH 3)], .own (tI .i64) 3 15 [] ([] : List Int) (nilH 3), .box 13 b3 [Hd.val h2_0], .box 12 b2 [Hd.val h1_0], .box 11 b1 [.int .i64 (x0.1), .int .i64 (x0.2.1), Hd.val h0_0], .old w S, .rep (tI .i64) [1] x0.2.2 h0_0, .rep (tA 16 .u8) [1] x1 h1_0, .rep (tA 16 .u8) [1] x2 h2_0] rfl (dst_some rfl rfl) rfl rfl rfl rfl (gd_none rfl rfl) (fun _ => ?_) ?_
       ·
        refine ob_nil rfl ?_
        exact ok_buildSlice0 (N := 29) (ty := (tI .i64)) (K := []) rfl Try.underlying22 Try.ti3 rfl rfl
       refine all_cons [.box 16 b5 [.int .i64 (0), .int .i64 (0), Hd.val (nilH 3)], .own (tI .i64) 3 15 [] ([] : List Int) (nilH 3), .box 13 b3 [Hd.val h2_0], .box 12 b2 [Hd.val h1_0], .box 11 b1 [.int .i64 (x0.1), .int .i64 (x0.2.1), Hd.val h0_0], .old w S, .rep (tI .i64) [1] x0.2.2 h0_0, .rep (tA 16 .u8) [1] x1 h1_0, .rep (tA 16 .u8) [1] x2 h2_0] rfl (dst_some rfl rfl) rfl rfl rfl rfl (gd_none rfl rfl) (fun _ => ?_) ?_
       ·
        refine ob_nil rfl ?_
        exact PureOk.op (p_fieldAddr (fo := 2) rfl Try.underlying37 rfl Try.ti22 rfl rfl rfl)
       refine all_cons [.box 16 b5 [.int .i64 (0), .int .i64 (0), Hd.val (nilH 3)], .own (tI .i64) 3 15 [] ([] : List Int) (nilH 3), .box 13 b3 [Hd.val h2_0], .box 12 b2 [Hd.val h1_0], .box 11 b1 [.int .i64 (x0.1), .int .i64 (x0.2.1), Hd.val h0_0], .old w S, .rep (tI .i64) [1] x0.2.2 h0_0, .rep (tA 16 .u8) [1] x1 h1_0, .rep (tA 16 .u8) [1] x2 h2_0] rfl (dst_some rfl rfl) rfl rfl rfl rfl (gd_none rfl rfl) (fun _ => ?_) ?_
       ·
        refine ob_one rfl rfl (fun _ => ?_)
        refine ob_nil rfl ?_
        exact PureOk.op (p_load_box (v := Hd.val h0_0) 4 rfl rfl Try.underlying22 rfl rfl rfl)
       refine all_cons [.box 16 b5 [.int .i64 (0), .int .i64 (0), Hd.val (nilH 3)], .own (tI .i64) 3 15 [] ([] : List Int) (nilH 3), .box 13 b3 [Hd.val h2_0], .box 12 b2 [Hd.val h1_0], .box 11 b1 [.int .i64 (x0.1), .int .i64 (x0.2.1), Hd.val h0_0], .old w S, .rep (tI .i64) [1] x0.2.2 h0_0, .rep (tA 16 .u8) [1] x1 h1_0, .rep (tA 16 .u8) [1] x2 h2_0] rfl (dst_some rfl rfl) rfl rfl rfl rfl (gd_none rfl rfl) (fun _ => ?_) ?_
       ·
        refine ob_one rfl rfl (fun h23 => ?_)
        refine ob_one rfl rfl (fun _ => ?_)
        refine ob_nil rfl ?_
        exact ok_append_p (ty := (tI .i64)) (xs := ([] : List Int)) (ys := x0.2.2) (h := h23) (hx := h0_0) (K2 := [1]) rfl 0 7 rfl _ rfl (weak_same) rfl Try.underlying22 Try.ti3 rfl rfl rfl rfl rfl c24 rfl rfl
       refine all_cons [.box 16 b5 [.int .i64 (0), .int .i64 (0), Hd.val (nilH 3)], .own (tI .i64) 3 15 [] ([] : List Int) (nilH 3), .box 13 b3 [Hd.val h2_0], .box 12 b2 [Hd.val h1_0], .box 11 b1 [.int .i64 (x0.1), .int .i64 (x0.2.1), Hd.val h0_0], .old w S, .rep (tI .i64) [1] x0.2.2 h0_0, .rep (tA 16 .u8) [1] x1 h1_0, .rep (tA 16 .u8) [1] x2 h2_0] rfl (dst_some rfl rfl) rfl rfl rfl rfl (gd_none rfl rfl) (fun _ => ?_) ?_
       ·
        refine ob_nil rfl ?_
        exact PureOk.op (p_move (v := .int .i64 (w64 (x0.1 + (w64 (Int.tdiv (w64 (x0.2.1 - x0.1)) 2))))) rfl rfl)
       refine all_cons [.box 16 b5 [.int .i64 (0), .int .i64 (0), Hd.val (nilH 3)], .own (tI .i64) 3 15 [] ([] : List Int) (nilH 3), .box 13 b3 [Hd.val h2_0], .box 12 b2 [Hd.val h1_0], .box 11 b1 [.int .i64 (x0.1), .int .i64 (x0.2.1), Hd.val h0_0], .old w S, .rep (tI .i64) [1] x0.2.2 h0_0, .rep (tA 16 .u8) [1] x1 h1_0, .rep (tA 16 .u8) [1] x2 h2_0] rfl (dst_some rfl rfl) rfl rfl rfl rfl (gd_none rfl rfl) (fun _ => ?_) ?_
       ·
        refine ob_one rfl rfl (fun _ => ?_)
        refine ob_nil rfl ?_
        exact ok_buildSlice (N := 30) (vals := [(0, [.int .i64 (w64 (x0.1 + (w64 (Int.tdiv (w64 (x0.2.1 - x0.1)) 2))))])]) (cells := [.int .i64 (w64 (x0.1 + (w64 (Int.tdiv (w64 (x0.2.1 - x0.1)) 2))))]) (ty := (tI .i64)) (K := []) (xs := [w64 (x0.1 + (w64 (Int.tdiv (w64 (x0.2.1 - x0.1)) 2)))]) (ys := [()]) rfl Try.underlying22 Try.ti3 rfl rfl rfl rfl rfl rfl rfl rfl trivial rfl
       refine all_cons [.box 16 b5 [.int .i64 (0), .int .i64 (0), Hd.val (nilH 3)], .own (tI .i64) 3 15 [] ([] : List Int) (nilH 3), .box 13 b3 [Hd.val h2_0], .box 12 b2 [Hd.val h1_0], .box 11 b1 [.int .i64 (x0.1), .int .i64 (x0.2.1), Hd.val h0_0], .old w S, .rep (tI .i64) [1] x0.2.2 h0_0, .rep (tA 16 .u8) [1] x1 h1_0, .rep (tA 16 .u8) [1] x2 h2_0] rfl (dst_some rfl rfl) rfl rfl rfl rfl (gd_none rfl rfl) (fun _ => ?_) ?_
       ·
        refine ob_one rfl rfl (fun h25 => ?_)
        refine ob_one rfl rfl (fun h26 => ?_)
        refine ob_nil rfl ?_
        exact ok_append_p (ty := (tI .i64)) (xs := ([] : List Int) ++ x0.2.2) (ys := [w64 (x0.1 + (w64 (Int.tdiv (w64 (x0.2.1 - x0.1)) 2)))]) (h := h25) (hx := h26) (K2 := [30]) rfl 1 0 rfl _ rfl (weak_own rfl) rfl Try.underlying22 Try.ti3 rfl rfl rfl rfl rfl c27 rfl rfl
       refine all_cons [.box 16 b5 [.int .i64 (0), .int .i64 (0), Hd.val (nilH 3)], .own (tI .i64) 3 15 [] ([] : List Int) (nilH 3), .box 13 b3 [Hd.val h2_0], .box 12 b2 [Hd.val h1_0], .box 11 b1 [.int .i64 (x0.1), .int .i64 (x0.2.1), Hd.val h0_0], .old w S, .rep (tI .i64) [1] x0.2.2 h0_0, .rep (tA 16 .u8) [1] x1 h1_0, .rep (tA 16 .u8) [1] x2 h2_0] rfl (dst_some rfl rfl) rfl rfl rfl rfl (gd_none rfl rfl) (fun _ => ?_) ?_
       ·
        refine ob_one rfl rfl (fun _ => ?_)
        refine ob_one rfl rfl (fun _ => ?_)
        refine ob_one rfl rfl (fun h28 => ?_)
        refine ob_nil rfl ?_
        exact ok_known (h28) (p_build_struct (vals := [(0, [.int .i64 (x0.1)]), (1, [.int .i64 (x0.2.1)]), (2, [Hd.val h28])]) (places := [(0, 1), (1, 1), (2, 1)]) (cells := [.int .i64 (x0.1), .int .i64 (x0.2.1), Hd.val h28]) rfl Try.underlying37 Try.ti37 (⟨rfl, ⟨_, _, Try.ti3⟩, ⟨rfl, ⟨_, _, Try.ti3⟩, ⟨rfl, ⟨_, _, Try.ti22⟩, trivial⟩⟩⟩) rfl rfl) rfl [0] rfl
       refine all_cons [.box 16 b5 [.int .i64 (0), .int .i64 (0), Hd.val (nilH 3)], .own (tI .i64) 3 15 [] ([] : List Int) (nilH 3), .box 13 b3 [Hd.val h2_0], .box 12 b2 [Hd.val h1_0], .box 11 b1 [.int .i64 (x0.1), .int .i64 (x0.2.1), Hd.val h0_0], .old w S, .rep (tI .i64) [1] x0.2.2 h0_0, .rep (tA 16 .u8) [1] x1 h1_0, .rep (tA 16 .u8) [1] x2 h2_0] rfl (dst_some rfl rfl) rfl rfl rfl rfl (gd_none rfl rfl) (fun _ => ?_) ?_
       ·
        refine ob_nil rfl ?_
        exact ok_alloc (N := 31) (cs := [.int .i64 (0), .int .i64 (0), Hd.val (nilH 3)]) rfl Try.ti37 rfl rfl
       exact all_nil
      ·
       refine fin_base [.box 16 b5 [.int .i64 (0), .int .i64 (0), Hd.val (nilH 3)], .own (tI .i64) 3 15 [] ([] : List Int) (nilH 3), .box 13 b3 [Hd.val h2_0], .box 12 b2 [Hd.val h1_0], .box 11 b1 [.int .i64 (x0.1), .int .i64 (x0.2.1), Hd.val h0_0], .old w S, .rep (tI .i64) [1] x0.2.2 h0_0, .rep (tA 16 .u8) [1] x1 h1_0, .rep (tA 16 .u8) [1] x2 h2_0] rfl ?_
       refine fin_one rfl rfl (fun z30 => ?_)
       refine fin_one rfl rfl (fun b29 => ?_)
       refine fin_nil ?_
       refine s_opn (ok_store_box (v := .agg ([.int .i64 (x0.1), .int .i64 (x0.2.1), Hd.val z30]).toArray) (vs := [.int .i64 (x0.1), .int .i64 (x0.2.1), Hd.val z30]) (cs' := [.int .i64 (x0.1), .int .i64 (x0.2.1), Hd.val z30]) 0 rfl rfl Try.ti37 rfl rfl rfl rfl rfl rfl rfl) rfl rfl rfl (fun _ => ?_)
       refine s_nil ?_
       refine x_then ?_
       obtain ⟨r44, e45, hF⟩ := bind_some hF
       refine s_join (fun y46 : Hd => [(6, .pointer (some ⟨b5, 0, none⟩)), (9, .pointer (some ⟨b29, 0, none⟩))]) (fun y46 : Hd => [.old w S, .box 16 b5 [.int .i64 (0), .int .i64 (0), Hd.val (nilH 3)], .box 31 b29 [.int .i64 (r44.1), .int .i64 (r44.2.1), Hd.val y46], .own (tI .i64) 3 29 [] r44.2.2 y46]) ?_ ?_
       ·
        refine s_seq ?_
        refine s_region ?_
        refine s_pure (p_loadN_box (cs' := [Hd.val h1_0]) 5 rfl rfl Try.underlying25 rfl Try.ti25 rfl rfl rfl) rfl rfl rfl ?_
        refine s_pure (p_loadN_box (cs' := [Hd.val h2_0]) 4 rfl rfl Try.underlying25 rfl Try.ti25 rfl rfl rfl) rfl rfl rfl ?_
        refine s_pure (p_move (v := .int .i64 (w64 (x0.1 + (w64 (Int.tdiv (w64 (x0.2.1 - x0.1)) 2))))) rfl rfl) rfl rfl rfl ?_
        obtain ⟨r47, e48, e45⟩ := bind_some e45
        refine s_op0 (ok_call (N := 32) (Φ := fun y49 => []) (culpritref32_both_ok e48) rfl rfl rfl Try.func29 rfl Try.nm29 [1] ⟨.inl ⟨9, _, rfl, cov_rep rfl⟩, .inl ⟨10, _, rfl, cov_rep rfl⟩, trivial⟩ (fun _ => rfl) (fun _ => rfl) rfl) rfl rfl rfl (fun y49 => ?_)
        refine s_nil ?_
        refine x_then ?_
        refine s_cond rfl (fun hb50 => ?_) (fun hb50 => ?_)
        ·
         replace e45 := cond_t hb50 e45
         refine s_region ?_
         refine s_pure (p_move (v := .int .i64 (w64 (x0.1 + (w64 (Int.tdiv (w64 (x0.2.1 - x0.1)) 2))))) rfl rfl) rfl rfl rfl ?_
         refine s_pure (p_fieldAddr (fo := 0) rfl Try.underlying37 rfl Try.ti3 rfl rfl rfl) rfl rfl rfl ?_
         refine s_opn (ok_store_box (v := .int .i64 (w64 (x0.1 + (w64 (Int.tdiv (w64 (x0.2.1 - x0.1)) 2))))) (vs := [.int .i64 (w64 (x0.1 + (w64 (Int.tdiv (w64 (x0.2.1 - x0.1)) 2))))]) (cs' := [.int .i64 (w64 (x0.1 + (w64 (Int.tdiv (w64 (x0.2.1 - x0.1)) 2)))), .int .i64 (x0.2.1), Hd.val z30]) 0 rfl rfl Try.ti3 rfl rfl rfl rfl rfl rfl rfl) rfl rfl rfl (fun _ => ?_)
         refine s_nil ?_
         replace e45 := some_inj e45
         subst e45
         exact x_join z30 [(16, 16), (29, 29), (31, 31)] 2 rfl ⟨rfl, rfl, trivial⟩ ⟨.inl ⟨7, _, rfl, weak_same⟩, .inl ⟨2, _, rfl, weak_same⟩, .inl ⟨0, _, rfl, weak_same⟩, .inl ⟨1, _, rfl, weak_slim rfl⟩, trivial⟩
        ·
         replace e45 := cond_f hb50 e45
         refine s_region ?_
         refine s_pure (p_move (v := .int .i64 (w64 (x0.1 + (w64 (Int.tdiv (w64 (x0.2.1 - x0.1)) 2))))) rfl rfl) rfl rfl rfl ?_
         refine s_pure (p_fieldAddr (fo := 1) rfl Try.underlying37 rfl Try.ti3 rfl rfl rfl) rfl rfl rfl ?_
         refine s_opn (ok_store_box (v := .int .i64 (w64 (x0.1 + (w64 (Int.tdiv (w64 (x0.2.1 - x0.1)) 2))))) (vs := [.int .i64 (w64 (x0.1 + (w64 (Int.tdiv (w64 (x0.2.1 - x0.1)) 2))))]) (cs' := [.int .i64 (x0.1), .int .i64 (w64 (x0.1 + (w64 (Int.tdiv (w64 (x0.2.1 - x0.1)) 2)))), Hd.val z30]) 0 rfl rfl Try.ti3 rfl rfl rfl rfl rfl rfl rfl) rfl rfl rfl (fun _ => ?_)
         refine s_nil ?_
         replace e45 := some_inj e45
         subst e45
         exact x_join z30 [(16, 16), (29, 29), (31, 31)] 2 rfl ⟨rfl, rfl, trivial⟩ ⟨.inl ⟨7, _, rfl, weak_same⟩, .inl ⟨2, _, rfl, weak_same⟩, .inl ⟨0, _, rfl, weak_same⟩, .inl ⟨1, _, rfl, weak_slim rfl⟩, trivial⟩
       ·
        intro y46 ρ'
        refine s_seq ?_
        refine s_region ?_
        refine s_pure (p_loadN_box (cs' := [.int .i64 (r44.1), .int .i64 (r44.2.1), Hd.val y46]) 2 rfl rfl Try.underlying37 rfl Try.ti37 rfl rfl rfl) rfl rfl rfl ?_
        refine s_opn (ok_store_box (v := .agg ([.int .i64 (r44.1), .int .i64 (r44.2.1), Hd.val y46]).toArray) (vs := [.int .i64 (r44.1), .int .i64 (r44.2.1), Hd.val y46]) (cs' := [.int .i64 (r44.1), .int .i64 (r44.2.1), Hd.val y46]) 1 rfl rfl Try.ti37 rfl rfl rfl rfl rfl rfl rfl) rfl rfl rfl (fun _ => ?_)
        refine s_pure (p_assign (v := .int .i64 (0)) rfl rfl) rfl rfl rfl ?_
        refine s_nil ?_
        refine x_then ?_
        refine s_ret ?_
        replace hF := some_inj hF
        subst hF
        exact x_ret y46 (res_many (rs := [.cell 6 37, .tmp 7]) (vs := [.agg ([.int .i64 (r44.1), .int .i64 (r44.2.1), Hd.val y46]).toArray, .int .i64 (0)]) rfl ⟨ra_cellN (cs := [.int .i64 (r44.1), .int .i64 (r44.2.1), Hd.val y46]) 0 rfl Try.underlying37 rfl Try.ti37 rfl rfl, ra_tmp (v := .int .i64 (0)) rfl, trivial⟩ rfl) rfl 1 rfl [(29, 2)] 2 rfl ⟨.inl ⟨3, _, rfl, weak_slim rfl⟩, trivial⟩

theorem dispute_Claimant_says_ok {x0 : ((List (List Int)))} {x1 : Int} {h0_0 : Hd} {r : (Option (List Int))} (hF : dispute_Claimant_says x0 x1 = some r) : ∀ (w : World) (S : Nat → Prop), Heap w (oldc S) [.rep (tA 16 .u8) [1] x0 h0_0] → Calls Try.prog 24 #[.agg ([Hd.val h0_0]).toArray, .int .i64 (x1)] w (Post w S (fun (_ : Unit) => encState (r)) (fun (_ : Unit) => [])) := by
  intro w S hL
  refine s_enter (n := 23) Try.func24 rfl rfl _ rfl hL ?_
  refine s_seq ?_
  refine s_region ?_
  refine s_op0 (ok_box (N := 11) (v := .agg ([Hd.val h0_0]).toArray) (cs := [Hd.val h0_0]) rfl rfl rfl rfl) rfl rfl rfl (fun b1 => ?_)
  refine s_pure (p_assign (v := .nilIface) rfl rfl) rfl rfl rfl ?_
  refine s_nil ?_
  refine x_then ?_
  refine s_seq ?_
  refine s_seq ?_
  refine s_text Try.mixed [⟨true, 5, [], Unit, fun _ => .int .i64 (x1), fun _ => [], [], [], []⟩, ⟨true, 6, [0], Unit, fun _ => .bool (decide (x1 < 0)), fun _ => [], [], [], []⟩, ⟨true, 7, [1], Unit, fun _ => .bool (decide (x1 < 0)), fun _ => [], [], [], []⟩, ⟨!(decide (x1 < 0)), 8, [], Unit, fun _ => .int .i64 (x1), fun _ => [], [], [], []⟩, ⟨!(decide (x1 < 0)), 9, [], Unit, fun _ => .pointer (some ⟨b1, 0, none⟩), fun _ => [], [], [], []⟩, ⟨!(decide (x1 < 0)), 10, [4], Unit, fun _ => Hd.val h0_0, fun _ => [], [], [], []⟩, ⟨!(decide (x1 < 0)), 11, [5], Unit, fun _ => .int .i64 ((x0.length : Int)), fun _ => [], [], [], []⟩, ⟨!(decide (x1 < 0)), 12, [3, 6], Unit, fun _ => .bool (decide ((x0.length : Int) ≤ x1)), fun _ => [], [], [], []⟩, ⟨true, 13, [2, 7], Unit, fun _ => .bool (bif decide (x1 < 0) then true else decide ((x0.length : Int) ≤ x1)), fun _ => [], [], [], []⟩] [[], [0], [0, 1], [0, 1, 2], [0, 1, 2], [0, 1, 2, 4], [0, 1, 2, 4, 5], [0, 1, 2, 3, 4, 5, 6], [0, 1, 2, 3, 4, 5, 6, 7]] rfl rfl rfl rfl rfl ⟨.inl rfl, .inl rfl, .inl rfl, .inl rfl, .inl rfl, .inl rfl, .inl rfl, .inl rfl, .inl rfl, trivial⟩ ?_ [8] rfl rfl (fun us => ?_)
  ·
   refine all_cons _ (base_nil rfl) (dst_some rfl rfl) rfl rfl rfl rfl (gd_none rfl rfl) (fun _ => ?_) ?_
   ·
    refine ob_nil rfl ?_
    exact PureOk.op (p_move (v := .int .i64 (x1)) rfl rfl)
   refine all_cons _ (base_nil rfl) (dst_some rfl rfl) rfl rfl rfl rfl (gd_none rfl rfl) (fun _ => ?_) ?_
   ·
    refine ob_one rfl rfl (fun _ => ?_)
    refine ob_nil rfl ?_
    exact PureOk.op (p_lss rfl rfl rfl)
   refine all_cons _ (base_nil rfl) (dst_some rfl rfl) rfl rfl rfl rfl (gd_none rfl rfl) (fun _ => ?_) ?_
   ·
    refine ob_one rfl rfl (fun _ => ?_)
    refine ob_nil rfl ?_
    exact PureOk.op (p_move (v := .bool (decide (x1 < 0))) rfl rfl)
   refine all_cons _ (base_nil rfl) (dst_some rfl rfl) rfl rfl rfl rfl (gd_some (e := ⟨true, 7, [1], Unit, fun _ => .bool (decide (x1 < 0)), fun _ => [], [], [], []⟩) (decide (x1 < 0)) rfl rfl rfl rfl (fun _ => rfl) (gd_f _)) (fun hx5 => ?_) ?_
   ·
    replace hx5 : (!(decide (x1 < 0))) = true := hx5
    refine ob_nil rfl ?_
    exact PureOk.op (p_move (v := .int .i64 (x1)) rfl rfl)
   refine all_cons _ (base_nil rfl) (dst_some rfl rfl) rfl rfl rfl rfl (gd_some (e := ⟨true, 7, [1], Unit, fun _ => .bool (decide (x1 < 0)), fun _ => [], [], [], []⟩) (decide (x1 < 0)) rfl rfl rfl rfl (fun _ => rfl) (gd_f _)) (fun hx6 => ?_) ?_
   ·
    replace hx6 : (!(decide (x1 < 0))) = true := hx6
    refine ob_nil rfl ?_
    exact PureOk.op (p_fieldAddr (fo := 0) rfl Try.underlying30 rfl Try.ti23 rfl rfl rfl)
   refine all_cons _ (base_nil rfl) (dst_some rfl rfl) rfl rfl rfl rfl (gd_some (e := ⟨true, 7, [1], Unit, fun _ => .bool (decide (x1 < 0)), fun _ => [], [], [], []⟩) (decide (x1 < 0)) rfl rfl rfl rfl (fun _ => rfl) (gd_f _)) (fun hx7 => ?_) ?_
   ·
    replace hx7 : (!(decide (x1 < 0))) = true := hx7
    refine ob_two rfl (fun _ _ => ?_) (fun hn => clash hx7 hn)
    refine ob_nil rfl ?_
    exact PureOk.op (p_load_box (v := Hd.val h0_0) 0 rfl rfl Try.underlying23 rfl rfl rfl)
   refine all_cons _ (base_nil rfl) (dst_some rfl rfl) rfl rfl rfl rfl (gd_some (e := ⟨true, 7, [1], Unit, fun _ => .bool (decide (x1 < 0)), fun _ => [], [], [], []⟩) (decide (x1 < 0)) rfl rfl rfl rfl (fun _ => rfl) (gd_f _)) (fun hx8 => ?_) ?_
   ·
    replace hx8 : (!(decide (x1 < 0))) = true := hx8
    refine ob_two rfl (fun _ _ => ?_) (fun hn => clash hx8 hn)
    refine ob_nil rfl ?_
    exact PureOk.op (p_len_rep (ty := (tA 16 .u8)) (xs := x0) (h := h0_0) 2 rfl rfl Try.underlying23 rfl)
   refine all_cons _ (base_nil rfl) (dst_some rfl rfl) rfl rfl rfl rfl (gd_some (e := ⟨true, 7, [1], Unit, fun _ => .bool (decide (x1 < 0)), fun _ => [], [], [], []⟩) (decide (x1 < 0)) rfl rfl rfl rfl (fun _ => rfl) (gd_f _)) (fun hx9 => ?_) ?_
   ·
    replace hx9 : (!(decide (x1 < 0))) = true := hx9
    refine ob_two rfl (fun _ _ => ?_) (fun hn => clash hx9 hn)
    refine ob_two rfl (fun _ _ => ?_) (fun hn => clash hx9 hn)
    refine ob_nil rfl ?_
    exact PureOk.op (p_geq rfl rfl rfl)
   refine all_cons _ (base_nil rfl) (dst_some rfl rfl) rfl rfl rfl rfl (gd_none rfl rfl) (fun _ => ?_) ?_
   ·
    refine ob_one rfl rfl (fun _ => ?_)
    refine ob_two rfl (fun hq11 _ => ?_) (fun hq11 => ?_)
    rotate_left
    ·
     replace hq11 : (!(decide (x1 < 0))) = false := hq11
     refine ob_nil rfl ?_
     exact PureOk.op (p_pick (b := decide (x1 < 0)) (p := true) (q := decide ((x0.length : Int) ≤ x1)) rfl rfl (fun _ => rfl) (fun hb => by first | (rw [hb] at hq11; cases hq11; done) | exact absurd hq11 (by rw [hb]; simp) | (simp_all; done)))
    refine ob_nil rfl ?_
    exact PureOk.op (p_pick (b := decide (x1 < 0)) (p := true) (q := decide ((x0.length : Int) ≤ x1)) rfl rfl (fun _ => rfl) (fun _ => rfl))
   exact all_nil
  ·
   refine fin_base _ (base_nil rfl) ?_
   refine fin_one rfl rfl (fun _ => ?_)
   refine fin_nil ?_
   refine s_nil ?_
   refine x_then ?_
   refine s_cond rfl (fun hb12 => ?_) (fun hb12 => ?_)
   ·
    replace hF := cond_t hb12 hF
    refine s_seq ?_
    refine s_region ?_
    refine s_pure (p_build_struct (vals := []) (places := []) (cells := []) rfl Try.underlying73 Try.ti73 (trivial) rfl rfl) rfl rfl rfl ?_
    refine s_pure (p_iface (v := .agg ([]).toArray) rfl Try.underlying73 rfl rfl) rfl rfl rfl ?_
    refine s_pure (p_assign (v := .iface 73 (.agg ([]).toArray)) rfl rfl) rfl rfl rfl ?_
    refine s_nil ?_
    refine x_then ?_
    refine s_ret ?_
    refine x_then_ret ?_
    replace hF := some_inj hF
    subst hF
    exact x_ret () (res_one rfl (ra_tmp (v := .iface 73 (.agg ([]).toArray)) rfl)) rfl 1 rfl [] 2 rfl trivial
   ·
    replace hF := cond_f hb12 hF
    refine s_skip ?_
    refine x_then ?_
    refine s_seq ?_
    refine s_region ?_
    refine s_pure (p_fieldAddr (fo := 0) rfl Try.underlying30 rfl Try.ti23 rfl rfl rfl) rfl rfl rfl ?_
    refine s_pure (p_load_box (v := Hd.val h0_0) 0 rfl rfl Try.underlying23 rfl rfl rfl) rfl rfl rfl ?_
    refine s_pure (p_move (v := .int .i64 (x1)) rfl rfl) rfl rfl rfl ?_
    obtain ⟨x13, e14, hF⟩ := bind_some hF
    refine s_pure (p_idx (h := h0_0) (i := x1) (ty := (tA 16 .u8)) (xs := x0) (v := x13) 2 rfl rfl Try.underlying23 Try.ti52 rfl rfl e14) rfl rfl rfl ?_
    refine s_pure (p_loadA_at (X := x1.toNat * 16) (el_rep (ty := (tA 16 .u8)) (xs := x0) (h := h0_0) (i := x1) (v := x13) (sz := 16) 2 rfl rfl e14) rfl Try.underlying52 rfl Try.ti52 rfl rfl) rfl rfl rfl ?_
    refine s_pure (p_build_struct (vals := [(0, ((tA 16 .u8).fill x13 ()))]) (places := [(0, 16)]) (cells := ((tA 16 .u8).fill x13 ())) rfl Try.underlying70 Try.ti70 (⟨rfl, ⟨_, _, Try.ti52⟩, trivial⟩) rfl rfl) rfl rfl rfl ?_
    refine s_pure (p_iface (v := .agg (((tA 16 .u8).fill x13 ())).toArray) rfl Try.underlying70 rfl rfl) rfl rfl rfl ?_
    refine s_pure (p_assign (v := .iface 70 (.agg (((tA 16 .u8).fill x13 ())).toArray)) rfl rfl) rfl rfl rfl ?_
    refine s_nil ?_
    refine x_then ?_
    refine s_ret ?_
    replace hF := some_inj hF
    subst hF
    exact x_ret () (res_one rfl (ra_tmp (v := .iface 70 (.agg (((tA 16 .u8).fill x13 ())).toArray)) rfl)) rfl 1 rfl [] 2 rfl trivial

theorem dispute_same_ok {x0 : (Option (List Int))} {x1 : (Option (List Int))} {r : Bool} (hF : dispute_same x0 x1 = some r) : ∀ (w : World) (S : Nat → Prop), Heap w (oldc S) [] → Calls Try.prog 23 #[encState (x0), encState (x1)] w (Post w S (fun (_ : Unit) => .bool (r)) (fun (_ : Unit) => [])) := by
  intro w S hL
  refine s_enter (n := 34) Try.func23 rfl rfl _ rfl hL ?_
  refine s_seq ?_
  refine s_region ?_
  refine s_pure (p_assign (v := .bool (false)) rfl rfl) rfl rfl rfl ?_
  refine s_nil ?_
  refine x_then ?_
  refine s_seq ?_
  refine s_region ?_
  refine s_pure (p_move (v := encState (x0)) rfl rfl) rfl rfl rfl ?_
  refine s_nil ?_
  refine x_then ?_
  refine s_block ?_
  refine s_seq ?_
  refine s_region ?_
  refine s_pure (as70 rfl rfl) rfl rfl rfl ?_
  refine s_pure (p_extract (v := .bool (x0.isSome)) rfl rfl rfl) rfl rfl rfl ?_
  refine s_pure (p_extract (v := .agg (((tA 16 .u8).fill (x0.getD (List.replicate 16 0)) ())).toArray) rfl rfl rfl) rfl rfl rfl ?_
  refine s_nil ?_
  refine x_then ?_
  refine s_cond rfl (fun hb1 => ?_) (fun hb1 => ?_)
  ·
   replace hF := cond_t hb1 hF
   refine s_seq ?_
   refine s_region ?_
   refine s_op0 (ok_alloc (N := 11) (cs := ((tA 16 .u8).fill (List.replicate 16 0) ())) rfl Try.ti70 rfl rfl) rfl rfl rfl (fun b2 => ?_)
   refine s_opn (ok_store_box (v := .agg (((tA 16 .u8).fill (x0.getD (List.replicate 16 0)) ())).toArray) (vs := ((tA 16 .u8).fill (x0.getD (List.replicate 16 0)) ())) (cs' := ((tA 16 .u8).fill (x0.getD (List.replicate 16 0)) ())) 0 rfl rfl Try.ti70 rfl rfl rfl rfl rfl rfl rfl) rfl rfl rfl (fun _ => ?_)
   refine s_nil ?_
   refine x_then ?_
   refine s_seq ?_
   refine s_region ?_
   refine s_pure (p_move (v := encState (x1)) rfl rfl) rfl rfl rfl ?_
   refine s_pure (as70 rfl rfl) rfl rfl rfl ?_
   refine s_pure (p_move (v := .tuple #[.agg (((tA 16 .u8).fill (x1.getD (List.replicate 16 0)) ())).toArray, .bool (x1.isSome)]) rfl rfl) rfl rfl rfl ?_
   refine s_pure (p_extract (v := .agg (((tA 16 .u8).fill (x1.getD (List.replicate 16 0)) ())).toArray) rfl rfl rfl) rfl rfl rfl ?_
   refine s_pure (p_extract (v := .bool (x1.isSome)) rfl rfl rfl) rfl rfl rfl ?_
   refine s_op0 (ok_alloc (N := 12) (cs := ((tA 16 .u8).fill (List.replicate 16 0) ())) rfl Try.ti70 rfl rfl) rfl rfl rfl (fun b3 => ?_)
   refine s_opn (ok_store_box (v := .agg (((tA 16 .u8).fill (x1.getD (List.replicate 16 0)) ())).toArray) (vs := ((tA 16 .u8).fill (x1.getD (List.replicate 16 0)) ())) (cs' := ((tA 16 .u8).fill (x1.getD (List.replicate 16 0)) ())) 0 rfl rfl Try.ti70 rfl rfl rfl rfl rfl rfl rfl) rfl rfl rfl (fun _ => ?_)
   refine s_pure (p_assign (v := .bool (x1.isSome)) rfl rfl) rfl rfl rfl ?_
   refine s_nil ?_
   refine x_then ?_
   refine s_seq ?_
   refine s_text Try.mixed [⟨true, 26, [], Unit, fun _ => .bool (x1.isSome), fun _ => [], [], [], []⟩, ⟨true, 27, [0], Unit, fun _ => .bool (x1.isSome), fun _ => [], [], [], []⟩, ⟨x1.isSome, 28, [], Unit, fun _ => .pointer (some ⟨b2, 0, none⟩), fun _ => [], [], [], []⟩, ⟨x1.isSome, 29, [2], Unit, fun _ => .agg (((tA 16 .u8).fill (x0.getD (List.replicate 16 0)) ())).toArray, fun _ => [], [], [], []⟩, ⟨x1.isSome, 30, [], Unit, fun _ => .pointer (some ⟨b3, 0, none⟩), fun _ => [], [], [], []⟩, ⟨x1.isSome, 31, [4], Unit, fun _ => .agg (((tA 16 .u8).fill (x1.getD (List.replicate 16 0)) ())).toArray, fun _ => [], [], [], []⟩, ⟨x1.isSome, 32, [3, 5], Unit, fun _ => .bool (arrEq 16 (x0.getD (List.replicate 16 0)) (x1.getD (List.replicate 16 0))), fun _ => [], [], [], []⟩, ⟨true, 33, [1, 6], Unit, fun _ => .bool (bif x1.isSome then arrEq 16 (x0.getD (List.replicate 16 0)) (x1.getD (List.replicate 16 0)) else false), fun _ => [], [], [], []⟩] [[], [0], [0, 1], [0, 1, 2], [0, 1], [0, 1, 4], [0, 1, 2, 3, 4, 5], [0, 1, 2, 3, 4, 5, 6], [0, 1, 2, 3, 4, 5, 6, 7]] rfl rfl rfl rfl rfl ⟨.inl rfl, .inl rfl, .inl rfl, .inl rfl, .inl rfl, .inl rfl, .inl rfl, .inl rfl, trivial⟩ ?_ [7] rfl rfl (fun us => ?_)
   ·
    refine all_cons _ (base_nil rfl) (dst_some rfl rfl) rfl rfl rfl rfl (gd_none rfl rfl) (fun _ => ?_) ?_
    ·
     refine ob_nil rfl ?_
     exact PureOk.op (p_move (v := .bool (x1.isSome)) rfl rfl)
    refine all_cons _ (base_nil rfl) (dst_some rfl rfl) rfl rfl rfl rfl (gd_none rfl rfl) (fun _ => ?_) ?_
    ·
     refine ob_one rfl rfl (fun _ => ?_)
     refine ob_nil rfl ?_
     exact PureOk.op (p_move (v := .bool (x1.isSome)) rfl rfl)
    refine all_cons _ (base_nil rfl) (dst_some rfl rfl) rfl rfl rfl rfl (gd_some (e := ⟨true, 27, [0], Unit, fun _ => .bool (x1.isSome), fun _ => [], [], [], []⟩) (x1.isSome) rfl rfl rfl rfl (fun _ => rfl) (gd_t _)) (fun hx6 => ?_) ?_
    ·
     replace hx6 : (x1.isSome) = true := hx6
     refine ob_nil rfl ?_
     exact PureOk.op (p_fieldAddr (fo := 0) rfl Try.underlying70 rfl Try.ti52 rfl rfl rfl)
    refine all_cons _ (base_nil rfl) (dst_some rfl rfl) rfl rfl rfl rfl (gd_some (e := ⟨true, 27, [0], Unit, fun _ => .bool (x1.isSome), fun _ => [], [], [], []⟩) (x1.isSome) rfl rfl rfl rfl (fun _ => rfl) (gd_t _)) (fun hx7 => ?_) ?_
    ·
     replace hx7 : (x1.isSome) = true := hx7
     refine ob_two rfl (fun _ _ => ?_) (fun hn => clash hx7 hn)
     refine ob_nil rfl ?_
     exact PureOk.op (p_loadN_box (cs' := ((tA 16 .u8).fill (x0.getD (List.replicate 16 0)) ())) 1 rfl rfl Try.underlying52 rfl Try.ti52 rfl rfl rfl)
    refine all_cons _ (base_nil rfl) (dst_some rfl rfl) rfl rfl rfl rfl (gd_some (e := ⟨true, 27, [0], Unit, fun _ => .bool (x1.isSome), fun _ => [], [], [], []⟩) (x1.isSome) rfl rfl rfl rfl (fun _ => rfl) (gd_t _)) (fun hx8 => ?_) ?_
    ·
     replace hx8 : (x1.isSome) = true := hx8
     refine ob_nil rfl ?_
     exact PureOk.op (p_fieldAddr (fo := 0) rfl Try.underlying70 rfl Try.ti52 rfl rfl rfl)
    refine all_cons _ (base_nil rfl) (dst_some rfl rfl) rfl rfl rfl rfl (gd_some (e := ⟨true, 27, [0], Unit, fun _ => .bool (x1.isSome), fun _ => [], [], [], []⟩) (x1.isSome) rfl rfl rfl rfl (fun _ => rfl) (gd_t _)) (fun hx9 => ?_) ?_
    ·
     replace hx9 : (x1.isSome) = true := hx9
     refine ob_two rfl (fun _ _ => ?_) (fun hn => clash hx9 hn)
     refine ob_nil rfl ?_
     exact PureOk.op (p_loadN_box (cs' := ((tA 16 .u8).fill (x1.getD (List.replicate 16 0)) ())) 0 rfl rfl Try.underlying52 rfl Try.ti52 rfl rfl rfl)
    refine all_cons _ (base_nil rfl) (dst_some rfl rfl) rfl rfl rfl rfl (gd_some (e := ⟨true, 27, [0], Unit, fun _ => .bool (x1.isSome), fun _ => [], [], [], []⟩) (x1.isSome) rfl rfl rfl rfl (fun _ => rfl) (gd_t _)) (fun hx10 => ?_) ?_
    ·
     replace hx10 : (x1.isSome) = true := hx10
     refine ob_two rfl (fun _ _ => ?_) (fun hn => clash hx10 hn)
     refine ob_two rfl (fun _ _ => ?_) (fun hn => clash hx10 hn)
     refine ob_nil rfl ?_
     exact PureOk.op (p_eql_arr (x := (x0.getD (List.replicate 16 0))) (y := (x1.getD (List.replicate 16 0))) rfl Try.underlying52 Try.underlying5 Try.ti5 Try.eqg52 rfl rfl)
    refine all_cons _ (base_nil rfl) (dst_some rfl rfl) rfl rfl rfl rfl (gd_none rfl rfl) (fun _ => ?_) ?_
    ·
     refine ob_one rfl rfl (fun _ => ?_)
     refine ob_two rfl (fun hq12 _ => ?_) (fun hq12 => ?_)
     rotate_left
     ·
      replace hq12 : (x1.isSome) = false := hq12
      refine ob_nil rfl ?_
      exact PureOk.op (p_pick (b := x1.isSome) (p := arrEq 16 (x0.getD (List.replicate 16 0)) (x1.getD (List.replicate 16 0))) (q := false) rfl rfl (fun hb => by first | (rw [hb] at hq12; cases hq12; done) | exact absurd hq12 (by rw [hb]; simp) | (simp_all; done)) (fun _ => rfl))
     refine ob_nil rfl ?_
     exact PureOk.op (p_pick (b := x1.isSome) (p := arrEq 16 (x0.getD (List.replicate 16 0)) (x1.getD (List.replicate 16 0))) (q := false) rfl rfl (fun _ => rfl) (fun _ => rfl))
    exact all_nil
   ·
    refine fin_base _ (base_nil rfl) ?_
    refine fin_one rfl rfl (fun _ => ?_)
    refine fin_nil ?_
    refine s_pure (p_assign (v := .bool (bif x1.isSome then arrEq 16 (x0.getD (List.replicate 16 0)) (x1.getD (List.replicate 16 0)) else false)) rfl rfl) rfl rfl rfl ?_
    refine s_nil ?_
    refine x_then ?_
    refine s_ret ?_
    refine x_block_ret ?_
    replace hF := some_inj hF
    subst hF
    exact x_ret () (res_one rfl (ra_tmp (v := .bool (bif x1.isSome then arrEq 16 (x0.getD (List.replicate 16 0)) (x1.getD (List.replicate 16 0)) else false)) rfl)) rfl 2 rfl [] 2 rfl trivial
  ·
   replace hF := cond_f hb1 hF
   refine s_seq ?_
   refine s_region ?_
   refine s_pure (p_assign (v := encState (x0)) rfl rfl) rfl rfl rfl ?_
   refine s_nil ?_
   refine x_then ?_
   refine s_seq ?_
   refine s_region ?_
   refine s_pure (p_move (v := encState (x1)) rfl rfl) rfl rfl rfl ?_
   refine s_pure (as73 rfl rfl) rfl rfl rfl ?_
   refine s_pure (p_move (v := .tuple #[.agg ([]).toArray, .bool (x1.isNone)]) rfl rfl) rfl rfl rfl ?_
   refine s_pure (p_extract (v := .agg ([]).toArray) rfl rfl rfl) rfl rfl rfl ?_
   refine s_pure (p_extract (v := .bool (x1.isNone)) rfl rfl rfl) rfl rfl rfl ?_
   refine s_op0 (ok_alloc (N := 13) (cs := []) rfl Try.ti73 rfl rfl) rfl rfl rfl (fun b13 => ?_)
   refine s_opn (ok_store_box (v := .agg ([]).toArray) (vs := []) (cs' := []) 0 rfl rfl Try.ti73 rfl rfl rfl rfl rfl rfl rfl) rfl rfl rfl (fun _ => ?_)
   refine s_pure (p_assign (v := .bool (x1.isNone)) rfl rfl) rfl rfl rfl ?_
   refine s_nil ?_
   refine x_then ?_
   refine s_seq ?_
   refine s_region ?_
   refine s_pure (p_move (v := .bool (x1.isNone)) rfl rfl) rfl rfl rfl ?_
   refine s_pure (p_assign (v := .bool (x1.isNone)) rfl rfl) rfl rfl rfl ?_
   refine s_nil ?_
   refine x_then ?_
   refine s_ret ?_
   refine x_block_ret ?_
   replace hF := some_inj hF
   subst hF
   exact x_ret () (res_one rfl (ra_tmp (v := .bool (x1.isNone)) rfl)) rfl 1 rfl [] 2 rfl trivial

theorem dispute_shown_ok {x0 : ((List (List Int)))} {x1 : ((List (List Int)))} {x2 : Int} {h0_0 : Hd} {h1_0 : Hd} {r : Bool} (hF : dispute_shown x0 x1 x2 = some r) : ∀ (w : World) (S : Nat → Prop), Heap w (oldc S) [.rep (tA 16 .u8) [1] x0 h0_0, .rep (tA 16 .u8) [1] x1 h1_0] → Calls Try.prog 27 #[.agg ([Hd.val h0_0]).toArray, .agg ([Hd.val h1_0]).toArray, .int .i64 (x2)] w (Post w S (fun (_ : Unit) => .bool (r)) (fun (_ : Unit) => [])) := by
  intro w S hL
  refine s_enter (n := 26) Try.func27 rfl rfl _ rfl hL ?_
  refine s_seq ?_
  refine s_region ?_
  refine s_op0 (ok_box (N := 11) (v := .agg ([Hd.val h0_0]).toArray) (cs := [Hd.val h0_0]) rfl rfl rfl rfl) rfl rfl rfl (fun b1 => ?_)
  refine s_op0 (ok_box (N := 12) (v := .agg ([Hd.val h1_0]).toArray) (cs := [Hd.val h1_0]) rfl rfl rfl rfl) rfl rfl rfl (fun b2 => ?_)
  refine s_pure (p_assign (v := .bool (false)) rfl rfl) rfl rfl rfl ?_
  refine s_nil ?_
  refine x_then ?_
  refine s_seq ?_
  refine s_region ?_
  refine s_pure (p_loadN_box (cs' := [Hd.val h0_0]) 1 rfl rfl Try.underlying30 rfl Try.ti30 rfl rfl rfl) rfl rfl rfl ?_
  refine s_pure (p_move (v := .int .i64 (x2)) rfl rfl) rfl rfl rfl ?_
  obtain ⟨r3, e4, hF⟩ := bind_some hF
  refine s_op0 (ok_call (N := 13) (Φ := fun y5 => []) (dispute_Claimant_says_ok e4) rfl rfl rfl Try.func24 rfl Try.nm24 [1] ⟨.inl ⟨3, _, rfl, cov_rep rfl⟩, trivial⟩ (fun _ => rfl) (fun _ => rfl) rfl) rfl rfl rfl (fun y5 => ?_)
  refine s_pure (as70 rfl rfl) rfl rfl rfl ?_
  refine s_pure (p_move (v := .tuple #[.agg (((tA 16 .u8).fill (r3.getD (List.replicate 16 0)) ())).toArray, .bool (r3.isSome)]) rfl rfl) rfl rfl rfl ?_
  refine s_pure (p_extract (v := .agg (((tA 16 .u8).fill (r3.getD (List.replicate 16 0)) ())).toArray) rfl rfl rfl) rfl rfl rfl ?_
  refine s_pure (p_extract (v := .bool (r3.isSome)) rfl rfl rfl) rfl rfl rfl ?_
  refine s_op0 (ok_alloc (N := 25) (cs := ((tA 16 .u8).fill (List.replicate 16 0) ())) rfl Try.ti70 rfl rfl) rfl rfl rfl (fun b6 => ?_)
  refine s_opn (ok_store_box (v := .agg (((tA 16 .u8).fill (r3.getD (List.replicate 16 0)) ())).toArray) (vs := ((tA 16 .u8).fill (r3.getD (List.replicate 16 0)) ())) (cs' := ((tA 16 .u8).fill (r3.getD (List.replicate 16 0)) ())) 0 rfl rfl Try.ti70 rfl rfl rfl rfl rfl rfl rfl) rfl rfl rfl (fun _ => ?_)
  refine s_pure (p_assign (v := .bool (r3.isSome)) rfl rfl) rfl rfl rfl ?_
  refine s_nil ?_
  refine x_then ?_
  refine s_seq ?_
  obtain ⟨r7, e8, hF⟩ := bind_some hF
  obtain ⟨r10, e11, hF⟩ := bind_some hF
  obtain ⟨r13, e14, hF⟩ := bind_some hF
  refine s_draw Try.mixed [⟨true, 16, [], Unit, fun _ => .bool (r3.isSome), fun _ => [], [], [], []⟩, ⟨true, 17, [0], Unit, fun _ => .bool (r3.isSome), fun _ => [], [], [], []⟩, ⟨r3.isSome, 18, [], Unit, fun _ => .agg ([Hd.val h0_0]).toArray, fun _ => [], [], [], []⟩, ⟨r3.isSome, 19, [], Unit, fun _ => .int .i64 (x2), fun _ => [], [], [], []⟩, ⟨r3.isSome, 20, [2, 3], Unit, fun (y9 : Unit) => encState (r7), fun _ => [], [], [], []⟩, ⟨r3.isSome, 21, [], Unit, fun _ => .agg ([Hd.val h1_0]).toArray, fun _ => [], [], [], []⟩, ⟨r3.isSome, 22, [], Unit, fun _ => .int .i64 (x2), fun _ => [], [], [], []⟩, ⟨r3.isSome, 23, [5, 6], Unit, fun (y12 : Unit) => encState (r10), fun _ => [], [], [], []⟩, ⟨r3.isSome, 24, [4, 7], Unit, fun (y15 : Unit) => .bool (r13), fun _ => [], [], [], []⟩, ⟨true, 25, [1, 8], Unit, fun _ => .bool (bif r3.isSome then r13 else false), fun _ => [], [], [], []⟩] [[], [0], [0, 1], [0, 1], [0, 1, 2, 3], [0, 1], [0, 1], [0, 1, 2, 3, 4, 5, 6], [0, 1, 2, 3, 4, 5, 6, 7], [0, 1, 2, 3, 4, 5, 6, 7, 8], [0, 1, 2, 3, 4, 5, 6, 7, 8, 9]] rfl rfl rfl rfl rfl ⟨.inl rfl, .inl rfl, .inl rfl, .inl rfl, .inl rfl, .inl rfl, .inl rfl, .inl rfl, .inl rfl, .inl rfl, trivial⟩ ?_ [9] rfl rfl (fun us => ?_)
  ·
   refine all_cons _ (base_nil rfl) (dst_some rfl rfl) rfl rfl rfl rfl (gd_none rfl rfl) (fun _ => ?_) ?_
   ·
    refine ob_nil rfl ?_
    exact PureOk.op (p_move (v := .bool (r3.isSome)) rfl rfl)
   refine all_cons _ (base_nil rfl) (dst_some rfl rfl) rfl rfl rfl rfl (gd_none rfl rfl) (fun _ => ?_) ?_
   ·
    refine ob_one rfl rfl (fun _ => ?_)
    refine ob_nil rfl ?_
    exact PureOk.op (p_move (v := .bool (r3.isSome)) rfl rfl)
   refine all_cons _ (base_nil rfl) (dst_some rfl rfl) rfl rfl rfl rfl (gd_some (e := ⟨true, 17, [0], Unit, fun _ => .bool (r3.isSome), fun _ => [], [], [], []⟩) (r3.isSome) rfl rfl rfl rfl (fun _ => rfl) (gd_t _)) (fun hx18 => ?_) ?_
   ·
    replace hx18 : (r3.isSome) = true := hx18
    refine ob_nil rfl ?_
    exact PureOk.op (p_loadN_box (cs' := [Hd.val h0_0]) 2 rfl rfl Try.underlying30 rfl Try.ti30 rfl rfl rfl)
   refine all_cons _ (base_nil rfl) (dst_some rfl rfl) rfl rfl rfl rfl (gd_some (e := ⟨true, 17, [0], Unit, fun _ => .bool (r3.isSome), fun _ => [], [], [], []⟩) (r3.isSome) rfl rfl rfl rfl (fun _ => rfl) (gd_t _)) (fun hx19 => ?_) ?_
   ·
    replace hx19 : (r3.isSome) = true := hx19
    refine ob_nil rfl ?_
    exact PureOk.op (p_move (v := .int .i64 (x2)) rfl rfl)
   refine all_cons _ (base_nil rfl) (dst_some rfl rfl) rfl rfl rfl rfl (gd_some (e := ⟨true, 17, [0], Unit, fun _ => .bool (r3.isSome), fun _ => [], [], [], []⟩) (r3.isSome) rfl rfl rfl rfl (fun _ => rfl) (gd_t _)) (fun hx20 => ?_) ?_
   ·
    replace hx20 : (r3.isSome) = true := hx20
    replace e8 := cond_t hx20 e8
    refine ob_two rfl (fun _ _ => ?_) (fun hn => clash hx20 hn)
    refine ob_two rfl (fun _ _ => ?_) (fun hn => clash hx20 hn)
    refine ob_nil rfl ?_
    exact ok_call (N := 26) (Φ := fun y9 => []) (dispute_Claimant_says_ok e8) rfl rfl rfl Try.func24 rfl Try.nm24 [1] ⟨.inl ⟨4, _, rfl, cov_rep rfl⟩, trivial⟩ (fun _ => rfl) (fun _ => rfl) rfl
   refine all_cons _ (base_nil rfl) (dst_some rfl rfl) rfl rfl rfl rfl (gd_some (e := ⟨true, 17, [0], Unit, fun _ => .bool (r3.isSome), fun _ => [], [], [], []⟩) (r3.isSome) rfl rfl rfl rfl (fun _ => rfl) (gd_t _)) (fun hx21 => ?_) ?_
   ·
    replace hx21 : (r3.isSome) = true := hx21
    replace e8 := cond_t hx21 e8
    refine ob_nil rfl ?_
    exact PureOk.op (p_loadN_box (cs' := [Hd.val h1_0]) 1 rfl rfl Try.underlying30 rfl Try.ti30 rfl rfl rfl)
   refine all_cons _ (base_nil rfl) (dst_some rfl rfl) rfl rfl rfl rfl (gd_some (e := ⟨true, 17, [0], Unit, fun _ => .bool (r3.isSome), fun _ => [], [], [], []⟩) (r3.isSome) rfl rfl rfl rfl (fun _ => rfl) (gd_t _)) (fun hx22 => ?_) ?_
   ·
    replace hx22 : (r3.isSome) = true := hx22
    replace e8 := cond_t hx22 e8
    refine ob_nil rfl ?_
    exact PureOk.op (p_move (v := .int .i64 (x2)) rfl rfl)
   refine all_cons _ (base_nil rfl) (dst_some rfl rfl) rfl rfl rfl rfl (gd_some (e := ⟨true, 17, [0], Unit, fun _ => .bool (r3.isSome), fun _ => [], [], [], []⟩) (r3.isSome) rfl rfl rfl rfl (fun _ => rfl) (gd_t _)) (fun hx23 => ?_) ?_
   ·
    replace hx23 : (r3.isSome) = true := hx23
    replace e8 := cond_t hx23 e8
    replace e11 := cond_t hx23 e11
    refine ob_two rfl (fun _ _ => ?_) (fun hn => clash hx23 hn)
    refine ob_two rfl (fun _ _ => ?_) (fun hn => clash hx23 hn)
    refine ob_nil rfl ?_
    exact ok_call (N := 38) (Φ := fun y12 => []) (dispute_Claimant_says_ok e11) rfl rfl rfl Try.func24 rfl Try.nm24 [1] ⟨.inl ⟨5, _, rfl, cov_rep rfl⟩, trivial⟩ (fun _ => rfl) (fun _ => rfl) rfl
   refine all_cons _ (base_nil rfl) (dst_some rfl rfl) rfl rfl rfl rfl (gd_some (e := ⟨true, 17, [0], Unit, fun _ => .bool (r3.isSome), fun _ => [], [], [], []⟩) (r3.isSome) rfl rfl rfl rfl (fun _ => rfl) (gd_t _)) (fun hx24 => ?_) ?_
   ·
    replace hx24 : (r3.isSome) = true := hx24
    replace e8 := cond_t hx24 e8
    replace e11 := cond_t hx24 e11
    replace e14 := cond_t hx24 e14
    refine ob_two rfl (fun _ y9 => ?_) (fun hn => clash hx24 hn)
    refine ob_two rfl (fun _ y12 => ?_) (fun hn => clash hx24 hn)
    refine ob_nil rfl ?_
    exact ok_call (N := 50) (Φ := fun y15 => []) (dispute_same_ok e14) rfl rfl rfl Try.func23 rfl Try.nm23 [] trivial (fun _ => rfl) (fun _ => rfl) rfl
   refine all_cons _ (base_nil rfl) (dst_some rfl rfl) rfl rfl rfl rfl (gd_none rfl rfl) (fun _ => ?_) ?_
   ·
    refine ob_one rfl rfl (fun _ => ?_)
    refine ob_two rfl (fun hq26 y15 => ?_) (fun hq26 => ?_)
    rotate_left
    ·
     replace hq26 : (r3.isSome) = false := hq26
     refine ob_nil rfl ?_
     exact PureOk.op (p_pick (b := r3.isSome) (p := r13) (q := false) rfl rfl (fun hb => by first | (rw [hb] at hq26; cases hq26; done) | exact absurd hq26 (by rw [hb]; simp) | (simp_all; done)) (fun _ => rfl))
    refine ob_nil rfl ?_
    exact PureOk.op (p_pick (b := r3.isSome) (p := r13) (q := false) rfl rfl (fun _ => rfl) (fun _ => rfl))
   exact all_nil
  ·
   refine fin_base _ (base_nil rfl) ?_
   refine fin_one rfl rfl (fun _ => ?_)
   refine fin_nil ?_
   refine s_pure (p_assign (v := .bool (bif r3.isSome then r13 else false)) rfl rfl) rfl rfl rfl ?_
   refine s_nil ?_
   refine x_then ?_
   refine s_ret ?_
   replace hF := some_inj hF
   subst hF
   exact x_ret () (res_one rfl (ra_tmp (v := .bool (bif r3.isSome then r13 else false)) rfl)) rfl 3 rfl [] 2 rfl trivial

theorem dispute_Begin_ok {x0 : ((List (List Int)))} {x1 : ((List (List Int)))} {h0_0 : Hd} {h1_0 : Hd} {r : ((Int × Int × (List Int)) × Int)} (hF : dispute_Begin x0 x1 = some r) : ∀ (w : World) (S : Nat → Prop), Heap w (oldc S) [.rep (tA 16 .u8) [1] x0 h0_0, .rep (tA 16 .u8) [1] x1 h1_0] → Calls Try.prog 9 #[.agg ([Hd.val h0_0]).toArray, .agg ([Hd.val h1_0]).toArray] w (Post w S (fun (y37 : Hd) => .tuple #[.agg ([.int .i64 (r.1.1), .int .i64 (r.1.2.1), Hd.val y37]).toArray, .int .i64 (r.2)]) (fun (y37 : Hd) => [.own (tI .i64) 3 2 [] r.1.2.2 y37])) := by
  intro w S hL
  refine s_enter (n := 34) Try.func9 rfl rfl _ rfl hL ?_
  refine s_seq ?_
  refine s_region ?_
  refine s_op0 (ok_box (N := 11) (v := .agg ([Hd.val h0_0]).toArray) (cs := [Hd.val h0_0]) rfl rfl rfl rfl) rfl rfl rfl (fun b1 => ?_)
  refine s_op0 (ok_box (N := 12) (v := .agg ([Hd.val h1_0]).toArray) (cs := [Hd.val h1_0]) rfl rfl rfl rfl) rfl rfl rfl (fun b2 => ?_)
  refine s_nilrow (tI .i64) 3 14 [] ?_
  refine s_op0 (ok_alloc (N := 15) (cs := [.int .i64 (0), .int .i64 (0), Hd.val (nilH 3)]) rfl Try.ti33 rfl rfl) rfl rfl rfl (fun b4 => ?_)
  refine s_pure (p_assign (v := .int .i64 (0)) rfl rfl) rfl rfl rfl ?_
  refine s_nil ?_
  refine x_then ?_
  refine s_seq ?_
  refine s_seq ?_
  refine s_region ?_
  refine s_pure (p_loadN_box (cs' := [Hd.val h0_0]) 3 rfl rfl Try.underlying30 rfl Try.ti30 rfl rfl rfl) rfl rfl rfl ?_
  refine s_pure (p_loadN_box (cs' := [Hd.val h1_0]) 2 rfl rfl Try.underlying30 rfl Try.ti30 rfl rfl rfl) rfl rfl rfl ?_
  obtain ⟨r5, e6, hF⟩ := bind_some hF
  refine s_op0 (ok_call (N := 16) (Φ := fun y7 => []) (dispute_long_ok e6) rfl rfl rfl Try.func22 rfl Try.nm22 [1] ⟨.inl ⟨5, _, rfl, cov_rep rfl⟩, .inl ⟨6, _, rfl, cov_rep rfl⟩, trivial⟩ (fun _ => rfl) (fun _ => rfl) rfl) rfl rfl rfl (fun y7 => ?_)
  refine s_nil ?_
  refine x_then ?_
  refine s_cond rfl (fun hb8 => ?_) (fun hb8 => ?_)
  ·
   replace hF := cond_t hb8 hF
   refine s_seq ?_
   refine s_region ?_
   refine s_pure (p_build_struct (vals := []) (places := [(0, 1), (1, 1), (2, 1)]) (cells := [.int .i64 (0), .int .i64 (0), Hd.val (nilH 3)]) rfl Try.underlying33 Try.ti33 (⟨rfl, ⟨_, _, Try.ti3⟩, ⟨rfl, ⟨_, _, Try.ti3⟩, ⟨rfl, ⟨_, _, Try.ti22⟩, trivial⟩⟩⟩) rfl rfl) rfl rfl rfl ?_
   refine s_opn (ok_store_box (v := .agg ([.int .i64 (0), .int .i64 (0), Hd.val (nilH 3)]).toArray) (vs := [.int .i64 (0), .int .i64 (0), Hd.val (nilH 3)]) (cs' := [.int .i64 (0), .int .i64 (0), Hd.val (nilH 3)]) 0 rfl rfl Try.ti33 rfl rfl rfl rfl rfl rfl rfl) rfl rfl rfl (fun _ => ?_)
   refine s_pure (p_assign (v := .int .i64 (4)) rfl rfl) rfl rfl rfl ?_
   refine s_nil ?_
   refine x_then ?_
   refine s_ret ?_
   refine x_then_ret ?_
   replace hF := some_inj hF
   subst hF
   exact x_ret (nilH 3) (res_many (rs := [.cell 4 33, .tmp 5]) (vs := [.agg ([.int .i64 (0), .int .i64 (0), Hd.val (nilH 3)]).toArray, .int .i64 (4)]) rfl ⟨ra_cellN (cs := [.int .i64 (0), .int .i64 (0), Hd.val (nilH 3)]) 0 rfl Try.underlying33 rfl Try.ti33 rfl rfl, ra_tmp (v := .int .i64 (4)) rfl, trivial⟩ rfl) rfl 4 rfl [] 2 rfl ⟨.inr free_own, trivial⟩
  ·
   replace hF := cond_f hb8 hF
   refine s_skip ?_
   refine x_then ?_
   obtain ⟨r9, e10, hF⟩ := bind_some hF
   refine s_join (fun y11 : Unit => (Sum.elim (fun s12 => [(4, .pointer (some ⟨b4, 0, none⟩))]) (fun _ => []) r9)) (fun y11 : Unit => (Sum.elim (fun s12 => [.old w S, .box 15 b4 [.int .i64 (0), .int .i64 (0), Hd.val (nilH 3)]]) (fun _ => [.pure False]) r9)) ?_ ?_
   ·
    refine s_seq ?_
    refine s_region ?_
    refine s_pure (p_fieldAddr (fo := 0) rfl Try.underlying30 rfl Try.ti23 rfl rfl rfl) rfl rfl rfl ?_
    refine s_pure (p_load_box (v := Hd.val h0_0) 3 rfl rfl Try.underlying23 rfl rfl rfl) rfl rfl rfl ?_
    refine s_pure (p_len_rep (ty := (tA 16 .u8)) (xs := x0) (h := h0_0) 5 rfl rfl Try.underlying23 rfl) rfl rfl rfl ?_
    refine s_pure (p_fieldAddr (fo := 0) rfl Try.underlying30 rfl Try.ti23 rfl rfl rfl) rfl rfl rfl ?_
    refine s_pure (p_load_box (v := Hd.val h1_0) 2 rfl rfl Try.underlying23 rfl rfl rfl) rfl rfl rfl ?_
    refine s_pure (p_len_rep (ty := (tA 16 .u8)) (xs := x1) (h := h1_0) 6 rfl rfl Try.underlying23 rfl) rfl rfl rfl ?_
    refine s_pure (p_max rfl rfl rfl) rfl rfl rfl ?_
    refine s_pure (p_sub rfl rfl rfl) rfl rfl rfl ?_
    refine s_pure (p_assign (v := .int .i64 (w64 ((if (x1.length : Int) > (x0.length : Int) then (x1.length : Int) else (x0.length : Int)) - 1))) rfl rfl) rfl rfl rfl ?_
    refine s_nil ?_
    refine x_then ?_
    refine s_block ?_
    refine sim_loop (fun (s13 : Int) (y14 : Unit) => [(2, .pointer (some ⟨b1, 0, none⟩)), (3, .pointer (some ⟨b2, 0, none⟩)), (4, .pointer (some ⟨b4, 0, none⟩)), (6, .int .i64 (s13))]) (fun (s13 : Int) (y14 : Unit) => [.old w S, .box 11 b1 [Hd.val h0_0], .box 12 b2 [Hd.val h1_0], .box 15 b4 [.int .i64 (0), .int .i64 (0), Hd.val (nilH 3)], .rep (tA 16 .u8) [1] x0 h0_0, .rep (tA 16 .u8) [1] x1 h1_0]) () e10 [(11, 11), (12, 12), (15, 15)] 2 rfl ⟨rfl, rfl, rfl, rfl, trivial⟩ ⟨.inl ⟨4, _, rfl, weak_same⟩, .inl ⟨3, _, rfl, weak_same⟩, .inl ⟨2, _, rfl, weak_same⟩, .inl ⟨0, _, rfl, weak_same⟩, .inl ⟨5, _, rfl, weak_rep rfl⟩, .inl ⟨6, _, rfl, weak_rep rfl⟩, trivial⟩ ?_
    intro s13 y14 ρ' z15 e16
    refine s_seq ?_
    refine s_seq ?_
    refine s_region ?_
    refine s_pure (p_move (v := .int .i64 (s13)) rfl rfl) rfl rfl rfl ?_
    refine s_pure (p_geq rfl rfl rfl) rfl rfl rfl ?_
    refine s_nil ?_
    refine x_then ?_
    refine s_cond rfl (fun hb17 => ?_) (fun hb17 => ?_)
    ·
     replace e16 := cond_t hb17 e16
     refine s_skip ?_
     refine x_then ?_
     refine s_seq ?_
     refine s_block ?_
     refine s_seq ?_
     obtain ⟨r18, e19, e16⟩ := bind_some e16
     refine s_draw Try.mixed [⟨true, 23, [], Unit, fun _ => .agg ([Hd.val h0_0]).toArray, fun _ => [], [], [], []⟩, ⟨true, 24, [], Unit, fun _ => .int .i64 (s13), fun _ => [], [], [], []⟩, ⟨true, 25, [0, 1], Unit, fun (y20 : Unit) => encState (r18), fun _ => [], [], [], []⟩, ⟨true, 26, [], Unit, fun _ => .agg ([Hd.val h1_0]).toArray, fun _ => [], [], [], []⟩, ⟨true, 27, [], Unit, fun _ => .int .i64 (s13), fun _ => [], [], [], []⟩] [[], [], [0, 1], [], [], [0, 1, 2, 3, 4], [0, 1, 2, 3, 4, 5], [0, 1, 2, 3, 4, 5, 6]] rfl rfl rfl rfl rfl ⟨.inl rfl, .inl rfl, .inl rfl, .inl rfl, .inl rfl, trivial⟩ ?_ [2, 3, 4] rfl rfl (fun us => ?_)
     ·
      refine all_cons _ (base_nil rfl) (dst_some rfl rfl) rfl rfl rfl rfl (gd_none rfl rfl) (fun _ => ?_) ?_
      ·
       refine ob_nil rfl ?_
       exact PureOk.op (p_loadN_box (cs' := [Hd.val h0_0]) 1 rfl rfl Try.underlying30 rfl Try.ti30 rfl rfl rfl)
      refine all_cons _ (base_nil rfl) (dst_some rfl rfl) rfl rfl rfl rfl (gd_none rfl rfl) (fun _ => ?_) ?_
      ·
       refine ob_nil rfl ?_
       exact PureOk.op (p_move (v := .int .i64 (s13)) rfl rfl)
      refine all_cons _ (base_nil rfl) (dst_some rfl rfl) rfl rfl rfl rfl (gd_none rfl rfl) (fun _ => ?_) ?_
      ·
       refine ob_one rfl rfl (fun _ => ?_)
       refine ob_one rfl rfl (fun _ => ?_)
       refine ob_nil rfl ?_
       exact ok_call (N := 28) (Φ := fun y20 => []) (dispute_Claimant_says_ok e19) rfl rfl rfl Try.func24 rfl Try.nm24 [1] ⟨.inl ⟨4, _, rfl, cov_rep rfl⟩, trivial⟩ (fun _ => rfl) (fun _ => rfl) rfl
      refine all_cons _ (base_nil rfl) (dst_some rfl rfl) rfl rfl rfl rfl (gd_none rfl rfl) (fun _ => ?_) ?_
      ·
       refine ob_nil rfl ?_
       exact PureOk.op (p_loadN_box (cs' := [Hd.val h1_0]) 2 rfl rfl Try.underlying30 rfl Try.ti30 rfl rfl rfl)
      refine all_cons _ (base_nil rfl) (dst_some rfl rfl) rfl rfl rfl rfl (gd_none rfl rfl) (fun _ => ?_) ?_
      ·
       refine ob_nil rfl ?_
       exact PureOk.op (p_move (v := .int .i64 (s13)) rfl rfl)
      exact all_nil
     ·
      refine fin_base _ (base_nil rfl) ?_
      refine fin_one rfl rfl (fun y20 => ?_)
      refine fin_one rfl rfl (fun _ => ?_)
      refine fin_one rfl rfl (fun _ => ?_)
      refine fin_nil ?_
      obtain ⟨r26, e27, e16⟩ := bind_some e16
      refine s_op0 (ok_call (N := 40) (Φ := fun y28 => []) (dispute_Claimant_says_ok e27) rfl rfl rfl Try.func24 rfl Try.nm24 [1] ⟨.inl ⟨5, _, rfl, cov_rep rfl⟩, trivial⟩ (fun _ => rfl) (fun _ => rfl) rfl) rfl rfl rfl (fun y28 => ?_)
      obtain ⟨r29, e30, e16⟩ := bind_some e16
      refine s_op0 (ok_call (N := 52) (Φ := fun y31 => []) (dispute_same_ok e30) rfl rfl rfl Try.func23 rfl Try.nm23 [] trivial (fun _ => rfl) (fun _ => rfl) rfl) rfl rfl rfl (fun y31 => ?_)
      refine s_pure (p_not rfl rfl) rfl rfl rfl ?_
      refine s_nil ?_
      refine x_then ?_
      refine s_cond rfl (fun hb32 => ?_) (fun hb32 => ?_)
      ·
       replace e16 := cond_t hb32 e16
       refine s_seq ?_
       refine s_region ?_
       refine s_pure (p_move (v := .int .i64 (s13)) rfl rfl) rfl rfl rfl ?_
       refine s_nilrow (tI .i64) 3 64 [] ?_
       refine s_pure (p_build_struct (vals := [(0, [.int .i64 (-1)]), (1, [.int .i64 (s13)])]) (places := [(0, 1), (1, 1), (2, 1)]) (cells := [.int .i64 (-1), .int .i64 (s13), Hd.val (nilH 3)]) rfl Try.underlying33 Try.ti33 (⟨rfl, ⟨_, _, Try.ti3⟩, ⟨rfl, ⟨_, _, Try.ti3⟩, ⟨rfl, ⟨_, _, Try.ti22⟩, trivial⟩⟩⟩) rfl rfl) rfl rfl rfl ?_
       refine s_opn (ok_store_box (v := .agg ([.int .i64 (-1), .int .i64 (s13), Hd.val (nilH 3)]).toArray) (vs := [.int .i64 (-1), .int .i64 (s13), Hd.val (nilH 3)]) (cs' := [.int .i64 (-1), .int .i64 (s13), Hd.val (nilH 3)]) 4 rfl rfl Try.ti33 rfl rfl rfl rfl rfl rfl rfl) rfl rfl rfl (fun _ => ?_)
       refine s_pure (p_assign (v := .int .i64 (0)) rfl rfl) rfl rfl rfl ?_
       refine s_nil ?_
       refine x_then ?_
       refine s_ret ?_
       refine x_block_ret ?_
       refine x_then_ret ?_
       refine x_out_ret e16 (fun e33 => ?_)
       subst e33
       refine x_block_ret ?_
       refine x_join_ret ?_
       replace hF := some_inj hF
       subst hF
       exact x_ret (nilH 3) (res_many (rs := [.cell 4 33, .tmp 5]) (vs := [.agg ([.int .i64 (-1), .int .i64 (s13), Hd.val (nilH 3)]).toArray, .int .i64 (0)]) rfl ⟨ra_cellN (cs := [.int .i64 (-1), .int .i64 (s13), Hd.val (nilH 3)]) 0 rfl Try.underlying33 rfl Try.ti33 rfl rfl, ra_tmp (v := .int .i64 (0)) rfl, trivial⟩ rfl) rfl 2 rfl [] 2 rfl ⟨.inr free_own, trivial⟩
      ·
       replace e16 := cond_f hb32 e16
       refine s_skip ?_
       refine x_block ?_
       refine x_then ?_
       refine s_region ?_
       refine s_pure (p_move (v := .int .i64 (s13)) rfl rfl) rfl rfl rfl ?_
       refine s_pure (p_sub rfl rfl rfl) rfl rfl rfl ?_
       refine s_pure (p_assign (v := .int .i64 (w64 (s13 - 1))) rfl rfl) rfl rfl rfl ?_
       refine s_nil ?_
       exact x_next () e16 [(11, 11), (12, 12), (15, 15)] 2 rfl ⟨rfl, rfl, rfl, rfl, trivial⟩ ⟨.inl ⟨0, _, rfl, weak_same⟩, .inl ⟨1, _, rfl, weak_same⟩, .inl ⟨2, _, rfl, weak_same⟩, .inl ⟨3, _, rfl, weak_same⟩, .inl ⟨4, _, rfl, weak_rep rfl⟩, .inl ⟨5, _, rfl, weak_rep rfl⟩, trivial⟩
    ·
     replace e16 := cond_f hb17 e16
     refine s_exit ?_
     refine x_then_exit ?_
     refine x_out e16 (fun e34 => ?_)
     subst e34
     refine x_block_exit ?_
     exact x_join () [(15, 15)] 2 rfl ⟨rfl, trivial⟩ ⟨.inl ⟨0, _, rfl, weak_same⟩, .inl ⟨3, _, rfl, weak_same⟩, trivial⟩
   ·
    intro y11 ρ'
    rcases r9 with s12 | t35
    rotate_left
    · exact s_absurd 0 rfl
    refine s_seq ?_
    refine s_region ?_
    refine s_nilrow (tI .i64) 3 65 [] ?_
    refine s_pure (p_build_struct (vals := []) (places := [(0, 1), (1, 1), (2, 1)]) (cells := [.int .i64 (0), .int .i64 (0), Hd.val (nilH 3)]) rfl Try.underlying33 Try.ti33 (⟨rfl, ⟨_, _, Try.ti3⟩, ⟨rfl, ⟨_, _, Try.ti3⟩, ⟨rfl, ⟨_, _, Try.ti22⟩, trivial⟩⟩⟩) rfl rfl) rfl rfl rfl ?_
    refine s_opn (ok_store_box (v := .agg ([.int .i64 (0), .int .i64 (0), Hd.val (nilH 3)]).toArray) (vs := [.int .i64 (0), .int .i64 (0), Hd.val (nilH 3)]) (cs' := [.int .i64 (0), .int .i64 (0), Hd.val (nilH 3)]) 2 rfl rfl Try.ti33 rfl rfl rfl rfl rfl rfl rfl) rfl rfl rfl (fun _ => ?_)
    refine s_pure (p_assign (v := .int .i64 (6)) rfl rfl) rfl rfl rfl ?_
    refine s_nil ?_
    refine x_then ?_
    refine s_ret ?_
    replace hF := some_inj hF
    subst hF
    exact x_ret (nilH 3) (res_many (rs := [.cell 4 33, .tmp 5]) (vs := [.agg ([.int .i64 (0), .int .i64 (0), Hd.val (nilH 3)]).toArray, .int .i64 (6)]) rfl ⟨ra_cellN (cs := [.int .i64 (0), .int .i64 (0), Hd.val (nilH 3)]) 0 rfl Try.underlying33 rfl Try.ti33 rfl rfl, ra_tmp (v := .int .i64 (6)) rfl, trivial⟩ rfl) rfl 2 rfl [] 2 rfl ⟨.inr free_own, trivial⟩

end Go.Proofs.Ytimljgafbpbceaa
