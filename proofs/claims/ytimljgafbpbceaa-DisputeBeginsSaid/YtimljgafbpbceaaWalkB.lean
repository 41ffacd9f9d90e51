/-
  The functions of the program compute what their Lean functions say. No condition.
-/
import Derived.Test.YtimljgafbpbceaaWalkA
namespace Go.Proofs.Ytimljgafbpbceaa
open Go.Sm
set_option maxHeartbeats 8000000

theorem dispute_Halve_ok {x0 : (Int × Int × (List Int))} {x1 : ((List (List Int)))} {x2 : ((List (List Int)))} {h0_0 : Hd} {h1_0 : Hd} {h2_0 : Hd} {r : ((Int × Int × (List Int)) × Int)} (hF : dispute_Halve x0 x1 x2 = some r) : ∀ (w : World) (S : Nat → Prop), Heap w (oldc S) [.rep (tI .i64) [1] x0.2.2 h0_0, .rep (tA 16 .u8) [1] x1 h1_0, .rep (tA 16 .u8) [1] x2 h2_0] → Calls Try.prog 15 #[.agg ([.int .i64 (x0.1), .int .i64 (x0.2.1), Hd.val h0_0]).toArray, .agg ([Hd.val h1_0]).toArray, .agg ([Hd.val h2_0]).toArray] w (Post w S (fun (y89 : Hd) => .tuple #[.agg ([.int .i64 (r.1.1), .int .i64 (r.1.2.1), Hd.val y89]).toArray, .int .i64 (r.2)]) (fun (y89 : Hd) => [.own (tI .i64) 3 2 [] r.1.2.2 y89])) := by
  intro w S hL
  refine s_enter (n := 85) Try.func15 rfl rfl _ rfl hL ?_
  refine s_seq ?_
  refine s_region ?_
  refine s_op0 (ok_box (N := 11) (v := .agg ([.int .i64 (x0.1), .int .i64 (x0.2.1), Hd.val h0_0]).toArray) (cs := [.int .i64 (x0.1), .int .i64 (x0.2.1), Hd.val h0_0]) rfl rfl rfl rfl) rfl rfl rfl (fun b1 => ?_)
  refine s_op0 (ok_box (N := 12) (v := .agg ([Hd.val h1_0]).toArray) (cs := [Hd.val h1_0]) rfl rfl rfl rfl) rfl rfl rfl (fun b2 => ?_)
  refine s_op0 (ok_box (N := 13) (v := .agg ([Hd.val h2_0]).toArray) (cs := [Hd.val h2_0]) rfl rfl rfl rfl) rfl rfl rfl (fun b3 => ?_)
  refine s_nilrow (tI .i64) 3 15 [] ?_
  refine s_op0 (ok_alloc (N := 16) (cs := [.int .i64 (0), .int .i64 (0), Hd.val (nilH 3)]) rfl Try.ti33 rfl rfl) rfl rfl rfl (fun b5 => ?_)
  refine s_pure (p_assign (v := .int .i64 (0)) rfl rfl) rfl rfl rfl ?_
  refine s_nil ?_
  refine x_then ?_
  refine s_seq ?_
  refine s_seq ?_
  refine s_region ?_
  refine s_pure (p_loadN_box (cs' := [Hd.val h1_0]) 3 rfl rfl Try.underlying30 rfl Try.ti30 rfl rfl rfl) rfl rfl rfl ?_
  refine s_pure (p_loadN_box (cs' := [Hd.val h2_0]) 2 rfl rfl Try.underlying30 rfl Try.ti30 rfl rfl rfl) rfl rfl rfl ?_
  obtain ⟨r6, e7, hF⟩ := bind_some hF
  refine s_op0 (ok_call (N := 17) (Φ := fun y8 => []) (dispute_long_ok e7) rfl rfl rfl Try.func22 rfl Try.nm22 [1] ⟨.inl ⟨7, _, rfl, cov_rep rfl⟩, .inl ⟨8, _, rfl, cov_rep rfl⟩, trivial⟩ (fun _ => rfl) (fun _ => rfl) rfl) rfl rfl rfl (fun y8 => ?_)
  refine s_nil ?_
  refine x_then ?_
  refine s_cond rfl (fun hb9 => ?_) (fun hb9 => ?_)
  ·
   replace hF := cond_t hb9 hF
   refine s_seq ?_
   refine s_region ?_
   refine s_pure (p_build_struct (vals := []) (places := [(0, 1), (1, 1), (2, 1)]) (cells := [.int .i64 (0), .int .i64 (0), Hd.val (nilH 3)]) rfl Try.underlying33 Try.ti33 (⟨rfl, ⟨_, _, Try.ti3⟩, ⟨rfl, ⟨_, _, Try.ti3⟩, ⟨rfl, ⟨_, _, Try.ti22⟩, trivial⟩⟩⟩) rfl rfl) rfl rfl rfl ?_
   refine s_opn (ok_store_box (v := .agg ([.int .i64 (0), .int .i64 (0), Hd.val (nilH 3)]).toArray) (vs := [.int .i64 (0), .int .i64 (0), Hd.val (nilH 3)]) (cs' := [.int .i64 (0), .int .i64 (0), Hd.val (nilH 3)]) 0 rfl rfl Try.ti33 rfl rfl rfl rfl rfl rfl rfl) rfl rfl rfl (fun _ => ?_)
   refine s_pure (p_assign (v := .int .i64 (4)) rfl rfl) rfl rfl rfl ?_
   refine s_nil ?_
   refine x_then ?_
   refine s_ret ?_
   refine x_then_ret ?_
   replace hF := some_inj hF
   subst hF
   exact x_ret (nilH 3) (res_many (rs := [.cell 6 33, .tmp 7]) (vs := [.agg ([.int .i64 (0), .int .i64 (0), Hd.val (nilH 3)]).toArray, .int .i64 (4)]) rfl ⟨ra_cellN (cs := [.int .i64 (0), .int .i64 (0), Hd.val (nilH 3)]) 0 rfl Try.underlying33 rfl Try.ti33 rfl rfl, ra_tmp (v := .int .i64 (4)) rfl, trivial⟩ rfl) rfl 5 rfl [] 2 rfl ⟨.inr free_own, trivial⟩
  ·
   replace hF := cond_f hb9 hF
   refine s_skip ?_
   refine x_then ?_
   refine s_seq ?_
   refine s_seq ?_
   obtain ⟨r10, e11, hF⟩ := bind_some hF
   obtain ⟨r13, e14, hF⟩ := bind_some hF
   obtain ⟨r16, e17, hF⟩ := bind_some hF
   obtain ⟨r19, e20, hF⟩ := bind_some hF
   refine s_draw Try.mixed [⟨true, 14, [], Unit, fun _ => .pointer (some ⟨b1, 0, none⟩), fun _ => [], [], [], []⟩, ⟨true, 15, [0], Unit, fun _ => .int .i64 (x0.1), fun _ => [], [], [], []⟩, ⟨true, 16, [1], Unit, fun _ => .bool (decide (x0.1 < (-1))), fun _ => [], [], [], []⟩, ⟨true, 17, [2], Unit, fun _ => .bool (decide (x0.1 < (-1))), fun _ => [], [], [], []⟩, ⟨!(decide (x0.1 < (-1))), 18, [], Unit, fun _ => .pointer (some ⟨b1, 0, none⟩), fun _ => [], [], [], []⟩, ⟨!(decide (x0.1 < (-1))), 19, [4], Unit, fun _ => .int .i64 (x0.1), fun _ => [], [], [], []⟩, ⟨!(decide (x0.1 < (-1))), 20, [5], Unit, fun _ => .bool (decide (0 ≤ x0.1)), fun _ => [], [], [], []⟩, ⟨!(decide (x0.1 < (-1))), 21, [6], Unit, fun _ => .bool (decide (0 ≤ x0.1)), fun _ => [], [], [], []⟩, ⟨(!(decide (x0.1 < (-1)))) && (decide (0 ≤ x0.1)), 22, [], Unit, fun _ => .agg ([Hd.val h1_0]).toArray, fun _ => [], [], [], []⟩, ⟨(!(decide (x0.1 < (-1)))) && (decide (0 ≤ x0.1)), 23, [], Unit, fun _ => .agg ([Hd.val h2_0]).toArray, fun _ => [], [], [], []⟩, ⟨(!(decide (x0.1 < (-1)))) && (decide (0 ≤ x0.1)), 24, [], Unit, fun _ => .pointer (some ⟨b1, 0, none⟩), fun _ => [], [], [], []⟩, ⟨(!(decide (x0.1 < (-1)))) && (decide (0 ≤ x0.1)), 25, [10], Unit, fun _ => .int .i64 (x0.1), fun _ => [], [], [], []⟩, ⟨(!(decide (x0.1 < (-1)))) && (decide (0 ≤ x0.1)), 26, [8, 9, 11], Unit, fun (y12 : Unit) => .bool (r10), fun _ => [], [], [], []⟩, ⟨(!(decide (x0.1 < (-1)))) && (decide (0 ≤ x0.1)), 27, [12], Unit, fun _ => .bool (!r10), fun _ => [], [], [], []⟩, ⟨!(decide (x0.1 < (-1))), 28, [7, 13], Unit, fun _ => .bool (bif decide (0 ≤ x0.1) then !r10 else false), fun _ => [], [], [], []⟩, ⟨true, 29, [3, 14], Unit, fun _ => .bool (bif decide (x0.1 < (-1)) then true else bif decide (0 ≤ x0.1) then !r10 else false), fun _ => [], [], [], []⟩, ⟨true, 30, [15], Unit, fun _ => .bool (bif decide (x0.1 < (-1)) then true else bif decide (0 ≤ x0.1) then !r10 else false), fun _ => [], [], [], []⟩, ⟨!(bif decide (x0.1 < (-1)) then true else bif decide (0 ≤ x0.1) then !r10 else false), 31, [], Unit, fun _ => .pointer (some ⟨b1, 1, none⟩), fun _ => [], [], [], []⟩, ⟨!(bif decide (x0.1 < (-1)) then true else bif decide (0 ≤ x0.1) then !r10 else false), 32, [17], Unit, fun _ => .int .i64 (x0.2.1), fun _ => [], [], [], []⟩, ⟨!(bif decide (x0.1 < (-1)) then true else bif decide (0 ≤ x0.1) then !r10 else false), 33, [], Unit, fun _ => .pointer (some ⟨b1, 0, none⟩), fun _ => [], [], [], []⟩, ⟨!(bif decide (x0.1 < (-1)) then true else bif decide (0 ≤ x0.1) then !r10 else false), 34, [19], Unit, fun _ => .int .i64 (x0.1), fun _ => [], [], [], []⟩, ⟨!(bif decide (x0.1 < (-1)) then true else bif decide (0 ≤ x0.1) then !r10 else false), 35, [18, 20], Unit, fun _ => .bool (decide (x0.2.1 ≤ x0.1)), fun _ => [], [], [], []⟩, ⟨true, 36, [16, 21], Unit, fun _ => .bool (bif bif decide (x0.1 < (-1)) then true else bif decide (0 ≤ x0.1) then !r10 else false then true else decide (x0.2.1 ≤ x0.1)), fun _ => [], [], [], []⟩, ⟨true, 37, [22], Unit, fun _ => .bool (bif bif decide (x0.1 < (-1)) then true else bif decide (0 ≤ x0.1) then !r10 else false then true else decide (x0.2.1 ≤ x0.1)), fun _ => [], [], [], []⟩, ⟨!(bif bif decide (x0.1 < (-1)) then true else bif decide (0 ≤ x0.1) then !r10 else false then true else decide (x0.2.1 ≤ x0.1)), 38, [], Unit, fun _ => .agg ([Hd.val h1_0]).toArray, fun _ => [], [], [], []⟩, ⟨!(bif bif decide (x0.1 < (-1)) then true else bif decide (0 ≤ x0.1) then !r10 else false then true else decide (x0.2.1 ≤ x0.1)), 39, [], Unit, fun _ => .pointer (some ⟨b1, 1, none⟩), fun _ => [], [], [], []⟩, ⟨!(bif bif decide (x0.1 < (-1)) then true else bif decide (0 ≤ x0.1) then !r10 else false then true else decide (x0.2.1 ≤ x0.1)), 40, [25], Unit, fun _ => .int .i64 (x0.2.1), fun _ => [], [], [], []⟩, ⟨!(bif bif decide (x0.1 < (-1)) then true else bif decide (0 ≤ x0.1) then !r10 else false then true else decide (x0.2.1 ≤ x0.1)), 41, [24, 26], Unit, fun (y15 : Unit) => encState (r13), fun _ => [], [], [], []⟩, ⟨!(bif bif decide (x0.1 < (-1)) then true else bif decide (0 ≤ x0.1) then !r10 else false then true else decide (x0.2.1 ≤ x0.1)), 42, [], Unit, fun _ => .agg ([Hd.val h2_0]).toArray, fun _ => [], [], [], []⟩, ⟨!(bif bif decide (x0.1 < (-1)) then true else bif decide (0 ≤ x0.1) then !r10 else false then true else decide (x0.2.1 ≤ x0.1)), 43, [], Unit, fun _ => .pointer (some ⟨b1, 1, none⟩), fun _ => [], [], [], []⟩, ⟨!(bif bif decide (x0.1 < (-1)) then true else bif decide (0 ≤ x0.1) then !r10 else false then true else decide (x0.2.1 ≤ x0.1)), 44, [29], Unit, fun _ => .int .i64 (x0.2.1), fun _ => [], [], [], []⟩, ⟨!(bif bif decide (x0.1 < (-1)) then true else bif decide (0 ≤ x0.1) then !r10 else false then true else decide (x0.2.1 ≤ x0.1)), 45, [28, 30], Unit, fun (y18 : Unit) => encState (r16), fun _ => [], [], [], []⟩, ⟨!(bif bif decide (x0.1 < (-1)) then true else bif decide (0 ≤ x0.1) then !r10 else false then true else decide (x0.2.1 ≤ x0.1)), 46, [27, 31], Unit, fun (y21 : Unit) => .bool (r19), fun _ => [], [], [], []⟩, ⟨true, 47, [23, 32], Unit, fun _ => .bool (bif bif bif decide (x0.1 < (-1)) then true else bif decide (0 ≤ x0.1) then !r10 else false then true else decide (x0.2.1 ≤ x0.1) then true else r19), fun _ => [], [], [], []⟩] [[], [0], [0, 1], [0, 1, 2], [0, 1, 2, 3], [0, 1, 2, 3, 4], [0, 1, 2, 3, 4, 5], [0, 1, 2, 3, 4, 5, 6], [0, 1, 2, 3, 4, 5, 6, 7], [0, 1, 2, 3, 4, 5, 6, 7], [0, 1, 2, 3, 4, 5, 6, 7], [0, 1, 2, 3, 4, 5, 6, 7, 10], [0, 1, 2, 3, 4, 5, 6, 7, 8, 9, 10, 11], [0, 1, 2, 3, 4, 5, 6, 7, 8, 9, 10, 11, 12], [0, 1, 2, 3, 4, 5, 6, 7, 8, 9, 10, 11, 12, 13], [0, 1, 2, 3, 4, 5, 6, 7, 8, 9, 10, 11, 12, 13, 14], [0, 1, 2, 3, 4, 5, 6, 7, 8, 9, 10, 11, 12, 13, 14, 15], [0, 1, 2, 3, 4, 5, 6, 7, 8, 9, 10, 11, 12, 13, 14, 15, 16], [0, 1, 2, 3, 4, 5, 6, 7, 8, 9, 10, 11, 12, 13, 14, 15, 16, 17], [0, 1, 2, 3, 4, 5, 6, 7, 8, 9, 10, 11, 12, 13, 14, 15, 16], [0, 1, 2, 3, 4, 5, 6, 7, 8, 9, 10, 11, 12, 13, 14, 15, 16, 19], [0, 1, 2, 3, 4, 5, 6, 7, 8, 9, 10, 11, 12, 13, 14, 15, 16, 17, 18, 19, 20], [0, 1, 2, 3, 4, 5, 6, 7, 8, 9, 10, 11, 12, 13, 14, 15, 16, 17, 18, 19, 20, 21], [0, 1, 2, 3, 4, 5, 6, 7, 8, 9, 10, 11, 12, 13, 14, 15, 16, 17, 18, 19, 20, 21, 22], [0, 1, 2, 3, 4, 5, 6, 7, 8, 9, 10, 11, 12, 13, 14, 15, 16, 17, 18, 19, 20, 21, 22, 23], [0, 1, 2, 3, 4, 5, 6, 7, 8, 9, 10, 11, 12, 13, 14, 15, 16, 17, 18, 19, 20, 21, 22, 23], [0, 1, 2, 3, 4, 5, 6, 7, 8, 9, 10, 11, 12, 13, 14, 15, 16, 17, 18, 19, 20, 21, 22, 23, 25], [0, 1, 2, 3, 4, 5, 6, 7, 8, 9, 10, 11, 12, 13, 14, 15, 16, 17, 18, 19, 20, 21, 22, 23, 24, 25, 26], [0, 1, 2, 3, 4, 5, 6, 7, 8, 9, 10, 11, 12, 13, 14, 15, 16, 17, 18, 19, 20, 21, 22, 23], [0, 1, 2, 3, 4, 5, 6, 7, 8, 9, 10, 11, 12, 13, 14, 15, 16, 17, 18, 19, 20, 21, 22, 23], [0, 1, 2, 3, 4, 5, 6, 7, 8, 9, 10, 11, 12, 13, 14, 15, 16, 17, 18, 19, 20, 21, 22, 23, 29], [0, 1, 2, 3, 4, 5, 6, 7, 8, 9, 10, 11, 12, 13, 14, 15, 16, 17, 18, 19, 20, 21, 22, 23, 24, 25, 26, 27, 28, 29, 30], [0, 1, 2, 3, 4, 5, 6, 7, 8, 9, 10, 11, 12, 13, 14, 15, 16, 17, 18, 19, 20, 21, 22, 23, 24, 25, 26, 27, 28, 29, 30, 31], [0, 1, 2, 3, 4, 5, 6, 7, 8, 9, 10, 11, 12, 13, 14, 15, 16, 17, 18, 19, 20, 21, 22, 23, 24, 25, 26, 27, 28, 29, 30, 31, 32]] rfl rfl rfl rfl rfl ⟨.inl rfl, .inl rfl, .inl rfl, .inl rfl, .inl rfl, .inl rfl, .inl rfl, .inl rfl, .inl rfl, .inl rfl, .inl rfl, .inl rfl, .inl rfl, .inl rfl, .inl rfl, .inl rfl, .inl rfl, .inl rfl, .inl rfl, .inl rfl, .inl rfl, .inl rfl, .inl rfl, .inl rfl, .inl rfl, .inl rfl, .inl rfl, .inl rfl, .inl rfl, .inl rfl, .inl rfl, .inl rfl, .inl rfl, .inl rfl, trivial⟩ ?_ [33] rfl rfl (fun us => ?_)
   ·
    refine all_cons _ (base_nil rfl) (dst_some rfl rfl) rfl rfl rfl rfl (gd_none rfl rfl) (fun _ => ?_) ?_
    ·
     refine ob_nil rfl ?_
     exact PureOk.op (p_fieldAddr (fo := 0) rfl Try.underlying33 rfl Try.ti3 rfl rfl rfl)
    refine all_cons _ (base_nil rfl) (dst_some rfl rfl) rfl rfl rfl rfl (gd_none rfl rfl) (fun _ => ?_) ?_
    ·
     refine ob_one rfl rfl (fun _ => ?_)
     refine ob_nil rfl ?_
     exact PureOk.op (p_load_box (v := .int .i64 (x0.1)) 4 rfl rfl Try.underlying3 rfl rfl rfl)
    refine all_cons _ (base_nil rfl) (dst_some rfl rfl) rfl rfl rfl rfl (gd_none rfl rfl) (fun _ => ?_) ?_
    ·
     refine ob_one rfl rfl (fun _ => ?_)
     refine ob_nil rfl ?_
     exact PureOk.op (p_lss rfl rfl rfl)
    refine all_cons _ (base_nil rfl) (dst_some rfl rfl) rfl rfl rfl rfl (gd_none rfl rfl) (fun _ => ?_) ?_
    ·
     refine ob_one rfl rfl (fun _ => ?_)
     refine ob_nil rfl ?_
     exact PureOk.op (p_move (v := .bool (decide (x0.1 < (-1)))) rfl rfl)
    refine all_cons _ (base_nil rfl) (dst_some rfl rfl) rfl rfl rfl rfl (gd_some (e := ⟨true, 17, [2], Unit, fun _ => .bool (decide (x0.1 < (-1))), fun _ => [], [], [], []⟩) (decide (x0.1 < (-1))) rfl rfl rfl rfl (fun _ => rfl) (gd_f _)) (fun hx26 => ?_) ?_
    ·
     replace hx26 : (!(decide (x0.1 < (-1)))) = true := hx26
     refine ob_nil rfl ?_
     exact PureOk.op (p_fieldAddr (fo := 0) rfl Try.underlying33 rfl Try.ti3 rfl rfl rfl)
    refine all_cons _ (base_nil rfl) (dst_some rfl rfl) rfl rfl rfl rfl (gd_some (e := ⟨true, 17, [2], Unit, fun _ => .bool (decide (x0.1 < (-1))), fun _ => [], [], [], []⟩) (decide (x0.1 < (-1))) rfl rfl rfl rfl (fun _ => rfl) (gd_f _)) (fun hx27 => ?_) ?_
    ·
     replace hx27 : (!(decide (x0.1 < (-1)))) = true := hx27
     refine ob_two rfl (fun _ _ => ?_) (fun hn => clash hx27 hn)
     refine ob_nil rfl ?_
     exact PureOk.op (p_load_box (v := .int .i64 (x0.1)) 4 rfl rfl Try.underlying3 rfl rfl rfl)
    refine all_cons _ (base_nil rfl) (dst_some rfl rfl) rfl rfl rfl rfl (gd_some (e := ⟨true, 17, [2], Unit, fun _ => .bool (decide (x0.1 < (-1))), fun _ => [], [], [], []⟩) (decide (x0.1 < (-1))) rfl rfl rfl rfl (fun _ => rfl) (gd_f _)) (fun hx28 => ?_) ?_
    ·
     replace hx28 : (!(decide (x0.1 < (-1)))) = true := hx28
     refine ob_two rfl (fun _ _ => ?_) (fun hn => clash hx28 hn)
     refine ob_nil rfl ?_
     exact PureOk.op (p_geq rfl rfl rfl)
    refine all_cons _ (base_nil rfl) (dst_some rfl rfl) rfl rfl rfl rfl (gd_some (e := ⟨true, 17, [2], Unit, fun _ => .bool (decide (x0.1 < (-1))), fun _ => [], [], [], []⟩) (decide (x0.1 < (-1))) rfl rfl rfl rfl (fun _ => rfl) (gd_f _)) (fun hx29 => ?_) ?_
    ·
     replace hx29 : (!(decide (x0.1 < (-1)))) = true := hx29
     refine ob_two rfl (fun _ _ => ?_) (fun hn => clash hx29 hn)
     refine ob_nil rfl ?_
     exact PureOk.op (p_move (v := .bool (decide (0 ≤ x0.1))) rfl rfl)
    refine all_cons _ (base_nil rfl) (dst_some rfl rfl) rfl rfl rfl rfl (gd_some (e := ⟨!(decide (x0.1 < (-1))), 21, [6], Unit, fun _ => .bool (decide (0 ≤ x0.1)), fun _ => [], [], [], []⟩) (decide (0 ≤ x0.1)) rfl rfl rfl rfl (fun _ => rfl) (gd_nt _ _)) (fun hx30 => ?_) ?_
    ·
     replace hx30 : ((!(decide (x0.1 < (-1)))) && (decide (0 ≤ x0.1))) = true := hx30
     refine ob_nil rfl ?_
     exact PureOk.op (p_loadN_box (cs' := [Hd.val h1_0]) 3 rfl rfl Try.underlying30 rfl Try.ti30 rfl rfl rfl)
    refine all_cons _ (base_nil rfl) (dst_some rfl rfl) rfl rfl rfl rfl (gd_some (e := ⟨!(decide (x0.1 < (-1))), 21, [6], Unit, fun _ => .bool (decide (0 ≤ x0.1)), fun _ => [], [], [], []⟩) (decide (0 ≤ x0.1)) rfl rfl rfl rfl (fun _ => rfl) (gd_nt _ _)) (fun hx31 => ?_) ?_
    ·
     replace hx31 : ((!(decide (x0.1 < (-1)))) && (decide (0 ≤ x0.1))) = true := hx31
     refine ob_nil rfl ?_
     exact PureOk.op (p_loadN_box (cs' := [Hd.val h2_0]) 2 rfl rfl Try.underlying30 rfl Try.ti30 rfl rfl rfl)
    refine all_cons _ (base_nil rfl) (dst_some rfl rfl) rfl rfl rfl rfl (gd_some (e := ⟨!(decide (x0.1 < (-1))), 21, [6], Unit, fun _ => .bool (decide (0 ≤ x0.1)), fun _ => [], [], [], []⟩) (decide (0 ≤ x0.1)) rfl rfl rfl rfl (fun _ => rfl) (gd_nt _ _)) (fun hx32 => ?_) ?_
    ·
     replace hx32 : ((!(decide (x0.1 < (-1)))) && (decide (0 ≤ x0.1))) = true := hx32
     refine ob_nil rfl ?_
     exact PureOk.op (p_fieldAddr (fo := 0) rfl Try.underlying33 rfl Try.ti3 rfl rfl rfl)
    refine all_cons _ (base_nil rfl) (dst_some rfl rfl) rfl rfl rfl rfl (gd_some (e := ⟨!(decide (x0.1 < (-1))), 21, [6], Unit, fun _ => .bool (decide (0 ≤ x0.1)), fun _ => [], [], [], []⟩) (decide (0 ≤ x0.1)) rfl rfl rfl rfl (fun _ => rfl) (gd_nt _ _)) (fun hx33 => ?_) ?_
    ·
     replace hx33 : ((!(decide (x0.1 < (-1)))) && (decide (0 ≤ x0.1))) = true := hx33
     refine ob_two rfl (fun _ _ => ?_) (fun hn => clash hx33 hn)
     refine ob_nil rfl ?_
     exact PureOk.op (p_load_box (v := .int .i64 (x0.1)) 4 rfl rfl Try.underlying3 rfl rfl rfl)
    refine all_cons _ (base_nil rfl) (dst_some rfl rfl) rfl rfl rfl rfl (gd_some (e := ⟨!(decide (x0.1 < (-1))), 21, [6], Unit, fun _ => .bool (decide (0 ≤ x0.1)), fun _ => [], [], [], []⟩) (decide (0 ≤ x0.1)) rfl rfl rfl rfl (fun _ => rfl) (gd_nt _ _)) (fun hx34 => ?_) ?_
    ·
     replace hx34 : ((!(decide (x0.1 < (-1)))) && (decide (0 ≤ x0.1))) = true := hx34
     replace e11 := cond_t hx34 e11
     refine ob_two rfl (fun _ _ => ?_) (fun hn => clash hx34 hn)
     refine ob_two rfl (fun _ _ => ?_) (fun hn => clash hx34 hn)
     refine ob_two rfl (fun _ _ => ?_) (fun hn => clash hx34 hn)
     refine ob_nil rfl ?_
     exact ok_call (N := 29) (Φ := fun y12 => []) (dispute_shown_ok e11) rfl rfl rfl Try.func27 rfl Try.nm27 [1] ⟨.inl ⟨7, _, rfl, cov_rep rfl⟩, .inl ⟨8, _, rfl, cov_rep rfl⟩, trivial⟩ (fun _ => rfl) (fun _ => rfl) rfl
    refine all_cons _ (base_nil rfl) (dst_some rfl rfl) rfl rfl rfl rfl (gd_some (e := ⟨!(decide (x0.1 < (-1))), 21, [6], Unit, fun _ => .bool (decide (0 ≤ x0.1)), fun _ => [], [], [], []⟩) (decide (0 ≤ x0.1)) rfl rfl rfl rfl (fun _ => rfl) (gd_nt _ _)) (fun hx35 => ?_) ?_
    ·
     replace hx35 : ((!(decide (x0.1 < (-1)))) && (decide (0 ≤ x0.1))) = true := hx35
     replace e11 := cond_t hx35 e11
     refine ob_two rfl (fun _ y12 => ?_) (fun hn => clash hx35 hn)
     refine ob_nil rfl ?_
     exact PureOk.op (p_not rfl rfl)
    refine all_cons _ (base_nil rfl) (dst_some rfl rfl) rfl rfl rfl rfl (gd_some (e := ⟨true, 17, [2], Unit, fun _ => .bool (decide (x0.1 < (-1))), fun _ => [], [], [], []⟩) (decide (x0.1 < (-1))) rfl rfl rfl rfl (fun _ => rfl) (gd_f _)) (fun hx36 => ?_) ?_
    ·
     replace hx36 : (!(decide (x0.1 < (-1)))) = true := hx36
     refine ob_two rfl (fun _ _ => ?_) (fun hn => clash hx36 hn)
     refine ob_two rfl (fun hq37 _ => ?_) (fun hq37 => ?_)
     rotate_left
     ·
      replace hq37 : ((!(decide (x0.1 < (-1)))) && (decide (0 ≤ x0.1))) = false := hq37
      refine ob_nil rfl ?_
      exact PureOk.op (p_pick (b := decide (0 ≤ x0.1)) (p := !r10) (q := false) rfl rfl (fun hb => by first | (rw [hb] at hq37; cases hq37; done) | exact absurd hq37 (by rw [hx36, hb]; simp) | (simp_all; done)) (fun _ => rfl))
     refine ob_nil rfl ?_
     exact PureOk.op (p_pick (b := decide (0 ≤ x0.1)) (p := !r10) (q := false) rfl rfl (fun _ => rfl) (fun _ => rfl))
    refine all_cons _ (base_nil rfl) (dst_some rfl rfl) rfl rfl rfl rfl (gd_none rfl rfl) (fun _ => ?_) ?_
    ·
     refine ob_one rfl rfl (fun _ => ?_)
     refine ob_two rfl (fun hq39 _ => ?_) (fun hq39 => ?_)
     rotate_left
     ·
      replace hq39 : (!(decide (x0.1 < (-1)))) = false := hq39
      refine ob_nil rfl ?_
      exact PureOk.op (p_pick (b := decide (x0.1 < (-1))) (p := true) (q := bif decide (0 ≤ x0.1) then !r10 else false) rfl rfl (fun _ => rfl) (fun hb => by first | (rw [hb] at hq39; cases hq39; done) | exact absurd hq39 (by rw [hb]; simp) | (simp_all; done)))
     refine ob_nil rfl ?_
     exact PureOk.op (p_pick (b := decide (x0.1 < (-1))) (p := true) (q := bif decide (0 ≤ x0.1) then !r10 else false) rfl rfl (fun _ => rfl) (fun _ => rfl))
    refine all_cons _ (base_nil rfl) (dst_some rfl rfl) rfl rfl rfl rfl (gd_none rfl rfl) (fun _ => ?_) ?_
    ·
     refine ob_one rfl rfl (fun _ => ?_)
     refine ob_nil rfl ?_
     exact PureOk.op (p_move (v := .bool (bif decide (x0.1 < (-1)) then true else bif decide (0 ≤ x0.1) then !r10 else false)) rfl rfl)
    refine all_cons _ (base_nil rfl) (dst_some rfl rfl) rfl rfl rfl rfl (gd_some (e := ⟨true, 30, [15], Unit, fun _ => .bool (bif decide (x0.1 < (-1)) then true else bif decide (0 ≤ x0.1) then !r10 else false), fun _ => [], [], [], []⟩) (bif decide (x0.1 < (-1)) then true else bif decide (0 ≤ x0.1) then !r10 else false) rfl rfl rfl rfl (fun _ => rfl) (gd_f _)) (fun hx41 => ?_) ?_
    ·
     replace hx41 : (!(bif decide (x0.1 < (-1)) then true else bif decide (0 ≤ x0.1) then !r10 else false)) = true := hx41
     refine ob_nil rfl ?_
     exact PureOk.op (p_fieldAddr (fo := 1) rfl Try.underlying33 rfl Try.ti3 rfl rfl rfl)
    refine all_cons _ (base_nil rfl) (dst_some rfl rfl) rfl rfl rfl rfl (gd_some (e := ⟨true, 30, [15], Unit, fun _ => .bool (bif decide (x0.1 < (-1)) then true else bif decide (0 ≤ x0.1) then !r10 else false), fun _ => [], [], [], []⟩) (bif decide (x0.1 < (-1)) then true else bif decide (0 ≤ x0.1) then !r10 else false) rfl rfl rfl rfl (fun _ => rfl) (gd_f _)) (fun hx42 => ?_) ?_
    ·
     replace hx42 : (!(bif decide (x0.1 < (-1)) then true else bif decide (0 ≤ x0.1) then !r10 else false)) = true := hx42
     refine ob_two rfl (fun _ _ => ?_) (fun hn => clash hx42 hn)
     refine ob_nil rfl ?_
     exact PureOk.op (p_load_box (v := .int .i64 (x0.2.1)) 4 rfl rfl Try.underlying3 rfl rfl rfl)
    refine all_cons _ (base_nil rfl) (dst_some rfl rfl) rfl rfl rfl rfl (gd_some (e := ⟨true, 30, [15], Unit, fun _ => .bool (bif decide (x0.1 < (-1)) then true else bif decide (0 ≤ x0.1) then !r10 else false), fun _ => [], [], [], []⟩) (bif decide (x0.1 < (-1)) then true else bif decide (0 ≤ x0.1) then !r10 else false) rfl rfl rfl rfl (fun _ => rfl) (gd_f _)) (fun hx43 => ?_) ?_
    ·
     replace hx43 : (!(bif decide (x0.1 < (-1)) then true else bif decide (0 ≤ x0.1) then !r10 else false)) = true := hx43
     refine ob_nil rfl ?_
     exact PureOk.op (p_fieldAddr (fo := 0) rfl Try.underlying33 rfl Try.ti3 rfl rfl rfl)
    refine all_cons _ (base_nil rfl) (dst_some rfl rfl) rfl rfl rfl rfl (gd_some (e := ⟨true, 30, [15], Unit, fun _ => .bool (bif decide (x0.1 < (-1)) then true else bif decide (0 ≤ x0.1) then !r10 else false), fun _ => [], [], [], []⟩) (bif decide (x0.1 < (-1)) then true else bif decide (0 ≤ x0.1) then !r10 else false) rfl rfl rfl rfl (fun _ => rfl) (gd_f _)) (fun hx44 => ?_) ?_
    ·
     replace hx44 : (!(bif decide (x0.1 < (-1)) then true else bif decide (0 ≤ x0.1) then !r10 else false)) = true := hx44
     refine ob_two rfl (fun _ _ => ?_) (fun hn => clash hx44 hn)
     refine ob_nil rfl ?_
     exact PureOk.op (p_load_box (v := .int .i64 (x0.1)) 4 rfl rfl Try.underlying3 rfl rfl rfl)
    refine all_cons _ (base_nil rfl) (dst_some rfl rfl) rfl rfl rfl rfl (gd_some (e := ⟨true, 30, [15], Unit, fun _ => .bool (bif decide (x0.1 < (-1)) then true else bif decide (0 ≤ x0.1) then !r10 else false), fun _ => [], [], [], []⟩) (bif decide (x0.1 < (-1)) then true else bif decide (0 ≤ x0.1) then !r10 else false) rfl rfl rfl rfl (fun _ => rfl) (gd_f _)) (fun hx45 => ?_) ?_
    ·
     replace hx45 : (!(bif decide (x0.1 < (-1)) then true else bif decide (0 ≤ x0.1) then !r10 else false)) = true := hx45
     refine ob_two rfl (fun _ _ => ?_) (fun hn => clash hx45 hn)
     refine ob_two rfl (fun _ _ => ?_) (fun hn => clash hx45 hn)
     refine ob_nil rfl ?_
     exact PureOk.op (p_leq rfl rfl rfl)
    refine all_cons _ (base_nil rfl) (dst_some rfl rfl) rfl rfl rfl rfl (gd_none rfl rfl) (fun _ => ?_) ?_
    ·
     refine ob_one rfl rfl (fun _ => ?_)
     refine ob_two rfl (fun hq47 _ => ?_) (fun hq47 => ?_)
     rotate_left
     ·
      replace hq47 : (!(bif decide (x0.1 < (-1)) then true else bif decide (0 ≤ x0.1) then !r10 else false)) = false := hq47
      refine ob_nil rfl ?_
      exact PureOk.op (p_pick (b := bif decide (x0.1 < (-1)) then true else bif decide (0 ≤ x0.1) then !r10 else false) (p := true) (q := decide (x0.2.1 ≤ x0.1)) rfl rfl (fun _ => rfl) (fun hb => by first | (rw [hb] at hq47; cases hq47; done) | exact absurd hq47 (by rw [hb]; simp) | (simp_all; done)))
     refine ob_nil rfl ?_
     exact PureOk.op (p_pick (b := bif decide (x0.1 < (-1)) then true else bif decide (0 ≤ x0.1) then !r10 else false) (p := true) (q := decide (x0.2.1 ≤ x0.1)) rfl rfl (fun _ => rfl) (fun _ => rfl))
    refine all_cons _ (base_nil rfl) (dst_some rfl rfl) rfl rfl rfl rfl (gd_none rfl rfl) (fun _ => ?_) ?_
    ·
     refine ob_one rfl rfl (fun _ => ?_)
     refine ob_nil rfl ?_
     exact PureOk.op (p_move (v := .bool (bif bif decide (x0.1 < (-1)) then true else bif decide (0 ≤ x0.1) then !r10 else false then true else decide (x0.2.1 ≤ x0.1))) rfl rfl)
    refine all_cons _ (base_nil rfl) (dst_some rfl rfl) rfl rfl rfl rfl (gd_some (e := ⟨true, 37, [22], Unit, fun _ => .bool (bif bif decide (x0.1 < (-1)) then true else bif decide (0 ≤ x0.1) then !r10 else false then true else decide (x0.2.1 ≤ x0.1)), fun _ => [], [], [], []⟩) (bif bif decide (x0.1 < (-1)) then true else bif decide (0 ≤ x0.1) then !r10 else false then true else decide (x0.2.1 ≤ x0.1)) rfl rfl rfl rfl (fun _ => rfl) (gd_f _)) (fun hx49 => ?_) ?_
    ·
     replace hx49 : (!(bif bif decide (x0.1 < (-1)) then true else bif decide (0 ≤ x0.1) then !r10 else false then true else decide (x0.2.1 ≤ x0.1))) = true := hx49
     refine ob_nil rfl ?_
     exact PureOk.op (p_loadN_box (cs' := [Hd.val h1_0]) 3 rfl rfl Try.underlying30 rfl Try.ti30 rfl rfl rfl)
    refine all_cons _ (base_nil rfl) (dst_some rfl rfl) rfl rfl rfl rfl (gd_some (e := ⟨true, 37, [22], Unit, fun _ => .bool (bif bif decide (x0.1 < (-1)) then true else bif decide (0 ≤ x0.1) then !r10 else false then true else decide (x0.2.1 ≤ x0.1)), fun _ => [], [], [], []⟩) (bif bif decide (x0.1 < (-1)) then true else bif decide (0 ≤ x0.1) then !r10 else false then true else decide (x0.2.1 ≤ x0.1)) rfl rfl rfl rfl (fun _ => rfl) (gd_f _)) (fun hx50 => ?_) ?_
    ·
     replace hx50 : (!(bif bif decide (x0.1 < (-1)) then true else bif decide (0 ≤ x0.1) then !r10 else false then true else decide (x0.2.1 ≤ x0.1))) = true := hx50
     refine ob_nil rfl ?_
     exact PureOk.op (p_fieldAddr (fo := 1) rfl Try.underlying33 rfl Try.ti3 rfl rfl rfl)
    refine all_cons _ (base_nil rfl) (dst_some rfl rfl) rfl rfl rfl rfl (gd_some (e := ⟨true, 37, [22], Unit, fun _ => .bool (bif bif decide (x0.1 < (-1)) then true else bif decide (0 ≤ x0.1) then !r10 else false then true else decide (x0.2.1 ≤ x0.1)), fun _ => [], [], [], []⟩) (bif bif decide (x0.1 < (-1)) then true else bif decide (0 ≤ x0.1) then !r10 else false then true else decide (x0.2.1 ≤ x0.1)) rfl rfl rfl rfl (fun _ => rfl) (gd_f _)) (fun hx51 => ?_) ?_
    ·
     replace hx51 : (!(bif bif decide (x0.1 < (-1)) then true else bif decide (0 ≤ x0.1) then !r10 else false then true else decide (x0.2.1 ≤ x0.1))) = true := hx51
     refine ob_two rfl (fun _ _ => ?_) (fun hn => clash hx51 hn)
     refine ob_nil rfl ?_
     exact PureOk.op (p_load_box (v := .int .i64 (x0.2.1)) 4 rfl rfl Try.underlying3 rfl rfl rfl)
    refine all_cons _ (base_nil rfl) (dst_some rfl rfl) rfl rfl rfl rfl (gd_some (e := ⟨true, 37, [22], Unit, fun _ => .bool (bif bif decide (x0.1 < (-1)) then true else bif decide (0 ≤ x0.1) then !r10 else false then true else decide (x0.2.1 ≤ x0.1)), fun _ => [], [], [], []⟩) (bif bif decide (x0.1 < (-1)) then true else bif decide (0 ≤ x0.1) then !r10 else false then true else decide (x0.2.1 ≤ x0.1)) rfl rfl rfl rfl (fun _ => rfl) (gd_f _)) (fun hx52 => ?_) ?_
    ·
     replace hx52 : (!(bif bif decide (x0.1 < (-1)) then true else bif decide (0 ≤ x0.1) then !r10 else false then true else decide (x0.2.1 ≤ x0.1))) = true := hx52
     replace e14 := cond_t hx52 e14
     refine ob_two rfl (fun _ _ => ?_) (fun hn => clash hx52 hn)
     refine ob_two rfl (fun _ _ => ?_) (fun hn => clash hx52 hn)
     refine ob_nil rfl ?_
     exact ok_call (N := 41) (Φ := fun y15 => []) (dispute_Claimant_says_ok e14) rfl rfl rfl Try.func24 rfl Try.nm24 [1] ⟨.inl ⟨7, _, rfl, cov_rep rfl⟩, trivial⟩ (fun _ => rfl) (fun _ => rfl) rfl
    refine all_cons _ (base_nil rfl) (dst_some rfl rfl) rfl rfl rfl rfl (gd_some (e := ⟨true, 37, [22], Unit, fun _ => .bool (bif bif decide (x0.1 < (-1)) then true else bif decide (0 ≤ x0.1) then !r10 else false then true else decide (x0.2.1 ≤ x0.1)), fun _ => [], [], [], []⟩) (bif bif decide (x0.1 < (-1)) then true else bif decide (0 ≤ x0.1) then !r10 else false then true else decide (x0.2.1 ≤ x0.1)) rfl rfl rfl rfl (fun _ => rfl) (gd_f _)) (fun hx53 => ?_) ?_
    ·
     replace hx53 : (!(bif bif decide (x0.1 < (-1)) then true else bif decide (0 ≤ x0.1) then !r10 else false then true else decide (x0.2.1 ≤ x0.1))) = true := hx53
     replace e14 := cond_t hx53 e14
     refine ob_nil rfl ?_
     exact PureOk.op (p_loadN_box (cs' := [Hd.val h2_0]) 2 rfl rfl Try.underlying30 rfl Try.ti30 rfl rfl rfl)
    refine all_cons _ (base_nil rfl) (dst_some rfl rfl) rfl rfl rfl rfl (gd_some (e := ⟨true, 37, [22], Unit, fun _ => .bool (bif bif decide (x0.1 < (-1)) then true else bif decide (0 ≤ x0.1) then !r10 else false then true else decide (x0.2.1 ≤ x0.1)), fun _ => [], [], [], []⟩) (bif bif decide (x0.1 < (-1)) then true else bif decide (0 ≤ x0.1) then !r10 else false then true else decide (x0.2.1 ≤ x0.1)) rfl rfl rfl rfl (fun _ => rfl) (gd_f _)) (fun hx54 => ?_) ?_
    ·
     replace hx54 : (!(bif bif decide (x0.1 < (-1)) then true else bif decide (0 ≤ x0.1) then !r10 else false then true else decide (x0.2.1 ≤ x0.1))) = true := hx54
     replace e14 := cond_t hx54 e14
     refine ob_nil rfl ?_
     exact PureOk.op (p_fieldAddr (fo := 1) rfl Try.underlying33 rfl Try.ti3 rfl rfl rfl)
    refine all_cons _ (base_nil rfl) (dst_some rfl rfl) rfl rfl rfl rfl (gd_some (e := ⟨true, 37, [22], Unit, fun _ => .bool (bif bif decide (x0.1 < (-1)) then true else bif decide (0 ≤ x0.1) then !r10 else false then true else decide (x0.2.1 ≤ x0.1)), fun _ => [], [], [], []⟩) (bif bif decide (x0.1 < (-1)) then true else bif decide (0 ≤ x0.1) then !r10 else false then true else decide (x0.2.1 ≤ x0.1)) rfl rfl rfl rfl (fun _ => rfl) (gd_f _)) (fun hx55 => ?_) ?_
    ·
     replace hx55 : (!(bif bif decide (x0.1 < (-1)) then true else bif decide (0 ≤ x0.1) then !r10 else false then true else decide (x0.2.1 ≤ x0.1))) = true := hx55
     replace e14 := cond_t hx55 e14
     refine ob_two rfl (fun _ _ => ?_) (fun hn => clash hx55 hn)
     refine ob_nil rfl ?_
     exact PureOk.op (p_load_box (v := .int .i64 (x0.2.1)) 4 rfl rfl Try.underlying3 rfl rfl rfl)
    refine all_cons _ (base_nil rfl) (dst_some rfl rfl) rfl rfl rfl rfl (gd_some (e := ⟨true, 37, [22], Unit, fun _ => .bool (bif bif decide (x0.1 < (-1)) then true else bif decide (0 ≤ x0.1) then !r10 else false then true else decide (x0.2.1 ≤ x0.1)), fun _ => [], [], [], []⟩) (bif bif decide (x0.1 < (-1)) then true else bif decide (0 ≤ x0.1) then !r10 else false then true else decide (x0.2.1 ≤ x0.1)) rfl rfl rfl rfl (fun _ => rfl) (gd_f _)) (fun hx56 => ?_) ?_
    ·
     replace hx56 : (!(bif bif decide (x0.1 < (-1)) then true else bif decide (0 ≤ x0.1) then !r10 else false then true else decide (x0.2.1 ≤ x0.1))) = true := hx56
     replace e14 := cond_t hx56 e14
     replace e17 := cond_t hx56 e17
     refine ob_two rfl (fun _ _ => ?_) (fun hn => clash hx56 hn)
     refine ob_two rfl (fun _ _ => ?_) (fun hn => clash hx56 hn)
     refine ob_nil rfl ?_
     exact ok_call (N := 53) (Φ := fun y18 => []) (dispute_Claimant_says_ok e17) rfl rfl rfl Try.func24 rfl Try.nm24 [1] ⟨.inl ⟨8, _, rfl, cov_rep rfl⟩, trivial⟩ (fun _ => rfl) (fun _ => rfl) rfl
    refine all_cons _ (base_nil rfl) (dst_some rfl rfl) rfl rfl rfl rfl (gd_some (e := ⟨true, 37, [22], Unit, fun _ => .bool (bif bif decide (x0.1 < (-1)) then true else bif decide (0 ≤ x0.1) then !r10 else false then true else decide (x0.2.1 ≤ x0.1)), fun _ => [], [], [], []⟩) (bif bif decide (x0.1 < (-1)) then true else bif decide (0 ≤ x0.1) then !r10 else false then true else decide (x0.2.1 ≤ x0.1)) rfl rfl rfl rfl (fun _ => rfl) (gd_f _)) (fun hx57 => ?_) ?_
    ·
     replace hx57 : (!(bif bif decide (x0.1 < (-1)) then true else bif decide (0 ≤ x0.1) then !r10 else false then true else decide (x0.2.1 ≤ x0.1))) = true := hx57
     replace e14 := cond_t hx57 e14
     replace e17 := cond_t hx57 e17
     replace e20 := cond_t hx57 e20
     refine ob_two rfl (fun _ y15 => ?_) (fun hn => clash hx57 hn)
     refine ob_two rfl (fun _ y18 => ?_) (fun hn => clash hx57 hn)
     refine ob_nil rfl ?_
     exact ok_call (N := 65) (Φ := fun y21 => []) (dispute_same_ok e20) rfl rfl rfl Try.func23 rfl Try.nm23 [] trivial (fun _ => rfl) (fun _ => rfl) rfl
    refine all_cons _ (base_nil rfl) (dst_some rfl rfl) rfl rfl rfl rfl (gd_none rfl rfl) (fun _ => ?_) ?_
    ·
     refine ob_one rfl rfl (fun _ => ?_)
     refine ob_two rfl (fun hq59 y21 => ?_) (fun hq59 => ?_)
     rotate_left
     ·
      replace hq59 : (!(bif bif decide (x0.1 < (-1)) then true else bif decide (0 ≤ x0.1) then !r10 else false then true else decide (x0.2.1 ≤ x0.1))) = false := hq59
      refine ob_nil rfl ?_
      exact PureOk.op (p_pick (b := bif bif decide (x0.1 < (-1)) then true else bif decide (0 ≤ x0.1) then !r10 else false then true else decide (x0.2.1 ≤ x0.1)) (p := true) (q := r19) rfl rfl (fun _ => rfl) (fun hb => by first | (rw [hb] at hq59; cases hq59; done) | exact absurd hq59 (by rw [hb]; simp) | (simp_all; done)))
     refine ob_nil rfl ?_
     exact PureOk.op (p_pick (b := bif bif decide (x0.1 < (-1)) then true else bif decide (0 ≤ x0.1) then !r10 else false then true else decide (x0.2.1 ≤ x0.1)) (p := true) (q := r19) rfl rfl (fun _ => rfl) (fun _ => rfl))
    exact all_nil
   ·
    refine fin_base _ (base_nil rfl) ?_
    refine fin_one rfl rfl (fun _ => ?_)
    refine fin_nil ?_
    refine s_nil ?_
    refine x_then ?_
    refine s_cond rfl (fun hb60 => ?_) (fun hb60 => ?_)
    ·
     replace hF := cond_t hb60 hF
     refine s_seq ?_
     refine s_region ?_
     refine s_pure (p_build_struct (vals := []) (places := [(0, 1), (1, 1), (2, 1)]) (cells := [.int .i64 (0), .int .i64 (0), Hd.val (nilH 3)]) rfl Try.underlying33 Try.ti33 (⟨rfl, ⟨_, _, Try.ti3⟩, ⟨rfl, ⟨_, _, Try.ti3⟩, ⟨rfl, ⟨_, _, Try.ti22⟩, trivial⟩⟩⟩) rfl rfl) rfl rfl rfl ?_
     refine s_opn (ok_store_box (v := .agg ([.int .i64 (0), .int .i64 (0), Hd.val (nilH 3)]).toArray) (vs := [.int .i64 (0), .int .i64 (0), Hd.val (nilH 3)]) (cs' := [.int .i64 (0), .int .i64 (0), Hd.val (nilH 3)]) 0 rfl rfl Try.ti33 rfl rfl rfl rfl rfl rfl rfl) rfl rfl rfl (fun _ => ?_)
     refine s_pure (p_assign (v := .int .i64 (1)) rfl rfl) rfl rfl rfl ?_
     refine s_nil ?_
     refine x_then ?_
     refine s_ret ?_
     refine x_then_ret ?_
     replace hF := some_inj hF
     subst hF
     exact x_ret (nilH 3) (res_many (rs := [.cell 6 33, .tmp 7]) (vs := [.agg ([.int .i64 (0), .int .i64 (0), Hd.val (nilH 3)]).toArray, .int .i64 (1)]) rfl ⟨ra_cellN (cs := [.int .i64 (0), .int .i64 (0), Hd.val (nilH 3)]) 0 rfl Try.underlying33 rfl Try.ti33 rfl rfl, ra_tmp (v := .int .i64 (1)) rfl, trivial⟩ rfl) rfl 5 rfl [] 2 rfl ⟨.inr free_own, trivial⟩
    ·
     replace hF := cond_f hb60 hF
     refine s_skip ?_
     refine x_then ?_
     refine s_seq ?_
     refine s_seq ?_
     refine s_region ?_
     refine s_pure (p_fieldAddr (fo := 1) rfl Try.underlying33 rfl Try.ti3 rfl rfl rfl) rfl rfl rfl ?_
     refine s_pure (p_load_box (v := .int .i64 (x0.2.1)) 4 rfl rfl Try.underlying3 rfl rfl rfl) rfl rfl rfl ?_
     refine s_pure (p_fieldAddr (fo := 0) rfl Try.underlying33 rfl Try.ti3 rfl rfl rfl) rfl rfl rfl ?_
     refine s_pure (p_load_box (v := .int .i64 (x0.1)) 4 rfl rfl Try.underlying3 rfl rfl rfl) rfl rfl rfl ?_
     refine s_pure (p_add rfl rfl rfl) rfl rfl rfl ?_
     refine s_pure (p_eql rfl rfl rfl) rfl rfl rfl ?_
     refine s_nil ?_
     refine x_then ?_
     refine s_cond rfl (fun hb61 => ?_) (fun hb61 => ?_)
     ·
      replace hF := cond_t hb61 hF
      refine s_seq ?_
      refine s_region ?_
      refine s_pure (p_build_struct (vals := []) (places := [(0, 1), (1, 1), (2, 1)]) (cells := [.int .i64 (0), .int .i64 (0), Hd.val (nilH 3)]) rfl Try.underlying33 Try.ti33 (⟨rfl, ⟨_, _, Try.ti3⟩, ⟨rfl, ⟨_, _, Try.ti3⟩, ⟨rfl, ⟨_, _, Try.ti22⟩, trivial⟩⟩⟩) rfl rfl) rfl rfl rfl ?_
      refine s_opn (ok_store_box (v := .agg ([.int .i64 (0), .int .i64 (0), Hd.val (nilH 3)]).toArray) (vs := [.int .i64 (0), .int .i64 (0), Hd.val (nilH 3)]) (cs' := [.int .i64 (0), .int .i64 (0), Hd.val (nilH 3)]) 0 rfl rfl Try.ti33 rfl rfl rfl rfl rfl rfl rfl) rfl rfl rfl (fun _ => ?_)
      refine s_pure (p_assign (v := .int .i64 (8)) rfl rfl) rfl rfl rfl ?_
      refine s_nil ?_
      refine x_then ?_
      refine s_ret ?_
      refine x_then_ret ?_
      replace hF := some_inj hF
      subst hF
      exact x_ret (nilH 3) (res_many (rs := [.cell 6 33, .tmp 7]) (vs := [.agg ([.int .i64 (0), .int .i64 (0), Hd.val (nilH 3)]).toArray, .int .i64 (8)]) rfl ⟨ra_cellN (cs := [.int .i64 (0), .int .i64 (0), Hd.val (nilH 3)]) 0 rfl Try.underlying33 rfl Try.ti33 rfl rfl, ra_tmp (v := .int .i64 (8)) rfl, trivial⟩ rfl) rfl 5 rfl [] 2 rfl ⟨.inr free_own, trivial⟩
     ·
      replace hF := cond_f hb61 hF
      refine s_skip ?_
      refine x_then ?_
      refine s_seq ?_
      refine s_region ?_
      refine s_pure (p_fieldAddr (fo := 0) rfl Try.underlying33 rfl Try.ti3 rfl rfl rfl) rfl rfl rfl ?_
      refine s_pure (p_load_box (v := .int .i64 (x0.1)) 4 rfl rfl Try.underlying3 rfl rfl rfl) rfl rfl rfl ?_
      refine s_pure (p_fieldAddr (fo := 1) rfl Try.underlying33 rfl Try.ti3 rfl rfl rfl) rfl rfl rfl ?_
      refine s_pure (p_load_box (v := .int .i64 (x0.2.1)) 4 rfl rfl Try.underlying3 rfl rfl rfl) rfl rfl rfl ?_
      refine s_pure (p_fieldAddr (fo := 0) rfl Try.underlying33 rfl Try.ti3 rfl rfl rfl) rfl rfl rfl ?_
      refine s_pure (p_load_box (v := .int .i64 (x0.1)) 4 rfl rfl Try.underlying3 rfl rfl rfl) rfl rfl rfl ?_
      refine s_pure (p_sub rfl rfl rfl) rfl rfl rfl ?_
      refine s_pure (p_quo rfl rfl rfl rfl) rfl rfl rfl ?_
      refine s_pure (p_add rfl rfl rfl) rfl rfl rfl ?_
      refine s_pure (p_assign (v := .int .i64 (w64 (x0.1 + (w64 (Int.tdiv (w64 (x0.2.1 - x0.1)) 2))))) rfl rfl) rfl rfl rfl ?_
      refine s_nil ?_
      refine x_then ?_
      refine s_seq ?_
      obtain ⟨r62, e63, hF⟩ := bind_some hF
      obtain ⟨c66, hF⟩ := chk_some hF
      refine s_draw Try.mixed [⟨true, 65, [], Unit, fun _ => .pointer (some ⟨b1, 0, none⟩), fun _ => [], [], [], []⟩, ⟨true, 66, [0], Unit, fun _ => .int .i64 (x0.1), fun _ => [], [], [], []⟩, ⟨true, 67, [], Unit, fun _ => .pointer (some ⟨b1, 1, none⟩), fun _ => [], [], [], []⟩, ⟨true, 68, [2], Unit, fun _ => .int .i64 (x0.2.1), fun _ => [], [], [], []⟩, ⟨true, 69, [], Unit, fun _ => .pointer (some ⟨b1, 2, none⟩), fun _ => [], [], [], []⟩, ⟨true, 70, [4], Unit, fun _ => Hd.val h0_0, fun _ => [], [], [], []⟩, ⟨true, 71, [5], Hd, fun (y64 : Hd) => Hd.val y64, fun y64 => [.own (tI .i64) 3 77 [] r62 y64], [], [], []⟩, ⟨true, 72, [], Unit, fun _ => .int .i64 (w64 (x0.1 + (w64 (Int.tdiv (w64 (x0.2.1 - x0.1)) 2)))), fun _ => [], [], [], []⟩, ⟨true, 73, [7], Hd, fun (h65 : Hd) => Hd.val h65, fun h65 => [.own (tI .i64) 3 89 [] [w64 (x0.1 + (w64 (Int.tdiv (w64 (x0.2.1 - x0.1)) 2)))] h65], [], [], []⟩, ⟨true, 74, [6, 8], Hd, fun (h67 : Hd) => Hd.val h67, fun h67 => [.own (tI .i64) 3 77 [] (r62 ++ [w64 (x0.1 + (w64 (Int.tdiv (w64 (x0.2.1 - x0.1)) 2)))]) h67], [77], [6], []⟩, ⟨true, 75, [1, 3, 9], Hd, fun (z69 : Hd) => .agg ([.int .i64 (x0.1), .int .i64 (x0.2.1), Hd.val z69]).toArray, fun z69 => [.own (tI .i64) 3 77 [] (r62 ++ [w64 (x0.1 + (w64 (Int.tdiv (w64 (x0.2.1 - x0.1)) 2)))]) z69], [], [], []⟩, ⟨true, 9, [], Nat, fun (b68 : Nat) => .pointer (some ⟨b68, 0, none⟩), fun b68 => [.box 90 b68 [.int .i64 (0), .int .i64 (0), Hd.val (nilH 3)]], [], [], []⟩] [[], [0], [], [2], [], [4], [4, 5], [], [7], [4, 5, 6, 7, 8], [0, 1, 2, 3, 4, 5, 6, 7, 8, 9], [], [0, 1, 2, 3, 4, 5, 6, 7, 8, 9, 10, 11]] rfl rfl rfl rfl rfl ⟨.inl rfl, .inl rfl, .inl rfl, .inl rfl, .inl rfl, .inl rfl, .inl rfl, .inl rfl, .inl rfl, .inr ⟨.inr fun _ => rfl, .inr fun _ => rfl, .inr fun _ => rfl, .inr fun _ => rfl, .inr fun _ => rfl, .inr fun _ => rfl, .inl rfl, .inr fun _ => rfl, .inr fun _ => rfl, .inl rfl, .inl rfl, .inr fun _ => rfl, trivial⟩, .inl rfl, .inl rfl, trivial⟩ ?_ [10, 11] rfl rfl (fun us => ?_)
      ·
       refine all_cons [.box 16 b5 [.int .i64 (0), .int .i64 (0), Hd.val (nilH 3)], .own (tI .i64) 3 15 [] ([] : List Int) (nilH 3), .box 13 b3 [Hd.val h2_0], .box 12 b2 [Hd.val h1_0], .box 11 b1 [.int .i64 (x0.1), .int .i64 (x0.2.1), Hd.val h0_0], .old w S, .rep (tI .i64) [1] x0.2.2 h0_0, .rep (tA 16 .u8) [1] x1 h1_0, .rep (tA 16 .u8) [1] x2 h2_0] rfl (dst_some rfl rfl) rfl rfl rfl rfl (gd_none rfl rfl) (fun _ => ?_) ?_
       ·
        refine ob_nil rfl ?_
        exact PureOk.op (p_fieldAddr (fo := 0) rfl Try.underlying33 rfl Try.ti3 rfl rfl rfl)
       refine all_cons [.box 16 b5 [.int .i64 (0), .int .i64 (0), Hd.val (nilH 3)], .own (tI .i64) 3 15 [] ([] : List Int) (nilH 3), .box 13 b3 [Hd.val h2_0], .box 12 b2 [Hd.val h1_0], .box 11 b1 [.int .i64 (x0.1), .int .i64 (x0.2.1), Hd.val h0_0], .old w S, .rep (tI .i64) [1] x0.2.2 h0_0, .rep (tA 16 .u8) [1] x1 h1_0, .rep (tA 16 .u8) [1] x2 h2_0] rfl (dst_some rfl rfl) rfl rfl rfl rfl (gd_none rfl rfl) (fun _ => ?_) ?_
       ·
        refine ob_one rfl rfl (fun _ => ?_)
        refine ob_nil rfl ?_
        exact PureOk.op (p_load_box (v := .int .i64 (x0.1)) 4 rfl rfl Try.underlying3 rfl rfl rfl)
       refine all_cons [.box 16 b5 [.int .i64 (0), .int .i64 (0), Hd.val (nilH 3)], .own (tI .i64) 3 15 [] ([] : List Int) (nilH 3), .box 13 b3 [Hd.val h2_0], .box 12 b2 [Hd.val h1_0], .box 11 b1 [.int .i64 (x0.1), .int .i64 (x0.2.1), Hd.val h0_0], .old w S, .rep (tI .i64) [1] x0.2.2 h0_0, .rep (tA 16 .u8) [1] x1 h1_0, .rep (tA 16 .u8) [1] x2 h2_0] rfl (dst_some rfl rfl) rfl rfl rfl rfl (gd_none rfl rfl) (fun _ => ?_) ?_
       ·
        refine ob_nil rfl ?_
        exact PureOk.op (p_fieldAddr (fo := 1) rfl Try.underlying33 rfl Try.ti3 rfl rfl rfl)
       refine all_cons [.box 16 b5 [.int .i64 (0), .int .i64 (0), Hd.val (nilH 3)], .own (tI .i64) 3 15 [] ([] : List Int) (nilH 3), .box 13 b3 [Hd.val h2_0], .box 12 b2 [Hd.val h1_0], .box 11 b1 [.int .i64 (x0.1), .int .i64 (x0.2.1), Hd.val h0_0], .old w S, .rep (tI .i64) [1] x0.2.2 h0_0, .rep (tA 16 .u8) [1] x1 h1_0, .rep (tA 16 .u8) [1] x2 h2_0] rfl (dst_some rfl rfl) rfl rfl rfl rfl (gd_none rfl rfl) (fun _ => ?_) ?_
       ·
        refine ob_one rfl rfl (fun _ => ?_)
        refine ob_nil rfl ?_
        exact PureOk.op (p_load_box (v := .int .i64 (x0.2.1)) 4 rfl rfl Try.underlying3 rfl rfl rfl)
       refine all_cons [.box 16 b5 [.int .i64 (0), .int .i64 (0), Hd.val (nilH 3)], .own (tI .i64) 3 15 [] ([] : List Int) (nilH 3), .box 13 b3 [Hd.val h2_0], .box 12 b2 [Hd.val h1_0], .box 11 b1 [.int .i64 (x0.1), .int .i64 (x0.2.1), Hd.val h0_0], .old w S, .rep (tI .i64) [1] x0.2.2 h0_0, .rep (tA 16 .u8) [1] x1 h1_0, .rep (tA 16 .u8) [1] x2 h2_0] rfl (dst_some rfl rfl) rfl rfl rfl rfl (gd_none rfl rfl) (fun _ => ?_) ?_
       ·
        refine ob_nil rfl ?_
        exact PureOk.op (p_fieldAddr (fo := 2) rfl Try.underlying33 rfl Try.ti22 rfl rfl rfl)
       refine all_cons [.box 16 b5 [.int .i64 (0), .int .i64 (0), Hd.val (nilH 3)], .own (tI .i64) 3 15 [] ([] : List Int) (nilH 3), .box 13 b3 [Hd.val h2_0], .box 12 b2 [Hd.val h1_0], .box 11 b1 [.int .i64 (x0.1), .int .i64 (x0.2.1), Hd.val h0_0], .old w S, .rep (tI .i64) [1] x0.2.2 h0_0, .rep (tA 16 .u8) [1] x1 h1_0, .rep (tA 16 .u8) [1] x2 h2_0] rfl (dst_some rfl rfl) rfl rfl rfl rfl (gd_none rfl rfl) (fun _ => ?_) ?_
       ·
        refine ob_one rfl rfl (fun _ => ?_)
        refine ob_nil rfl ?_
        exact PureOk.op (p_load_box (v := Hd.val h0_0) 4 rfl rfl Try.underlying22 rfl rfl rfl)
       refine all_cons [.box 16 b5 [.int .i64 (0), .int .i64 (0), Hd.val (nilH 3)], .own (tI .i64) 3 15 [] ([] : List Int) (nilH 3), .box 13 b3 [Hd.val h2_0], .box 12 b2 [Hd.val h1_0], .box 11 b1 [.int .i64 (x0.1), .int .i64 (x0.2.1), Hd.val h0_0], .old w S, .rep (tI .i64) [1] x0.2.2 h0_0, .rep (tA 16 .u8) [1] x1 h1_0, .rep (tA 16 .u8) [1] x2 h2_0] rfl (dst_some rfl rfl) rfl rfl rfl rfl (gd_none rfl rfl) (fun _ => ?_) ?_
       ·
        refine ob_one rfl rfl (fun _ => ?_)
        refine ob_nil rfl ?_
        exact ok_call (N := 77) (Φ := fun y64 => [.own (tI .i64) 3 77 [] r62 y64]) (slices_Clone_int_int_ok e63) rfl rfl rfl Try.func28 rfl Try.nm28 [1] ⟨.inl ⟨6, _, rfl, cov_rep rfl⟩, trivial⟩ (fun _ => rfl) (fun _ => rfl) rfl
       refine all_cons [.box 16 b5 [.int .i64 (0), .int .i64 (0), Hd.val (nilH 3)], .own (tI .i64) 3 15 [] ([] : List Int) (nilH 3), .box 13 b3 [Hd.val h2_0], .box 12 b2 [Hd.val h1_0], .box 11 b1 [.int .i64 (x0.1), .int .i64 (x0.2.1), Hd.val h0_0], .old w S, .rep (tI .i64) [1] x0.2.2 h0_0, .rep (tA 16 .u8) [1] x1 h1_0, .rep (tA 16 .u8) [1] x2 h2_0] rfl (dst_some rfl rfl) rfl rfl rfl rfl (gd_none rfl rfl) (fun _ => ?_) ?_
       ·
        refine ob_nil rfl ?_
        exact PureOk.op (p_move (v := .int .i64 (w64 (x0.1 + (w64 (Int.tdiv (w64 (x0.2.1 - x0.1)) 2))))) rfl rfl)
       refine all_cons [.box 16 b5 [.int .i64 (0), .int .i64 (0), Hd.val (nilH 3)], .own (tI .i64) 3 15 [] ([] : List Int) (nilH 3), .box 13 b3 [Hd.val h2_0], .box 12 b2 [Hd.val h1_0], .box 11 b1 [.int .i64 (x0.1), .int .i64 (x0.2.1), Hd.val h0_0], .old w S, .rep (tI .i64) [1] x0.2.2 h0_0, .rep (tA 16 .u8) [1] x1 h1_0, .rep (tA 16 .u8) [1] x2 h2_0] rfl (dst_some rfl rfl) rfl rfl rfl rfl (gd_none rfl rfl) (fun _ => ?_) ?_
       ·
        refine ob_one rfl rfl (fun _ => ?_)
        refine ob_nil rfl ?_
        exact ok_buildSlice (N := 89) (vals := [(0, [.int .i64 (w64 (x0.1 + (w64 (Int.tdiv (w64 (x0.2.1 - x0.1)) 2))))])]) (cells := [.int .i64 (w64 (x0.1 + (w64 (Int.tdiv (w64 (x0.2.1 - x0.1)) 2))))]) (ty := (tI .i64)) (K := []) (xs := [w64 (x0.1 + (w64 (Int.tdiv (w64 (x0.2.1 - x0.1)) 2)))]) (ys := [()]) rfl Try.underlying22 Try.ti3 rfl rfl rfl rfl rfl rfl rfl rfl trivial rfl
       refine all_cons [.box 16 b5 [.int .i64 (0), .int .i64 (0), Hd.val (nilH 3)], .own (tI .i64) 3 15 [] ([] : List Int) (nilH 3), .box 13 b3 [Hd.val h2_0], .box 12 b2 [Hd.val h1_0], .box 11 b1 [.int .i64 (x0.1), .int .i64 (x0.2.1), Hd.val h0_0], .old w S, .rep (tI .i64) [1] x0.2.2 h0_0, .rep (tA 16 .u8) [1] x1 h1_0, .rep (tA 16 .u8) [1] x2 h2_0] rfl (dst_some rfl rfl) rfl rfl rfl rfl (gd_none rfl rfl) (fun _ => ?_) ?_
       ·
        refine ob_one rfl rfl (fun y64 => ?_)
        refine ob_one rfl rfl (fun h65 => ?_)
        refine ob_nil rfl ?_
        exact ok_append_p (ty := (tI .i64)) (xs := r62) (ys := [w64 (x0.1 + (w64 (Int.tdiv (w64 (x0.2.1 - x0.1)) 2)))]) (h := y64) (hx := h65) (K2 := [89]) rfl 1 0 rfl _ rfl (weak_own rfl) rfl Try.underlying22 Try.ti3 rfl rfl rfl rfl rfl c66 rfl rfl
       refine all_cons [.box 16 b5 [.int .i64 (0), .int .i64 (0), Hd.val (nilH 3)], .own (tI .i64) 3 15 [] ([] : List Int) (nilH 3), .box 13 b3 [Hd.val h2_0], .box 12 b2 [Hd.val h1_0], .box 11 b1 [.int .i64 (x0.1), .int .i64 (x0.2.1), Hd.val h0_0], .old w S, .rep (tI .i64) [1] x0.2.2 h0_0, .rep (tA 16 .u8) [1] x1 h1_0, .rep (tA 16 .u8) [1] x2 h2_0] rfl (dst_some rfl rfl) rfl rfl rfl rfl (gd_none rfl rfl) (fun _ => ?_) ?_
       ·
        refine ob_one rfl rfl (fun _ => ?_)
        refine ob_one rfl rfl (fun _ => ?_)
        refine ob_one rfl rfl (fun h67 => ?_)
        refine ob_nil rfl ?_
        exact ok_known (h67) (p_build_struct (vals := [(0, [.int .i64 (x0.1)]), (1, [.int .i64 (x0.2.1)]), (2, [Hd.val h67])]) (places := [(0, 1), (1, 1), (2, 1)]) (cells := [.int .i64 (x0.1), .int .i64 (x0.2.1), Hd.val h67]) rfl Try.underlying33 Try.ti33 (⟨rfl, ⟨_, _, Try.ti3⟩, ⟨rfl, ⟨_, _, Try.ti3⟩, ⟨rfl, ⟨_, _, Try.ti22⟩, trivial⟩⟩⟩) rfl rfl) rfl [0] rfl
       refine all_cons [.box 16 b5 [.int .i64 (0), .int .i64 (0), Hd.val (nilH 3)], .own (tI .i64) 3 15 [] ([] : List Int) (nilH 3), .box 13 b3 [Hd.val h2_0], .box 12 b2 [Hd.val h1_0], .box 11 b1 [.int .i64 (x0.1), .int .i64 (x0.2.1), Hd.val h0_0], .old w S, .rep (tI .i64) [1] x0.2.2 h0_0, .rep (tA 16 .u8) [1] x1 h1_0, .rep (tA 16 .u8) [1] x2 h2_0] rfl (dst_some rfl rfl) rfl rfl rfl rfl (gd_none rfl rfl) (fun _ => ?_) ?_
       ·
        refine ob_nil rfl ?_
        exact ok_alloc (N := 90) (cs := [.int .i64 (0), .int .i64 (0), Hd.val (nilH 3)]) rfl Try.ti33 rfl rfl
       exact all_nil
      ·
       refine fin_base [.box 16 b5 [.int .i64 (0), .int .i64 (0), Hd.val (nilH 3)], .own (tI .i64) 3 15 [] ([] : List Int) (nilH 3), .box 13 b3 [Hd.val h2_0], .box 12 b2 [Hd.val h1_0], .box 11 b1 [.int .i64 (x0.1), .int .i64 (x0.2.1), Hd.val h0_0], .old w S, .rep (tI .i64) [1] x0.2.2 h0_0, .rep (tA 16 .u8) [1] x1 h1_0, .rep (tA 16 .u8) [1] x2 h2_0] rfl ?_
       refine fin_one rfl rfl (fun z69 => ?_)
       refine fin_one rfl rfl (fun b68 => ?_)
       refine fin_nil ?_
       refine s_opn (ok_store_box (v := .agg ([.int .i64 (x0.1), .int .i64 (x0.2.1), Hd.val z69]).toArray) (vs := [.int .i64 (x0.1), .int .i64 (x0.2.1), Hd.val z69]) (cs' := [.int .i64 (x0.1), .int .i64 (x0.2.1), Hd.val z69]) 0 rfl rfl Try.ti33 rfl rfl rfl rfl rfl rfl rfl) rfl rfl rfl (fun _ => ?_)
       refine s_nil ?_
       refine x_then ?_
       obtain ⟨r82, e83, hF⟩ := bind_some hF
       refine s_join (fun y84 : Hd => [(6, .pointer (some ⟨b5, 0, none⟩)), (9, .pointer (some ⟨b68, 0, none⟩))]) (fun y84 : Hd => [.old w S, .box 16 b5 [.int .i64 (0), .int .i64 (0), Hd.val (nilH 3)], .box 90 b68 [.int .i64 (r82.1), .int .i64 (r82.2.1), Hd.val y84], .own (tI .i64) 3 77 [] r82.2.2 y84]) ?_ ?_
       ·
        refine s_seq ?_
        refine s_region ?_
        refine s_pure (p_loadN_box (cs' := [Hd.val h1_0]) 5 rfl rfl Try.underlying30 rfl Try.ti30 rfl rfl rfl) rfl rfl rfl ?_
        refine s_pure (p_loadN_box (cs' := [Hd.val h2_0]) 4 rfl rfl Try.underlying30 rfl Try.ti30 rfl rfl rfl) rfl rfl rfl ?_
        refine s_pure (p_move (v := .int .i64 (w64 (x0.1 + (w64 (Int.tdiv (w64 (x0.2.1 - x0.1)) 2))))) rfl rfl) rfl rfl rfl ?_
        obtain ⟨r85, e86, e83⟩ := bind_some e83
        refine s_op0 (ok_call (N := 91) (Φ := fun y87 => []) (dispute_shown_ok e86) rfl rfl rfl Try.func27 rfl Try.nm27 [1] ⟨.inl ⟨9, _, rfl, cov_rep rfl⟩, .inl ⟨10, _, rfl, cov_rep rfl⟩, trivial⟩ (fun _ => rfl) (fun _ => rfl) rfl) rfl rfl rfl (fun y87 => ?_)
        refine s_nil ?_
        refine x_then ?_
        refine s_cond rfl (fun hb88 => ?_) (fun hb88 => ?_)
        ·
         replace e83 := cond_t hb88 e83
         refine s_region ?_
         refine s_pure (p_move (v := .int .i64 (w64 (x0.1 + (w64 (Int.tdiv (w64 (x0.2.1 - x0.1)) 2))))) rfl rfl) rfl rfl rfl ?_
         refine s_pure (p_fieldAddr (fo := 0) rfl Try.underlying33 rfl Try.ti3 rfl rfl rfl) rfl rfl rfl ?_
         refine s_opn (ok_store_box (v := .int .i64 (w64 (x0.1 + (w64 (Int.tdiv (w64 (x0.2.1 - x0.1)) 2))))) (vs := [.int .i64 (w64 (x0.1 + (w64 (Int.tdiv (w64 (x0.2.1 - x0.1)) 2))))]) (cs' := [.int .i64 (w64 (x0.1 + (w64 (Int.tdiv (w64 (x0.2.1 - x0.1)) 2)))), .int .i64 (x0.2.1), Hd.val z69]) 0 rfl rfl Try.ti3 rfl rfl rfl rfl rfl rfl rfl) rfl rfl rfl (fun _ => ?_)
         refine s_nil ?_
         replace e83 := some_inj e83
         subst e83
         exact x_join z69 [(16, 16), (77, 77), (90, 90)] 2 rfl ⟨rfl, rfl, trivial⟩ ⟨.inl ⟨7, _, rfl, weak_same⟩, .inl ⟨2, _, rfl, weak_same⟩, .inl ⟨0, _, rfl, weak_same⟩, .inl ⟨1, _, rfl, weak_slim rfl⟩, trivial⟩
        ·
         replace e83 := cond_f hb88 e83
         refine s_region ?_
         refine s_pure (p_move (v := .int .i64 (w64 (x0.1 + (w64 (Int.tdiv (w64 (x0.2.1 - x0.1)) 2))))) rfl rfl) rfl rfl rfl ?_
         refine s_pure (p_fieldAddr (fo := 1) rfl Try.underlying33 rfl Try.ti3 rfl rfl rfl) rfl rfl rfl ?_
         refine s_opn (ok_store_box (v := .int .i64 (w64 (x0.1 + (w64 (Int.tdiv (w64 (x0.2.1 - x0.1)) 2))))) (vs := [.int .i64 (w64 (x0.1 + (w64 (Int.tdiv (w64 (x0.2.1 - x0.1)) 2))))]) (cs' := [.int .i64 (x0.1), .int .i64 (w64 (x0.1 + (w64 (Int.tdiv (w64 (x0.2.1 - x0.1)) 2)))), Hd.val z69]) 0 rfl rfl Try.ti3 rfl rfl rfl rfl rfl rfl rfl) rfl rfl rfl (fun _ => ?_)
         refine s_nil ?_
         replace e83 := some_inj e83
         subst e83
         exact x_join z69 [(16, 16), (77, 77), (90, 90)] 2 rfl ⟨rfl, rfl, trivial⟩ ⟨.inl ⟨7, _, rfl, weak_same⟩, .inl ⟨2, _, rfl, weak_same⟩, .inl ⟨0, _, rfl, weak_same⟩, .inl ⟨1, _, rfl, weak_slim rfl⟩, trivial⟩
       ·
        intro y84 ρ'
        refine s_seq ?_
        refine s_region ?_
        refine s_pure (p_loadN_box (cs' := [.int .i64 (r82.1), .int .i64 (r82.2.1), Hd.val y84]) 2 rfl rfl Try.underlying33 rfl Try.ti33 rfl rfl rfl) rfl rfl rfl ?_
        refine s_opn (ok_store_box (v := .agg ([.int .i64 (r82.1), .int .i64 (r82.2.1), Hd.val y84]).toArray) (vs := [.int .i64 (r82.1), .int .i64 (r82.2.1), Hd.val y84]) (cs' := [.int .i64 (r82.1), .int .i64 (r82.2.1), Hd.val y84]) 1 rfl rfl Try.ti33 rfl rfl rfl rfl rfl rfl rfl) rfl rfl rfl (fun _ => ?_)
        refine s_pure (p_assign (v := .int .i64 (0)) rfl rfl) rfl rfl rfl ?_
        refine s_nil ?_
        refine x_then ?_
        refine s_ret ?_
        replace hF := some_inj hF
        subst hF
        exact x_ret y84 (res_many (rs := [.cell 6 33, .tmp 7]) (vs := [.agg ([.int .i64 (r82.1), .int .i64 (r82.2.1), Hd.val y84]).toArray, .int .i64 (0)]) rfl ⟨ra_cellN (cs := [.int .i64 (r82.1), .int .i64 (r82.2.1), Hd.val y84]) 0 rfl Try.underlying33 rfl Try.ti33 rfl rfl, ra_tmp (v := .int .i64 (0)) rfl, trivial⟩ rfl) rfl 1 rfl [(77, 2)] 2 rfl ⟨.inl ⟨3, _, rfl, weak_slim rfl⟩, trivial⟩

theorem dispute_Parts_ok {x0 : ((List (List Int)))} {x1 : ((List (List Int)))} {h0_0 : Hd} {h1_0 : Hd} {r : (Int × Int × Int)} (hF : dispute_Parts x0 x1 = some r) : ∀ (w : World) (S : Nat → Prop), Heap w (oldc S) [.rep (tA 16 .u8) [1] x0 h0_0, .rep (tA 16 .u8) [1] x1 h1_0] → Calls Try.prog 11 #[.agg ([Hd.val h0_0]).toArray, .agg ([Hd.val h1_0]).toArray] w (Post w S (fun (_ : Unit) => .tuple #[.int .i64 (r.1), .int .i64 (r.2.1), .int .i64 (r.2.2)]) (fun (_ : Unit) => [])) := by
  intro w S hL
  refine s_enter (n := 35) Try.func11 rfl rfl _ rfl hL ?_
  refine s_seq ?_
  refine s_region ?_
  refine s_op0 (ok_box (N := 11) (v := .agg ([Hd.val h0_0]).toArray) (cs := [Hd.val h0_0]) rfl rfl rfl rfl) rfl rfl rfl (fun b1 => ?_)
  refine s_op0 (ok_box (N := 12) (v := .agg ([Hd.val h1_0]).toArray) (cs := [Hd.val h1_0]) rfl rfl rfl rfl) rfl rfl rfl (fun b2 => ?_)
  refine s_pure (p_assign (v := .int .i64 (0)) rfl rfl) rfl rfl rfl ?_
  refine s_pure (p_assign (v := .int .i64 (0)) rfl rfl) rfl rfl rfl ?_
  refine s_pure (p_assign (v := .int .i64 (0)) rfl rfl) rfl rfl rfl ?_
  refine s_nil ?_
  refine x_then ?_
  refine s_seq ?_
  refine s_region ?_
  refine s_pure (p_loadN_box (cs' := [Hd.val h0_0]) 1 rfl rfl Try.underlying30 rfl Try.ti30 rfl rfl rfl) rfl rfl rfl ?_
  refine s_pure (p_loadN_box (cs' := [Hd.val h1_0]) 0 rfl rfl Try.underlying30 rfl Try.ti30 rfl rfl rfl) rfl rfl rfl ?_
  obtain ⟨r3, e4, hF⟩ := bind_some hF
  refine s_op0 (ok_call (N := 13) (Φ := fun y5 => [.own (tI .i64) 3 13 [] r3.1.2.2 y5]) (dispute_Begin_ok e4) rfl rfl rfl Try.func9 rfl Try.nm9 [1] ⟨.inl ⟨3, _, rfl, cov_rep rfl⟩, .inl ⟨4, _, rfl, cov_rep rfl⟩, trivial⟩ (fun _ => rfl) (fun _ => rfl) rfl) rfl rfl rfl (fun y5 => ?_)
  refine s_pure (p_move (v := .tuple #[.agg ([.int .i64 (r3.1.1), .int .i64 (r3.1.2.1), Hd.val y5]).toArray, .int .i64 (r3.2)]) rfl rfl) rfl rfl rfl ?_
  refine s_pure (p_extract (v := .agg ([.int .i64 (r3.1.1), .int .i64 (r3.1.2.1), Hd.val y5]).toArray) rfl rfl rfl) rfl rfl rfl ?_
  refine s_pure (p_extract (v := .int .i64 (r3.2)) rfl rfl rfl) rfl rfl rfl ?_
  refine s_nilrow (tI .i64) 3 26 [] ?_
  refine s_op0 (ok_alloc (N := 27) (cs := [.int .i64 (0), .int .i64 (0), Hd.val (nilH 3)]) rfl Try.ti33 rfl rfl) rfl rfl rfl (fun b7 => ?_)
  refine s_opn (ok_store_box (v := .agg ([.int .i64 (r3.1.1), .int .i64 (r3.1.2.1), Hd.val y5]).toArray) (vs := [.int .i64 (r3.1.1), .int .i64 (r3.1.2.1), Hd.val y5]) (cs' := [.int .i64 (r3.1.1), .int .i64 (r3.1.2.1), Hd.val y5]) 0 rfl rfl Try.ti33 rfl rfl rfl rfl rfl rfl rfl) rfl rfl rfl (fun _ => ?_)
  refine s_pure (p_assign (v := .int .i64 (r3.2)) rfl rfl) rfl rfl rfl ?_
  refine s_nil ?_
  refine x_then ?_
  refine s_seq ?_
  refine s_seq ?_
  refine s_region ?_
  refine s_pure (p_move (v := .int .i64 (r3.2)) rfl rfl) rfl rfl rfl ?_
  refine s_pure (p_neq rfl rfl rfl) rfl rfl rfl ?_
  refine s_nil ?_
  refine x_then ?_
  refine s_cond rfl (fun hb8 => ?_) (fun hb8 => ?_)
  ·
   replace hF := cond_t hb8 hF
   refine s_seq ?_
   refine s_region ?_
   refine s_pure (p_move (v := .int .i64 (r3.2)) rfl rfl) rfl rfl rfl ?_
   refine s_pure (p_assign (v := .int .i64 (0)) rfl rfl) rfl rfl rfl ?_
   refine s_pure (p_assign (v := .int .i64 (0)) rfl rfl) rfl rfl rfl ?_
   refine s_pure (p_assign (v := .int .i64 (r3.2)) rfl rfl) rfl rfl rfl ?_
   refine s_nil ?_
   refine x_then ?_
   refine s_ret ?_
   refine x_then_ret ?_
   replace hF := some_inj hF
   subst hF
   exact x_ret () (res_many (rs := [.tmp 4, .tmp 5, .tmp 6]) (vs := [.int .i64 (0), .int .i64 (0), .int .i64 (r3.2)]) rfl ⟨ra_tmp (v := .int .i64 (0)) rfl, ra_tmp (v := .int .i64 (0)) rfl, ra_tmp (v := .int .i64 (r3.2)) rfl, trivial⟩ rfl) rfl 5 rfl [] 2 rfl trivial
  ·
   replace hF := cond_f hb8 hF
   refine s_skip ?_
   refine x_then ?_
   refine s_block ?_
   refine sim_loop (fun (s9 : Int × Int × (List Int)) (y10 : Hd) => [(2, .pointer (some ⟨b1, 0, none⟩)), (3, .pointer (some ⟨b2, 0, none⟩)), (7, .pointer (some ⟨b7, 0, none⟩))]) (fun (s9 : Int × Int × (List Int)) (y10 : Hd) => [.old w S, .box 11 b1 [Hd.val h0_0], .box 12 b2 [Hd.val h1_0], .box 27 b7 [.int .i64 (s9.1), .int .i64 (s9.2.1), Hd.val y10], .rep (tA 16 .u8) [1] x0 h0_0, .rep (tA 16 .u8) [1] x1 h1_0, .own (tI .i64) 3 13 [] s9.2.2 y10]) y5 hF [(11, 11), (12, 12), (13, 13), (27, 27)] 2 rfl ⟨rfl, rfl, rfl, trivial⟩ ⟨.inl ⟨5, _, rfl, weak_same⟩, .inl ⟨4, _, rfl, weak_same⟩, .inl ⟨3, _, rfl, weak_same⟩, .inl ⟨0, _, rfl, weak_same⟩, .inl ⟨6, _, rfl, weak_rep rfl⟩, .inl ⟨7, _, rfl, weak_rep rfl⟩, .inl ⟨2, _, rfl, weak_slim rfl⟩, trivial⟩ ?_
   intro s9 y10 ρ' z11 e12
   refine s_block ?_
   refine s_seq ?_
   refine s_region ?_
   refine s_pure (p_loadN_box (cs' := [.int .i64 (s9.1), .int .i64 (s9.2.1), Hd.val y10]) 3 rfl rfl Try.underlying33 rfl Try.ti33 rfl rfl rfl) rfl rfl rfl ?_
   refine s_pure (p_loadN_box (cs' := [Hd.val h0_0]) 1 rfl rfl Try.underlying30 rfl Try.ti30 rfl rfl rfl) rfl rfl rfl ?_
   refine s_pure (p_loadN_box (cs' := [Hd.val h1_0]) 2 rfl rfl Try.underlying30 rfl Try.ti30 rfl rfl rfl) rfl rfl rfl ?_
   obtain ⟨r13, e14, e12⟩ := bind_some e12
   refine s_op0 (ok_call (N := 28) (Φ := fun y15 => [.own (tI .i64) 3 28 [] r13.1.2.2 y15]) (dispute_Halve_ok e14) rfl rfl rfl Try.func15 rfl Try.nm15 [13, 1] ⟨.inl ⟨6, _, rfl, cov_own rfl⟩, .inl ⟨4, _, rfl, cov_rep rfl⟩, .inl ⟨5, _, rfl, cov_rep rfl⟩, trivial⟩ (fun _ => rfl) (fun _ => rfl) rfl) rfl rfl rfl (fun y15 => ?_)
   refine s_pure (p_move (v := .tuple #[.agg ([.int .i64 (r13.1.1), .int .i64 (r13.1.2.1), Hd.val y15]).toArray, .int .i64 (r13.2)]) rfl rfl) rfl rfl rfl ?_
   refine s_pure (p_extract (v := .agg ([.int .i64 (r13.1.1), .int .i64 (r13.1.2.1), Hd.val y15]).toArray) rfl rfl rfl) rfl rfl rfl ?_
   refine s_pure (p_extract (v := .int .i64 (r13.2)) rfl rfl rfl) rfl rfl rfl ?_
   refine s_nilrow (tI .i64) 3 41 [] ?_
   refine s_op0 (ok_alloc (N := 42) (cs := [.int .i64 (0), .int .i64 (0), Hd.val (nilH 3)]) rfl Try.ti33 rfl rfl) rfl rfl rfl (fun b17 => ?_)
   refine s_opn (ok_store_box (v := .agg ([.int .i64 (r13.1.1), .int .i64 (r13.1.2.1), Hd.val y15]).toArray) (vs := [.int .i64 (r13.1.1), .int .i64 (r13.1.2.1), Hd.val y15]) (cs' := [.int .i64 (r13.1.1), .int .i64 (r13.1.2.1), Hd.val y15]) 0 rfl rfl Try.ti33 rfl rfl rfl rfl rfl rfl rfl) rfl rfl rfl (fun _ => ?_)
   refine s_pure (p_assign (v := .int .i64 (r13.2)) rfl rfl) rfl rfl rfl ?_
   refine s_nil ?_
   refine x_then ?_
   refine s_seq ?_
   refine s_seq ?_
   refine s_region ?_
   refine s_pure (p_move (v := .int .i64 (r13.2)) rfl rfl) rfl rfl rfl ?_
   refine s_pure (p_neq rfl rfl rfl) rfl rfl rfl ?_
   refine s_nil ?_
   refine x_then ?_
   refine s_cond rfl (fun hb18 => ?_) (fun hb18 => ?_)
   ·
    replace e12 := cond_t hb18 e12
    refine s_seq ?_
    refine s_draw Try.mixed [⟨true, 29, [], Unit, fun _ => .pointer (some ⟨b7, 0, none⟩), fun _ => [], [], [], []⟩, ⟨true, 30, [0], Unit, fun _ => .int .i64 (s9.1), fun _ => [], [], [], []⟩, ⟨true, 31, [], Unit, fun _ => .pointer (some ⟨b7, 2, none⟩), fun _ => [], [], [], []⟩, ⟨true, 32, [2], Unit, fun _ => Hd.val y10, fun _ => [], [], [], []⟩, ⟨true, 33, [3], Unit, fun _ => .int .i64 ((s9.2.2.length : Int)), fun _ => [], [], [], []⟩, ⟨true, 4, [1], Unit, fun _ => .int .i64 (s9.1), fun _ => [], [], [], []⟩] [[], [0], [], [2], [2, 3], [0, 1], [0, 1, 2, 3, 4, 5], [0, 1, 2, 3, 4, 5, 6]] rfl rfl rfl rfl rfl ⟨.inl rfl, .inl rfl, .inl rfl, .inl rfl, .inl rfl, .inl rfl, trivial⟩ ?_ [4, 5] rfl rfl (fun us => ?_)
    ·
     refine all_cons _ (base_nil rfl) (dst_some rfl rfl) rfl rfl rfl rfl (gd_none rfl rfl) (fun _ => ?_) ?_
     ·
      refine ob_nil rfl ?_
      exact PureOk.op (p_fieldAddr (fo := 0) rfl Try.underlying33 rfl Try.ti3 rfl rfl rfl)
     refine all_cons _ (base_nil rfl) (dst_some rfl rfl) rfl rfl rfl rfl (gd_none rfl rfl) (fun _ => ?_) ?_
     ·
      refine ob_one rfl rfl (fun _ => ?_)
      refine ob_nil rfl ?_
      exact PureOk.op (p_load_box (v := .int .i64 (s9.1)) 6 rfl rfl Try.underlying3 rfl rfl rfl)
     refine all_cons _ (base_nil rfl) (dst_some rfl rfl) rfl rfl rfl rfl (gd_none rfl rfl) (fun _ => ?_) ?_
     ·
      refine ob_nil rfl ?_
      exact PureOk.op (p_fieldAddr (fo := 2) rfl Try.underlying33 rfl Try.ti22 rfl rfl rfl)
     refine all_cons _ (base_nil rfl) (dst_some rfl rfl) rfl rfl rfl rfl (gd_none rfl rfl) (fun _ => ?_) ?_
     ·
      refine ob_one rfl rfl (fun _ => ?_)
      refine ob_nil rfl ?_
      exact PureOk.op (p_load_box (v := Hd.val y10) 6 rfl rfl Try.underlying22 rfl rfl rfl)
     refine all_cons _ (base_nil rfl) (dst_some rfl rfl) rfl rfl rfl rfl (gd_none rfl rfl) (fun _ => ?_) ?_
     ·
      refine ob_one rfl rfl (fun _ => ?_)
      refine ob_nil rfl ?_
      exact PureOk.op (p_len_own (ty := (tI .i64)) (xs := s9.2.2) (h := y10) 9 rfl rfl Try.underlying22 rfl)
     refine all_cons _ (base_nil rfl) (dst_some rfl rfl) rfl rfl rfl rfl (gd_none rfl rfl) (fun _ => ?_) ?_
     ·
      refine ob_one rfl rfl (fun _ => ?_)
      refine ob_nil rfl ?_
      exact PureOk.op (p_assign (v := .int .i64 (s9.1)) rfl rfl)
     exact all_nil
    ·
     refine fin_base _ (base_nil rfl) ?_
     refine fin_one rfl rfl (fun _ => ?_)
     refine fin_one rfl rfl (fun _ => ?_)
     refine fin_nil ?_
     refine s_pure (p_assign (v := .int .i64 ((s9.2.2.length : Int))) rfl rfl) rfl rfl rfl ?_
     refine s_pure (p_assign (v := .int .i64 (0)) rfl rfl) rfl rfl rfl ?_
     refine s_nil ?_
     refine x_then ?_
     refine s_ret ?_
     refine x_then_ret ?_
     refine x_block_ret ?_
     refine x_out_ret e12 (fun e25 => ?_)
     subst e25
     refine x_block_ret ?_
     exact x_ret () (res_many (rs := [.tmp 4, .tmp 5, .tmp 6]) (vs := [.int .i64 (s9.1), .int .i64 ((s9.2.2.length : Int)), .int .i64 (0)]) rfl ⟨ra_tmp (v := .int .i64 (s9.1)) rfl, ra_tmp (v := .int .i64 ((s9.2.2.length : Int))) rfl, ra_tmp (v := .int .i64 (0)) rfl, trivial⟩ rfl) rfl 3 rfl [] 2 rfl trivial
   ·
    replace e12 := cond_f hb18 e12
    refine s_skip ?_
    refine x_then ?_
    refine s_region ?_
    refine s_pure (p_loadN_box (cs' := [.int .i64 (r13.1.1), .int .i64 (r13.1.2.1), Hd.val y15]) 0 rfl rfl Try.underlying33 rfl Try.ti33 rfl rfl rfl) rfl rfl rfl ?_
    refine s_opn (ok_store_box (v := .agg ([.int .i64 (r13.1.1), .int .i64 (r13.1.2.1), Hd.val y15]).toArray) (vs := [.int .i64 (r13.1.1), .int .i64 (r13.1.2.1), Hd.val y15]) (cs' := [.int .i64 (r13.1.1), .int .i64 (r13.1.2.1), Hd.val y15]) 6 rfl rfl Try.ti33 rfl rfl rfl rfl rfl rfl rfl) rfl rfl rfl (fun _ => ?_)
    refine s_nil ?_
    refine x_block ?_
    exact x_next y15 e12 [(11, 11), (12, 12), (27, 27), (28, 13)] 2 rfl ⟨rfl, rfl, rfl, trivial⟩ ⟨.inl ⟨4, _, rfl, weak_same⟩, .inl ⟨5, _, rfl, weak_same⟩, .inl ⟨6, _, rfl, weak_same⟩, .inl ⟨0, _, rfl, weak_same⟩, .inl ⟨7, _, rfl, weak_rep rfl⟩, .inl ⟨8, _, rfl, weak_rep rfl⟩, .inl ⟨3, _, rfl, weak_slim rfl⟩, trivial⟩

theorem culpritref32_Parts_ok {x0 : ((List (List Int)))} {x1 : ((List (List Int)))} {h0_0 : Hd} {h1_0 : Hd} {r : (Int × Int × Int)} (hF : culpritref32_Parts x0 x1 = some r) : ∀ (w : World) (S : Nat → Prop), Heap w (oldc S) [.rep (tA 16 .u8) [1] x0 h0_0, .rep (tA 16 .u8) [1] x1 h1_0] → Calls Try.prog 12 #[.agg ([Hd.val h0_0]).toArray, .agg ([Hd.val h1_0]).toArray] w (Post w S (fun (_ : Unit) => .tuple #[.int .i64 (r.1), .int .i64 (r.2.1), .int .i64 (r.2.2)]) (fun (_ : Unit) => [])) := by
  intro w S hL
  refine s_enter (n := 36) Try.func12 rfl rfl _ rfl hL ?_
  refine s_seq ?_
  refine s_region ?_
  refine s_op0 (ok_box (N := 11) (v := .agg ([Hd.val h0_0]).toArray) (cs := [Hd.val h0_0]) rfl rfl rfl rfl) rfl rfl rfl (fun b1 => ?_)
  refine s_op0 (ok_box (N := 12) (v := .agg ([Hd.val h1_0]).toArray) (cs := [Hd.val h1_0]) rfl rfl rfl rfl) rfl rfl rfl (fun b2 => ?_)
  refine s_pure (p_assign (v := .int .i64 (0)) rfl rfl) rfl rfl rfl ?_
  refine s_pure (p_assign (v := .int .i64 (0)) rfl rfl) rfl rfl rfl ?_
  refine s_pure (p_assign (v := .int .i64 (0)) rfl rfl) rfl rfl rfl ?_
  refine s_nil ?_
  refine x_then ?_
  refine s_seq ?_
  refine s_region ?_
  refine s_pure (p_loadN_box (cs' := [Hd.val h0_0]) 1 rfl rfl Try.underlying25 rfl Try.ti25 rfl rfl rfl) rfl rfl rfl ?_
  refine s_pure (p_loadN_box (cs' := [Hd.val h1_0]) 0 rfl rfl Try.underlying25 rfl Try.ti25 rfl rfl rfl) rfl rfl rfl ?_
  obtain ⟨r3, e4, hF⟩ := bind_some hF
  refine s_op0 (ok_call (N := 13) (Φ := fun y5 => [.own (tI .i64) 3 13 [] r3.1.2.2 y5]) (culpritref32_Begin_ok e4) rfl rfl rfl Try.func10 rfl Try.nm10 [1] ⟨.inl ⟨3, _, rfl, cov_rep rfl⟩, .inl ⟨4, _, rfl, cov_rep rfl⟩, trivial⟩ (fun _ => rfl) (fun _ => rfl) rfl) rfl rfl rfl (fun y5 => ?_)
  refine s_pure (p_move (v := .tuple #[.agg ([.int .i64 (r3.1.1), .int .i64 (r3.1.2.1), Hd.val y5]).toArray, .int .i64 (r3.2)]) rfl rfl) rfl rfl rfl ?_
  refine s_pure (p_extract (v := .agg ([.int .i64 (r3.1.1), .int .i64 (r3.1.2.1), Hd.val y5]).toArray) rfl rfl rfl) rfl rfl rfl ?_
  refine s_pure (p_extract (v := .int .i64 (r3.2)) rfl rfl rfl) rfl rfl rfl ?_
  refine s_nilrow (tI .i64) 3 26 [] ?_
  refine s_op0 (ok_alloc (N := 27) (cs := [.int .i64 (0), .int .i64 (0), Hd.val (nilH 3)]) rfl Try.ti37 rfl rfl) rfl rfl rfl (fun b7 => ?_)
  refine s_opn (ok_store_box (v := .agg ([.int .i64 (r3.1.1), .int .i64 (r3.1.2.1), Hd.val y5]).toArray) (vs := [.int .i64 (r3.1.1), .int .i64 (r3.1.2.1), Hd.val y5]) (cs' := [.int .i64 (r3.1.1), .int .i64 (r3.1.2.1), Hd.val y5]) 0 rfl rfl Try.ti37 rfl rfl rfl rfl rfl rfl rfl) rfl rfl rfl (fun _ => ?_)
  refine s_pure (p_assign (v := .int .i64 (r3.2)) rfl rfl) rfl rfl rfl ?_
  refine s_nil ?_
  refine x_then ?_
  refine s_seq ?_
  refine s_seq ?_
  refine s_region ?_
  refine s_pure (p_move (v := .int .i64 (r3.2)) rfl rfl) rfl rfl rfl ?_
  refine s_pure (p_neq rfl rfl rfl) rfl rfl rfl ?_
  refine s_nil ?_
  refine x_then ?_
  refine s_cond rfl (fun hb8 => ?_) (fun hb8 => ?_)
  ·
   replace hF := cond_t hb8 hF
   refine s_seq ?_
   refine s_region ?_
   refine s_pure (p_move (v := .int .i64 (r3.2)) rfl rfl) rfl rfl rfl ?_
   refine s_pure (p_assign (v := .int .i64 (0)) rfl rfl) rfl rfl rfl ?_
   refine s_pure (p_assign (v := .int .i64 (0)) rfl rfl) rfl rfl rfl ?_
   refine s_pure (p_assign (v := .int .i64 (r3.2)) rfl rfl) rfl rfl rfl ?_
   refine s_nil ?_
   refine x_then ?_
   refine s_ret ?_
   refine x_then_ret ?_
   replace hF := some_inj hF
   subst hF
   exact x_ret () (res_many (rs := [.tmp 4, .tmp 5, .tmp 6]) (vs := [.int .i64 (0), .int .i64 (0), .int .i64 (r3.2)]) rfl ⟨ra_tmp (v := .int .i64 (0)) rfl, ra_tmp (v := .int .i64 (0)) rfl, ra_tmp (v := .int .i64 (r3.2)) rfl, trivial⟩ rfl) rfl 5 rfl [] 2 rfl trivial
  ·
   replace hF := cond_f hb8 hF
   refine s_skip ?_
   refine x_then ?_
   obtain ⟨r9, e10, hF⟩ := bind_some hF
   refine s_join (fun y11 : Hd => [(7, .pointer (some ⟨b7, 0, none⟩))]) (fun y11 : Hd => [.old w S, .box 27 b7 [.int .i64 (r9.1), .int .i64 (r9.2.1), Hd.val y11], .own (tI .i64) 3 13 [] r9.2.2 y11]) ?_ ?_
   ·
    refine s_block ?_
    refine sim_loop (fun (s12 : Int × Int × (List Int)) (y13 : Hd) => [(2, .pointer (some ⟨b1, 0, none⟩)), (3, .pointer (some ⟨b2, 0, none⟩)), (7, .pointer (some ⟨b7, 0, none⟩))]) (fun (s12 : Int × Int × (List Int)) (y13 : Hd) => [.old w S, .box 11 b1 [Hd.val h0_0], .box 12 b2 [Hd.val h1_0], .box 27 b7 [.int .i64 (s12.1), .int .i64 (s12.2.1), Hd.val y13], .rep (tA 16 .u8) [1] x0 h0_0, .rep (tA 16 .u8) [1] x1 h1_0, .own (tI .i64) 3 13 [] s12.2.2 y13]) y5 e10 [(11, 11), (12, 12), (13, 13), (27, 27)] 2 rfl ⟨rfl, rfl, rfl, trivial⟩ ⟨.inl ⟨5, _, rfl, weak_same⟩, .inl ⟨4, _, rfl, weak_same⟩, .inl ⟨3, _, rfl, weak_same⟩, .inl ⟨0, _, rfl, weak_same⟩, .inl ⟨6, _, rfl, weak_rep rfl⟩, .inl ⟨7, _, rfl, weak_rep rfl⟩, .inl ⟨2, _, rfl, weak_slim rfl⟩, trivial⟩ ?_
    intro s12 y13 ρ' z14 e15
    refine s_seq ?_
    refine s_seq ?_
    refine s_region ?_
    refine s_pure (p_fieldAddr (fo := 1) rfl Try.underlying37 rfl Try.ti3 rfl rfl rfl) rfl rfl rfl ?_
    refine s_pure (p_load_box (v := .int .i64 (s12.2.1)) 3 rfl rfl Try.underlying3 rfl rfl rfl) rfl rfl rfl ?_
    refine s_pure (p_fieldAddr (fo := 0) rfl Try.underlying37 rfl Try.ti3 rfl rfl rfl) rfl rfl rfl ?_
    refine s_pure (p_load_box (v := .int .i64 (s12.1)) 3 rfl rfl Try.underlying3 rfl rfl rfl) rfl rfl rfl ?_
    refine s_pure (p_add rfl rfl rfl) rfl rfl rfl ?_
    refine s_pure (p_gtr rfl rfl rfl) rfl rfl rfl ?_
    refine s_nil ?_
    refine x_then ?_
    refine s_cond rfl (fun hb16 => ?_) (fun hb16 => ?_)
    ·
     replace e15 := cond_t hb16 e15
     refine s_skip ?_
     refine x_then ?_
     refine s_block ?_
     refine s_region ?_
     refine s_pure (p_loadN_box (cs' := [.int .i64 (s12.1), .int .i64 (s12.2.1), Hd.val y13]) 3 rfl rfl Try.underlying37 rfl Try.ti37 rfl rfl rfl) rfl rfl rfl ?_
     refine s_pure (p_loadN_box (cs' := [Hd.val h0_0]) 1 rfl rfl Try.underlying25 rfl Try.ti25 rfl rfl rfl) rfl rfl rfl ?_
     refine s_pure (p_loadN_box (cs' := [Hd.val h1_0]) 2 rfl rfl Try.underlying25 rfl Try.ti25 rfl rfl rfl) rfl rfl rfl ?_
     obtain ⟨r17, e18, e15⟩ := bind_some e15
     refine s_op0 (ok_call (N := 28) (Φ := fun y19 => [.own (tI .i64) 3 28 [] r17.1.2.2 y19]) (culpritref32_Halve_ok e18) rfl rfl rfl Try.func16 rfl Try.nm16 [13, 1] ⟨.inl ⟨6, _, rfl, cov_own rfl⟩, .inl ⟨4, _, rfl, cov_rep rfl⟩, .inl ⟨5, _, rfl, cov_rep rfl⟩, trivial⟩ (fun _ => rfl) (fun _ => rfl) rfl) rfl rfl rfl (fun y19 => ?_)
     refine s_pure (p_move (v := .tuple #[.agg ([.int .i64 (r17.1.1), .int .i64 (r17.1.2.1), Hd.val y19]).toArray, .int .i64 (r17.2)]) rfl rfl) rfl rfl rfl ?_
     refine s_pure (p_extract (v := .agg ([.int .i64 (r17.1.1), .int .i64 (r17.1.2.1), Hd.val y19]).toArray) rfl rfl rfl) rfl rfl rfl ?_
     refine s_pure (p_extract (v := .int .i64 (r17.2)) rfl rfl rfl) rfl rfl rfl ?_
     refine s_opn (ok_store_box (v := .agg ([.int .i64 (r17.1.1), .int .i64 (r17.1.2.1), Hd.val y19]).toArray) (vs := [.int .i64 (r17.1.1), .int .i64 (r17.1.2.1), Hd.val y19]) (cs' := [.int .i64 (r17.1.1), .int .i64 (r17.1.2.1), Hd.val y19]) 4 rfl rfl Try.ti37 rfl rfl rfl rfl rfl rfl rfl) rfl rfl rfl (fun _ => ?_)
     refine s_nil ?_
     refine x_block ?_
     exact x_next y19 e15 [(11, 11), (12, 12), (27, 27), (28, 13)] 2 rfl ⟨rfl, rfl, rfl, trivial⟩ ⟨.inl ⟨2, _, rfl, weak_same⟩, .inl ⟨3, _, rfl, weak_same⟩, .inl ⟨4, _, rfl, weak_same⟩, .inl ⟨0, _, rfl, weak_same⟩, .inl ⟨5, _, rfl, weak_rep rfl⟩, .inl ⟨6, _, rfl, weak_rep rfl⟩, .inl ⟨1, _, rfl, weak_slim rfl⟩, trivial⟩
    ·
     replace e15 := cond_f hb16 e15
     refine s_exit ?_
     refine x_then_exit ?_
     refine x_out e15 (fun e20 => ?_)
     subst e20
     refine x_block_exit ?_
     exact x_join y13 [(13, 13), (27, 27)] 2 rfl ⟨rfl, trivial⟩ ⟨.inl ⟨0, _, rfl, weak_same⟩, .inl ⟨3, _, rfl, weak_same⟩, .inl ⟨6, _, rfl, weak_slim rfl⟩, trivial⟩
   ·
    intro y11 ρ'
    refine s_seq ?_
    refine s_draw Try.mixed [⟨true, 31, [], Unit, fun _ => .pointer (some ⟨b7, 0, none⟩), fun _ => [], [], [], []⟩, ⟨true, 32, [0], Unit, fun _ => .int .i64 (r9.1), fun _ => [], [], [], []⟩, ⟨true, 33, [], Unit, fun _ => .pointer (some ⟨b7, 2, none⟩), fun _ => [], [], [], []⟩, ⟨true, 34, [2], Unit, fun _ => Hd.val y11, fun _ => [], [], [], []⟩, ⟨true, 35, [3], Unit, fun _ => .int .i64 ((r9.2.2.length : Int)), fun _ => [], [], [], []⟩, ⟨true, 4, [1], Unit, fun _ => .int .i64 (r9.1), fun _ => [], [], [], []⟩] [[], [0], [], [2], [2, 3], [0, 1], [0, 1, 2, 3, 4, 5], [0, 1, 2, 3, 4, 5, 6]] rfl rfl rfl rfl rfl ⟨.inl rfl, .inl rfl, .inl rfl, .inl rfl, .inl rfl, .inl rfl, trivial⟩ ?_ [4, 5] rfl rfl (fun us => ?_)
    ·
     refine all_cons _ (base_nil rfl) (dst_some rfl rfl) rfl rfl rfl rfl (gd_none rfl rfl) (fun _ => ?_) ?_
     ·
      refine ob_nil rfl ?_
      exact PureOk.op (p_fieldAddr (fo := 0) rfl Try.underlying37 rfl Try.ti3 rfl rfl rfl)
     refine all_cons _ (base_nil rfl) (dst_some rfl rfl) rfl rfl rfl rfl (gd_none rfl rfl) (fun _ => ?_) ?_
     ·
      refine ob_one rfl rfl (fun _ => ?_)
      refine ob_nil rfl ?_
      exact PureOk.op (p_load_box (v := .int .i64 (r9.1)) 1 rfl rfl Try.underlying3 rfl rfl rfl)
     refine all_cons _ (base_nil rfl) (dst_some rfl rfl) rfl rfl rfl rfl (gd_none rfl rfl) (fun _ => ?_) ?_
     ·
      refine ob_nil rfl ?_
      exact PureOk.op (p_fieldAddr (fo := 2) rfl Try.underlying37 rfl Try.ti22 rfl rfl rfl)
     refine all_cons _ (base_nil rfl) (dst_some rfl rfl) rfl rfl rfl rfl (gd_none rfl rfl) (fun _ => ?_) ?_
     ·
      refine ob_one rfl rfl (fun _ => ?_)
      refine ob_nil rfl ?_
      exact PureOk.op (p_load_box (v := Hd.val y11) 1 rfl rfl Try.underlying22 rfl rfl rfl)
     refine all_cons _ (base_nil rfl) (dst_some rfl rfl) rfl rfl rfl rfl (gd_none rfl rfl) (fun _ => ?_) ?_
     ·
      refine ob_one rfl rfl (fun _ => ?_)
      refine ob_nil rfl ?_
      exact PureOk.op (p_len_own (ty := (tI .i64)) (xs := r9.2.2) (h := y11) 2 rfl rfl Try.underlying22 rfl)
     refine all_cons _ (base_nil rfl) (dst_some rfl rfl) rfl rfl rfl rfl (gd_none rfl rfl) (fun _ => ?_) ?_
     ·
      refine ob_one rfl rfl (fun _ => ?_)
      refine ob_nil rfl ?_
      exact PureOk.op (p_assign (v := .int .i64 (r9.1)) rfl rfl)
     exact all_nil
    ·
     refine fin_base _ (base_nil rfl) ?_
     refine fin_one rfl rfl (fun _ => ?_)
     refine fin_one rfl rfl (fun _ => ?_)
     refine fin_nil ?_
     refine s_pure (p_assign (v := .int .i64 ((r9.2.2.length : Int))) rfl rfl) rfl rfl rfl ?_
     refine s_pure (p_assign (v := .int .i64 (0)) rfl rfl) rfl rfl rfl ?_
     refine s_nil ?_
     refine x_then ?_
     refine s_ret ?_
     replace hF := some_inj hF
     subst hF
     exact x_ret () (res_many (rs := [.tmp 4, .tmp 5, .tmp 6]) (vs := [.int .i64 (r9.1), .int .i64 ((r9.2.2.length : Int)), .int .i64 (0)]) rfl ⟨ra_tmp (v := .int .i64 (r9.1)) rfl, ra_tmp (v := .int .i64 ((r9.2.2.length : Int))) rfl, ra_tmp (v := .int .i64 (0)) rfl, trivial⟩ rfl) rfl 0 rfl [] 2 rfl trivial

theorem math_bits_Len64_ok {x0 : Int} {r : Int} (hF : math_bits_Len64 x0 = some r) : ∀ (w : World) (S : Nat → Prop), Heap w (oldc S) [] → Calls Try.prog 30 #[.int .u64 (x0)] w (Post w S (fun (_ : Unit) => .int .i64 (r)) (fun (_ : Unit) => [])) := by
  intro w S hL
  refine s_enter (n := 25) Try.func30 rfl rfl _ rfl hL ?_
  refine s_seq ?_
  refine s_region ?_
  refine s_pure (p_assign (v := .int .i64 (0)) rfl rfl) rfl rfl rfl ?_
  refine s_nil ?_
  refine x_then ?_
  obtain ⟨r1, e2, hF⟩ := bind_some hF
  refine s_join (fun y3 : Unit => [(0, .int .u64 (r1.1)), (2, .int .i64 (r1.2))]) (fun y3 : Unit => [.old w S]) ?_ ?_
  ·
   refine s_seq ?_
   refine s_region ?_
   refine s_pure (p_move (v := .int .u64 (x0)) rfl rfl) rfl rfl rfl ?_
   refine s_pure (p_geq rfl rfl rfl) rfl rfl rfl ?_
   refine s_nil ?_
   refine x_then ?_
   refine s_cond rfl (fun hb4 => ?_) (fun hb4 => ?_)
   ·
    replace e2 := cond_t hb4 e2
    refine s_seq ?_
    refine s_region ?_
    refine s_pure (p_move (v := .int .u64 (x0)) rfl rfl) rfl rfl rfl ?_
    refine s_pure (p_shr rfl rfl rfl rfl) rfl rfl rfl ?_
    refine s_pure (p_assign (v := .int .u64 (shrI .u64 x0 32)) rfl rfl) rfl rfl rfl ?_
    refine s_nil ?_
    refine x_then ?_
    refine s_region ?_
    refine s_pure (p_assign (v := .int .i64 (32)) rfl rfl) rfl rfl rfl ?_
    refine s_nil ?_
    replace e2 := some_inj e2
    subst e2
    exact x_join () [] 2 rfl ⟨rfl, rfl, trivial⟩ ⟨.inl ⟨0, _, rfl, weak_same⟩, trivial⟩
   ·
    replace e2 := cond_f hb4 e2
    refine s_skip ?_
    replace e2 := some_inj e2
    subst e2
    exact x_join () [] 2 rfl ⟨rfl, rfl, trivial⟩ ⟨.inl ⟨0, _, rfl, weak_same⟩, trivial⟩
  ·
   intro y3 ρ'
   obtain ⟨r5, e6, hF⟩ := bind_some hF
   refine s_join (fun y7 : Unit => [(0, .int .u64 (r5.1)), (2, .int .i64 (r5.2))]) (fun y7 : Unit => [.old w S]) ?_ ?_
   ·
    refine s_seq ?_
    refine s_region ?_
    refine s_pure (p_move (v := .int .u64 (r1.1)) rfl rfl) rfl rfl rfl ?_
    refine s_pure (p_geq rfl rfl rfl) rfl rfl rfl ?_
    refine s_nil ?_
    refine x_then ?_
    refine s_cond rfl (fun hb8 => ?_) (fun hb8 => ?_)
    ·
     replace e6 := cond_t hb8 e6
     refine s_seq ?_
     refine s_region ?_
     refine s_pure (p_move (v := .int .u64 (r1.1)) rfl rfl) rfl rfl rfl ?_
     refine s_pure (p_shr rfl rfl rfl rfl) rfl rfl rfl ?_
     refine s_pure (p_assign (v := .int .u64 (shrI .u64 r1.1 16)) rfl rfl) rfl rfl rfl ?_
     refine s_nil ?_
     refine x_then ?_
     refine s_region ?_
     refine s_pure (p_move (v := .int .i64 (r1.2)) rfl rfl) rfl rfl rfl ?_
     refine s_pure (p_add rfl rfl rfl) rfl rfl rfl ?_
     refine s_pure (p_assign (v := .int .i64 (w64 (r1.2 + 16))) rfl rfl) rfl rfl rfl ?_
     refine s_nil ?_
     replace e6 := some_inj e6
     subst e6
     exact x_join () [] 2 rfl ⟨rfl, rfl, trivial⟩ ⟨.inl ⟨0, _, rfl, weak_same⟩, trivial⟩
    ·
     replace e6 := cond_f hb8 e6
     refine s_skip ?_
     replace e6 := some_inj e6
     subst e6
     exact x_join () [] 2 rfl ⟨rfl, rfl, trivial⟩ ⟨.inl ⟨0, _, rfl, weak_same⟩, trivial⟩
   ·
    intro y7 ρ'
    obtain ⟨r9, e10, hF⟩ := bind_some hF
    refine s_join (fun y11 : Unit => [(0, .int .u64 (r9.1)), (2, .int .i64 (r9.2))]) (fun y11 : Unit => [.old w S]) ?_ ?_
    ·
     refine s_seq ?_
     refine s_region ?_
     refine s_pure (p_move (v := .int .u64 (r5.1)) rfl rfl) rfl rfl rfl ?_
     refine s_pure (p_geq rfl rfl rfl) rfl rfl rfl ?_
     refine s_nil ?_
     refine x_then ?_
     refine s_cond rfl (fun hb12 => ?_) (fun hb12 => ?_)
     ·
      replace e10 := cond_t hb12 e10
      refine s_seq ?_
      refine s_region ?_
      refine s_pure (p_move (v := .int .u64 (r5.1)) rfl rfl) rfl rfl rfl ?_
      refine s_pure (p_shr rfl rfl rfl rfl) rfl rfl rfl ?_
      refine s_pure (p_assign (v := .int .u64 (shrI .u64 r5.1 8)) rfl rfl) rfl rfl rfl ?_
      refine s_nil ?_
      refine x_then ?_
      refine s_region ?_
      refine s_pure (p_move (v := .int .i64 (r5.2)) rfl rfl) rfl rfl rfl ?_
      refine s_pure (p_add rfl rfl rfl) rfl rfl rfl ?_
      refine s_pure (p_assign (v := .int .i64 (w64 (r5.2 + 8))) rfl rfl) rfl rfl rfl ?_
      refine s_nil ?_
      replace e10 := some_inj e10
      subst e10
      exact x_join () [] 2 rfl ⟨rfl, rfl, trivial⟩ ⟨.inl ⟨0, _, rfl, weak_same⟩, trivial⟩
     ·
      replace e10 := cond_f hb12 e10
      refine s_skip ?_
      replace e10 := some_inj e10
      subst e10
      exact x_join () [] 2 rfl ⟨rfl, rfl, trivial⟩ ⟨.inl ⟨0, _, rfl, weak_same⟩, trivial⟩
    ·
     intro y11 ρ'
     refine s_seq ?_
     refine s_region ?_
     refine s_pure (p_move (v := .int .i64 (r9.2)) rfl rfl) rfl rfl rfl ?_
     refine s_pure (p_move (v := .int .u64 (r9.1)) rfl rfl) rfl rfl rfl ?_
     refine s_pure (p_conv rfl Try.underlying66 Try.underlying5 rfl) rfl rfl rfl ?_
     obtain ⟨x13, e14, hF⟩ := bind_some hF
     refine s_pure (p_index_str (s := str1) (i := IntKind.u8.wrap r9.1) rfl Try.underlying9 rfl rfl e14) rfl rfl rfl ?_
     refine s_pure (p_conv rfl Try.underlying5 Try.underlying3 rfl) rfl rfl rfl ?_
     refine s_pure (p_add rfl rfl rfl) rfl rfl rfl ?_
     refine s_pure (p_assign (v := .int .i64 (w64 (r9.2 + (w64 (x13.toNat : Int))))) rfl rfl) rfl rfl rfl ?_
     refine s_nil ?_
     refine x_then ?_
     refine s_ret ?_
     replace hF := some_inj hF
     subst hF
     exact x_ret () (res_one rfl (ra_tmp (v := .int .i64 (w64 (r9.2 + (w64 (x13.toNat : Int))))) rfl)) rfl 0 rfl [] 2 rfl trivial

theorem dispute_Most_ok {x0 : Int} {r : Int} (hF : dispute_Most x0 = some r) : ∀ (w : World) (S : Nat → Prop), Heap w (oldc S) [] → Calls Try.prog 17 #[.int .i64 (x0)] w (Post w S (fun (_ : Unit) => .int .i64 (r)) (fun (_ : Unit) => [])) := by
  intro w S hL
  refine s_enter (n := 9) Try.func17 rfl rfl _ rfl hL ?_
  refine s_seq ?_
  refine s_region ?_
  refine s_pure (p_assign (v := .int .i64 (0)) rfl rfl) rfl rfl rfl ?_
  refine s_nil ?_
  refine x_then ?_
  refine s_seq ?_
  refine s_seq ?_
  refine s_region ?_
  refine s_pure (p_move (v := .int .i64 (x0)) rfl rfl) rfl rfl rfl ?_
  refine s_pure (p_lss rfl rfl rfl) rfl rfl rfl ?_
  refine s_nil ?_
  refine x_then ?_
  refine s_cond rfl (fun hb1 => ?_) (fun hb1 => ?_)
  ·
   replace hF := cond_t hb1 hF
   refine s_seq ?_
   refine s_region ?_
   refine s_pure (p_assign (v := .int .i64 (0)) rfl rfl) rfl rfl rfl ?_
   refine s_nil ?_
   refine x_then ?_
   refine s_ret ?_
   refine x_then_ret ?_
   replace hF := some_inj hF
   subst hF
   exact x_ret () (res_one rfl (ra_tmp (v := .int .i64 (0)) rfl)) rfl 0 rfl [] 2 rfl trivial
  ·
   replace hF := cond_f hb1 hF
   refine s_skip ?_
   refine x_then ?_
   refine s_seq ?_
   refine s_region ?_
   refine s_pure (p_move (v := .int .i64 (x0)) rfl rfl) rfl rfl rfl ?_
   refine s_pure (p_sub rfl rfl rfl) rfl rfl rfl ?_
   refine s_pure (p_conv rfl Try.underlying3 Try.underlying66 rfl) rfl rfl rfl ?_
   obtain ⟨r2, e3, hF⟩ := bind_some hF
   refine s_op0 (ok_call (N := 11) (Φ := fun y4 => []) (math_bits_Len64_ok e3) rfl rfl rfl Try.func30 rfl Try.nm30 [] trivial (fun _ => rfl) (fun _ => rfl) rfl) rfl rfl rfl (fun y4 => ?_)
   refine s_pure (p_assign (v := .int .i64 (r2)) rfl rfl) rfl rfl rfl ?_
   refine s_nil ?_
   refine x_then ?_
   refine s_ret ?_
   replace hF := some_inj hF
   subst hF
   exact x_ret () (res_one rfl (ra_tmp (v := .int .i64 (r2)) rfl)) rfl 0 rfl [] 2 rfl trivial

theorem culpritref32_Most_ok {x0 : Int} {r : Int} (hF : culpritref32_Most x0 = some r) : ∀ (w : World) (S : Nat → Prop), Heap w (oldc S) [] → Calls Try.prog 18 #[.int .i64 (x0)] w (Post w S (fun (_ : Unit) => .int .i64 (r)) (fun (_ : Unit) => [])) := by
  intro w S hL
  refine s_enter (n := 24) Try.func18 rfl rfl _ rfl hL ?_
  refine s_seq ?_
  refine s_region ?_
  refine s_pure (p_assign (v := .int .i64 (0)) rfl rfl) rfl rfl rfl ?_
  refine s_nil ?_
  refine x_then ?_
  refine s_seq ?_
  refine s_region ?_
  refine s_pure (p_assign (v := .int .i64 (0)) rfl rfl) rfl rfl rfl ?_
  refine s_nil ?_
  refine x_then ?_
  obtain ⟨r1, e2, hF⟩ := bind_some hF
  refine s_join (fun y3 : Unit => [(0, .int .i64 (x0)), (3, .int .i64 (r1))]) (fun y3 : Unit => [.old w S]) ?_ ?_
  ·
   refine s_block ?_
   refine sim_loop (fun (s4 : Int) (y5 : Unit) => [(0, .int .i64 (x0)), (3, .int .i64 (s4))]) (fun (s4 : Int) (y5 : Unit) => [.old w S]) () e2 [] 2 rfl ⟨rfl, rfl, trivial⟩ ⟨.inl ⟨0, _, rfl, weak_same⟩, trivial⟩ ?_
   intro s4 y5 ρ' z6 e7
   refine s_seq ?_
   refine s_seq ?_
   obtain ⟨c8, e7⟩ := chk_some e7
   refine s_text Try.mixed [⟨true, 4, [], Unit, fun _ => .int .i64 (s4), fun _ => [], [], [], []⟩, ⟨true, 5, [0], Unit, fun _ => .bool (decide (s4 < 62)), fun _ => [], [], [], []⟩, ⟨true, 6, [1], Unit, fun _ => .bool (decide (s4 < 62)), fun _ => [], [], [], []⟩, ⟨(decide (s4 < 62)), 7, [], Unit, fun _ => .int .i64 (s4), fun _ => [], [], [], []⟩, ⟨(decide (s4 < 62)), 8, [3], Unit, fun _ => .int .u64 (IntKind.u64.wrap s4), fun _ => [], [], [], []⟩, ⟨(decide (s4 < 62)), 9, [4], Unit, fun _ => .int .i64 (shlI .i64 1 (IntKind.u64.wrap s4)), fun _ => [], [], [], []⟩, ⟨(decide (s4 < 62)), 10, [], Unit, fun _ => .int .i64 (x0), fun _ => [], [], [], []⟩, ⟨(decide (s4 < 62)), 11, [5, 6], Unit, fun _ => .bool (decide ((shlI .i64 1 (IntKind.u64.wrap s4)) < x0)), fun _ => [], [], [], []⟩, ⟨true, 12, [2, 7], Unit, fun _ => .bool (bif decide (s4 < 62) then decide ((shlI .i64 1 (IntKind.u64.wrap s4)) < x0) else false), fun _ => [], [], [], []⟩] [[], [0], [0, 1], [0, 1, 2], [0, 1, 2, 3], [0, 1, 2, 3, 4], [0, 1, 2], [0, 1, 2, 3, 4, 5, 6], [0, 1, 2, 3, 4, 5, 6, 7]] rfl rfl rfl rfl rfl ⟨.inl rfl, .inl rfl, .inl rfl, .inl rfl, .inl rfl, .inl rfl, .inl rfl, .inl rfl, .inl rfl, trivial⟩ ?_ [8] rfl rfl (fun us => ?_)
   ·
    refine all_cons _ (base_nil rfl) (dst_some rfl rfl) rfl rfl rfl rfl (gd_none rfl rfl) (fun _ => ?_) ?_
    ·
     refine ob_nil rfl ?_
     exact PureOk.op (p_move (v := .int .i64 (s4)) rfl rfl)
    refine all_cons _ (base_nil rfl) (dst_some rfl rfl) rfl rfl rfl rfl (gd_none rfl rfl) (fun _ => ?_) ?_
    ·
     refine ob_one rfl rfl (fun _ => ?_)
     refine ob_nil rfl ?_
     exact PureOk.op (p_lss rfl rfl rfl)
    refine all_cons _ (base_nil rfl) (dst_some rfl rfl) rfl rfl rfl rfl (gd_none rfl rfl) (fun _ => ?_) ?_
    ·
     refine ob_one rfl rfl (fun _ => ?_)
     refine ob_nil rfl ?_
     exact PureOk.op (p_move (v := .bool (decide (s4 < 62))) rfl rfl)
    refine all_cons _ (base_nil rfl) (dst_some rfl rfl) rfl rfl rfl rfl (gd_some (e := ⟨true, 6, [1], Unit, fun _ => .bool (decide (s4 < 62)), fun _ => [], [], [], []⟩) (decide (s4 < 62)) rfl rfl rfl rfl (fun _ => rfl) (gd_t _)) (fun hx12 => ?_) ?_
    ·
     replace hx12 : ((decide (s4 < 62))) = true := hx12
     refine ob_nil rfl ?_
     exact PureOk.op (p_move (v := .int .i64 (s4)) rfl rfl)
    refine all_cons _ (base_nil rfl) (dst_some rfl rfl) rfl rfl rfl rfl (gd_some (e := ⟨true, 6, [1], Unit, fun _ => .bool (decide (s4 < 62)), fun _ => [], [], [], []⟩) (decide (s4 < 62)) rfl rfl rfl rfl (fun _ => rfl) (gd_t _)) (fun hx13 => ?_) ?_
    ·
     replace hx13 : ((decide (s4 < 62))) = true := hx13
     refine ob_two rfl (fun _ _ => ?_) (fun hn => clash hx13 hn)
     refine ob_nil rfl ?_
     exact PureOk.op (p_conv rfl Try.underlying3 Try.underlying67 rfl)
    refine all_cons _ (base_nil rfl) (dst_some rfl rfl) rfl rfl rfl rfl (gd_some (e := ⟨true, 6, [1], Unit, fun _ => .bool (decide (s4 < 62)), fun _ => [], [], [], []⟩) (decide (s4 < 62)) rfl rfl rfl rfl (fun _ => rfl) (gd_t _)) (fun hx14 => ?_) ?_
    ·
     replace hx14 : ((decide (s4 < 62))) = true := hx14
     replace c8 := imp_t hx14 c8
     refine ob_two rfl (fun _ _ => ?_) (fun hn => clash hx14 hn)
     refine ob_nil rfl ?_
     exact PureOk.op (p_shl rfl rfl rfl c8)
    refine all_cons _ (base_nil rfl) (dst_some rfl rfl) rfl rfl rfl rfl (gd_some (e := ⟨true, 6, [1], Unit, fun _ => .bool (decide (s4 < 62)), fun _ => [], [], [], []⟩) (decide (s4 < 62)) rfl rfl rfl rfl (fun _ => rfl) (gd_t _)) (fun hx15 => ?_) ?_
    ·
     replace hx15 : ((decide (s4 < 62))) = true := hx15
     replace c8 := imp_t hx15 c8
     refine ob_nil rfl ?_
     exact PureOk.op (p_move (v := .int .i64 (x0)) rfl rfl)
    refine all_cons _ (base_nil rfl) (dst_some rfl rfl) rfl rfl rfl rfl (gd_some (e := ⟨true, 6, [1], Unit, fun _ => .bool (decide (s4 < 62)), fun _ => [], [], [], []⟩) (decide (s4 < 62)) rfl rfl rfl rfl (fun _ => rfl) (gd_t _)) (fun hx16 => ?_) ?_
    ·
     replace hx16 : ((decide (s4 < 62))) = true := hx16
     replace c8 := imp_t hx16 c8
     refine ob_two rfl (fun _ _ => ?_) (fun hn => clash hx16 hn)
     refine ob_two rfl (fun _ _ => ?_) (fun hn => clash hx16 hn)
     refine ob_nil rfl ?_
     exact PureOk.op (p_lss rfl rfl rfl)
    refine all_cons _ (base_nil rfl) (dst_some rfl rfl) rfl rfl rfl rfl (gd_none rfl rfl) (fun _ => ?_) ?_
    ·
     refine ob_one rfl rfl (fun _ => ?_)
     refine ob_two rfl (fun hq18 _ => ?_) (fun hq18 => ?_)
     rotate_left
     ·
      replace hq18 : ((decide (s4 < 62))) = false := hq18
      refine ob_nil rfl ?_
      exact PureOk.op (p_pick (b := decide (s4 < 62)) (p := decide ((shlI .i64 1 (IntKind.u64.wrap s4)) < x0)) (q := false) rfl rfl (fun hb => by first | (rw [hb] at hq18; cases hq18; done) | exact absurd hq18 (by rw [hb]; simp) | (simp_all; done)) (fun _ => rfl))
     refine ob_nil rfl ?_
     exact PureOk.op (p_pick (b := decide (s4 < 62)) (p := decide ((shlI .i64 1 (IntKind.u64.wrap s4)) < x0)) (q := false) rfl rfl (fun _ => rfl) (fun _ => rfl))
    exact all_nil
   ·
    refine fin_base _ (base_nil rfl) ?_
    refine fin_one rfl rfl (fun _ => ?_)
    refine fin_nil ?_
    refine s_nil ?_
    refine x_then ?_
    refine s_cond rfl (fun hb19 => ?_) (fun hb19 => ?_)
    ·
     replace e7 := cond_t hb19 e7
     refine s_skip ?_
     refine x_then ?_
     refine s_block ?_
     refine s_region ?_
     refine s_pure (p_move (v := .int .i64 (s4)) rfl rfl) rfl rfl rfl ?_
     refine s_pure (p_add rfl rfl rfl) rfl rfl rfl ?_
     refine s_pure (p_assign (v := .int .i64 (w64 (s4 + 1))) rfl rfl) rfl rfl rfl ?_
     refine s_nil ?_
     refine x_block ?_
     exact x_next () e7 [] 2 rfl ⟨rfl, rfl, trivial⟩ ⟨.inl ⟨0, _, rfl, weak_same⟩, trivial⟩
    ·
     replace e7 := cond_f hb19 e7
     refine s_exit ?_
     refine x_then_exit ?_
     refine x_out e7 (fun e20 => ?_)
     subst e20
     refine x_block_exit ?_
     exact x_join () [] 2 rfl ⟨rfl, rfl, trivial⟩ ⟨.inl ⟨0, _, rfl, weak_same⟩, trivial⟩
  ·
   intro y3 ρ'
   obtain ⟨r21, e22, hF⟩ := bind_some hF
   refine s_join (fun y23 : Unit => [(3, .int .i64 (r21))]) (fun y23 : Unit => [.old w S]) ?_ ?_
   ·
    refine s_seq ?_
    refine s_text Try.mixed [⟨true, 15, [], Unit, fun _ => .int .i64 (r1), fun _ => [], [], [], []⟩, ⟨true, 16, [0], Unit, fun _ => .bool (r1 == 62), fun _ => [], [], [], []⟩, ⟨true, 17, [1], Unit, fun _ => .bool (r1 == 62), fun _ => [], [], [], []⟩, ⟨(r1 == 62), 18, [], Unit, fun _ => .int .i64 (x0), fun _ => [], [], [], []⟩, ⟨(r1 == 62), 19, [3], Unit, fun _ => .bool (decide (4611686018427387904 < x0)), fun _ => [], [], [], []⟩, ⟨true, 20, [2, 4], Unit, fun _ => .bool (bif r1 == 62 then decide (4611686018427387904 < x0) else false), fun _ => [], [], [], []⟩] [[], [0], [0, 1], [0, 1, 2], [0, 1, 2, 3], [0, 1, 2, 3, 4]] rfl rfl rfl rfl rfl ⟨.inl rfl, .inl rfl, .inl rfl, .inl rfl, .inl rfl, .inl rfl, trivial⟩ ?_ [5] rfl rfl (fun us => ?_)
    ·
     refine all_cons _ (base_nil rfl) (dst_some rfl rfl) rfl rfl rfl rfl (gd_none rfl rfl) (fun _ => ?_) ?_
     ·
      refine ob_nil rfl ?_
      exact PureOk.op (p_move (v := .int .i64 (r1)) rfl rfl)
     refine all_cons _ (base_nil rfl) (dst_some rfl rfl) rfl rfl rfl rfl (gd_none rfl rfl) (fun _ => ?_) ?_
     ·
      refine ob_one rfl rfl (fun _ => ?_)
      refine ob_nil rfl ?_
      exact PureOk.op (p_eql rfl rfl rfl)
     refine all_cons _ (base_nil rfl) (dst_some rfl rfl) rfl rfl rfl rfl (gd_none rfl rfl) (fun _ => ?_) ?_
     ·
      refine ob_one rfl rfl (fun _ => ?_)
      refine ob_nil rfl ?_
      exact PureOk.op (p_move (v := .bool (r1 == 62)) rfl rfl)
     refine all_cons _ (base_nil rfl) (dst_some rfl rfl) rfl rfl rfl rfl (gd_some (e := ⟨true, 17, [1], Unit, fun _ => .bool (r1 == 62), fun _ => [], [], [], []⟩) (r1 == 62) rfl rfl rfl rfl (fun _ => rfl) (gd_t _)) (fun hx27 => ?_) ?_
     ·
      replace hx27 : ((r1 == 62)) = true := hx27
      refine ob_nil rfl ?_
      exact PureOk.op (p_move (v := .int .i64 (x0)) rfl rfl)
     refine all_cons _ (base_nil rfl) (dst_some rfl rfl) rfl rfl rfl rfl (gd_some (e := ⟨true, 17, [1], Unit, fun _ => .bool (r1 == 62), fun _ => [], [], [], []⟩) (r1 == 62) rfl rfl rfl rfl (fun _ => rfl) (gd_t _)) (fun hx28 => ?_) ?_
     ·
      replace hx28 : ((r1 == 62)) = true := hx28
      refine ob_two rfl (fun _ _ => ?_) (fun hn => clash hx28 hn)
      refine ob_nil rfl ?_
      exact PureOk.op (p_gtr rfl rfl rfl)
     refine all_cons _ (base_nil rfl) (dst_some rfl rfl) rfl rfl rfl rfl (gd_none rfl rfl) (fun _ => ?_) ?_
     ·
      refine ob_one rfl rfl (fun _ => ?_)
      refine ob_two rfl (fun hq30 _ => ?_) (fun hq30 => ?_)
      rotate_left
      ·
       replace hq30 : ((r1 == 62)) = false := hq30
       refine ob_nil rfl ?_
       exact PureOk.op (p_pick (b := r1 == 62) (p := decide (4611686018427387904 < x0)) (q := false) rfl rfl (fun hb => by first | (rw [hb] at hq30; cases hq30; done) | exact absurd hq30 (by rw [hb]; simp) | (simp_all; done)) (fun _ => rfl))
      refine ob_nil rfl ?_
      exact PureOk.op (p_pick (b := r1 == 62) (p := decide (4611686018427387904 < x0)) (q := false) rfl rfl (fun _ => rfl) (fun _ => rfl))
     exact all_nil
    ·
     refine fin_base _ (base_nil rfl) ?_
     refine fin_one rfl rfl (fun _ => ?_)
     refine fin_nil ?_
     refine s_nil ?_
     refine x_then ?_
     refine s_cond rfl (fun hb31 => ?_) (fun hb31 => ?_)
     ·
      replace e22 := cond_t hb31 e22
      refine s_region ?_
      refine s_pure (p_move (v := .int .i64 (r1)) rfl rfl) rfl rfl rfl ?_
      refine s_pure (p_add rfl rfl rfl) rfl rfl rfl ?_
      refine s_pure (p_assign (v := .int .i64 (w64 (r1 + 1))) rfl rfl) rfl rfl rfl ?_
      refine s_nil ?_
      replace e22 := some_inj e22
      subst e22
      exact x_join () [] 2 rfl ⟨rfl, trivial⟩ ⟨.inl ⟨0, _, rfl, weak_same⟩, trivial⟩
     ·
      replace e22 := cond_f hb31 e22
      refine s_skip ?_
      replace e22 := some_inj e22
      subst e22
      exact x_join () [] 2 rfl ⟨rfl, trivial⟩ ⟨.inl ⟨0, _, rfl, weak_same⟩, trivial⟩
   ·
    intro y23 ρ'
    refine s_seq ?_
    refine s_region ?_
    refine s_pure (p_move (v := .int .i64 (r21)) rfl rfl) rfl rfl rfl ?_
    refine s_pure (p_assign (v := .int .i64 (r21)) rfl rfl) rfl rfl rfl ?_
    refine s_nil ?_
    refine x_then ?_
    refine s_ret ?_
    replace hF := some_inj hF
    subst hF
    exact x_ret () (res_one rfl (ra_tmp (v := .int .i64 (r21)) rfl)) rfl 0 rfl [] 2 rfl trivial

theorem culpritlaw32_says_ok {x0 : (List Int)} {h0_0 : Hd} {r : ((List (List Int)))} (hF : culpritlaw32_says x0 = some r) : ∀ (w : World) (S : Nat → Prop), Heap w (oldc S) [.rep (tI .i64) [1] x0 h0_0] → Calls Try.prog 31 #[Hd.val h0_0] w (Post w S (fun (y27 : Hd) => .agg ([Hd.val y27]).toArray) (fun (y27 : Hd) => [.own (tA 16 .u8) 52 2 [] r y27])) := by
  intro w S hL
  refine s_enter (n := 23) Try.func31 rfl rfl _ rfl hL ?_
  refine s_seq ?_
  refine s_region ?_
  refine s_nilrow (tA 16 .u8) 52 12 [] ?_
  refine s_op0 (ok_alloc (N := 13) (cs := [Hd.val (nilH 52)]) rfl Try.ti30 rfl rfl) rfl rfl rfl (fun b2 => ?_)
  refine s_nil ?_
  refine x_then ?_
  refine s_seq ?_
  refine s_region ?_
  refine s_op0 (ok_alloc (N := 14) (cs := [Hd.val (nilH 52)]) rfl Try.ti30 rfl rfl) rfl rfl rfl (fun b3 => ?_)
  refine s_nil ?_
  refine x_then ?_
  obtain ⟨r4, e5, hF⟩ := bind_some hF
  refine s_join (fun y6 : Hd => [(2, .pointer (some ⟨b2, 0, none⟩)), (3, .pointer (some ⟨b3, 0, none⟩))]) (fun y6 : Hd => [.old w S, .box 13 b2 [Hd.val (nilH 52)], .box 14 b3 [Hd.val y6], .own (tA 16 .u8) 52 501 [] r4 y6]) ?_ ?_
  ·
   refine s_seq ?_
   refine s_region ?_
   refine s_pure (p_assign (v := .int .i64 (0)) rfl rfl) rfl rfl rfl ?_
   refine s_nil ?_
   refine x_then ?_
   refine s_block ?_
   refine sim_loop (fun (s7 : Int × (List (List Int))) (y8 : Hd) => [(0, Hd.val h0_0), (2, .pointer (some ⟨b2, 0, none⟩)), (3, .pointer (some ⟨b3, 0, none⟩)), (4, .int .i64 (s7.1))]) (fun (s7 : Int × (List (List Int))) (y8 : Hd) => [.old w S, .box 13 b2 [Hd.val (nilH 52)], .box 14 b3 [Hd.val y8], .rep (tI .i64) [1] x0 h0_0, .own (tA 16 .u8) 52 501 [] s7.2 y8]) (nilH 52) e5 [(13, 13), (14, 14)] 2 rfl ⟨rfl, rfl, rfl, rfl, trivial⟩ ⟨.inl ⟨3, _, rfl, weak_same⟩, .inl ⟨1, _, rfl, weak_same⟩, .inl ⟨0, _, rfl, weak_same⟩, .inl ⟨4, _, rfl, weak_rep rfl⟩, .inr free_own, trivial⟩ ?_
   intro s7 y8 ρ' z9 e10
   refine s_seq ?_
   refine s_seq ?_
   refine s_region ?_
   refine s_pure (p_move (v := .int .i64 (s7.1)) rfl rfl) rfl rfl rfl ?_
   refine s_pure (p_move (v := Hd.val h0_0) rfl rfl) rfl rfl rfl ?_
   refine s_pure (p_len_rep (ty := (tI .i64)) (xs := x0) (h := h0_0) 3 rfl rfl Try.underlying22 rfl) rfl rfl rfl ?_
   refine s_pure (p_lss rfl rfl rfl) rfl rfl rfl ?_
   refine s_nil ?_
   refine x_then ?_
   refine s_cond rfl (fun hb11 => ?_) (fun hb11 => ?_)
   ·
    replace e10 := cond_t hb11 e10
    refine s_skip ?_
    refine x_then ?_
    refine s_seq ?_
    refine s_block ?_
    obtain ⟨x12, e13, e10⟩ := bind_some e10
    refine s_draw Try.mixed [⟨true, 11, [], Unit, fun _ => .pointer (some ⟨b3, 0, none⟩), fun _ => [], [], [], []⟩, ⟨true, 12, [0], Unit, fun _ => Hd.val y8, fun _ => [], [], [], []⟩, ⟨true, 13, [], Unit, fun _ => Hd.val h0_0, fun _ => [], [], [], []⟩, ⟨true, 14, [], Unit, fun _ => .int .i64 (s7.1), fun _ => [], [], [], []⟩, ⟨true, 15, [2, 3], Unit, fun _ => .pointer (some (pat h0_0 (s7.1.toNat * 1))), fun _ => [], [], [], []⟩, ⟨true, 16, [4], Unit, fun _ => .int .i64 (x12), fun _ => [], [], [], []⟩, ⟨true, 17, [5], Unit, fun _ => .int .u8 (IntKind.u8.wrap x12), fun _ => [], [], [], []⟩, ⟨true, 18, [6], Unit, fun _ => .agg (((tA 16 .u8).fill ((List.replicate 16 0).set 0 (IntKind.u8.wrap x12)) ())).toArray, fun _ => [], [], [], []⟩, ⟨true, 19, [7], Hd, fun (h14 : Hd) => Hd.val h14, fun h14 => [.own (tA 16 .u8) 52 15 [] [((List.replicate 16 0).set 0 (IntKind.u8.wrap x12))] h14], [], [], []⟩] [[], [0], [], [], [2, 3], [2, 3, 4], [2, 3, 4, 5], [2, 3, 4, 5, 6], [2, 3, 4, 5, 6, 7], [0, 1, 2, 3, 4, 5, 6, 7, 8], [0, 1, 2, 3, 4, 5, 6, 7, 8, 9], [0, 1, 2, 3, 4, 5, 6, 7, 8, 9, 10]] rfl rfl rfl rfl rfl ⟨.inl rfl, .inl rfl, .inl rfl, .inl rfl, .inl rfl, .inl rfl, .inl rfl, .inl rfl, .inl rfl, trivial⟩ ?_ [1, 8] rfl rfl (fun us => ?_)
    ·
     refine all_cons _ (base_nil rfl) (dst_some rfl rfl) rfl rfl rfl rfl (gd_none rfl rfl) (fun _ => ?_) ?_
     ·
      refine ob_nil rfl ?_
      exact PureOk.op (p_fieldAddr (fo := 0) rfl Try.underlying30 rfl Try.ti23 rfl rfl rfl)
     refine all_cons _ (base_nil rfl) (dst_some rfl rfl) rfl rfl rfl rfl (gd_none rfl rfl) (fun _ => ?_) ?_
     ·
      refine ob_one rfl rfl (fun _ => ?_)
      refine ob_nil rfl ?_
      exact PureOk.op (p_load_box (v := Hd.val y8) 2 rfl rfl Try.underlying23 rfl rfl rfl)
     refine all_cons _ (base_nil rfl) (dst_some rfl rfl) rfl rfl rfl rfl (gd_none rfl rfl) (fun _ => ?_) ?_
     ·
      refine ob_nil rfl ?_
      exact PureOk.op (p_move (v := Hd.val h0_0) rfl rfl)
     refine all_cons _ (base_nil rfl) (dst_some rfl rfl) rfl rfl rfl rfl (gd_none rfl rfl) (fun _ => ?_) ?_
     ·
      refine ob_nil rfl ?_
      exact PureOk.op (p_move (v := .int .i64 (s7.1)) rfl rfl)
     refine all_cons _ (base_nil rfl) (dst_some rfl rfl) rfl rfl rfl rfl (gd_none rfl rfl) (fun _ => ?_) ?_
     ·
      refine ob_one rfl rfl (fun _ => ?_)
      refine ob_one rfl rfl (fun _ => ?_)
      refine ob_nil rfl ?_
      exact PureOk.op (p_idx (h := h0_0) (i := s7.1) (ty := (tI .i64)) (xs := x0) (v := x12) 3 rfl rfl Try.underlying22 Try.ti3 rfl rfl e13)
     refine all_cons _ (base_nil rfl) (dst_some rfl rfl) rfl rfl rfl rfl (gd_none rfl rfl) (fun _ => ?_) ?_
     ·
      refine ob_one rfl rfl (fun _ => ?_)
      refine ob_nil rfl ?_
      exact PureOk.op (p_load_at (X := s7.1.toNat * 1) (el_rep (ty := (tI .i64)) (xs := x0) (h := h0_0) (i := s7.1) (v := x12) (sz := 1) 3 rfl rfl e13) rfl Try.underlying3 rfl rfl)
     refine all_cons _ (base_nil rfl) (dst_some rfl rfl) rfl rfl rfl rfl (gd_none rfl rfl) (fun _ => ?_) ?_
     ·
      refine ob_one rfl rfl (fun _ => ?_)
      refine ob_nil rfl ?_
      exact PureOk.op (p_conv rfl Try.underlying3 Try.underlying5 rfl)
     refine all_cons _ (base_nil rfl) (dst_some rfl rfl) rfl rfl rfl rfl (gd_none rfl rfl) (fun _ => ?_) ?_
     ·
      refine ob_one rfl rfl (fun _ => ?_)
      refine ob_nil rfl ?_
      exact PureOk.op (p_build_array (vals := [(0, [.int .u8 (IntKind.u8.wrap x12)])]) (cells := ((tA 16 .u8).fill ((List.replicate 16 0).set 0 (IntKind.u8.wrap x12)) ())) rfl Try.underlying52 Try.ti52 Try.ti5 rfl rfl)
     refine all_cons _ (base_nil rfl) (dst_some rfl rfl) rfl rfl rfl rfl (gd_none rfl rfl) (fun _ => ?_) ?_
     ·
      refine ob_one rfl rfl (fun _ => ?_)
      refine ob_nil rfl ?_
      exact ok_buildSlice (N := 15) (vals := [(0, ((tA 16 .u8).fill ((List.replicate 16 0).set 0 (IntKind.u8.wrap x12)) ()))]) (cells := ((tA 16 .u8).fill ((List.replicate 16 0).set 0 (IntKind.u8.wrap x12)) ())) (ty := (tA 16 .u8)) (K := []) (xs := [((List.replicate 16 0).set 0 (IntKind.u8.wrap x12))]) (ys := [()]) rfl Try.underlying23 Try.ti52 rfl rfl rfl rfl rfl rfl rfl rfl trivial rfl
     exact all_nil
    ·
     refine fin_base _ (base_nil rfl) ?_
     refine fin_one rfl rfl (fun _ => ?_)
     refine fin_one rfl rfl (fun h14 => ?_)
     refine fin_nil ?_
     obtain ⟨c24, e10⟩ := chk_some e10
     refine s_op (ok_append_p (ty := (tA 16 .u8)) (xs := s7.2) (ys := [((List.replicate 16 0).set 0 (IntKind.u8.wrap x12))]) (h := y8) (hx := h14) (K2 := [15]) rfl 5 0 rfl _ rfl (weak_own rfl) rfl Try.underlying23 Try.ti52 rfl rfl rfl rfl rfl c24 rfl rfl) rfl rfl rfl rfl (fun h25 => ?_)
     refine s_pure (p_fieldAddr (fo := 0) rfl Try.underlying30 rfl Try.ti23 rfl rfl rfl) rfl rfl rfl ?_
     refine s_opn (ok_store_box (v := Hd.val h25) (vs := [Hd.val h25]) (cs' := [Hd.val h25]) 4 rfl rfl Try.ti23 rfl rfl rfl rfl rfl rfl rfl) rfl rfl rfl (fun _ => ?_)
     refine s_nil ?_
     refine x_block ?_
     refine x_then ?_
     refine s_region ?_
     refine s_pure (p_move (v := .int .i64 (s7.1)) rfl rfl) rfl rfl rfl ?_
     refine s_pure (p_add rfl rfl rfl) rfl rfl rfl ?_
     refine s_pure (p_assign (v := .int .i64 (w64 (s7.1 + 1))) rfl rfl) rfl rfl rfl ?_
     refine s_nil ?_
     exact x_next h25 e10 [(13, 13), (14, 14), (501, 501)] 2 rfl ⟨rfl, rfl, rfl, rfl, trivial⟩ ⟨.inl ⟨3, _, rfl, weak_same⟩, .inl ⟨4, _, rfl, weak_same⟩, .inl ⟨0, _, rfl, weak_same⟩, .inl ⟨5, _, rfl, weak_rep rfl⟩, .inl ⟨1, _, rfl, weak_slim rfl⟩, trivial⟩
   ·
    replace e10 := cond_f hb11 e10
    refine s_exit ?_
    refine x_then_exit ?_
    refine x_out e10 (fun e26 => ?_)
    subst e26
    refine x_block_exit ?_
    exact x_join y8 [(13, 13), (14, 14), (501, 501)] 2 rfl ⟨rfl, rfl, trivial⟩ ⟨.inl ⟨0, _, rfl, weak_same⟩, .inl ⟨1, _, rfl, weak_same⟩, .inl ⟨2, _, rfl, weak_same⟩, .inl ⟨4, _, rfl, weak_slim rfl⟩, trivial⟩
  ·
   intro y6 ρ'
   refine s_seq ?_
   refine s_region ?_
   refine s_pure (p_loadN_box (cs' := [Hd.val y6]) 2 rfl rfl Try.underlying30 rfl Try.ti30 rfl rfl rfl) rfl rfl rfl ?_
   refine s_opn (ok_store_box (v := .agg ([Hd.val y6]).toArray) (vs := [Hd.val y6]) (cs' := [Hd.val y6]) 1 rfl rfl Try.ti30 rfl rfl rfl rfl rfl rfl rfl) rfl rfl rfl (fun _ => ?_)
   refine s_nil ?_
   refine x_then ?_
   refine s_ret ?_
   replace hF := some_inj hF
   subst hF
   exact x_ret y6 (res_one rfl (ra_cellN (cs := [Hd.val y6]) 0 rfl Try.underlying30 rfl Try.ti30 rfl rfl)) rfl 1 rfl [(501, 2)] 2 rfl ⟨.inl ⟨3, _, rfl, weak_slim rfl⟩, trivial⟩

theorem culpritref32_Bent_ok {x0 : ((List (List Int)))} {x1 : Int} {x2 : Int} {h0_0 : Hd} {r : ((List (List Int)))} (hF : culpritref32_Bent x0 x1 x2 = some r) : ∀ (w : World) (S : Nat → Prop), Heap w (oldc S) [.rep (tA 16 .u8) [1] x0 h0_0] → Calls Try.prog 6 #[.agg ([Hd.val h0_0]).toArray, .int .i64 (x1), .int .i64 (x2)] w (Post w S (fun (y136 : Hd) => .agg ([Hd.val y136]).toArray) (fun (y136 : Hd) => [.own (tA 16 .u8) 52 2 [] r y136])) := by
  intro w S hL
  refine s_enter (n := 135) Try.func6 rfl rfl _ rfl hL ?_
  refine s_seq ?_
  refine s_region ?_
  refine s_op0 (ok_box (N := 11) (v := .agg ([Hd.val h0_0]).toArray) (cs := [Hd.val h0_0]) rfl rfl rfl rfl) rfl rfl rfl (fun b1 => ?_)
  refine s_nilrow (tA 16 .u8) 52 13 [] ?_
  refine s_op0 (ok_alloc (N := 14) (cs := [Hd.val (nilH 52)]) rfl Try.ti25 rfl rfl) rfl rfl rfl (fun b3 => ?_)
  refine s_nil ?_
  refine x_then ?_
  refine s_seq ?_
  refine s_region ?_
  refine s_op0 (ok_buildSlice0 (N := 15) (ty := (tA 16 .u8)) (K := []) rfl Try.underlying23 Try.ti52 rfl rfl) rfl rfl rfl (fun h4 => ?_)
  refine s_pure (p_fieldAddr (fo := 0) rfl Try.underlying25 rfl Try.ti23 rfl rfl rfl) rfl rfl rfl ?_
  refine s_pure (p_load_box (v := Hd.val h0_0) 3 rfl rfl Try.underlying23 rfl rfl rfl) rfl rfl rfl ?_
  obtain ⟨c5, hF⟩ := chk_some hF
  refine s_op (ok_append_p (ty := (tA 16 .u8)) (xs := ([] : List (List Int))) (ys := x0) (h := h4) (hx := h0_0) (K2 := [1]) rfl 0 5 rfl _ rfl (weak_same) rfl Try.underlying23 Try.ti52 rfl rfl rfl rfl rfl c5 rfl rfl) rfl rfl rfl rfl (fun h6 => ?_)
  refine s_pure (p_build_struct (vals := [(0, [Hd.val h6])]) (places := [(0, 1)]) (cells := [Hd.val h6]) rfl Try.underlying25 Try.ti25 (⟨rfl, ⟨_, _, Try.ti23⟩, trivial⟩) rfl rfl) rfl rfl rfl ?_
  refine s_op0 (ok_alloc (N := 16) (cs := [Hd.val (nilH 52)]) rfl Try.ti25 rfl rfl) rfl rfl rfl (fun b7 => ?_)
  refine s_opn (ok_store_box (v := .agg ([Hd.val h6]).toArray) (vs := [Hd.val h6]) (cs' := [Hd.val h6]) 0 rfl rfl Try.ti25 rfl rfl rfl rfl rfl rfl rfl) rfl rfl rfl (fun _ => ?_)
  refine s_nil ?_
  refine x_then ?_
  refine s_seq ?_
  refine s_region ?_
  refine s_pure (p_fieldAddr (fo := 0) rfl Try.underlying25 rfl Try.ti23 rfl rfl rfl) rfl rfl rfl ?_
  refine s_pure (p_load_box (v := Hd.val h6) 0 rfl rfl Try.underlying23 rfl rfl rfl) rfl rfl rfl ?_
  refine s_pure (p_len_own (ty := (tA 16 .u8)) (xs := ([] : List (List Int)) ++ x0) (h := h6) 1 rfl rfl Try.underlying23 rfl) rfl rfl rfl ?_
  refine s_pure (p_assign (v := .int .i64 (((([] : List (List Int)) ++ x0).length : Int))) rfl rfl) rfl rfl rfl ?_
  refine s_nil ?_
  refine x_then ?_
  refine s_seq ?_
  refine s_region ?_
  refine s_pure (p_move (v := .int .i64 (x2)) rfl rfl) rfl rfl rfl ?_
  refine s_pure (p_move (v := .int .i64 (((([] : List (List Int)) ++ x0).length : Int))) rfl rfl) rfl rfl rfl ?_
  refine s_pure (p_max rfl rfl rfl) rfl rfl rfl ?_
  obtain ⟨r8, e9, hF⟩ := bind_some hF
  refine s_op0 (ok_call (N := 17) (Φ := fun y10 => []) (culpritref01_Around_ok e9) rfl rfl rfl Try.func7 rfl Try.nm7 [] trivial (fun _ => rfl) (fun _ => rfl) rfl) rfl rfl rfl (fun y10 => ?_)
  refine s_pure (p_assign (v := .int .i64 (r8)) rfl rfl) rfl rfl rfl ?_
  refine s_nil ?_
  refine x_then ?_
  obtain ⟨r11, e12, hF⟩ := bind_some hF
  refine s_join (fun y13 : Hd => [(6, .pointer (some ⟨b3, 0, none⟩)), (7, .pointer (some ⟨b7, 0, none⟩))]) (fun y13 : Hd => [.old w S, .box 14 b3 [Hd.val (nilH 52)], .box 16 b7 [Hd.val y13], .own (tA 16 .u8) 52 15 [] r11 y13]) ?_ ?_
  ·
   refine s_seq ?_
   refine s_region ?_
   refine s_pure (p_move (v := .int .i64 (x1)) rfl rfl) rfl rfl rfl ?_
   obtain ⟨r14, e15, e12⟩ := bind_some e12
   refine s_op0 (ok_call (N := 29) (Φ := fun y16 => []) (culpritref01_Around_ok e15) rfl rfl rfl Try.func7 rfl Try.nm7 [] trivial (fun _ => rfl) (fun _ => rfl) rfl) rfl rfl rfl (fun y16 => ?_)
   refine s_nil ?_
   refine x_then ?_
   refine s_block ?_
   obtain ⟨r17, e18, e12⟩ := bind_some e12
   refine s_join (fun y19 : Hd => [(2, .int .i64 (x2)), (6, .pointer (some ⟨b3, 0, none⟩)), (7, .pointer (some ⟨b7, 0, none⟩)), (8, .int .i64 (((([] : List (List Int)) ++ x0).length : Int))), (9, .int .i64 (r8)), (26, .int .i64 (r14)), (41, .bool (r17.1))]) (fun y19 : Hd => [.old w S, .box 14 b3 [Hd.val (nilH 52)], .box 16 b7 [Hd.val y19], .own (tA 16 .u8) 52 15 [] r17.2 y19]) ?_ ?_
   ·
    refine s_seq ?_
    refine s_region ?_
    refine s_pure (p_eql rfl rfl rfl) rfl rfl rfl ?_
    refine s_pure (p_assign (v := .bool (r14 == 0)) rfl rfl) rfl rfl rfl ?_
    refine s_nil ?_
    refine x_then ?_
    refine s_cond rfl (fun hb20 => ?_) (fun hb20 => ?_)
    ·
     replace e18 := cond_t hb20 e18
     refine s_skip ?_
     replace e18 := some_inj e18
     subst e18
     exact x_join h6 [(14, 14), (15, 15), (16, 16)] 2 rfl ⟨rfl, rfl, rfl, rfl, rfl, rfl, rfl, trivial⟩ ⟨.inl ⟨5, _, rfl, weak_same⟩, .inl ⟨2, _, rfl, weak_same⟩, .inl ⟨0, _, rfl, weak_same⟩, .inl ⟨1, _, rfl, weak_slim rfl⟩, trivial⟩
    ·
     replace e18 := cond_f hb20 e18
     refine s_region ?_
     refine s_pure (p_eql rfl rfl rfl) rfl rfl rfl ?_
     refine s_pure (p_assign (v := .bool (r14 == 1)) rfl rfl) rfl rfl rfl ?_
     refine s_nil ?_
     replace e18 := some_inj e18
     subst e18
     exact x_join h6 [(14, 14), (15, 15), (16, 16)] 2 rfl ⟨rfl, rfl, rfl, rfl, rfl, rfl, rfl, trivial⟩ ⟨.inl ⟨5, _, rfl, weak_same⟩, .inl ⟨2, _, rfl, weak_same⟩, .inl ⟨0, _, rfl, weak_same⟩, .inl ⟨1, _, rfl, weak_slim rfl⟩, trivial⟩
   ·
    intro y19 ρ'
    refine s_cond rfl (fun hb21 => ?_) (fun hb21 => ?_)
    ·
     replace e12 := cond_t hb21 e12
     refine s_seq ?_
     refine s_region ?_
     refine s_pure (p_move (v := .int .i64 (r8)) rfl rfl) rfl rfl rfl ?_
     refine s_pure (p_assign (v := .int .i64 (r8)) rfl rfl) rfl rfl rfl ?_
     refine s_nil ?_
     refine x_then ?_
     refine s_block ?_
     refine sim_loop (fun (s22 : Int × (List (List Int))) (y23 : Hd) => [(2, .int .i64 (x2)), (6, .pointer (some ⟨b3, 0, none⟩)), (7, .pointer (some ⟨b7, 0, none⟩)), (8, .int .i64 (((([] : List (List Int)) ++ x0).length : Int))), (10, .int .i64 (s22.1))]) (fun (s22 : Int × (List (List Int))) (y23 : Hd) => [.old w S, .box 14 b3 [Hd.val (nilH 52)], .box 16 b7 [Hd.val y23], .own (tA 16 .u8) 52 15 [] s22.2 y23]) y19 e12 [(14, 14), (15, 15), (16, 16)] 2 rfl ⟨rfl, rfl, rfl, rfl, rfl, trivial⟩ ⟨.inl ⟨0, _, rfl, weak_same⟩, .inl ⟨1, _, rfl, weak_same⟩, .inl ⟨2, _, rfl, weak_same⟩, .inl ⟨3, _, rfl, weak_slim rfl⟩, trivial⟩ ?_
     intro s22 y23 ρ' z24 e25
     refine s_seq ?_
     refine s_seq ?_
     refine s_region ?_
     refine s_pure (p_move (v := .int .i64 (s22.1)) rfl rfl) rfl rfl rfl ?_
     refine s_pure (p_move (v := .int .i64 (((([] : List (List Int)) ++ x0).length : Int))) rfl rfl) rfl rfl rfl ?_
     refine s_pure (p_lss rfl rfl rfl) rfl rfl rfl ?_
     refine s_nil ?_
     refine x_then ?_
     refine s_cond rfl (fun hb26 => ?_) (fun hb26 => ?_)
     ·
      replace e25 := cond_t hb26 e25
      refine s_skip ?_
      refine x_then ?_
      refine s_seq ?_
      refine s_block ?_
      obtain ⟨x27, e28, e25⟩ := bind_some e25
      obtain ⟨c29, e25⟩ := chk_some e25
      obtain ⟨x30, e31, e25⟩ := bind_some e25
      refine s_draw Try.mixed [⟨true, 50, [], Unit, fun _ => .pointer (some ⟨b7, 0, none⟩), fun _ => [], [], [], []⟩, ⟨true, 51, [0], Unit, fun _ => Hd.val y23, fun _ => [], [], [], []⟩, ⟨true, 52, [], Unit, fun _ => .int .i64 (s22.1), fun _ => [], [], [], []⟩, ⟨true, 53, [], Unit, fun _ => .pointer (some ⟨b7, 0, none⟩), fun _ => [], [], [], []⟩, ⟨true, 54, [3], Unit, fun _ => Hd.val y23, fun _ => [], [], [], []⟩, ⟨true, 55, [], Unit, fun _ => .int .i64 (s22.1), fun _ => [], [], [], []⟩, ⟨true, 56, [4, 5], Unit, fun _ => .pointer (some (pat y23 (s22.1.toNat * 16))), fun _ => [], [], [], []⟩, ⟨true, 57, [6], Unit, fun _ => .pointer (some (pat y23 (s22.1.toNat * 16 + (0 : Int).toNat))), fun _ => [], [], [], []⟩, ⟨true, 58, [7], Unit, fun _ => .int .u8 (x27.getD (0 : Int).toNat 0), fun _ => [], [], [], []⟩, ⟨true, 59, [], Unit, fun _ => .int .i64 (x2), fun _ => [], [], [], []⟩, ⟨true, 60, [9], Unit, fun _ => .int .i64 (Int.tmod x2 200), fun _ => [], [], [], []⟩, ⟨true, 61, [10], Unit, fun _ => .int .i64 (w64 (1 + (Int.tmod x2 200))), fun _ => [], [], [], []⟩, ⟨true, 62, [11], Unit, fun _ => .int .u8 (IntKind.u8.wrap (w64 (1 + (Int.tmod x2 200)))), fun _ => [], [], [], []⟩, ⟨true, 63, [8, 12], Unit, fun _ => .int .u8 (IntKind.u8.wrap ((x27.getD (0 : Int).toNat 0) + (IntKind.u8.wrap (w64 (1 + (Int.tmod x2 200)))))), fun _ => [], [], [], []⟩, ⟨true, 64, [1, 2], Unit, fun _ => .pointer (some (pat y23 (s22.1.toNat * 16))), fun _ => [], [], [], []⟩] [[], [0], [], [], [3], [], [3, 4, 5], [3, 4, 5, 6], [3, 4, 5, 6, 7], [], [9], [9, 10], [9, 10, 11], [3, 4, 5, 6, 7, 8, 9, 10, 11, 12], [0, 1, 2], [0, 1, 2, 3, 4, 5, 6, 7, 8, 9, 10, 11, 12, 13, 14], [0, 1, 2, 3, 4, 5, 6, 7, 8, 9, 10, 11, 12, 13, 14, 15]] rfl rfl rfl rfl rfl ⟨.inl rfl, .inl rfl, .inl rfl, .inl rfl, .inl rfl, .inl rfl, .inl rfl, .inl rfl, .inl rfl, .inl rfl, .inl rfl, .inl rfl, .inl rfl, .inl rfl, .inl rfl, trivial⟩ ?_ [13, 14] rfl rfl (fun us => ?_)
      ·
       refine all_cons _ (base_nil rfl) (dst_some rfl rfl) rfl rfl rfl rfl (gd_none rfl rfl) (fun _ => ?_) ?_
       ·
        refine ob_nil rfl ?_
        exact PureOk.op (p_fieldAddr (fo := 0) rfl Try.underlying25 rfl Try.ti23 rfl rfl rfl)
       refine all_cons _ (base_nil rfl) (dst_some rfl rfl) rfl rfl rfl rfl (gd_none rfl rfl) (fun _ => ?_) ?_
       ·
        refine ob_one rfl rfl (fun _ => ?_)
        refine ob_nil rfl ?_
        exact PureOk.op (p_load_box (v := Hd.val y23) 2 rfl rfl Try.underlying23 rfl rfl rfl)
       refine all_cons _ (base_nil rfl) (dst_some rfl rfl) rfl rfl rfl rfl (gd_none rfl rfl) (fun _ => ?_) ?_
       ·
        refine ob_nil rfl ?_
        exact PureOk.op (p_move (v := .int .i64 (s22.1)) rfl rfl)
       refine all_cons _ (base_nil rfl) (dst_some rfl rfl) rfl rfl rfl rfl (gd_none rfl rfl) (fun _ => ?_) ?_
       ·
        refine ob_nil rfl ?_
        exact PureOk.op (p_fieldAddr (fo := 0) rfl Try.underlying25 rfl Try.ti23 rfl rfl rfl)
       refine all_cons _ (base_nil rfl) (dst_some rfl rfl) rfl rfl rfl rfl (gd_none rfl rfl) (fun _ => ?_) ?_
       ·
        refine ob_one rfl rfl (fun _ => ?_)
        refine ob_nil rfl ?_
        exact PureOk.op (p_load_box (v := Hd.val y23) 2 rfl rfl Try.underlying23 rfl rfl rfl)
       refine all_cons _ (base_nil rfl) (dst_some rfl rfl) rfl rfl rfl rfl (gd_none rfl rfl) (fun _ => ?_) ?_
       ·
        refine ob_nil rfl ?_
        exact PureOk.op (p_move (v := .int .i64 (s22.1)) rfl rfl)
       refine all_cons _ (base_nil rfl) (dst_some rfl rfl) rfl rfl rfl rfl (gd_none rfl rfl) (fun _ => ?_) ?_
       ·
        refine ob_one rfl rfl (fun _ => ?_)
        refine ob_one rfl rfl (fun _ => ?_)
        refine ob_nil rfl ?_
        exact PureOk.op (p_idx_own (h := y23) (i := s22.1) (ty := (tA 16 .u8)) (xs := s22.2) (v := x27) 3 rfl rfl Try.underlying23 Try.ti52 rfl rfl e28)
       refine all_cons _ (base_nil rfl) (dst_some rfl rfl) rfl rfl rfl rfl (gd_none rfl rfl) (fun _ => ?_) ?_
       ·
        refine ob_one rfl rfl (fun _ => ?_)
        refine ob_nil rfl ?_
        exact PureOk.op (p_idx_arr (i := 0) (n := 16) (X := s22.1.toNat * 16) (el_own (ty := (tA 16 .u8)) (xs := s22.2) (h := y23) (i := s22.1) (v := x27) (sz := 16) 3 rfl rfl e28) rfl Try.underlying52 Try.ti5 rfl rfl c29)
       refine all_cons _ (base_nil rfl) (dst_some rfl rfl) rfl rfl rfl rfl (gd_none rfl rfl) (fun _ => ?_) ?_
       ·
        refine ob_one rfl rfl (fun _ => ?_)
        refine ob_nil rfl ?_
        exact PureOk.op (p_load_at (X := s22.1.toNat * 16 + (0 : Int).toNat) (el_arr (i := 0) (el_own (ty := (tA 16 .u8)) (xs := s22.2) (h := y23) (i := s22.1) (v := x27) (sz := 16) 3 rfl rfl e28) c29) rfl Try.underlying5 rfl rfl)
       refine all_cons _ (base_nil rfl) (dst_some rfl rfl) rfl rfl rfl rfl (gd_none rfl rfl) (fun _ => ?_) ?_
       ·
        refine ob_nil rfl ?_
        exact PureOk.op (p_move (v := .int .i64 (x2)) rfl rfl)
       refine all_cons _ (base_nil rfl) (dst_some rfl rfl) rfl rfl rfl rfl (gd_none rfl rfl) (fun _ => ?_) ?_
       ·
        refine ob_one rfl rfl (fun _ => ?_)
        refine ob_nil rfl ?_
        exact PureOk.op (p_rem rfl rfl rfl rfl)
       refine all_cons _ (base_nil rfl) (dst_some rfl rfl) rfl rfl rfl rfl (gd_none rfl rfl) (fun _ => ?_) ?_
       ·
        refine ob_one rfl rfl (fun _ => ?_)
        refine ob_nil rfl ?_
        exact PureOk.op (p_add rfl rfl rfl)
       refine all_cons _ (base_nil rfl) (dst_some rfl rfl) rfl rfl rfl rfl (gd_none rfl rfl) (fun _ => ?_) ?_
       ·
        refine ob_one rfl rfl (fun _ => ?_)
        refine ob_nil rfl ?_
        exact PureOk.op (p_conv rfl Try.underlying3 Try.underlying5 rfl)
       refine all_cons _ (base_nil rfl) (dst_some rfl rfl) rfl rfl rfl rfl (gd_none rfl rfl) (fun _ => ?_) ?_
       ·
        refine ob_one rfl rfl (fun _ => ?_)
        refine ob_one rfl rfl (fun _ => ?_)
        refine ob_nil rfl ?_
        exact PureOk.op (p_add rfl rfl rfl)
       refine all_cons _ (base_nil rfl) (dst_some rfl rfl) rfl rfl rfl rfl (gd_none rfl rfl) (fun _ => ?_) ?_
       ·
        refine ob_one rfl rfl (fun _ => ?_)
        refine ob_one rfl rfl (fun _ => ?_)
        refine ob_nil rfl ?_
        exact PureOk.op (p_idx_own (h := y23) (i := s22.1) (ty := (tA 16 .u8)) (xs := s22.2) (v := x30) 3 rfl rfl Try.underlying23 Try.ti52 rfl rfl e31)
       exact all_nil
      ·
       refine fin_base _ (base_nil rfl) ?_
       refine fin_one rfl rfl (fun _ => ?_)
       refine fin_one rfl rfl (fun _ => ?_)
       refine fin_nil ?_
       obtain ⟨c47, e25⟩ := chk_some e25
       refine s_pure (p_idx_arr (i := 0) (n := 16) (X := s22.1.toNat * 16) (el_own (ty := (tA 16 .u8)) (xs := s22.2) (h := y23) (i := s22.1) (v := x30) (sz := 16) 3 rfl rfl e31) rfl Try.underlying52 Try.ti5 rfl rfl c47) rfl rfl rfl ?_
       refine s_opn (ok_store_own (X := s22.1.toNat * 16 + (0 : Int).toNat) (i := s22.1) (esz := 16) (ty := (tA 16 .u8)) (xs := s22.2) (v := x30) (v' := arrSet 16 0 x30 (0 : Int).toNat (IntKind.u8.wrap ((x27.getD (0 : Int).toNat 0) + (IntKind.u8.wrap (w64 (1 + (Int.tmod x2 200))))))) (new := [.int .u8 (IntKind.u8.wrap ((x27.getD (0 : Int).toNat 0) + (IntKind.u8.wrap (w64 (1 + (Int.tmod x2 200))))))]) (h := y23) 3 rfl rfl Try.ti5 rfl (by omega) rfl e31 rfl rfl rfl (set_arr (x := IntKind.u8.wrap ((x27.getD (0 : Int).toNat 0) + (IntKind.u8.wrap (w64 (1 + (Int.tmod x2 200)))))) (i := 0) c47) rfl) rfl rfl rfl (fun _ => ?_)
       refine s_nil ?_
       refine x_block ?_
       refine x_then ?_
       refine s_region ?_
       refine s_pure (p_move (v := .int .i64 (s22.1)) rfl rfl) rfl rfl rfl ?_
       refine s_pure (p_add rfl rfl rfl) rfl rfl rfl ?_
       refine s_pure (p_assign (v := .int .i64 (w64 (s22.1 + 1))) rfl rfl) rfl rfl rfl ?_
       refine s_nil ?_
       exact x_next y23 e25 [(14, 14), (15, 15), (16, 16)] 2 rfl ⟨rfl, rfl, rfl, rfl, rfl, trivial⟩ ⟨.inl ⟨1, _, rfl, weak_same⟩, .inl ⟨2, _, rfl, weak_same⟩, .inl ⟨3, _, rfl, weak_same⟩, .inl ⟨0, _, rfl, weak_slim rfl⟩, trivial⟩
     ·
      replace e25 := cond_f hb26 e25
      refine s_exit ?_
      refine x_then_exit ?_
      refine x_out e25 (fun e48 => ?_)
      subst e48
      refine x_block_exit ?_
      refine x_block ?_
      exact x_join y23 [(14, 14), (15, 15), (16, 16)] 2 rfl ⟨rfl, rfl, trivial⟩ ⟨.inl ⟨0, _, rfl, weak_same⟩, .inl ⟨1, _, rfl, weak_same⟩, .inl ⟨2, _, rfl, weak_same⟩, .inl ⟨3, _, rfl, weak_slim rfl⟩, trivial⟩
    ·
     replace e12 := cond_f hb21 e12
     refine s_seq ?_
     refine s_region ?_
     refine s_pure (p_eql rfl rfl rfl) rfl rfl rfl ?_
     refine s_pure (p_assign (v := .bool (r14 == 2)) rfl rfl) rfl rfl rfl ?_
     refine s_nil ?_
     refine x_then ?_
     refine s_cond rfl (fun hb49 => ?_) (fun hb49 => ?_)
     ·
      replace e12 := cond_t hb49 e12
      refine s_seq ?_
      refine s_region ?_
      refine s_pure (p_move (v := .int .i64 (((([] : List (List Int)) ++ x0).length : Int))) rfl rfl) rfl rfl rfl ?_
      refine s_pure (p_gtr rfl rfl rfl) rfl rfl rfl ?_
      refine s_nil ?_
      refine x_then ?_
      refine s_cond rfl (fun hb50 => ?_) (fun hb50 => ?_)
      ·
       replace e12 := cond_t hb50 e12
       obtain ⟨r51, e52, e12⟩ := bind_some e12
       obtain ⟨x54, e55, e12⟩ := bind_some e12
       obtain ⟨c56, e12⟩ := chk_some e12
       obtain ⟨x57, e58, e12⟩ := bind_some e12
       refine s_draw Try.mixed [⟨true, 70, [], Unit, fun _ => .pointer (some ⟨b7, 0, none⟩), fun _ => [], [], [], []⟩, ⟨true, 71, [0], Unit, fun _ => Hd.val y19, fun _ => [], [], [], []⟩, ⟨true, 72, [], Unit, fun _ => .int .i64 (r8), fun _ => [], [], [], []⟩, ⟨true, 73, [], Unit, fun _ => .int .i64 (x2), fun _ => [], [], [], []⟩, ⟨true, 74, [3], Unit, fun _ => .int .i64 (w64 (Int.tdiv x2 16)), fun _ => [], [], [], []⟩, ⟨true, 75, [4], Unit, fun (y53 : Unit) => .int .i64 (r51), fun _ => [], [], [], []⟩, ⟨true, 76, [1, 2], Unit, fun _ => .pointer (some (pat y19 (r8.toNat * 16))), fun _ => [], [], [], []⟩, ⟨true, 77, [6, 5], Unit, fun _ => .pointer (some (pat y19 (r8.toNat * 16 + r51.toNat))), fun _ => [], [], [], []⟩, ⟨true, 78, [7], Unit, fun _ => .int .u8 (x54.getD r51.toNat 0), fun _ => [], [], [], []⟩, ⟨true, 79, [8], Unit, fun _ => .int .u8 (IntKind.u8.wrap ((x54.getD r51.toNat 0) + 1)), fun _ => [], [], [], []⟩, ⟨true, 80, [1, 2], Unit, fun _ => .pointer (some (pat y19 (r8.toNat * 16))), fun _ => [], [], [], []⟩] [[], [0], [], [], [3], [3, 4], [0, 1, 2], [0, 1, 2, 3, 4, 5, 6], [0, 1, 2, 3, 4, 5, 6, 7], [0, 1, 2, 3, 4, 5, 6, 7, 8], [0, 1, 2], [0, 1, 2, 3, 4, 5, 6, 7, 8, 9, 10], [0, 1, 2, 3, 4, 5, 6, 7, 8, 9, 10, 11]] rfl rfl rfl rfl rfl ⟨.inl rfl, .inl rfl, .inl rfl, .inl rfl, .inl rfl, .inl rfl, .inl rfl, .inl rfl, .inl rfl, .inl rfl, .inl rfl, trivial⟩ ?_ [5, 9, 10] rfl rfl (fun us => ?_)
       ·
        refine all_cons _ (base_nil rfl) (dst_some rfl rfl) rfl rfl rfl rfl (gd_none rfl rfl) (fun _ => ?_) ?_
        ·
         refine ob_nil rfl ?_
         exact PureOk.op (p_fieldAddr (fo := 0) rfl Try.underlying25 rfl Try.ti23 rfl rfl rfl)
        refine all_cons _ (base_nil rfl) (dst_some rfl rfl) rfl rfl rfl rfl (gd_none rfl rfl) (fun _ => ?_) ?_
        ·
         refine ob_one rfl rfl (fun _ => ?_)
         refine ob_nil rfl ?_
         exact PureOk.op (p_load_box (v := Hd.val y19) 2 rfl rfl Try.underlying23 rfl rfl rfl)
        refine all_cons _ (base_nil rfl) (dst_some rfl rfl) rfl rfl rfl rfl (gd_none rfl rfl) (fun _ => ?_) ?_
        ·
         refine ob_nil rfl ?_
         exact PureOk.op (p_move (v := .int .i64 (r8)) rfl rfl)
        refine all_cons _ (base_nil rfl) (dst_some rfl rfl) rfl rfl rfl rfl (gd_none rfl rfl) (fun _ => ?_) ?_
        ·
         refine ob_nil rfl ?_
         exact PureOk.op (p_move (v := .int .i64 (x2)) rfl rfl)
        refine all_cons _ (base_nil rfl) (dst_some rfl rfl) rfl rfl rfl rfl (gd_none rfl rfl) (fun _ => ?_) ?_
        ·
         refine ob_one rfl rfl (fun _ => ?_)
         refine ob_nil rfl ?_
         exact PureOk.op (p_quo rfl rfl rfl rfl)
        refine all_cons _ (base_nil rfl) (dst_some rfl rfl) rfl rfl rfl rfl (gd_none rfl rfl) (fun _ => ?_) ?_
        ·
         refine ob_one rfl rfl (fun _ => ?_)
         refine ob_nil rfl ?_
         exact ok_call (N := 41) (Φ := fun y53 => []) (culpritref01_Around_ok e52) rfl rfl rfl Try.func7 rfl Try.nm7 [] trivial (fun _ => rfl) (fun _ => rfl) rfl
        refine all_cons _ (base_nil rfl) (dst_some rfl rfl) rfl rfl rfl rfl (gd_none rfl rfl) (fun _ => ?_) ?_
        ·
         refine ob_one rfl rfl (fun _ => ?_)
         refine ob_one rfl rfl (fun _ => ?_)
         refine ob_nil rfl ?_
         exact PureOk.op (p_idx_own (h := y19) (i := r8) (ty := (tA 16 .u8)) (xs := r17.2) (v := x54) 3 rfl rfl Try.underlying23 Try.ti52 rfl rfl e55)
        refine all_cons _ (base_nil rfl) (dst_some rfl rfl) rfl rfl rfl rfl (gd_none rfl rfl) (fun _ => ?_) ?_
        ·
         refine ob_one rfl rfl (fun _ => ?_)
         refine ob_one rfl rfl (fun y53 => ?_)
         refine ob_nil rfl ?_
         exact PureOk.op (p_idx_arr (i := r51) (n := 16) (X := r8.toNat * 16) (el_own (ty := (tA 16 .u8)) (xs := r17.2) (h := y19) (i := r8) (v := x54) (sz := 16) 3 rfl rfl e55) rfl Try.underlying52 Try.ti5 rfl rfl c56)
        refine all_cons _ (base_nil rfl) (dst_some rfl rfl) rfl rfl rfl rfl (gd_none rfl rfl) (fun _ => ?_) ?_
        ·
         refine ob_one rfl rfl (fun _ => ?_)
         refine ob_nil rfl ?_
         exact PureOk.op (p_load_at (X := r8.toNat * 16 + r51.toNat) (el_arr (i := r51) (el_own (ty := (tA 16 .u8)) (xs := r17.2) (h := y19) (i := r8) (v := x54) (sz := 16) 3 rfl rfl e55) c56) rfl Try.underlying5 rfl rfl)
        refine all_cons _ (base_nil rfl) (dst_some rfl rfl) rfl rfl rfl rfl (gd_none rfl rfl) (fun _ => ?_) ?_
        ·
         refine ob_one rfl rfl (fun _ => ?_)
         refine ob_nil rfl ?_
         exact PureOk.op (p_add rfl rfl rfl)
        refine all_cons _ (base_nil rfl) (dst_some rfl rfl) rfl rfl rfl rfl (gd_none rfl rfl) (fun _ => ?_) ?_
        ·
         refine ob_one rfl rfl (fun _ => ?_)
         refine ob_one rfl rfl (fun _ => ?_)
         refine ob_nil rfl ?_
         exact PureOk.op (p_idx_own (h := y19) (i := r8) (ty := (tA 16 .u8)) (xs := r17.2) (v := x57) 3 rfl rfl Try.underlying23 Try.ti52 rfl rfl e58)
        exact all_nil
       ·
        refine fin_base _ (base_nil rfl) ?_
        refine fin_one rfl rfl (fun y53 => ?_)
        refine fin_one rfl rfl (fun _ => ?_)
        refine fin_one rfl rfl (fun _ => ?_)
        refine fin_nil ?_
        obtain ⟨c70, e12⟩ := chk_some e12
        refine s_pure (p_idx_arr (i := r51) (n := 16) (X := r8.toNat * 16) (el_own (ty := (tA 16 .u8)) (xs := r17.2) (h := y19) (i := r8) (v := x57) (sz := 16) 3 rfl rfl e58) rfl Try.underlying52 Try.ti5 rfl rfl c70) rfl rfl rfl ?_
        refine s_opn (ok_store_own (X := r8.toNat * 16 + r51.toNat) (i := r8) (esz := 16) (ty := (tA 16 .u8)) (xs := r17.2) (v := x57) (v' := arrSet 16 0 x57 r51.toNat (IntKind.u8.wrap ((x54.getD r51.toNat 0) + 1))) (new := [.int .u8 (IntKind.u8.wrap ((x54.getD r51.toNat 0) + 1))]) (h := y19) 3 rfl rfl Try.ti5 rfl (by omega) rfl e58 rfl rfl rfl (set_arr (x := IntKind.u8.wrap ((x54.getD r51.toNat 0) + 1)) (i := r51) c70) rfl) rfl rfl rfl (fun _ => ?_)
        refine s_nil ?_
        refine x_block ?_
        replace e12 := some_inj e12
        subst e12
        exact x_join y19 [(14, 14), (15, 15), (16, 16)] 2 rfl ⟨rfl, rfl, trivial⟩ ⟨.inl ⟨1, _, rfl, weak_same⟩, .inl ⟨2, _, rfl, weak_same⟩, .inl ⟨3, _, rfl, weak_same⟩, .inl ⟨0, _, rfl, weak_slim rfl⟩, trivial⟩
      ·
       replace e12 := cond_f hb50 e12
       refine s_skip ?_
       refine x_block ?_
       replace e12 := some_inj e12
       subst e12
       exact x_join y19 [(14, 14), (15, 15), (16, 16)] 2 rfl ⟨rfl, rfl, trivial⟩ ⟨.inl ⟨0, _, rfl, weak_same⟩, .inl ⟨1, _, rfl, weak_same⟩, .inl ⟨2, _, rfl, weak_same⟩, .inl ⟨3, _, rfl, weak_slim rfl⟩, trivial⟩
     ·
      replace e12 := cond_f hb49 e12
      refine s_seq ?_
      refine s_region ?_
      refine s_pure (p_eql rfl rfl rfl) rfl rfl rfl ?_
      refine s_pure (p_assign (v := .bool (r14 == 3)) rfl rfl) rfl rfl rfl ?_
      refine s_nil ?_
      refine x_then ?_
      refine s_cond rfl (fun hb71 => ?_) (fun hb71 => ?_)
      ·
       replace e12 := cond_t hb71 e12
       refine s_region ?_
       refine s_pure (p_fieldAddr (fo := 0) rfl Try.underlying25 rfl Try.ti23 rfl rfl rfl) rfl rfl rfl ?_
       refine s_pure (p_load_box (v := Hd.val y19) 2 rfl rfl Try.underlying23 rfl rfl rfl) rfl rfl rfl ?_
       refine s_pure (p_move (v := .int .i64 (r8)) rfl rfl) rfl rfl rfl ?_
       refine s_pure (p_move (v := .int .i64 (((([] : List (List Int)) ++ x0).length : Int))) rfl rfl) rfl rfl rfl ?_
       refine s_pure (p_min rfl rfl rfl) rfl rfl rfl ?_
       obtain ⟨c72, e12⟩ := chk_some e12
       refine s_op0 (ok_slice_own (j := if ((([] : List (List Int)) ++ x0).length : Int) < r8 then ((([] : List (List Int)) ++ x0).length : Int) else r8) (h := y19) (ty := (tA 16 .u8)) (xs := r17.2) 3 rfl rfl Try.underlying23 Try.ti52 rfl rfl rfl c72) rfl rfl rfl (fun _ => ?_)
       refine s_pure (p_fieldAddr (fo := 0) rfl Try.underlying25 rfl Try.ti23 rfl rfl rfl) rfl rfl rfl ?_
       refine s_opn (ok_store_box (v := Hd.val (Hd.cut y19 0 (if ((([] : List (List Int)) ++ x0).length : Int) < r8 then ((([] : List (List Int)) ++ x0).length : Int) else r8).toNat 16)) (vs := [Hd.val (Hd.cut y19 0 (if ((([] : List (List Int)) ++ x0).length : Int) < r8 then ((([] : List (List Int)) ++ x0).length : Int) else r8).toNat 16)]) (cs' := [Hd.val (Hd.cut y19 0 (if ((([] : List (List Int)) ++ x0).length : Int) < r8 then ((([] : List (List Int)) ++ x0).length : Int) else r8).toNat 16)]) 3 rfl rfl Try.ti23 rfl rfl rfl rfl rfl rfl rfl) rfl rfl rfl (fun _ => ?_)
       refine s_nil ?_
       refine x_block ?_
       replace e12 := some_inj e12
       subst e12
       exact x_join (Hd.cut y19 0 (if ((([] : List (List Int)) ++ x0).length : Int) < r8 then ((([] : List (List Int)) ++ x0).length : Int) else r8).toNat 16) [(14, 14), (15, 15), (16, 16)] 2 rfl ⟨rfl, rfl, trivial⟩ ⟨.inl ⟨2, _, rfl, weak_same⟩, .inl ⟨3, _, rfl, weak_same⟩, .inl ⟨0, _, rfl, weak_same⟩, .inl ⟨1, _, rfl, weak_slim rfl⟩, trivial⟩
      ·
       replace e12 := cond_f hb71 e12
       refine s_seq ?_
       refine s_region ?_
       refine s_pure (p_eql rfl rfl rfl) rfl rfl rfl ?_
       refine s_pure (p_assign (v := .bool (r14 == 4)) rfl rfl) rfl rfl rfl ?_
       refine s_nil ?_
       refine x_then ?_
       refine s_cond rfl (fun hb73 => ?_) (fun hb73 => ?_)
       ·
        replace e12 := cond_t hb73 e12
        refine s_seq ?_
        refine s_region ?_
        refine s_pure (p_assign (v := .int .i64 (0)) rfl rfl) rfl rfl rfl ?_
        refine s_nil ?_
        refine x_then ?_
        refine s_block ?_
        refine sim_loop (fun (s74 : Int × (List (List Int))) (y75 : Hd) => [(2, .int .i64 (x2)), (6, .pointer (some ⟨b3, 0, none⟩)), (7, .pointer (some ⟨b7, 0, none⟩)), (11, .int .i64 (s74.1))]) (fun (s74 : Int × (List (List Int))) (y75 : Hd) => [.old w S, .box 14 b3 [Hd.val (nilH 52)], .box 16 b7 [Hd.val y75], .own (tA 16 .u8) 52 15 [] s74.2 y75]) y19 e12 [(14, 14), (15, 15), (16, 16)] 2 rfl ⟨rfl, rfl, rfl, rfl, trivial⟩ ⟨.inl ⟨0, _, rfl, weak_same⟩, .inl ⟨1, _, rfl, weak_same⟩, .inl ⟨2, _, rfl, weak_same⟩, .inl ⟨3, _, rfl, weak_slim rfl⟩, trivial⟩ ?_
        intro s74 y75 ρ' z76 e77
        refine s_seq ?_
        refine s_seq ?_
        refine s_region ?_
        refine s_pure (p_move (v := .int .i64 (s74.1)) rfl rfl) rfl rfl rfl ?_
        refine s_pure (p_move (v := .int .i64 (x2)) rfl rfl) rfl rfl rfl ?_
        obtain ⟨r78, e79, e77⟩ := bind_some e77
        refine s_op0 (ok_call (N := 53) (Φ := fun y80 => []) (culpritref01_Around_ok e79) rfl rfl rfl Try.func7 rfl Try.nm7 [] trivial (fun _ => rfl) (fun _ => rfl) rfl) rfl rfl rfl (fun y80 => ?_)
        refine s_pure (p_add rfl rfl rfl) rfl rfl rfl ?_
        refine s_pure (p_lss rfl rfl rfl) rfl rfl rfl ?_
        refine s_nil ?_
        refine x_then ?_
        refine s_cond rfl (fun hb81 => ?_) (fun hb81 => ?_)
        ·
         replace e77 := cond_t hb81 e77
         refine s_skip ?_
         refine x_then ?_
         refine s_seq ?_
         refine s_block ?_
         refine s_region ?_
         refine s_pure (p_fieldAddr (fo := 0) rfl Try.underlying25 rfl Try.ti23 rfl rfl rfl) rfl rfl rfl ?_
         refine s_pure (p_load_box (v := Hd.val y75) 2 rfl rfl Try.underlying23 rfl rfl rfl) rfl rfl rfl ?_
         refine s_pure (p_move (v := .int .i64 (x2)) rfl rfl) rfl rfl rfl ?_
         refine s_pure (p_conv rfl Try.underlying3 Try.underlying5 rfl) rfl rfl rfl ?_
         refine s_pure (p_move (v := .int .i64 (s74.1)) rfl rfl) rfl rfl rfl ?_
         refine s_pure (p_conv rfl Try.underlying3 Try.underlying5 rfl) rfl rfl rfl ?_
         refine s_pure (p_build_array (vals := [(0, [.int .u8 (IntKind.u8.wrap x2)]), (1, [.int .u8 (IntKind.u8.wrap s74.1)])]) (cells := ((tA 16 .u8).fill (((List.replicate 16 0).set 0 (IntKind.u8.wrap x2)).set 1 (IntKind.u8.wrap s74.1)) ())) rfl Try.underlying52 Try.ti52 Try.ti5 rfl rfl) rfl rfl rfl ?_
         refine s_op0 (ok_buildSlice (N := 65) (vals := [(0, ((tA 16 .u8).fill (((List.replicate 16 0).set 0 (IntKind.u8.wrap x2)).set 1 (IntKind.u8.wrap s74.1)) ()))]) (cells := ((tA 16 .u8).fill (((List.replicate 16 0).set 0 (IntKind.u8.wrap x2)).set 1 (IntKind.u8.wrap s74.1)) ())) (ty := (tA 16 .u8)) (K := []) (xs := [(((List.replicate 16 0).set 0 (IntKind.u8.wrap x2)).set 1 (IntKind.u8.wrap s74.1))]) (ys := [()]) rfl Try.underlying23 Try.ti52 rfl rfl rfl rfl rfl rfl rfl rfl trivial rfl) rfl rfl rfl (fun h82 => ?_)
         obtain ⟨c83, e77⟩ := chk_some e77
         refine s_op (ok_append_p (ty := (tA 16 .u8)) (xs := s74.2) (ys := [(((List.replicate 16 0).set 0 (IntKind.u8.wrap x2)).set 1 (IntKind.u8.wrap s74.1))]) (h := y75) (hx := h82) (K2 := [65]) rfl 4 0 rfl _ rfl (weak_own rfl) rfl Try.underlying23 Try.ti52 rfl rfl rfl rfl rfl c83 rfl rfl) rfl rfl rfl rfl (fun h84 => ?_)
         refine s_pure (p_fieldAddr (fo := 0) rfl Try.underlying25 rfl Try.ti23 rfl rfl rfl) rfl rfl rfl ?_
         refine s_opn (ok_store_box (v := Hd.val h84) (vs := [Hd.val h84]) (cs' := [Hd.val h84]) 4 rfl rfl Try.ti23 rfl rfl rfl rfl rfl rfl rfl) rfl rfl rfl (fun _ => ?_)
         refine s_nil ?_
         refine x_block ?_
         refine x_then ?_
         refine s_region ?_
         refine s_pure (p_move (v := .int .i64 (s74.1)) rfl rfl) rfl rfl rfl ?_
         refine s_pure (p_add rfl rfl rfl) rfl rfl rfl ?_
         refine s_pure (p_assign (v := .int .i64 (w64 (s74.1 + 1))) rfl rfl) rfl rfl rfl ?_
         refine s_nil ?_
         exact x_next h84 e77 [(14, 14), (15, 15), (16, 16)] 2 rfl ⟨rfl, rfl, rfl, rfl, trivial⟩ ⟨.inl ⟨3, _, rfl, weak_same⟩, .inl ⟨4, _, rfl, weak_same⟩, .inl ⟨0, _, rfl, weak_same⟩, .inl ⟨1, _, rfl, weak_slim rfl⟩, trivial⟩
        ·
         replace e77 := cond_f hb81 e77
         refine s_exit ?_
         refine x_then_exit ?_
         refine x_out e77 (fun e85 => ?_)
         subst e85
         refine x_block_exit ?_
         refine x_block ?_
         exact x_join y75 [(14, 14), (15, 15), (16, 16)] 2 rfl ⟨rfl, rfl, trivial⟩ ⟨.inl ⟨0, _, rfl, weak_same⟩, .inl ⟨1, _, rfl, weak_same⟩, .inl ⟨2, _, rfl, weak_same⟩, .inl ⟨3, _, rfl, weak_slim rfl⟩, trivial⟩
       ·
        replace e12 := cond_f hb73 e12
        refine s_seq ?_
        refine s_region ?_
        refine s_pure (p_eql rfl rfl rfl) rfl rfl rfl ?_
        refine s_pure (p_assign (v := .bool (r14 == 5)) rfl rfl) rfl rfl rfl ?_
        refine s_nil ?_
        refine x_then ?_
        refine s_cond rfl (fun hb86 => ?_) (fun hb86 => ?_)
        ·
         replace e12 := cond_t hb86 e12
         refine s_seq ?_
         refine s_region ?_
         refine s_pure (p_move (v := .int .i64 (((([] : List (List Int)) ++ x0).length : Int))) rfl rfl) rfl rfl rfl ?_
         refine s_pure (p_gtr rfl rfl rfl) rfl rfl rfl ?_
         refine s_nil ?_
         refine x_then ?_
         refine s_cond rfl (fun hb87 => ?_) (fun hb87 => ?_)
         ·
          replace e12 := cond_t hb87 e12
          obtain ⟨x88, e89, e12⟩ := bind_some e12
          obtain ⟨x90, e91, e12⟩ := bind_some e12
          obtain ⟨x92, e93, e12⟩ := bind_some e12
          refine s_draw Try.mixed [⟨true, 114, [], Unit, fun _ => .pointer (some ⟨b7, 0, none⟩), fun _ => [], [], [], []⟩, ⟨true, 115, [0], Unit, fun _ => Hd.val y19, fun _ => [], [], [], []⟩, ⟨true, 116, [], Unit, fun _ => .int .i64 (r8), fun _ => [], [], [], []⟩, ⟨true, 117, [], Unit, fun _ => .pointer (some ⟨b7, 0, none⟩), fun _ => [], [], [], []⟩, ⟨true, 118, [3], Unit, fun _ => Hd.val y19, fun _ => [], [], [], []⟩, ⟨true, 119, [], Unit, fun _ => .int .i64 (((([] : List (List Int)) ++ x0).length : Int)), fun _ => [], [], [], []⟩, ⟨true, 120, [5], Unit, fun _ => .int .i64 (w64 (((([] : List (List Int)) ++ x0).length : Int) - 1)), fun _ => [], [], [], []⟩, ⟨true, 121, [], Unit, fun _ => .pointer (some ⟨b7, 0, none⟩), fun _ => [], [], [], []⟩, ⟨true, 122, [7], Unit, fun _ => Hd.val y19, fun _ => [], [], [], []⟩, ⟨true, 123, [], Unit, fun _ => .int .i64 (((([] : List (List Int)) ++ x0).length : Int)), fun _ => [], [], [], []⟩, ⟨true, 124, [9], Unit, fun _ => .int .i64 (w64 (((([] : List (List Int)) ++ x0).length : Int) - 1)), fun _ => [], [], [], []⟩, ⟨true, 125, [8, 10], Unit, fun _ => .pointer (some (pat y19 ((w64 (((([] : List (List Int)) ++ x0).length : Int) - 1)).toNat * 16))), fun _ => [], [], [], []⟩, ⟨true, 126, [11], Unit, fun _ => .agg (((tA 16 .u8).fill x88 ())).toArray, fun _ => [], [], [], []⟩, ⟨true, 127, [], Unit, fun _ => .pointer (some ⟨b7, 0, none⟩), fun _ => [], [], [], []⟩, ⟨true, 128, [13], Unit, fun _ => Hd.val y19, fun _ => [], [], [], []⟩, ⟨true, 129, [], Unit, fun _ => .int .i64 (r8), fun _ => [], [], [], []⟩, ⟨true, 130, [14, 15], Unit, fun _ => .pointer (some (pat y19 (r8.toNat * 16))), fun _ => [], [], [], []⟩, ⟨true, 131, [16], Unit, fun _ => .agg (((tA 16 .u8).fill x90 ())).toArray, fun _ => [], [], [], []⟩, ⟨true, 132, [1, 2], Unit, fun _ => .pointer (some (pat y19 (r8.toNat * 16))), fun _ => [], [], [], []⟩, ⟨true, 154, [18, 12], Unit, fun _ => undef, fun _ => [.own (tA 16 .u8) 52 15 [] (r17.2.set r8.toNat x88) y19], [15], [], []⟩] [[], [0], [], [], [3], [], [5], [], [7], [], [9], [7, 8, 9, 10], [7, 8, 9, 10, 11], [], [13], [], [13, 14, 15], [13, 14, 15, 16], [0, 1, 2, 7, 8, 9, 10, 11, 12, 13, 14, 15, 16, 17], [0, 1, 2, 7, 8, 9, 10, 11, 12, 13, 14, 15, 16, 17, 18], [0, 1, 2, 3, 4, 5, 6, 7, 8, 9, 10, 11, 12, 13, 14, 15, 16, 17, 18, 19], [0, 1, 2, 3, 4, 5, 6, 7, 8, 9, 10, 11, 12, 13, 14, 15, 16, 17, 18, 19, 20]] rfl rfl rfl rfl rfl ⟨.inl rfl, .inl rfl, .inl rfl, .inl rfl, .inl rfl, .inl rfl, .inl rfl, .inl rfl, .inl rfl, .inl rfl, .inl rfl, .inl rfl, .inl rfl, .inl rfl, .inl rfl, .inl rfl, .inl rfl, .inl rfl, .inl rfl, .inr ⟨.inr fun _ => rfl, .inr fun _ => rfl, .inr fun _ => rfl, .inr fun _ => rfl, .inr fun _ => rfl, .inr fun _ => rfl, .inr fun _ => rfl, .inr fun _ => rfl, .inr fun _ => rfl, .inr fun _ => rfl, .inr fun _ => rfl, .inr fun _ => rfl, .inr fun _ => rfl, .inr fun _ => rfl, .inr fun _ => rfl, .inr fun _ => rfl, .inr fun _ => rfl, .inr fun _ => rfl, .inr fun _ => rfl, .inl rfl, trivial⟩, trivial⟩ ?_ [4, 6, 17, 19] rfl rfl (fun us => ?_)
          ·
           refine all_cons [.old w S, .box 14 b3 [Hd.val (nilH 52)], .box 16 b7 [Hd.val y19], .own (tA 16 .u8) 52 15 [] r17.2 y19] rfl (dst_some rfl rfl) rfl rfl rfl rfl (gd_none rfl rfl) (fun _ => ?_) ?_
           ·
            refine ob_nil rfl ?_
            exact PureOk.op (p_fieldAddr (fo := 0) rfl Try.underlying25 rfl Try.ti23 rfl rfl rfl)
           refine all_cons [.old w S, .box 14 b3 [Hd.val (nilH 52)], .box 16 b7 [Hd.val y19], .own (tA 16 .u8) 52 15 [] r17.2 y19] rfl (dst_some rfl rfl) rfl rfl rfl rfl (gd_none rfl rfl) (fun _ => ?_) ?_
           ·
            refine ob_one rfl rfl (fun _ => ?_)
            refine ob_nil rfl ?_
            exact PureOk.op (p_load_box (v := Hd.val y19) 2 rfl rfl Try.underlying23 rfl rfl rfl)
           refine all_cons [.old w S, .box 14 b3 [Hd.val (nilH 52)], .box 16 b7 [Hd.val y19], .own (tA 16 .u8) 52 15 [] r17.2 y19] rfl (dst_some rfl rfl) rfl rfl rfl rfl (gd_none rfl rfl) (fun _ => ?_) ?_
           ·
            refine ob_nil rfl ?_
            exact PureOk.op (p_move (v := .int .i64 (r8)) rfl rfl)
           refine all_cons [.old w S, .box 14 b3 [Hd.val (nilH 52)], .box 16 b7 [Hd.val y19]] rfl (dst_some rfl rfl) rfl rfl rfl rfl (gd_none rfl rfl) (fun _ => ?_) ?_
           ·
            refine ob_nil rfl ?_
            exact PureOk.op (p_fieldAddr (fo := 0) rfl Try.underlying25 rfl Try.ti23 rfl rfl rfl)
           refine all_cons [.old w S, .box 14 b3 [Hd.val (nilH 52)], .box 16 b7 [Hd.val y19]] rfl (dst_some rfl rfl) rfl rfl rfl rfl (gd_none rfl rfl) (fun _ => ?_) ?_
           ·
            refine ob_one rfl rfl (fun _ => ?_)
            refine ob_nil rfl ?_
            exact PureOk.op (p_load_box (v := Hd.val y19) 2 rfl rfl Try.underlying23 rfl rfl rfl)
           refine all_cons [.old w S, .box 14 b3 [Hd.val (nilH 52)], .box 16 b7 [Hd.val y19]] rfl (dst_some rfl rfl) rfl rfl rfl rfl (gd_none rfl rfl) (fun _ => ?_) ?_
           ·
            refine ob_nil rfl ?_
            exact PureOk.op (p_move (v := .int .i64 (((([] : List (List Int)) ++ x0).length : Int))) rfl rfl)
           refine all_cons [.old w S, .box 14 b3 [Hd.val (nilH 52)], .box 16 b7 [Hd.val y19]] rfl (dst_some rfl rfl) rfl rfl rfl rfl (gd_none rfl rfl) (fun _ => ?_) ?_
           ·
            refine ob_one rfl rfl (fun _ => ?_)
            refine ob_nil rfl ?_
            exact PureOk.op (p_sub rfl rfl rfl)
           refine all_cons [.old w S, .box 14 b3 [Hd.val (nilH 52)], .box 16 b7 [Hd.val y19], .own (tA 16 .u8) 52 15 [] r17.2 y19] rfl (dst_some rfl rfl) rfl rfl rfl rfl (gd_none rfl rfl) (fun _ => ?_) ?_
           ·
            refine ob_nil rfl ?_
            exact PureOk.op (p_fieldAddr (fo := 0) rfl Try.underlying25 rfl Try.ti23 rfl rfl rfl)
           refine all_cons [.old w S, .box 14 b3 [Hd.val (nilH 52)], .box 16 b7 [Hd.val y19], .own (tA 16 .u8) 52 15 [] r17.2 y19] rfl (dst_some rfl rfl) rfl rfl rfl rfl (gd_none rfl rfl) (fun _ => ?_) ?_
           ·
            refine ob_one rfl rfl (fun _ => ?_)
            refine ob_nil rfl ?_
            exact PureOk.op (p_load_box (v := Hd.val y19) 2 rfl rfl Try.underlying23 rfl rfl rfl)
           refine all_cons [.old w S, .box 14 b3 [Hd.val (nilH 52)], .box 16 b7 [Hd.val y19], .own (tA 16 .u8) 52 15 [] r17.2 y19] rfl (dst_some rfl rfl) rfl rfl rfl rfl (gd_none rfl rfl) (fun _ => ?_) ?_
           ·
            refine ob_nil rfl ?_
            exact PureOk.op (p_move (v := .int .i64 (((([] : List (List Int)) ++ x0).length : Int))) rfl rfl)
           refine all_cons [.old w S, .box 14 b3 [Hd.val (nilH 52)], .box 16 b7 [Hd.val y19], .own (tA 16 .u8) 52 15 [] r17.2 y19] rfl (dst_some rfl rfl) rfl rfl rfl rfl (gd_none rfl rfl) (fun _ => ?_) ?_
           ·
            refine ob_one rfl rfl (fun _ => ?_)
            refine ob_nil rfl ?_
            exact PureOk.op (p_sub rfl rfl rfl)
           refine all_cons [.old w S, .box 14 b3 [Hd.val (nilH 52)], .box 16 b7 [Hd.val y19], .own (tA 16 .u8) 52 15 [] r17.2 y19] rfl (dst_some rfl rfl) rfl rfl rfl rfl (gd_none rfl rfl) (fun _ => ?_) ?_
           ·
            refine ob_one rfl rfl (fun _ => ?_)
            refine ob_one rfl rfl (fun _ => ?_)
            refine ob_nil rfl ?_
            exact PureOk.op (p_idx_own (h := y19) (i := w64 (((([] : List (List Int)) ++ x0).length : Int) - 1)) (ty := (tA 16 .u8)) (xs := r17.2) (v := x88) 3 rfl rfl Try.underlying23 Try.ti52 rfl rfl e89)
           refine all_cons [.old w S, .box 14 b3 [Hd.val (nilH 52)], .box 16 b7 [Hd.val y19], .own (tA 16 .u8) 52 15 [] r17.2 y19] rfl (dst_some rfl rfl) rfl rfl rfl rfl (gd_none rfl rfl) (fun _ => ?_) ?_
           ·
            refine ob_one rfl rfl (fun _ => ?_)
            refine ob_nil rfl ?_
            exact PureOk.op (p_loadA_at (X := (w64 (((([] : List (List Int)) ++ x0).length : Int) - 1)).toNat * 16) (el_own (ty := (tA 16 .u8)) (xs := r17.2) (h := y19) (i := w64 (((([] : List (List Int)) ++ x0).length : Int) - 1)) (v := x88) (sz := 16) 3 rfl rfl e89) rfl Try.underlying52 rfl Try.ti52 rfl rfl)
           refine all_cons [.old w S, .box 14 b3 [Hd.val (nilH 52)], .box 16 b7 [Hd.val y19], .own (tA 16 .u8) 52 15 [] r17.2 y19] rfl (dst_some rfl rfl) rfl rfl rfl rfl (gd_none rfl rfl) (fun _ => ?_) ?_
           ·
            refine ob_nil rfl ?_
            exact PureOk.op (p_fieldAddr (fo := 0) rfl Try.underlying25 rfl Try.ti23 rfl rfl rfl)
           refine all_cons [.old w S, .box 14 b3 [Hd.val (nilH 52)], .box 16 b7 [Hd.val y19], .own (tA 16 .u8) 52 15 [] r17.2 y19] rfl (dst_some rfl rfl) rfl rfl rfl rfl (gd_none rfl rfl) (fun _ => ?_) ?_
           ·
            refine ob_one rfl rfl (fun _ => ?_)
            refine ob_nil rfl ?_
            exact PureOk.op (p_load_box (v := Hd.val y19) 2 rfl rfl Try.underlying23 rfl rfl rfl)
           refine all_cons [.old w S, .box 14 b3 [Hd.val (nilH 52)], .box 16 b7 [Hd.val y19], .own (tA 16 .u8) 52 15 [] r17.2 y19] rfl (dst_some rfl rfl) rfl rfl rfl rfl (gd_none rfl rfl) (fun _ => ?_) ?_
           ·
            refine ob_nil rfl ?_
            exact PureOk.op (p_move (v := .int .i64 (r8)) rfl rfl)
           refine all_cons [.old w S, .box 14 b3 [Hd.val (nilH 52)], .box 16 b7 [Hd.val y19], .own (tA 16 .u8) 52 15 [] r17.2 y19] rfl (dst_some rfl rfl) rfl rfl rfl rfl (gd_none rfl rfl) (fun _ => ?_) ?_
           ·
            refine ob_one rfl rfl (fun _ => ?_)
            refine ob_one rfl rfl (fun _ => ?_)
            refine ob_nil rfl ?_
            exact PureOk.op (p_idx_own (h := y19) (i := r8) (ty := (tA 16 .u8)) (xs := r17.2) (v := x90) 3 rfl rfl Try.underlying23 Try.ti52 rfl rfl e91)
           refine all_cons [.old w S, .box 14 b3 [Hd.val (nilH 52)], .box 16 b7 [Hd.val y19], .own (tA 16 .u8) 52 15 [] r17.2 y19] rfl (dst_some rfl rfl) rfl rfl rfl rfl (gd_none rfl rfl) (fun _ => ?_) ?_
           ·
            refine ob_one rfl rfl (fun _ => ?_)
            refine ob_nil rfl ?_
            exact PureOk.op (p_loadA_at (X := r8.toNat * 16) (el_own (ty := (tA 16 .u8)) (xs := r17.2) (h := y19) (i := r8) (v := x90) (sz := 16) 3 rfl rfl e91) rfl Try.underlying52 rfl Try.ti52 rfl rfl)
           refine all_cons [.old w S, .box 14 b3 [Hd.val (nilH 52)], .box 16 b7 [Hd.val y19], .own (tA 16 .u8) 52 15 [] r17.2 y19] rfl (dst_some rfl rfl) rfl rfl rfl rfl (gd_none rfl rfl) (fun _ => ?_) ?_
           ·
            refine ob_one rfl rfl (fun _ => ?_)
            refine ob_one rfl rfl (fun _ => ?_)
            refine ob_nil rfl ?_
            exact PureOk.op (p_idx_own (h := y19) (i := r8) (ty := (tA 16 .u8)) (xs := r17.2) (v := x92) 3 rfl rfl Try.underlying23 Try.ti52 rfl rfl e93)
           refine all_cons [.old w S, .box 14 b3 [Hd.val (nilH 52)], .box 16 b7 [Hd.val y19], .own (tA 16 .u8) 52 15 [] r17.2 y19] rfl (dst_none rfl rfl (fun _ => rfl)) rfl rfl rfl rfl (gd_none rfl rfl) (fun _ => ?_) ?_
           ·
            refine ob_one rfl rfl (fun _ => ?_)
            refine ob_one rfl rfl (fun _ => ?_)
            refine ob_nil rfl ?_
            exact ok_store_own (X := r8.toNat * 16) (i := r8) (esz := 16) (ty := (tA 16 .u8)) (xs := r17.2) (v := x92) (v' := x88) (new := ((tA 16 .u8).fill x88 ())) (h := y19) 3 rfl rfl Try.ti52 rfl (by omega) rfl e93 rfl rfl rfl (set_all (v' := x88)) rfl
           exact all_nil
          ·
           refine fin_base [.old w S, .box 14 b3 [Hd.val (nilH 52)], .box 16 b7 [Hd.val y19]] rfl ?_
           refine fin_one rfl rfl (fun _ => ?_)
           refine fin_one rfl rfl (fun _ => ?_)
           refine fin_one rfl rfl (fun _ => ?_)
           refine fin_one rfl rfl (fun _ => ?_)
           refine fin_nil ?_
           obtain ⟨x114, e115, e12⟩ := bind_some e12
           refine s_pure (p_idx_own (h := y19) (i := w64 (((([] : List (List Int)) ++ x0).length : Int) - 1)) (ty := (tA 16 .u8)) (xs := r17.2.set r8.toNat x88) (v := x114) 0 rfl rfl Try.underlying23 Try.ti52 rfl rfl e115) rfl rfl rfl ?_
           refine s_opn (ok_store_own (X := (w64 (((([] : List (List Int)) ++ x0).length : Int) - 1)).toNat * 16) (i := w64 (((([] : List (List Int)) ++ x0).length : Int) - 1)) (esz := 16) (ty := (tA 16 .u8)) (xs := r17.2.set r8.toNat x88) (v := x114) (v' := x90) (new := ((tA 16 .u8).fill x90 ())) (h := y19) 0 rfl rfl Try.ti52 rfl (by omega) rfl e115 rfl rfl rfl (set_all (v' := x90)) rfl) rfl rfl rfl (fun _ => ?_)
           refine s_nil ?_
           refine x_block ?_
           replace e12 := some_inj e12
           subst e12
           exact x_join y19 [(14, 14), (15, 15), (16, 16)] 2 rfl ⟨rfl, rfl, trivial⟩ ⟨.inl ⟨1, _, rfl, weak_same⟩, .inl ⟨2, _, rfl, weak_same⟩, .inl ⟨3, _, rfl, weak_same⟩, .inl ⟨0, _, rfl, weak_slim rfl⟩, trivial⟩
         ·
          replace e12 := cond_f hb87 e12
          refine s_skip ?_
          refine x_block ?_
          replace e12 := some_inj e12
          subst e12
          exact x_join y19 [(14, 14), (15, 15), (16, 16)] 2 rfl ⟨rfl, rfl, trivial⟩ ⟨.inl ⟨0, _, rfl, weak_same⟩, .inl ⟨1, _, rfl, weak_same⟩, .inl ⟨2, _, rfl, weak_same⟩, .inl ⟨3, _, rfl, weak_slim rfl⟩, trivial⟩
        ·
         replace e12 := cond_f hb86 e12
         refine s_seq ?_
         refine s_region ?_
         refine s_pure (p_assign (v := .int .i64 (0)) rfl rfl) rfl rfl rfl ?_
         refine s_nil ?_
         refine x_then ?_
         refine s_block ?_
         refine sim_loop (fun (s116 : Int × (List (List Int))) (y117 : Hd) => [(6, .pointer (some ⟨b3, 0, none⟩)), (7, .pointer (some ⟨b7, 0, none⟩)), (8, .int .i64 (((([] : List (List Int)) ++ x0).length : Int))), (12, .int .i64 (s116.1))]) (fun (s116 : Int × (List (List Int))) (y117 : Hd) => [.old w S, .box 14 b3 [Hd.val (nilH 52)], .box 16 b7 [Hd.val y117], .own (tA 16 .u8) 52 15 [] s116.2 y117]) y19 e12 [(14, 14), (15, 15), (16, 16)] 2 rfl ⟨rfl, rfl, rfl, rfl, trivial⟩ ⟨.inl ⟨0, _, rfl, weak_same⟩, .inl ⟨1, _, rfl, weak_same⟩, .inl ⟨2, _, rfl, weak_same⟩, .inl ⟨3, _, rfl, weak_slim rfl⟩, trivial⟩ ?_
         intro s116 y117 ρ' z118 e119
         refine s_seq ?_
         refine s_seq ?_
         refine s_region ?_
         refine s_pure (p_move (v := .int .i64 (s116.1)) rfl rfl) rfl rfl rfl ?_
         refine s_pure (p_move (v := .int .i64 (((([] : List (List Int)) ++ x0).length : Int))) rfl rfl) rfl rfl rfl ?_
         refine s_pure (p_lss rfl rfl rfl) rfl rfl rfl ?_
         refine s_nil ?_
         refine x_then ?_
         refine s_cond rfl (fun hb120 => ?_) (fun hb120 => ?_)
         ·
          replace e119 := cond_t hb120 e119
          refine s_skip ?_
          refine x_then ?_
          refine s_seq ?_
          refine s_block ?_
          obtain ⟨x121, e122, e119⟩ := bind_some e119
          obtain ⟨c123, e119⟩ := chk_some e119
          obtain ⟨x124, e125, e119⟩ := bind_some e119
          refine s_draw Try.mixed [⟨true, 32, [], Unit, fun _ => .pointer (some ⟨b7, 0, none⟩), fun _ => [], [], [], []⟩, ⟨true, 33, [0], Unit, fun _ => Hd.val y117, fun _ => [], [], [], []⟩, ⟨true, 34, [], Unit, fun _ => .int .i64 (s116.1), fun _ => [], [], [], []⟩, ⟨true, 35, [1, 2], Unit, fun _ => .pointer (some (pat y117 (s116.1.toNat * 16))), fun _ => [], [], [], []⟩, ⟨true, 36, [3], Unit, fun _ => .pointer (some (pat y117 (s116.1.toNat * 16 + (1 : Int).toNat))), fun _ => [], [], [], []⟩, ⟨true, 37, [4], Unit, fun _ => .int .u8 (x121.getD (1 : Int).toNat 0), fun _ => [], [], [], []⟩, ⟨true, 38, [5], Unit, fun _ => .int .u8 (IntKind.u8.wrap ((x121.getD (1 : Int).toNat 0) + 1)), fun _ => [], [], [], []⟩, ⟨true, 39, [1, 2], Unit, fun _ => .pointer (some (pat y117 (s116.1.toNat * 16))), fun _ => [], [], [], []⟩] [[], [0], [], [0, 1, 2], [0, 1, 2, 3], [0, 1, 2, 3, 4], [0, 1, 2, 3, 4, 5], [0, 1, 2], [0, 1, 2, 3, 4, 5, 6, 7], [0, 1, 2, 3, 4, 5, 6, 7, 8]] rfl rfl rfl rfl rfl ⟨.inl rfl, .inl rfl, .inl rfl, .inl rfl, .inl rfl, .inl rfl, .inl rfl, .inl rfl, trivial⟩ ?_ [6, 7] rfl rfl (fun us => ?_)
          ·
           refine all_cons _ (base_nil rfl) (dst_some rfl rfl) rfl rfl rfl rfl (gd_none rfl rfl) (fun _ => ?_) ?_
           ·
            refine ob_nil rfl ?_
            exact PureOk.op (p_fieldAddr (fo := 0) rfl Try.underlying25 rfl Try.ti23 rfl rfl rfl)
           refine all_cons _ (base_nil rfl) (dst_some rfl rfl) rfl rfl rfl rfl (gd_none rfl rfl) (fun _ => ?_) ?_
           ·
            refine ob_one rfl rfl (fun _ => ?_)
            refine ob_nil rfl ?_
            exact PureOk.op (p_load_box (v := Hd.val y117) 2 rfl rfl Try.underlying23 rfl rfl rfl)
           refine all_cons _ (base_nil rfl) (dst_some rfl rfl) rfl rfl rfl rfl (gd_none rfl rfl) (fun _ => ?_) ?_
           ·
            refine ob_nil rfl ?_
            exact PureOk.op (p_move (v := .int .i64 (s116.1)) rfl rfl)
           refine all_cons _ (base_nil rfl) (dst_some rfl rfl) rfl rfl rfl rfl (gd_none rfl rfl) (fun _ => ?_) ?_
           ·
            refine ob_one rfl rfl (fun _ => ?_)
            refine ob_one rfl rfl (fun _ => ?_)
            refine ob_nil rfl ?_
            exact PureOk.op (p_idx_own (h := y117) (i := s116.1) (ty := (tA 16 .u8)) (xs := s116.2) (v := x121) 3 rfl rfl Try.underlying23 Try.ti52 rfl rfl e122)
           refine all_cons _ (base_nil rfl) (dst_some rfl rfl) rfl rfl rfl rfl (gd_none rfl rfl) (fun _ => ?_) ?_
           ·
            refine ob_one rfl rfl (fun _ => ?_)
            refine ob_nil rfl ?_
            exact PureOk.op (p_idx_arr (i := 1) (n := 16) (X := s116.1.toNat * 16) (el_own (ty := (tA 16 .u8)) (xs := s116.2) (h := y117) (i := s116.1) (v := x121) (sz := 16) 3 rfl rfl e122) rfl Try.underlying52 Try.ti5 rfl rfl c123)
           refine all_cons _ (base_nil rfl) (dst_some rfl rfl) rfl rfl rfl rfl (gd_none rfl rfl) (fun _ => ?_) ?_
           ·
            refine ob_one rfl rfl (fun _ => ?_)
            refine ob_nil rfl ?_
            exact PureOk.op (p_load_at (X := s116.1.toNat * 16 + (1 : Int).toNat) (el_arr (i := 1) (el_own (ty := (tA 16 .u8)) (xs := s116.2) (h := y117) (i := s116.1) (v := x121) (sz := 16) 3 rfl rfl e122) c123) rfl Try.underlying5 rfl rfl)
           refine all_cons _ (base_nil rfl) (dst_some rfl rfl) rfl rfl rfl rfl (gd_none rfl rfl) (fun _ => ?_) ?_
           ·
            refine ob_one rfl rfl (fun _ => ?_)
            refine ob_nil rfl ?_
            exact PureOk.op (p_add rfl rfl rfl)
           refine all_cons _ (base_nil rfl) (dst_some rfl rfl) rfl rfl rfl rfl (gd_none rfl rfl) (fun _ => ?_) ?_
           ·
            refine ob_one rfl rfl (fun _ => ?_)
            refine ob_one rfl rfl (fun _ => ?_)
            refine ob_nil rfl ?_
            exact PureOk.op (p_idx_own (h := y117) (i := s116.1) (ty := (tA 16 .u8)) (xs := s116.2) (v := x124) 3 rfl rfl Try.underlying23 Try.ti52 rfl rfl e125)
           exact all_nil
          ·
           refine fin_base _ (base_nil rfl) ?_
           refine fin_one rfl rfl (fun _ => ?_)
           refine fin_one rfl rfl (fun _ => ?_)
           refine fin_nil ?_
           obtain ⟨c134, e119⟩ := chk_some e119
           refine s_pure (p_idx_arr (i := 1) (n := 16) (X := s116.1.toNat * 16) (el_own (ty := (tA 16 .u8)) (xs := s116.2) (h := y117) (i := s116.1) (v := x124) (sz := 16) 3 rfl rfl e125) rfl Try.underlying52 Try.ti5 rfl rfl c134) rfl rfl rfl ?_
           refine s_opn (ok_store_own (X := s116.1.toNat * 16 + (1 : Int).toNat) (i := s116.1) (esz := 16) (ty := (tA 16 .u8)) (xs := s116.2) (v := x124) (v' := arrSet 16 0 x124 (1 : Int).toNat (IntKind.u8.wrap ((x121.getD (1 : Int).toNat 0) + 1))) (new := [.int .u8 (IntKind.u8.wrap ((x121.getD (1 : Int).toNat 0) + 1))]) (h := y117) 3 rfl rfl Try.ti5 rfl (by omega) rfl e125 rfl rfl rfl (set_arr (x := IntKind.u8.wrap ((x121.getD (1 : Int).toNat 0) + 1)) (i := 1) c134) rfl) rfl rfl rfl (fun _ => ?_)
           refine s_nil ?_
           refine x_block ?_
           refine x_then ?_
           refine s_region ?_
           refine s_pure (p_move (v := .int .i64 (s116.1)) rfl rfl) rfl rfl rfl ?_
           refine s_pure (p_add rfl rfl rfl) rfl rfl rfl ?_
           refine s_pure (p_assign (v := .int .i64 (w64 (s116.1 + 2))) rfl rfl) rfl rfl rfl ?_
           refine s_nil ?_
           exact x_next y117 e119 [(14, 14), (15, 15), (16, 16)] 2 rfl ⟨rfl, rfl, rfl, rfl, trivial⟩ ⟨.inl ⟨1, _, rfl, weak_same⟩, .inl ⟨2, _, rfl, weak_same⟩, .inl ⟨3, _, rfl, weak_same⟩, .inl ⟨0, _, rfl, weak_slim rfl⟩, trivial⟩
         ·
          replace e119 := cond_f hb120 e119
          refine s_exit ?_
          refine x_then_exit ?_
          refine x_out e119 (fun e135 => ?_)
          subst e135
          refine x_block_exit ?_
          refine x_block ?_
          exact x_join y117 [(14, 14), (15, 15), (16, 16)] 2 rfl ⟨rfl, rfl, trivial⟩ ⟨.inl ⟨0, _, rfl, weak_same⟩, .inl ⟨1, _, rfl, weak_same⟩, .inl ⟨2, _, rfl, weak_same⟩, .inl ⟨3, _, rfl, weak_slim rfl⟩, trivial⟩
  ·
   intro y13 ρ'
   refine s_seq ?_
   refine s_region ?_
   refine s_pure (p_loadN_box (cs' := [Hd.val y13]) 2 rfl rfl Try.underlying25 rfl Try.ti25 rfl rfl rfl) rfl rfl rfl ?_
   refine s_opn (ok_store_box (v := .agg ([Hd.val y13]).toArray) (vs := [Hd.val y13]) (cs' := [Hd.val y13]) 1 rfl rfl Try.ti25 rfl rfl rfl rfl rfl rfl rfl) rfl rfl rfl (fun _ => ?_)
   refine s_nil ?_
   refine x_then ?_
   refine s_ret ?_
   replace hF := some_inj hF
   subst hF
   exact x_ret y13 (res_one rfl (ra_cellN (cs := [Hd.val y13]) 0 rfl Try.underlying25 rfl Try.ti25 rfl rfl)) rfl 1 rfl [(15, 2)] 2 rfl ⟨.inl ⟨3, _, rfl, weak_slim rfl⟩, trivial⟩

end Go.Proofs.Ytimljgafbpbceaa
