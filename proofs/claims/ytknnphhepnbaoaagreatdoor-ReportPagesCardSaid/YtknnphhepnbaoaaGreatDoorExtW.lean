/-
  report.Page keeps its contract, if report.Print does. No condition.
-/
import Derived.Test.YtknnphhepnbaoaaGreatDoorExt
import Derived.Test.YtknnphhepnbaoaaGreatDoorExtPg
import Derived.WalkKit
import Derived.BigCall
namespace Go.Proofs.YtknnphhepnbaoaaGreatDoor
open Go.Sm Go.RowKit
theorem writeS (B b : Nat) (bs : List Value) (s : ByteArray) (w : World) (h : Lib.IsBuilder 118 5 B b bs w) (hlen : bs.length + s.size ≤ 140737488355328) (hBw : B ≤ w.heap.size) :
    Calls Tryz.prog 80 #[.pointer (some ⟨b, 0, none⟩), .string s] w fun e w' => e = .returned (.tuple #[.int .i64 s.size, .nilIface]) ∧ (Lib.BuilderAt 118 5 B b (.pointer (some ⟨b, 0, none⟩)) (bs ++ Lib.strCells s) w' ∧ Below B w w') := Any.Builder_WriteString (P := Tryz.prog) (ρ := Tryz.lays156_ren) { Tryz.lays156 with } Tryz.Builder_Extra_156 B b bs s w h hlen hBw
theorem stringS (B b : Nat) (l : List UInt8) (w : World) (h : Lib.IsBuilder 118 5 B b (Lib.byteCells l) w) (hBw : B ≤ w.heap.size) :
    Calls Tryz.prog 82 #[.pointer (some ⟨b, 0, none⟩)] w fun e w' => e = .returned (.string ⟨l.toArray⟩) ∧ Below B w w' := Any.Builder_String_any (P := Tryz.prog) (ρ := Tryz.lays156_ren) { Tryz.lays156 with } Tryz.Builder_Extra_156 B b l w h hBw
theorem isB_of {T e B b : Nat} {bs : List Value} {w W : World} (h : Lib.IsBuilder T e B b bs w) (k : Below w.heap.size w W) : Lib.IsBuilder T e B b bs W := by
  have at_ : ∀ {p : Value}, Lib.BuilderAt T e B b p bs w → Lib.BuilderAt T e B b p bs W := by
    rintro p ⟨hB, v, hb, ⟨h1, h2⟩, hne⟩
    refine ⟨hB, v, (k.block b (Array.getElem?_eq_some_iff.1 hb).1).trans hb, ⟨h1, ?_⟩, hne⟩
    rcases h2 with h2 | ⟨g, cap, cur, hv, hg, hc, r⟩
    · exact .inl h2
    · exact .inr ⟨g, cap, cur, hv, hg, (k.block g (Array.getElem?_eq_some_iff.1 hc).1).trans hc, r⟩
  exact h.imp at_ at_
def Rnd (I : Nat → List UInt8 → Prop) (res : List UInt8 × Int) (b off k : Nat) (acc : List UInt8) (wr : World) : Prop :=
  ∃ (i0 : Int) (s0 : ByteArray) (h1 h2 : Hd) (i1 : Int) (h3 h4 : Hd) (e : Int),
    wr.cell? ⟨b, off + k * 7, none⟩ = some (.int .i64 i0) ∧ wr.cell? ⟨b, off + k * 7 + 1, none⟩ = some (.string s0) ∧
    wr.cell? ⟨b, off + k * 7 + 2, none⟩ = some (.slice h1.a h1.n h1.cap) ∧ wr.cell? ⟨b, off + k * 7 + 3, none⟩ = some (.slice h2.a h2.n h2.cap) ∧
    wr.cell? ⟨b, off + k * 7 + 4, none⟩ = some (.int .i64 i1) ∧ wr.cell? ⟨b, off + k * 7 + 5, none⟩ = some (.slice h3.a h3.n h3.cap) ∧
    wr.cell? ⟨b, off + k * 7 + 6, none⟩ = some (.slice h4.a h4.n h4.cap) ∧
    (∀ W, Below wr.heap.size wr W → Calls Tryz.prog 14 #[.agg #[.int .i64 i0, .string s0, .slice h1.a h1.n h1.cap, .slice h2.a h2.n h2.cap, .int .i64 i1, .slice h3.a h3.n h3.cap, .slice h4.a h4.n h4.cap]] W fun en W' =>
      ∃ hd : Hd, en = .returned (.tuple #[.slice hd.a hd.n hd.cap, .int .i64 e]) ∧ Below wr.heap.size wr W' ∧
        (e = 0 → Calls Tryz.prog 49 #[.slice hd.a hd.n hd.cap, .string ⟨#[10]⟩] W' fun en W'' => ∃ t : List UInt8, en = .returned (.string (B_ t)) ∧ Below wr.heap.size wr W'' ∧
          acc.length + (t.length + 2) ≤ 140737488355328 ∧ I (k + 1) (acc ++ (t ++ [10, 10])))) ∧ (e ≠ 0 → res = ([], e))
set_option maxHeartbeats 4000000 in
set_option maxRecDepth 100000 in
theorem page_walk (I : Nat → List UInt8 → Prop) (res : List UInt8 × Int) (b off n c : Nat) (w : World) (hI0 : n ≤ 64 → I 0 []) (hbig : 64 < n → res = ([], 4))
  (hend : ∀ acc, I n acc → res = bif Nat.ble 65537 acc.length then ([], 4) else (acc, 0))
  (hround : ∀ k acc wr, k < n → I k acc → Below w.heap.size w wr → Rnd I res b off k acc wr) :
  Calls Tryz.prog 30 #[.slice (some ⟨b, off, none⟩) n c] w fun e w' => e = .returned (.tuple #[.string (B_ res.1), .int .i64 res.2]) ∧ Below w.heap.size w w' := by
  have h0 : Lib.IsBuilder 118 5 w.heap.size w.heap.size [] (w.alloc (.cells #[.pointer none, .slice none 0 0] 118)) := Lib.fresh_isBuilder 118 5 w
  have b0 : Below w.heap.size w (w.alloc (.cells #[.pointer none, .slice none 0 0] 118)) := (Below.refl _ w).alloc (Nat.le_refl _) _
  go_enter Tryz.func30, Tryz.ntmps30
  go_wp2_with fail
  · rw [hbig (by have : (64 : Int) < (n : Int) := by assumption
                 omega)]
    clear hround hend hI0
    go_ret2
    exact ⟨rfl, Below.refl _ _⟩
  · have hn : n ≤ 64 := by
      have : (n : Int) ≤ 64 := by assumption
      omega
    go_loopw [14] (fun i wr => ∃ k acc, i = .int .i64 (k : Nat) ∧ k ≤ n ∧ I k acc ∧ Lib.IsBuilder 118 5 w.heap.size w.heap.size (Lib.byteCells acc) wr ∧ Below w.heap.size w wr) (fun i _ => n - (intOf i).toNat)
    case atStart => exact ⟨0, [], rfl, Nat.zero_le _, hI0 hn, h0, b0⟩
    case round =>
      obtain ⟨k, acc, rfl, hk, hI, hIs, hB⟩ := hrel
      clear h0 b0 hI0
      rcases Nat.lt_or_ge k n with hkn | hkn
      · obtain ⟨i0, s0, h1, h2, i1, h3, h4, en, c0, c1, c2, c3, c4, c5, c6, hP, hne⟩ := hround k acc wr hkn hI hB
        clear hround hend
        go_wp2_with (go_at_call 14; refine (hP _ ((Below.refl _ _).alloc (Nat.le_refl _) _)).mono ?_; rintro e W1 ⟨hd, rfl, hB1, hJ⟩)
        · have hen : en ≠ 0 := by
            have : (en != 0) = true := by assumption
            simpa using this
          rw [hne hen]
          go_ret2
          exact ⟨rfl, hB.trans (hB1.mono hB.size)⟩
        · have hen : en = 0 := by
            have : (en != 0) = false := by assumption
            simpa using this
          refine (hJ hen).mono ?_
          rintro e W2 ⟨t, rfl, hB2, hlen, hI2⟩
          have hI3 := isB_of hIs hB2
          have hs2 : w.heap.size ≤ W2.heap.size := Nat.le_trans hB.size hB2.size
          have hB4 := hB.trans (hB2.mono hB.size)
          have hsz : (Lib.byteCells acc).length + (B_ t ++ ⟨#[10, 10]⟩).size ≤ 140737488355328 := by
            rw [Lib.byteCells_length, ByteArray.size_append, B_size]
            exact hlen
          have hcs : Lib.byteCells acc ++ Lib.strCells (B_ t ++ ⟨#[10, 10]⟩) = Lib.byteCells (acc ++ (t ++ [10, 10])) := by
            rw [Lib.strCells_eq, ← Lib.byteCells_append]
            simp [B_]
          have hwr := writeS w.heap.size w.heap.size (Lib.byteCells acc) (B_ t ++ ⟨#[10, 10]⟩) W2 hI3 hsz hs2
          rw [hcs] at hwr
          clear hP hJ hne hsz hcs hI3 hs2 hB1 hB2 hIs
          go_wp2_with (go_at_call 80; refine hwr.mono ?_; rintro e W3 ⟨rfl, hA, hB3⟩)
          go_roundw
          case rel => exact ⟨k + 1, _, by go_num, hkn, hI2, Or.inr hA, hB4.trans hB3⟩
          case measure => simp [intOf]; omega
      · have hk : k = n := by omega
        subst hk
        have hE := hend acc hI
        clear hround hend
        have hL := Tryz.Builder_Len w.heap.size w.heap.size (Lib.byteCells acc) wr hIs
        have hS := stringS w.heap.size w.heap.size acc wr hIs hB.size
        rw [Lib.byteCells_length] at hL
        clear hIs hI
        go_wp2_with (first | (go_at_call 81; refine hL.mono ?_; rintro e W1 ⟨rfl, rfl⟩) | (go_at_call 82; refine hS.mono ?_; rintro e W1 ⟨rfl, hB1⟩))
        · have hl : 65536 < acc.length := by
            have : (65536 : Int) < (acc.length : Int) := by assumption
            omega
          rw [hE, show Nat.ble 65537 acc.length = true from Nat.ble_eq_true_of_le hl]
          go_ret2
          exact ⟨rfl, hB⟩
        · have hl : acc.length ≤ 65536 := by
            have : (acc.length : Int) ≤ 65536 := by assumption
            omega
          rw [hE, show Nat.ble 65537 acc.length = false from by
            cases hb : Nat.ble 65537 acc.length
            · rfl
            · have := Nat.le_of_ble_eq_true hb
              omega]
          go_ret2
          exact ⟨rfl, hB.trans hB1⟩
set_option maxHeartbeats 4000000 in
set_option maxRecDepth 100000 in
theorem page_walk0 (a : Option Addr) (c : Nat) (w : World) :
  Calls Tryz.prog 30 #[.slice a 0 c] w fun e w' => e = .returned (.tuple #[.string (B_ []), .int .i64 0]) ∧ Below w.heap.size w w' := by
  have h0 : Lib.IsBuilder 118 5 w.heap.size w.heap.size (Lib.byteCells []) (w.alloc (.cells #[.pointer none, .slice none 0 0] 118)) := Lib.fresh_isBuilder 118 5 w
  have b0 : Below w.heap.size w (w.alloc (.cells #[.pointer none, .slice none 0 0] 118)) := (Below.refl _ w).alloc (Nat.le_refl _) _
  have hL := Tryz.Builder_Len w.heap.size w.heap.size (Lib.byteCells []) _ h0
  have hS := stringS w.heap.size w.heap.size [] _ h0 b0.size
  clear h0
  go_enter Tryz.func30, Tryz.ntmps30
  go_wp2_with fail
  refine wp_loop_rounds 1 ?_
  rw [rounds_succ]
  go_wp2_with (first | (go_at_call 81; refine hL.mono ?_; rintro e W1 ⟨rfl, rfl⟩) | (go_at_call 82; refine hS.mono ?_; rintro e W1 ⟨rfl, hB1⟩))
  go_ret2
  exact ⟨rfl, b0.trans hB1⟩
variable [Vars]
set_option linter.unusedSectionVars false
theorem calls_all {P : Program} {f : FuncId} {C : Sig} {x : DenP C.ps} {r : DenL C.rs} (h : AtC P f C x r) {l : List Hd} (hl : l.length = nhP C.ps) {W : World} (hH : Heap W (fun _ => 1) (factsP C.ps x l 2 ++ GLH)) :
    Calls P f (valsP C.ps x l).toArray W fun e W' => ∃ (y : { y : List Hd // y.length = nhL C.rs }) (c' : Col), e = .returned (retV C.nr C.rs r y.1) ∧ Below W.heap.size W W' ∧ Heap W' c' ((resL C.rs r C.ms 0).map (AF.ha (ηL y.1)) ++ outF C.rs r y.1 C.nr (blks l C.bl) 130) :=
  (h.2 l hl W (fun _ => 1) hH).mono fun _ _ ⟨y, c', he, hs, hz, hb, _, hf⟩ => ⟨y, c', he, ⟨hs.1, hs.2.1, hs.2.2, hz, fun b hb' => (hb b hb' (Nat.le_refl 1)).1⟩, hf⟩
theorem glh_all {w W : World} {c : Col} {L : List HA} (hH : Heap w c (L ++ GLH)) (k : Below w.heap.size w W) : Heap W (fun _ => 1) GLH := by
  intro A hA
  have hA2 := hH A (List.mem_append_right _ hA)
  obtain ⟨e, he, rfl⟩ := List.mem_map.1 hA
  obtain ⟨⟨ty, fz, hb⟩, _, hn⟩ := hA2
  exact ⟨⟨ty, fz, (k.block _ (Array.getElem?_eq_some_iff.1 hb).1).trans hb⟩, Nat.le_refl 1, hn⟩
abbrev CPrint (pr : T_api_Verdict.den → Option (DenL [(.slice (.sc .str)), (.sc (.int .i64))])) : Ctr := ⟨⟨[.d T_api_Verdict], [(.slice (.sc .str)), (.sc (.int .i64))], 2, [], [⟨some 9, false, false⟩]⟩, pr⟩
abbrev CPage (pr : T_api_Verdict.den → Option (DenL [(.slice (.sc .str)), (.sc (.int .i64))])) : Ctr := ⟨⟨[.d (.slice T_api_Verdict)], [.sc .str, .sc (.int .i64)], 2, [], []⟩, fun x => xPage pr x⟩
theorem join_calls {s : List (List UInt8)} {t : List UInt8} (ht : xJoin s [10] = some t) {hd : Hd} {W : World} (hr : RepR W (fun _ => True) (.slice (TC.sc .str).ty) s hd) (hg : Heap W (fun _ => 1) GLH) :
    Calls Tryz.prog 49 #[.slice hd.a hd.n hd.cap, .string ⟨#[10]⟩] W fun e W' => e = .returned (.string (B_ t)) ∧ Below W.heap.size W W' := by
  have hH : Heap W (fun _ => 1) (factsP ctJoin.ps (s, [10]) [hd] 2 ++ GLH) := by
    refine Heap.append (Heap.cons ?_ (Heap.nil _ _)) hg
    exact RepR.keep (fun b hb _ => ⟨by simp, rfl⟩) _ _ _ hr
  refine (calls_all (ctJoin_ok (s, [10]) t ht) (l := [hd]) rfl hH).mono ?_
  rintro e W' ⟨y, c', he, hb, _⟩
  exact ⟨he, hb⟩
theorem print_calls {pr : T_api_Verdict.den → Option (DenL [(.slice (.sc .str)), (.sc (.int .i64))])} (h14 : (CPrint pr).sound Tryz.prog 14) {x : T_api_Verdict.den} {s : List (List UInt8)} {e : Int} (hx : pr x = some (s, e)) {y : T_api_Verdict.ty.Refs} {W : World}
    (hr : RepR W (fun _ => True) T_api_Verdict.ty x y) (hg : Heap W (fun _ => 1) GLH) :
    Calls Tryz.prog 14 #[.agg #[.int .i64 x.1, .string (B_ x.2.1), .slice y.2.2.1.a y.2.2.1.n y.2.2.1.cap, .slice y.2.2.2.1.a y.2.2.2.1.n y.2.2.2.1.cap, .int .i64 x.2.2.2.2.1, .slice y.2.2.2.2.2.1.a y.2.2.2.2.2.1.n y.2.2.2.2.2.1.cap, .slice y.2.2.2.2.2.2.a y.2.2.2.2.2.2.n y.2.2.2.2.2.2.cap]] W fun en W' =>
      ∃ hd : Hd, en = .returned (.tuple #[.slice hd.a hd.n hd.cap, .int .i64 e]) ∧ Below W.heap.size W W' ∧ RepR W' (fun _ => True) (.slice (TC.sc .str).ty) s hd := by
  have hH : Heap W (fun _ => 1) (factsP (CPrint pr).ps x [y.2.2.1, y.2.2.2.1, y.2.2.2.2.2.1, y.2.2.2.2.2.2] 2 ++ GLH) := by
    refine Heap.append ?_ hg
    exact facts_of T_api_Verdict.ty x y (RepR.keep (fun b hb _ => ⟨by simp, rfl⟩) _ _ _ hr)
  refine (calls_all (h14 x (s, e) hx) (l := [y.2.2.1, y.2.2.2.1, y.2.2.2.2.2.1, y.2.2.2.2.2.2]) rfl hH).mono ?_
  rintro en W' ⟨⟨l, hl⟩, c', he, hb, hf⟩
  obtain ⟨hd, rfl⟩ : ∃ hd, l = [hd] := by
    match l, hl with
    | [hd], _ => exact ⟨hd, rfl⟩
  refine ⟨hd, he, hb, ?_⟩
  have hA : HA.holds W' c' (.own (TC.sc .str).ty 9 2 [] s hd) := hf _ (by simp [resL, resT, AF.ha, ηL, RM.K, show Nat.ble 4194304 9 = false from rfl])
  exact RepR.keep (fun b hb _ => ⟨trivial, rfl⟩) _ _ _ (own_rep hA)
theorem keep_below {w W : World} {c : Col} {t : Ty} {x : t.den} {y : t.Refs} {K : List Nat} (h : RepR w (fun b => c b ∈ K) t x y) (k : Below w.heap.size w W) : RepR W (fun _ => True) t x y :=
  RepR.keep (fun b hb _ => ⟨trivial, k.block b hb⟩) _ _ _ h
theorem cell_in {t : Ty} {xs : List t.den} {ys : List t.Refs} {k : Nat} {x : t.den} {y : t.Refs} {arr : Array Value} {off : Nat} (hx : xs[k]? = some x) (hy : ys[k]? = some y) (hc : (arr.toList.drop off).take (xs.length * t.sz) = cellsOf t xs ys) {j : Nat} (hj : j < t.sz) : arr[off + k * t.sz + j]? = (t.fill x y)[j]? := by
  have hk : k < xs.length := (List.getElem?_eq_some_iff.1 hx).1
  have h1 : (k + 1) * t.sz ≤ xs.length * t.sz := Nat.mul_le_mul_right _ hk
  rw [Nat.add_mul] at h1
  rw [← cellsOf_get t hx hy, ← hc, List.getElem?_take, if_pos hj, List.getElem?_drop, List.getElem?_take, if_pos (by omega), List.getElem?_drop, Array.getElem?_toList, Nat.add_assoc]
theorem page_ok {pr : T_api_Verdict.den → Option (DenL [(.slice (.sc .str)), (.sc (.int .i64))])} (h14 : (CPrint pr).sound Tryz.prog 14) : (CPage pr).sound Tryz.prog 30 := by
  rintro xs ⟨r1, r2⟩ h
  change xPage pr xs = some (r1, r2) at h
  refine atc_below ⟨_, _, Tryz.func30, rfl, by kernel_rfl⟩ rfl (fun _ _ => rfl) fun l hl w c0 hH => ?_
  obtain ⟨hd, rfl⟩ : ∃ hd, l = [hd] := by
    match l, hl with
    | [hd], _ => exact ⟨hd, rfl⟩
  have hrep : HA.holds w c0 (.rep T_api_Verdict.ty [1] xs hd) := hH _ (List.mem_append_left _ (List.mem_cons_self ..))
  obtain ⟨ys, hys, hn, hle, hm, hcs⟩ := hrep
  have hval : (valsP [.d (.slice T_api_Verdict)] xs [hd]).toArray = #[.slice hd.a xs.length hd.cap] := by
    show ([.slice hd.a hd.n hd.cap] : List Value).toArray = _
    rw [hn]
  show Calls Tryz.prog 30 (valsP [.d (.slice T_api_Verdict)] xs [hd]).toArray w _
  rw [hval]
  rcases hcs with ⟨_, hz⟩ | ⟨b, off, arr, ty, fz, ha, _, hb, hfit, hcell⟩
  · have e0 : xs = [] := List.eq_nil_of_length_eq_zero (by omega)
    subst e0
    have h2 : (([] : List UInt8), (0 : Int)) = (r1, r2) := some_eq h
    cases h2
    exact page_walk0 hd.a hd.cap w
  · rw [ha]
    have hlt := (Array.getElem?_eq_some_iff.1 hb).1
    refine page_walk (fun k acc => pageGo pr (xs.drop k) acc = some (r1, r2)) (r1, r2) b off xs.length hd.cap w ?_ ?_ ?_ ?_
    · intro h64
      unfold xPage at h
      rw [show Nat.ble 65 xs.length = false by
        cases hb : Nat.ble 65 xs.length
        · rfl
        · have := Nat.le_of_ble_eq_true hb
          omega] at h
      exact h
    · intro h64
      unfold xPage at h
      rw [show Nat.ble 65 xs.length = true from Nat.ble_eq_true_of_le h64] at h
      exact (some_eq h).symm
    · intro acc hI
      rw [List.drop_length] at hI
      exact (some_eq hI).symm
    · intro k acc wr hk hI hB
      have hx : xs[k]? = some xs[k] := List.getElem?_eq_getElem hk
      rw [List.drop_eq_getElem_cons hk, pageGo] at hI
      generalize xs[k] = x at hx hI
      obtain ⟨y, hy, hry⟩ := hys.get hx
      have hc : ∀ j, j < 7 → wr.cell? ⟨b, off + k * 7 + j, none⟩ = (T_api_Verdict.ty.fill x y)[j]? := fun j hj => by
        rw [hB.cell hlt, cell_at hb]
        exact cell_in (t := T_api_Verdict.ty) hx hy hcell hj
      cases hp : pr x with
      | none => rw [hp] at hI; cases hI
      | some se =>
        obtain ⟨s, e⟩ := se
        rw [hp] at hI
        change (bif e == 0 then _ else _) = _ at hI
        refine ⟨x.1, B_ x.2.1, y.2.2.1, y.2.2.2.1, x.2.2.2.2.1, y.2.2.2.2.2.1, y.2.2.2.2.2.2, e, hc 0 (by decide), hc 1 (by decide), hc 2 (by decide), hc 3 (by decide), hc 4 (by decide), hc 5 (by decide), hc 6 (by decide), fun W hW => ?_, fun hne => ?_⟩
        · have hB2 := hB.trans (hW.mono hB.size)
          refine (print_calls h14 hp (keep_below hry hB2) (glh_all hH hB2)).mono ?_
          rintro en W' ⟨hd2, he, hb', hr'⟩
          have hW' := hW.trans (hb'.mono hW.size)
          refine ⟨hd2, he, hW', fun he0 => ?_⟩
          rw [show (e == 0) = true by rw [he0]; rfl] at hI
          simp only [cond_true] at hI
          cases ht : xJoin s [10] with
          | none => rw [ht] at hI; cases hI
          | some t =>
            rw [ht] at hI
            obtain ⟨h1, h2⟩ := chk_some hI
            refine (join_calls ht hr' (glh_all hH (hB.trans (hW'.mono hB.size)))).mono ?_
            rintro en2 W2 ⟨he2, hb2⟩
            exact ⟨t, he2, hW'.trans (hb2.mono hW'.size), of_decide_eq_true h1, h2⟩
        · rw [show (e == 0) = false by rw [beq_eq_false_iff_ne]; exact hne] at hI
          exact (some_eq hI).symm
end Go.Proofs.YtknnphhepnbaoaaGreatDoor
