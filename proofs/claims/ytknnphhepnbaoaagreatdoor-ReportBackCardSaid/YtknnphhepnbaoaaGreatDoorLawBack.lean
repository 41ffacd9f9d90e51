/-
  ReportBack: what the function computes is true. No program is walked here.
-/
import Derived.Test.YtknnphhepnbaoaaGreatDoorLawsG
import Derived.Test.YtknnphhepnbaoaaGreatDoorLawLives

namespace Go.Proofs.YtknnphhepnbaoaaGreatDoor
open Go.Sm

theorem vd_eta (v : Vd) : (v.1, v.2.1, v.2.2.1, v.2.2.2.1, v.2.2.2.2.1, (v.2.2.2.2.2.1, v.2.2.2.2.2.2)) = v := rfl

/-- What a verdict that can be drawn prints, tells, and is read back from. -/
structure Said (v : Vd) (t : List UInt8) : Prop where
  tt : RatText v.2.2.2.2.2 t
  tl : t.length ≤ 1235
  print : report_Print v = some (textL t v, 0)
  facts : report_Facts v = some (factsL t v, 0)
  parse : parseL (textL t v) = (v, ((textL t v).length : Int), 0)

theorem canon_small {l : List Int} (h : l.length ≤ 64) : Small l := by show l.length < _; omega

theorem proper_small {v : Vd} {w : Bool} (hp : properB w v = true) (hr : RatOk v.2.2.2.2.2) : SmallV v := by
  have P := properB_iff.1 hp
  have hm := P.many
  have hw := (possB_ok P.word).1
  exact ⟨by show v.2.2.1.length < _; omega, fun l hl => by have := (rising_ok (setsB_mem _ _ P.sets l hl)).1; show l.length < _; omega, by show v.2.2.2.1.length < _; omega, canon_small hr.ln, canon_small hr.ld⟩

theorem said_of {v : Vd} (hp : properB (leB v) v = true) (hr : RatOk v.2.2.2.2.2) (hb : v.2.2.2.2.2.1 = [] → v.2.2.2.2.2.2 = []) : ∃ t, Said v t := by
  obtain ⟨t, h1, h2, h3⟩ := ratio_Print_eq hr
  have hs := proper_small hp hr
  refine ⟨t, h2, h3, ?_, ?_, text_parse_all hr hb hp h2 h3⟩
  · rw [report_Print_eq hr h1 h3 hs.sets hs.each]
    exact congrArg some (if_pos hp)
  · rw [report_Facts_eq hr h1 h3 hs.sets hs.each]
    exact congrArg some (if_pos hp)

theorem same_texts {v w : Vd} {t u : List UInt8} (hv : Said v t) (hw : Said w u) : textL t v = textL u w ↔ v = w := by
  constructor
  · intro h
    have h1 := hv.parse
    rw [h, hw.parse] at h1
    exact (Prod.mk.inj h1).1.symm
  · rintro rfl
    rw [RatText.inj hv.tt hw.tt]

theorem factsL_length (t : List UInt8) (v : Vd) : (textL t v).length = (factsL t v).length := by
  unfold textL factsL
  simp only [List.length_append, List.length_cons, List.length_map]
  split <;> split <;> rfl

theorem ne_dec (a b : Bool) : (a != b) = !(a == b) := rfl

theorem back_true {l m : List Int} {a h b : Int} (hl : ∀ n ∈ l, i64 n) (hm : ∀ n ∈ m, i64 n) (ia : i64 a) (ih : i64 h) (ib : i64 b) : culpritlaw37_ReportBack l m a h b = some true := by
  obtain ⟨v, hv, mv⟩ := made_eq hl
  obtain ⟨w, hw, mw⟩ := made_eq hm
  obtain ⟨t, sv⟩ := said_of mv.p mv.r mv.b
  obtain ⟨u, sw⟩ := said_of mw.p mw.r mw.b
  have smv := proper_small mv.p mv.r
  have tlen := textL_len mv.p sv.tl
  have hpar : report_Parse (textL t v) = some (v, ((textL t v).length : Int), 0) := by
    rw [parse_all (fun s hs => by have := tlen.2 s hs; omega) (by show (textL t v).length < _; omega), sv.parse]
  have e1 : decide (textL t v = textL u w) = decide (v = w) := by
    rw [Bool.eq_iff_iff, decide_eq_true_eq, decide_eq_true_eq]; exact same_texts sv sw
  have e2 : decide (factsL t v = factsL u w) = decide (v = w) := by
    rw [Bool.eq_iff_iff, decide_eq_true_eq, decide_eq_true_eq]
    refine ⟨fun e => facts_inj mv.p mw.p mv.r mw.r mv.b mw.b sv.tt sw.tt e, ?_⟩
    rintro rfl
    rw [RatText.inj sv.tt sw.tt]
  have hsm : Small (textL t v) := by show (textL t v).length < _; omega
  have hsf : Small (factsL t v) := by show (factsL t v).length < _; rw [← factsL_length]; omega
  unfold culpritlaw37_ReportBack
  rw [hv]
  simp only [Option.bind_some]
  rw [hw]
  simp only [Option.bind_some, vd_eta]
  rw [sv.print]
  simp only [Option.bind_some]
  rw [sw.print]
  simp only [Option.bind_some]
  rw [sv.facts]
  simp only [Option.bind_some]
  rw [sw.facts]
  simp only [Option.bind_some]
  rw [hpar]
  simp only [Option.bind_some, vd_eta]
  have ez : ((0 : Int) != 0) = false := rfl
  have el : (((textL t v).length : Int) != ((textL t v).length : Int)) = false := by simp
  have ef : (((textL t v).length : Int) != ((factsL t v).length : Int)) = false := by rw [factsL_length]; simp
  rw [ez, el, ef]
  simp only [cond_false, Bool.not_false, cond_true]
  rw [same_eq smv, dec_t (rfl : v = v)]
  simp only [Option.bind_some, Bool.not_true, cond_false]
  rw [same_eq smv]
  simp only [Option.bind_some]
  rw [sameTexts_eq hsm]
  simp only [Option.bind_some]
  rw [e1, sameTexts_eq hsf, e2]
  have eb : ∀ c : Bool, (c != c) = false := by decide
  rw [eb]
  simp only [cond_false, Bool.not_false, cond_true, Option.bind_some]
  rw [eb]
  simp only [cond_false]
  obtain ⟨s, hs, hs1, hs2⟩ := changed_eq (x := textL t v) (K := 13000) (by omega) tlen.2 (by omega) (by omega) ia ih ib
  rw [hs]
  simp only [Option.bind_some]
  rw [parse_all (fun z hz => by have := hs2 z hz; omega) (by show s.length < _; omega)]
  simp only [Option.bind_some]
  obtain ⟨y, n, e⟩ : ∃ y n e, parseL s = (y, n, e) := ⟨_, _, _, rfl⟩
  obtain ⟨e, he⟩ := e
  rw [he]
  simp only
  by_cases h0 : e = 0
  · subst h0
    obtain ⟨⟨t', ht', es⟩, hi, hp, _⟩ := parse_text_all (fun z hz => by have := hs2 z hz; omega) he
    obtain ⟨t2, g1, g2, g3⟩ := ratio_Print_eq hi.ok
    have hpr : report_Print y = some (textL t2 y, 0) := by
      rw [report_Print_eq hi.ok g1 g3 hi.small.1 hi.small.2]
      exact congrArg some (if_pos hp)
    rw [show ((0 : Int) == 0) = true from rfl, cond_true, hpr]
    simp only [Option.bind_some]
    rw [show ((0 : Int) == 0) = true from rfl]
    have est : textL t2 y = s := by rw [es, RatText.inj g2 ht']
    rw [est, cond_true, sameTexts_eq (by show s.length < _; omega), dec_t (rfl : s = s)]
    simp only [Option.bind_some, cond_true]
    rw [lives_true]
    rfl
  · rw [show (e == 0) = false by simp [h0], cond_false, lives_true]
    rfl

end Go.Proofs.YtknnphhepnbaoaaGreatDoor
