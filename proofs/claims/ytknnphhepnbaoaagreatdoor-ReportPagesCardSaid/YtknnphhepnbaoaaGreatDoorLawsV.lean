/-
  Any verdict, proper or not: both models call the same ones proper, and print the same. No program is walked here.
  Any verdict, proper or not: what would change it, by both models. No program is walked here.
-/
import Derived.Test.YtknnphhepnbaoaaGreatDoorLawsG
import Derived.Test.YtknnphhepnbaoaaGreatDoorLawsC
namespace Go.Proofs.YtknnphhepnbaoaaGreatDoor
open Go.Sm
theorem ratOk_any {z y:List Int} (c1:canon z) (d1:canon y) (c2:z.length≤64) (d2:y.length≤64) (hv:validB (nat32 z) (nat32 y)=true):RatOk (z,y):=
 ⟨c1,d1,c2,d2,fun q1 q2=>gcdAll (nat32 y+1) z y c1 d1 c2 d2 (by omega) q1 q2,hv⟩
theorem canon_of_trim {l:List Int} (h:limbs l) (he : ¬ (trimL l).length<l.length):canon l:=by
 have h1:=trimL_len l
 have h2:trimL l=l:=by
  unfold trimL at he h1 ⊢
  rw [List.length_take] at he h1
  exact List.take_of_length_le (by omega)
 rw [← h2]
 exact trimL_canon h
theorem valid_any {n d:List Int} (hn:limbs n) (hd:limbs d):RatOk (n,d)∨∃ e f,ratio_Valid (n,d)=some e∧e≠0∧culpritref05_Valid (n,d)=some f∧f≠0:=by
 by_cases hl:n.length≤64∧d.length≤64
 ·obtain ⟨ln,ld⟩:=hl
  by_cases hc:(trimL n).length<n.length∨(trimL d).length<d.length
  ·right
   refine ⟨1,1,?_,by omega,?_,by omega⟩
   ·unfold ratio_Valid
    simp only
    rw [dec_f (show ¬ (64:Int)<(n.length:Int) by omega),dec_f (show ¬ (64:Int)<(d.length:Int) by omega)]
    simp only [cond_false]
    rw [ratio_trim_eq (by show n.length<_; omega),ratio_trim_eq (by show d.length<_; omega)]
    simp only [Option.bind_some]
    have e1:(bif decide (((trimL n).length:Int)<(n.length:Int)) then true else decide (((trimL d).length:Int)<(d.length:Int)))=true:=by
     rcases hc with h | h
     ·rw [dec_t (show ((trimL n).length:Int)<(n.length:Int) by omega)]; rfl
     ·rw [dec_t (show ((trimL d).length:Int)<(d.length:Int) by omega)]; cases decide (((trimL n).length:Int)<(n.length:Int)) <;> rfl
    rw [e1]
    rfl
   ·unfold culpritref05_Valid
    simp only
    rw [dec_f (show ¬ (64:Int)<(n.length:Int) by omega),dec_f (show ¬ (64:Int)<(d.length:Int) by omega)]
    simp only [cond_false]
    rw [f5_Trim_eq (by omega),f5_Trim_eq (by omega)]
    simp only [Option.bind_some]
    have tn:=trimL_len n
    have td:=trimL_len d
    by_cases h1:(trimL n).length=n.length
    ·have h2 : ¬ (trimL d).length=d.length:=by omega
     rw [show (((trimL n).length:Int)==(n.length:Int))=true by rw [beq_iff_eq]; omega]
     simp only [cond_true,Option.bind_some]
     rw [show (((trimL d).length:Int)==(d.length:Int))=false by rw [beq_eq_false_iff_ne]; omega]
     rfl
    ·rw [show (((trimL n).length:Int)==(n.length:Int))=false by rw [beq_eq_false_iff_ne]; omega]
     rfl
  ·have cn:=canon_of_trim hn (fun h=>hc (.inl h))
   have cd:=canon_of_trim hd (fun h=>hc (.inr h))
   by_cases hv:validB (nat32 n) (nat32 d)=true
   ·exact .inl (ratOk_any cn cd ln ld hv)
   ·right
    refine ⟨1,1,?_,by omega,?_,by omega⟩
    ·rw [ratio_Valid_eq cn cd ln ld (fun q1 q2=>gcdAll (nat32 d+1) n d cn cd ln ld (by omega) q1 q2),if_neg hv]
    ·rw [f5_Valid_eq cn cd ln ld,if_neg hv]
 ·right
  refine ⟨4,4,?_,by omega,?_,by omega⟩
  ·unfold ratio_Valid
   simp only
   have e1:(bif decide ((64:Int)<(n.length:Int)) then true else decide ((64:Int)<(d.length:Int)))=true:=by
    by_cases h:64<n.length
    ·rw [dec_t (show (64:Int)<(n.length:Int) by omega)]; rfl
    ·rw [dec_t (show (64:Int)<(d.length:Int) by omega)]; cases decide ((64:Int)<(n.length:Int)) <;> rfl
   rw [e1,cond_true]
  ·unfold culpritref05_Valid
   simp only
   have e1:(bif decide ((64:Int)<(n.length:Int)) then true else decide ((64:Int)<(d.length:Int)))=true:=by
    by_cases h:64<n.length
    ·rw [dec_t (show (64:Int)<(n.length:Int) by omega)]; rfl
    ·rw [dec_t (show (64:Int)<(d.length:Int) by omega)]; cases decide ((64:Int)<(n.length:Int)) <;> rfl
   rw [e1,cond_true]
theorem within_bad {n d:List Int} {e:Int} (h:ratio_Valid (n,d)=some e) (he:e≠0):report_within (n,d)=some false:=by
 have hl:ratio_valid [(n,d),(([1],[]):List Int×List Int)]=some e:=by
  unfold ratio_valid
  have h1:=it_find (f:=ratio_valid_loop1 [(n,d),(([1],[]):List Int×List Int)]) 0 (fun _=>none) (.inr e) (by omega) (fun i hi=>by omega) (by
   unfold ratio_valid_loop1
   have hi:idx [(n,d),(([1],[]):List Int×List Int)] (((0:Nat):Int))=some (n,d):=idx_nat rfl
   rw [hi]
   simp only [Option.bind_some,h]
   have e0:(e != (0:Int))=true:=by rw [bne_iff_ne]; exact he
   rw [e0]
   rfl)
  rw [h1]
  rfl
 unfold report_within ratio_Cmp
 simp only
 rw [hl]
 simp only [Option.bind_some]
 have e0:(e != (0:Int))=true:=by rw [bne_iff_ne]; exact he
 have e1:(e==(0:Int))=false:=by rw [beq_eq_false_iff_ne]; exact he
 rw [e0,cond_true]
 simp only [Option.bind_some]
 rw [e1,cond_false]
theorem n37_Proper_bad {v:Vd} {f:Int} (h:culpritref05_Valid (v.2.2.2.2.2.1,v.2.2.2.2.2.2)=some f) (hf:f≠0):culpritref37_Proper v=some false:=by
 unfold culpritref37_Proper
 rw [n20_Named_eq,h]
 simp only [Option.bind_some]
 have e0:(f != (0:Int))=true:=by rw [bne_iff_ne]; exact hf
 cases namedB v.2.1
 ·rfl
 ·by_cases h2:v.1<0
  ·rw [dec_t h2]; rfl
  ·by_cases h3:5<v.1
   ·rw [dec_t h3,dec_f h2]; rfl
   ·rw [dec_f h2,dec_f h3]
    simp only [Bool.not_true,cond_false,Bool.not_false,cond_true,Option.bind_some]
    rw [e0]
    rfl
structure AnyV (v:Vd):Prop where
 n:limbs v.2.2.2.2.2.1
 d:limbs v.2.2.2.2.2.2
 sets:Small v.2.2.1
 each : ∀ l∈v.2.2.1,Small l
 word:Small v.2.2.2.1
theorem properB_false (v:Vd):properB false v=false:=by
 cases h:properB false v
 ·rfl
 ·have:=(properB_iff.1 h).w
  cases this
theorem proper_any {v:Vd} (h:AnyV v):(RatOk v.2.2.2.2.2∧properB (leB v) v=true∧report_proper v=some true∧culpritref37_Proper v=some true)∨(report_proper v=some false∧culpritref37_Proper v=some false):=by
 rcases valid_any h.n h.d with hr | ⟨e,f,h1,h2,h3,h4⟩
 ·have e1:=report_proper_eq (report_within_eq (r:=v.2.2.2.2.2) hr) h.sets h.each
  have e2:=n37_Proper_eq (v:=v) hr h.sets h.each h.word
  have e3:properB (decide (nat32 v.2.2.2.2.2.1≤denN (nat32 v.2.2.2.2.2.2))) v=properB (leB v) v:=rfl
  rw [e3] at e1
  cases hp:properB (leB v) v
  ·right; rw [hp] at e1 e2; exact ⟨e1,e2⟩
  ·left; rw [hp] at e1 e2; exact ⟨hr,rfl,e1,e2⟩
 ·right
  refine ⟨?_,n37_Proper_bad h3 h4⟩
  rw [report_proper_eq (w:=false) (within_bad h1 h2) h.sets h.each,properB_false]
end Go.Proofs.YtknnphhepnbaoaaGreatDoor
namespace Go.Proofs.YtknnphhepnbaoaaGreatDoor
open Go.Sm
end Go.Proofs.YtknnphhepnbaoaaGreatDoor
