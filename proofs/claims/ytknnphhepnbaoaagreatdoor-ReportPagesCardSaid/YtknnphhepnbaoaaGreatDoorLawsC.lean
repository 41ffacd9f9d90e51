/-
  What the functions of package report compute: Print. No program is walked here.
  What the functions of package report compute: Facts; lists of texts compared. No program is walked here.
  What the functions of package report compute: the first sentence read. No program is walked here.
  Texts: replacing, splitting, cutting what was joined. No program is walked here.
  Numbers, edits and lists of them out of texts. No program is walked here.
  What the functions of package report compute: the reader of sets. No program is walked here.
  What the functions of package report compute: the readers of measures and words. No program is walked here.
  What the functions of package report compute: Parse. No program is walked here.
  What the functions of package report compute: Parse, whole. No program is walked here.
  Package report: what is read is what prints so; what prints so is read. No program is walked here.
  Package report: what prints so is read. No program is walked here.
  Package report: two verdicts with the same facts are one. No program is walked here.
  The reference models' small functions: numbers drawn from a list, lists compared. Over Fn of all seven laws. No program is walked here.
  The reference models' comparison of verdicts. Over Fn of all seven laws. No program is walked here.
-/
import Derived.Test.YtknnphhepnbaoaaGreatDoorLawsA
import Derived.Test.YtknnphhepnbaoaaGreatDoorLawsB
namespace Go.Proofs.YtknnphhepnbaoaaGreatDoor
open Go.Sm
def key (n:Edit):Int:=64 * n.1+n.2
theorem okName_key {n:Edit} (h:okName n=true):0≤key n∧key n≤255∧i64 n.1∧i64 n.2∧0≤n.1∧0≤n.2∧n.1<4∧n.2≤63:=by
 unfold okName at h
 simp only [Bool.and_eq_true,decide_eq_true_eq] at h
 obtain ⟨⟨⟨h1,h2⟩,h3⟩,h4⟩:=h
 exact ⟨by unfold key; omega,by unfold key; omega,⟨by omega,by omega⟩,⟨by omega,by omega⟩,h1,h3,h2,h4⟩
theorem risingFrom_len : ∀ (r:List Edit) (y:Edit),okName y=true→risingFrom y r=true→(r.length:Int)+key y≤255∧∀ n∈r,okName n=true
 | [],y,h,_=>⟨by have:=(okName_key h).2.1; simp only [List.length_nil]; omega,by simp⟩
 | x::r,y,hy,h=>by
  simp only [risingFrom,Bool.and_eq_true] at h
  obtain ⟨⟨h1,h2⟩,h3⟩:=h
  obtain ⟨k1,k2⟩:=risingFrom_len r x h1 h3
  have a:=okName_key hy
  have b:=okName_key h1
  have hlt:key y<key x:=by
   unfold lessB at h2
   simp only [Bool.or_eq_true,Bool.and_eq_true,decide_eq_true_eq] at h2
   unfold key
   rcases h2 with h2 | ⟨h2,h4⟩ <;> omega
  refine ⟨by simp only [List.length_cons]; omega,fun n hn=>?_⟩
  rcases List.mem_cons.1 hn with rfl | hn
  ·exact h1
  ·exact k2 n hn
theorem rising_ok {l:List Edit} (h:risingB l=true):l.length≤256∧∀ n∈l,okName n=true:=by
 cases l with
 | nil=>exact ⟨by simp,by simp⟩
 | cons x r=>
  simp only [risingB,Bool.and_eq_true] at h
  obtain ⟨k1,k2⟩:=risingFrom_len r x h.1 h.2
  have a:=okName_key h.1
  refine ⟨by simp only [List.length_cons]; omega,fun n hn=>?_⟩
  rcases List.mem_cons.1 hn with rfl | hn
  ·exact h.1
  ·exact k2 n hn
theorem rising_setOk {l:List Edit} (h:risingB l=true):setOk l:=
 ⟨by have:=(rising_ok h).1; omega,fun n hn=>by have:=okName_key ((rising_ok h).2 n hn); exact ⟨this.2.2.1,this.2.2.2.1⟩⟩
theorem setsB_mem : ∀ (r pre:List (List Edit)),setsB pre r=true→∀ l∈r,risingB l=true
 | [],_,_,l,hl=>by simp at hl
 | x::r,pre,h,l,hl=>by
  simp only [setsB,Bool.and_eq_true] at h
  rcases List.mem_cons.1 hl with rfl | hl
  ·exact h.1.1
  ·exact setsB_mem r _ h.2 l hl
theorem possB_ok {l:List Int} (h:possB l=true):l.length≤160∧∀ n∈l,i64 n∧0≤n∧n≤999:=by
 unfold possB at h
 simp only [Bool.and_eq_true,decide_eq_true_eq] at h
 refine ⟨h.1.1,fun n hn=>?_⟩
 have:=List.all_eq_true.1 h.1.2 n hn
 simp only [Bool.and_eq_true,decide_eq_true_eq] at this
 exact ⟨⟨by omega,by omega⟩,this.1,this.2⟩
structure Proper (w:Bool) (v:Vd):Prop where
 named:namedB v.2.1=true
 k0:0≤v.1
 k1:v.1<6
 w:w=true
 m0:0≤v.2.2.2.2.1
 m1:v.2.2.2.2.1<4
 word:possB v.2.2.2.1=true
 many:v.2.2.1.length≤1024
 sets:setsB [] v.2.2.1=true
 ks:(kindOf v.1).2.2.1=decide (0<v.2.2.1.length)
 kb:(kindOf v.1).2.2.2.1=decide (0<v.2.2.2.2.2.1.length)
 kw:(kindOf v.1).2.2.2.2=true∨v.2.2.2.1=[]
 km:v.2.2.2.2.1=0∨v.1=5
theorem properB_iff {w:Bool} {v:Vd}:properB w v=true↔Proper w v:=by
 unfold properB
 simp only [Bool.and_eq_true,decide_eq_true_eq,beq_iff_eq,Bool.or_eq_true]
 constructor
 ·rintro ⟨⟨⟨⟨⟨⟨⟨⟨⟨⟨⟨⟨a,b⟩,c⟩,d⟩,e⟩,f⟩,g⟩,h⟩,i⟩,j⟩,k⟩,l⟩,m⟩
  exact ⟨a,b,c,d,e,f,g,h,i,j,k,l.imp id List.eq_nil_of_length_eq_zero,m⟩
 ·rintro ⟨a,b,c,d,e,f,g,h,i,j,k,l,m⟩
  exact ⟨⟨⟨⟨⟨⟨⟨⟨⟨⟨⟨⟨a,b⟩,c⟩,d⟩,e⟩,f⟩,g⟩,h⟩,i⟩,j⟩,k⟩,l.imp id fun h=>by rw [h]; rfl⟩,m⟩
theorem kindOf_len (k:Int):(kindOf k).1.length≤100∧(kindOf k).2.1.length≤100:=by
 have gen : ∀ x∈kindsTab,x.1.length≤100∧x.2.1.length≤100:=by decide
 unfold kindOf
 rw [List.getD_eq_getElem?_getD]
 cases h:kindsTab[k.toNat]? with
 | none=>simp
 | some x=>exact gen x (List.mem_of_getElem? h)
theorem rep1_len (c:UInt8) (new:List UInt8) : ∀ s:List UInt8,(rep1 c new s).length≤s.length+new.length
 | []=>by simp [rep1]
 | b::s=>by
  have:=rep1_len c new s
  simp only [rep1]
  split
  ·simp only [List.length_append,List.length_cons]; omega
  ·simp only [List.length_cons]; omega
theorem machL_len (s:List UInt8) (m:Int):(machL s m).length≤s.length+21:=by
 have h1:=rep1_len 35 (itoaL m) s
 have h2:=itoaL_len m
 unfold machL; omega
theorem report_bound_eq {r:List Int×List Int} {t:List UInt8} (h:ratio_Print (r.1,r.2)=some (t,0)) (ht:t.length≤1235):report_bound (r.1,r.2)=some (S_it_fails_with_5cf6++t++S__cdb4):=by
 unfold report_bound
 simp only
 rw [h]
 simp only [Option.bind_some]
 have e1:S_it_fails_with_5cf6.length=26:=rfl
 have e2:S__cdb4.length=1:=rfl
 rw [chk_d (by omega),chk_d (by simp only [List.length_append]; omega)]
theorem namedB_len {s:List UInt8} (h:namedB s=true):s.length≤16:=by
 cases s with
 | nil=>simp
 | cons c r=>
  simp only [namedB,Bool.and_eq_true,decide_eq_true_eq] at h
  exact h.1.1.1
theorem report_Print_eq {v:Vd} {t:List UInt8} (hr:RatOk v.2.2.2.2.2) (ht:ratio_Print (v.2.2.2.2.2.1,v.2.2.2.2.2.2)=some (t,0)) (htl:t.length≤1235) (hn:Small v.2.2.1) (hs : ∀ l∈v.2.2.1,Small l) :
  report_Print v=some (if properB (decide (nat32 v.2.2.2.2.2.1≤denN (nat32 v.2.2.2.2.2.2))) v=true then (textL t v,0) else ([],1)):=by
 have hp:=report_proper_eq (report_within_eq hr) hn hs
 unfold report_Print
 have hv:(v.1,v.2.1,v.2.2.1,v.2.2.2.1,v.2.2.2.2.1,(v.2.2.2.2.2.1,v.2.2.2.2.2.2))=v:=rfl
 rw [hv,hp]
 simp only [Option.bind_some]
 cases hb:properB (decide (nat32 v.2.2.2.2.2.1≤denN (nat32 v.2.2.2.2.2.2))) v
 ·rfl
 ·have P:=properB_iff.1 hb
  simp only [Bool.not_true,cond_false,if_true]
  have hk0:=P.k0
  have hk1:=P.k1
  rw [chk_d ⟨by omega,by omega⟩]
  have hk:idx kindsTab v.1=some (kindOf v.1):=by
   obtain ⟨k,hk⟩ : ∃ k:Nat,v.1=k:=⟨v.1.toNat,by omega⟩
   have hk6:k<kindsTab.length:=by show k<6; omega
   rw [hk,idx_nat (List.getElem?_eq_getElem hk6)]
   simp [kindOf,List.getD_eq_getElem?_getD,List.getElem?_eq_getElem hk6]
  have hkl:=kindOf_len v.1
  have hml:=machL_len (kindOf v.1).1 v.2.2.2.2.1
  have hnl:=namedB_len P.named
  rw [hk]
  simp only [Option.bind_some]
  rw [report_machine_eq (by omega) P.m0 P.m1]
  simp only [Option.bind_some]
  have hmany:=P.many
  rw [chk_d (by omega),printed_sets_eq (by omega) fun l hl=>rising_setOk (setsB_mem _ _ P.sets l hl)]
  simp only [Option.bind_some]
  rw [chk_t (appOk_le (by simp only [List.length_singleton,List.length_map]; omega) (by omega))]
  have hw:=possB_ok P.word
  have hch:=report_choices_eq (l:=v.2.2.2.1) (by omega) fun n hn=>(hw.2 n hn).1
  have hb1:=report_bound_eq ht htl
  have e1:(bif decide ((0:Int)<(v.2.2.2.2.2.1.length:Int)) then
       (report_bound (v.2.2.2.2.2.1,v.2.2.2.2.2.2)).bind fun r6=>
       chk (appOk ([v.2.1++machL (kindOf v.1).1 v.2.2.2.2.1]++v.2.2.1.map setL).length [r6].length 16) (
        some (([v.2.1++machL (kindOf v.1).1 v.2.2.2.2.1]++v.2.2.1.map setL)++[r6]))
      else
       some ([v.2.1++machL (kindOf v.1).1 v.2.2.2.2.1]++v.2.2.1.map setL):Option (List (List UInt8))) =
    some ([v.2.1++machL (kindOf v.1).1 v.2.2.2.2.1]++v.2.2.1.map setL++(if v.2.2.2.2.2.1=[] then [] else [S_it_fails_with_5cf6++t++S__cdb4])):=by
   by_cases h0:v.2.2.2.2.2.1=[]
   ·rw [if_pos h0,h0]
    simp
   ·have hlen:0<v.2.2.2.2.2.1.length:=List.length_pos_iff.2 h0
    rw [if_neg h0,dec_t (show (0:Int)<(v.2.2.2.2.2.1.length:Int) by omega),cond_true,hb1]
    simp only [Option.bind_some]
    rw [chk_t (appOk_le (by simp only [List.length_append,List.length_singleton,List.length_map]; omega) (by omega))]
  rw [e1]
  simp only [Option.bind_some]
  by_cases h0:v.2.2.2.1=[]
  ·have e2:decide ((0:Int)<(v.2.2.2.1.length:Int))=false:=by rw [h0]; rfl
   rw [e2,cond_false]
   simp only [Option.bind_some]
   unfold textL
   rw [if_pos h0,List.append_nil]
   rfl
  ·have hlen:0<v.2.2.2.1.length:=List.length_pos_iff.2 h0
   have hl2:(if v.2.2.2.2.2.1=[] then ([]:List (List UInt8)) else [S_it_fails_with_5cf6++t++S__cdb4]).length≤1:=by split <;> simp
   rw [dec_t (show (0:Int)<(v.2.2.2.1.length:Int) by omega),cond_true,hch]
   simp only [Option.bind_some]
   rw [chk_t (appOk_le (by simp only [List.length_append,List.length_singleton,List.length_map]; omega) (by omega))]
   simp only [Option.bind_some]
   unfold textL
   rw [if_neg h0]
   rfl
end Go.Proofs.YtknnphhepnbaoaaGreatDoor
namespace Go.Proofs.YtknnphhepnbaoaaGreatDoor
open Go.Sm
def rowJ (f:List UInt8) (l:List (List UInt8)):List UInt8:=joinL (f::l) S__36a9
def factsL (t:List UInt8) (v:Vd):List (List UInt8):=
 rowJ S_verdict_11e2 [v.2.1,machL (kindOf v.1).2.1 v.2.2.2.2.1]::v.2.2.1.map (fun s=>rowJ S_set_6ee0 (s.map nameL))++(if v.2.2.2.2.2.1=[] then [] else [rowJ S_measure_1501 [t]])++(if v.2.2.2.1=[] then [] else [rowJ S_word_98c1 (v.2.2.2.1.map itoaL)])
end Go.Proofs.YtknnphhepnbaoaaGreatDoor
namespace Go.Proofs.YtknnphhepnbaoaaGreatDoor
open Go.Sm
theorem it_find {R:Type} {f:Int→Option (Int⊕R)} (n:Nat) (g:Nat→Option R) (e:R) (hn:n<9223372036854775808)
  (hstep : ∀ i:Nat,i<n→f i=some (match g i with | some r=>.inr r | none=>.inl ((i:Int)+1))) (hend:f n=some (.inr e)):Itr.it f (0:Int)=some (((List.range n).findSome? g).getD e):=by
 have h:=it_inv (f:=f) (fun s=>n - s.toNat) (fun s=>∃ k:Nat,s=(k:Int)∧k≤n∧(List.range k).findSome? g=none) (fun r=>r=((List.range n).findSome? g).getD e)
  (fun s hs=>by
   obtain ⟨k,rfl,hk,h0⟩:=hs
   by_cases hlt:k<n
   ·cases hg:g k with
    | some r=>
     left
     refine ⟨r,by rw [hstep k hlt,hg],?_⟩
     have:(List.range n).findSome? g=some r:=by
      have e1:List.range n=List.range k++(List.range (n - k)).map (k + ·):=by
       rw [← List.range_add]; congr 1; omega
      have e2:List.range (n - k)=0::(List.range (n - k - 1)).map Nat.succ:=by
       rw [← List.range_succ_eq_map]; congr 1; omega
      rw [e1,List.findSome?_append,h0,e2]
      simp [hg]
     rw [this]; rfl
    | none=>
     right
     refine ⟨(k:Int)+1,by rw [hstep k hlt,hg],⟨k+1,by omega,by omega,?_⟩,by omega⟩
     rw [List.range_succ,List.findSome?_append,h0]
     simp [hg]
   ·left
    have:k=n:=by omega
    subst this
    exact ⟨e,hend,by rw [h0]; rfl⟩) (s:=(0:Int)) ⟨0,rfl,by omega,rfl⟩ (by omega)
 obtain ⟨r,h1,rfl⟩:=h
 exact h1
def hitK (s:List UInt8) (k m:Nat):Option (List UInt8):=
 if (machL (kindOf k).1 m).isSuffixOf s&&namedB (s.take (s.length - (machL (kindOf k).1 m).length)) then some (s.take (s.length - (machL (kindOf k).1 m).length)) else none
def vdOf (k m:Nat) (t:List UInt8):Vd:=((k:Int),t,[],[],(m:Int),([],[]))
def innK (s:List UInt8) (k:Nat):Option Vd:=(List.range (if k=5 then 4 else 1)).findSome? fun m=>(hitK s k m).map (vdOf k m)
def vd0:Vd:=(0,[],[],[],0,([],[]))
def firstL (s:List UInt8):Vd×Bool:=match (List.range 6).findSome? (innK s) with
 | some v=>(v,true)
 | none=>(vd0,false)
theorem first_inner {s:List UInt8} (hs:s.length≤9223372036854775807) {k:Nat} (hk:k<6) :
  Itr.it (report_first_loop2 s (k:Int) (kindOf k)) (0:Int)=some (match innK s k with | some v=>.inr (.inr (.inr (v,true))) | none=>.inl ()):=by
 rw [it_find (f:=report_first_loop2 s (k:Int) (kindOf k)) 4 (fun m=>if 0<m∧k≠5 then some (.inl ()) else (hitK s k m).map fun t=>.inr (.inr (.inr (vdOf k m t,true)))) (.inl ()) (by omega)
  (fun i hi=>by
   unfold report_first_loop2
   rw [dec_t (show (i:Int)<4 by omega),cond_true]
   have e5:((k:Int) != 5)=decide (k≠5):=by
    by_cases h:k=5
    ·subst h; rfl
    ·have:(k:Int)≠5:=by omega
     simp [h,this]
   by_cases hb:0<i∧k≠5
   ·rw [dec_t (show (0:Int)<(i:Int) by omega),e5,dec_t hb.2]
    simp [hb]
   ·have hc:(bif decide ((0:Int)<(i:Int)) then (k:Int) != 5 else false)=false:=by
     rw [e5]
     by_cases h0:0<i
     ·have:k=5:=by
       by_cases h5:k=5
       ·exact h5
       ·exact absurd ⟨h0,h5⟩ hb
      rw [dec_f (show ¬ k≠5 by omega)]; simp
     ·rw [dec_f (show ¬ (0:Int)<(i:Int) by omega)]; rfl
    have hkl:=kindOf_len (k:Int)
    rw [hc,cond_false,report_machine_eq (s:=(kindOf k).1) (m:=(i:Int)) (by omega) (by omega) (by omega),if_neg hb]
    simp only [Option.bind_some]
    have hx:xCutSuffix s (machL (kindOf k).1 i)=some (if (machL (kindOf k).1 i).isSuffixOf s then s.take (s.length - (machL (kindOf k).1 i).length) else s,(machL (kindOf k).1 i).isSuffixOf s):=by
     unfold xCutSuffix
     exact chk_d hs
    rw [hx]
    simp only [Option.bind_some,report_named_eq]
    unfold hitK
    have hw:w64 ((i:Int)+1)=(i:Int)+1:=w64_id (by omega) (by omega)
    cases h1:(machL (kindOf k).1 i).isSuffixOf s
    ·simp [hw]
    ·cases h2:namedB (s.take (s.length - (machL (kindOf k).1 i).length))
     ·simp [hw,h2]
     ·simp [h2,vdOf])
  (by unfold report_first_loop2; simp)]
 congr 1
 unfold innK
 by_cases h5:k=5
 ·subst h5
  have e:(List.range (if 5=5 then 4 else 1))=List.range 4:=rfl
  rw [e]
  have hg:(fun m=>if 0<m∧5≠5 then some (.inl ()) else (hitK s 5 m).map fun t=>(.inr (.inr (.inr (vdOf 5 m t,true))):Unit⊕(Int⊕(Unit⊕(Vd×Bool))))) =
    fun m=>((hitK s 5 m).map (vdOf 5 m)).map fun v=>.inr (.inr (.inr (v,true))):=by
   funext m
   rw [if_neg (by simp)]
   cases hitK s 5 m <;> rfl
  rw [hg,show List.range 4=[0,1,2,3] from rfl]
  simp only [List.findSome?]
  cases hitK s 5 0 <;> cases hitK s 5 1 <;> cases hitK s 5 2 <;> cases hitK s 5 3 <;> rfl
 ·rw [if_neg h5,show List.range 4=[0,1,2,3] from rfl,show List.range 1=[0] from rfl]
  simp only [List.findSome?]
  cases hitK s k 0 with
  | some t=>simp
  | none=>simp [h5]
theorem report_first_eq {s:List UInt8} (hs:s.length≤9223372036854775807):report_first s=some (firstL s):=by
 unfold report_first
 rw [it_find (f:=report_first_loop1 s) 6 (fun k=>(innK s k).map fun v=>.inr (v,true)) (.inl ()) (by omega)
  (fun i hi=>by
   unfold report_first_loop1
   rw [dec_t (show (i:Int)<6 by omega),cond_true]
   have hk:idx kindsTab (i:Int)=some (kindOf i):=by
    have hk6:i<kindsTab.length:=by show i<6; omega
    rw [idx_nat (List.getElem?_eq_getElem hk6)]
    simp [kindOf,List.getD_eq_getElem?_getD,List.getElem?_eq_getElem hk6]
   rw [hk]
   simp only [Option.bind_some]
   rw [first_inner hs hi]
   have hw:w64 ((i:Int)+1)=(i:Int)+1:=w64_id (by omega) (by omega)
   cases innK s i with
   | none=>simp [hw]
   | some v=>rfl)
  (by unfold report_first_loop1; simp)]
 unfold firstL
 have hf:(List.range 6).findSome? (fun k=>(innK s k).map fun v=>(.inr (v,true):Unit⊕(Vd×Bool)))=((List.range 6).findSome? (innK s)).map fun v=>.inr (v,true):=by
  rw [show List.range 6=[0,1,2,3,4,5] from rfl]
  simp only [List.findSome?]
  cases innK s 0 <;> cases innK s 1 <;> cases innK s 2 <;> cases innK s 3 <;> cases innK s 4 <;> cases innK s 5 <;> rfl
 rw [hf]
 cases (List.range 6).findSome? (innK s) <;> rfl
theorem suffix_take {s p:List UInt8} (h:p.isSuffixOf s=true):s=s.take (s.length - p.length)++p:=by
 have h1:=List.isSuffixOf_iff_suffix.1 h
 obtain ⟨t,rfl⟩:=h1
 simp
theorem firstL_back {s:List UInt8} {v:Vd} (h:firstL s=(v,true)) : ∃ k m:Nat,k<6∧m<4∧(m=0∨k=5)∧∃ t,namedB t=true∧v=vdOf k m t∧s=t++machL (kindOf k).1 m:=by
 unfold firstL at h
 cases hf:(List.range 6).findSome? (innK s) with
 | none=>rw [hf] at h; simp at h
 | some v' =>
  rw [hf] at h
  simp only [Prod.mk.injEq,and_true] at h
  subst h
  obtain ⟨k,hk,h1⟩:=List.exists_of_findSome?_eq_some hf
  unfold innK at h1
  obtain ⟨m,hm,h2⟩:=List.exists_of_findSome?_eq_some h1
  rw [Option.map_eq_some_iff] at h2
  obtain ⟨t,h3,h4⟩:=h2
  unfold hitK at h3
  split at h3
  ·rename_i hc
   rw [Bool.and_eq_true] at hc
   cases h3
   rw [List.mem_range] at hk hm
   refine ⟨k,m,hk,?_,?_,_,hc.2,h4.symm,suffix_take hc.1⟩
   ·split at hm <;> omega
   ·split at hm
    ·right; assumption
    ·left; omega
  ·cases h3
theorem machL_all:((List.range 6).all fun k=>(List.range 4).all fun m=>(List.range 6).all fun k' => (List.range 4).all fun m' =>
  !((decide (m=0)||decide (k=5))&&(decide (m' = 0)||decide (k' = 5))&&(machL (kindOf (k:Nat)).1 (m:Nat)==machL (kindOf (k' : Nat)).1 (m' : Nat)))||(decide (k=k')&&decide (m=m')))=true:=by decide +kernel
theorem machL_inj (k:Nat) (hk:k<6) (m:Nat) (hm:m<4) (k' : Nat) (hk' : k' < 6) (m' : Nat) (hm' : m' < 4) (h0:m=0∨k=5) (h0' : m' = 0∨k' = 5)
  (h:machL (kindOf (k:Nat)).1 (m:Nat)=machL (kindOf (k' : Nat)).1 (m' : Nat)):k=k' ∧ m=m' := by
 have h1:=List.all_eq_true.1 (List.all_eq_true.1 (List.all_eq_true.1 (List.all_eq_true.1 machL_all k (List.mem_range.2 hk)) m (List.mem_range.2 hm)) k' (List.mem_range.2 hk')) m' (List.mem_range.2 hm')
 have a1:(decide (m=0)||decide (k=5))=true:=by simpa using h0
 have a2:(decide (m' = 0)||decide (k' = 5))=true:=by simpa using h0'
 rw [a1,a2,h] at h1
 simpa using h1
theorem machL_space : ∀ k<6,∀ m<4,(machL (kindOf (k:Nat)).1 (m:Nat)).head? = some 32:=by
 decide +kernel
theorem named_space {t:List UInt8} (h:namedB t=true):(32:UInt8)∉t:=by
 cases t with
 | nil=>simp
 | cons c r=>
  simp only [namedB,Bool.and_eq_true] at h
  intro hm
  have:=List.all_eq_true.1 h.2 32 hm
  revert this; decide
theorem split_space : ∀ {a a' b b' : List UInt8},(32:UInt8)∉a→(32:UInt8)∉a' → b.head? = some 32→b'.head? = some 32→a++b=a' ++ b' → a=a' ∧ b=b'
 | [],[],_,_,_,_,_,_,h=>⟨rfl,h⟩
 | [],y::a',b,b',_,h2,hb,_,h=>by
  rw [List.nil_append] at h
  rw [h] at hb
  simp at hb
  exact absurd hb (by intro e; exact h2 (by simp [e]))
 | x::a,[],b,b',h1,_,_,hb,h=>by
  rw [List.nil_append] at h
  rw [← h] at hb
  simp at hb
  exact absurd hb (by intro e; exact h1 (by simp [e]))
 | x::a,y::a',b,b',h1,h2,hb,hb',h=>by
  simp only [List.cons_append,List.cons.injEq] at h
  obtain ⟨e1,e2⟩:=split_space (fun hm=>h1 (List.mem_cons_of_mem _ hm)) (fun hm=>h2 (List.mem_cons_of_mem _ hm)) hb hb' h.2
  exact ⟨by rw [h.1,e1],e2⟩
theorem firstL_read {t:List UInt8} {k m:Nat} (hk:k<6) (hm:m<4) (h0:m=0∨k=5) (ht:namedB t=true):firstL (t++machL (kindOf k).1 m)=(vdOf k m t,true):=by
 generalize hs:t++machL (kindOf k).1 m=s
 have hhit:hitK s k m=some t:=by
  unfold hitK
  have e1:(machL (kindOf k).1 m).isSuffixOf s=true:=List.isSuffixOf_iff_suffix.2 ⟨t,hs⟩
  have e2:s.take (s.length - (machL (kindOf k).1 m).length)=t:=by rw [← hs]; simp
  rw [e1,e2,ht]; rfl
 cases hf:(List.range 6).findSome? (innK s) with
 | none=>
  exfalso
  rw [List.findSome?_eq_none_iff] at hf
  have h1:=hf k (List.mem_range.2 hk)
  unfold innK at h1
  rw [List.findSome?_eq_none_iff] at h1
  have h2:=h1 m (List.mem_range.2 (by split <;> omega))
  rw [hhit] at h2
  cases h2
 | some v' =>
  have hr:firstL s=(v',true):=by unfold firstL; rw [hf]
  obtain ⟨k',m',hk',hm',h0',t',ht',rfl,e⟩:=firstL_back hr
  rw [← hs] at e
  obtain ⟨rfl,e2⟩:=split_space (named_space ht) (named_space ht') (machL_space k hk m hm) (machL_space k' hk' m' hm') e
  obtain ⟨rfl,rfl⟩:=machL_inj k hk m hm k' hk' m' hm' h0 h0' e2
  exact hr
end Go.Proofs.YtknnphhepnbaoaaGreatDoor
namespace Go.Proofs.YtknnphhepnbaoaaGreatDoor
open Go.Sm
theorem prefix_no {c b:UInt8} {p s:List UInt8} (h:b≠c):List.isPrefixOf (c::p) (b::s)=false:=by
 simp [List.isPrefixOf,Ne.symm h]
theorem prefix_self (p s:List UInt8):List.isPrefixOf p (p++s)=true:=List.isPrefixOf_iff_prefix.2 ⟨s,rfl⟩
theorem repA_skip {c:UInt8} {p new:List UInt8} : ∀ (u:List UInt8),c∉u→∀ (k:Nat) (s:List UInt8),repA (c::p) new (u.length+k) (u++s)=u++repA (c::p) new k s
 | [],_,k,s=>by simp
 | b::u,h,k,s=>by
  have hb:b≠c:=fun e=>h (by simp [e])
  have e:(b::u).length+k=(u.length+k)+1:=by simp only [List.length_cons]; omega
  rw [e,List.cons_append,repA,prefix_no hb]
  simp only [Bool.false_eq_true,if_false]
  rw [repA_skip u (fun hm=>h (List.mem_cons_of_mem _ hm)) k s]
  rfl
theorem repA_one {c b:UInt8} {p new:List UInt8} {k:Nat} {s:List UInt8} (h:List.isPrefixOf (c::p) (b::s)=false):repA (c::p) new (k+1) (b::s)=b::repA (c::p) new k s:=by
 rw [repA,h]; rfl
theorem repA_hit {c:UInt8} {p new:List UInt8} {k:Nat} {s:List UInt8}:repA (c::p) new (k+1) ((c::p)++s)=new++repA (c::p) new k s:=by
 have h:=prefix_self (c::p) s
 rw [List.cons_append] at h ⊢
 rw [repA,h]
 simp
theorem repA_nil {old new:List UInt8} : ∀ k,repA old new k []=[]
 | 0=>rfl
 | _+1=>rfl
theorem repA_none {c:UInt8} {p new u:List UInt8} (h:c∉u) (k:Nat):repA (c::p) new (u.length+k) u=u:=by
 have:=repA_skip (p:=p) (new:=new) u h k []
 rwa [List.append_nil,repA_nil,List.append_nil] at this
def consAll (x:List UInt8):List (List UInt8)→List (List UInt8)
 | []=>[x]
 | q::qs=>(x++q)::qs
theorem splAS_ne (sep:List UInt8) : ∀ (k:Nat) (s:List UInt8),splA sep k s≠[]
 | 0,_=>by simp [splA]
 | k+1,[]=>by simp [splA]
 | k+1,b::s=>by
  rw [splA]
  split
  ·simp
  ·split <;> simp
theorem splA_skip {c:UInt8} {p:List UInt8} : ∀ (u:List UInt8),c∉u→∀ (k:Nat) (s:List UInt8),splA (c::p) (u.length+k) (u++s)=consAll u (splA (c::p) k s)
 | [],_,k,s=>by
  have:=splAS_ne (c::p) k s
  simp only [List.length_nil,Nat.zero_add,List.nil_append]
  cases h:splA (c::p) k s with
  | nil=>exact absurd h this
  | cons q qs=>rfl
 | b::u,h,k,s=>by
  have hb:b≠c:=fun e=>h (by simp [e])
  have e:(b::u).length+k=(u.length+k)+1:=by simp only [List.length_cons]; omega
  rw [e,List.cons_append,splA,prefix_no hb]
  simp only [Bool.false_eq_true,if_false]
  rw [splA_skip u (fun hm=>h (List.mem_cons_of_mem _ hm)) k s]
  cases splA (c::p) k s <;> rfl
theorem splA_hit {c:UInt8} {p:List UInt8} {k:Nat} {s:List UInt8}:splA (c::p) (k+1) ((c::p)++s)=[]::splA (c::p) k s:=by
 have h:=prefix_self (c::p) s
 rw [List.cons_append] at h ⊢
 rw [splA,h]
 simp
theorem splA_nil (sep:List UInt8) : ∀ k,splA sep k []=[[]]
 | 0=>rfl
 | _+1=>rfl
theorem splA_join {c:UInt8} {p:List UInt8} : ∀ (l:List (List UInt8)),l≠[]→(∀ x∈l,c∉x)→∀ k,(joinL l (c::p)).length≤k→splA (c::p) k (joinL l (c::p))=l
 | [],h,_,_,_=>absurd rfl h
 | [x],_,hx,k,hk=>by
  have h0:=hx x (by simp)
  simp only [joinL] at hk ⊢
  obtain ⟨j,rfl⟩ : ∃ j,k=x.length+j:=⟨k - x.length,by omega⟩
  have:=splA_skip (p:=p) x h0 j []
  rw [List.append_nil,splA_nil] at this
  rw [this]
  simp [consAll]
 | x::y::r,_,hx,k,hk=>by
  have h0:=hx x (by simp)
  have hj:joinL (x::y::r) (c::p)=x++((c::p)++joinL (y::r) (c::p)):=rfl
  rw [hj] at hk ⊢
  simp only [List.length_append,List.length_cons] at hk
  obtain ⟨j,rfl⟩ : ∃ j,k=x.length+(j+1):=⟨k - x.length - 1,by omega⟩
  rw [splA_skip x h0,splA_hit,splA_join (y::r) (by simp) (fun z hz=>hx z (List.mem_cons_of_mem _ hz)) j (by omega)]
  simp [consAll]
theorem listL_two (x y:List UInt8):listL [x,y]=x++(S_and_e3ee++y):=by
 simp [listL,joinL]
theorem listL_more (x y z:List UInt8) (r:List (List UInt8)):listL (x::y::z::r)=x++(S__0a07++listL (y::z::r)):=by
 have hl:(x::y::z::r).getLast? = (y::z::r).getLast? := by simp [List.getLast?_cons_cons]
 unfold listL
 rw [hl]
 obtain ⟨w,hw⟩ : ∃ w,(y::z::r).getLast? = some w:=⟨_,List.getLast?_cons⟩
 rw [hw]
 show (if (x::y::z::r).length=1 then w else joinL (x::y::z::r).dropLast S__0a07++S_and_e3ee++w)=x++(S__0a07++(if (y::z::r).length=1 then w else joinL (y::z::r).dropLast S__0a07++S_and_e3ee++w))
 rw [if_neg (by simp),if_neg (by simp)]
 have e:(x::y::z::r).dropLast=x::y::(z::r).dropLast:=rfl
 have e2:(y::z::r).dropLast=y::(z::r).dropLast:=rfl
 rw [e,e2]
 show x++(S__0a07++joinL (y::(z::r).dropLast) S__0a07)++S_and_e3ee++w=_
 simp only [List.append_assoc]
def wordB (x:List UInt8):Prop:=(32:UInt8)∉x∧(44:UInt8)∉x∧∃ c r,x=c::r∧c≠97
theorem rep_list : ∀ (l:List (List UInt8)),l≠[]→(∀ x∈l,wordB x)→∀ k,(listL l).length≤k→repA S_and_e3ee S__0a07 k (listL l)=joinL l S__0a07
 | [],h,_,_,_=>absurd rfl h
 | [x],_,hx,k,hk=>by
  have e:listL [x]=x:=rfl
  rw [e] at hk ⊢
  obtain ⟨j,rfl⟩ : ∃ j,k=x.length+j:=⟨k - x.length,by omega⟩
  exact repA_none (hx x (by simp)).1 j
 | [x,y],_,hx,k,hk=>by
  rw [listL_two] at hk ⊢
  have e5:S_and_e3ee.length=5:=rfl
  simp only [List.length_append] at hk
  obtain ⟨j,rfl⟩ : ∃ j,k=x.length+((y.length+j)+1):=⟨k - x.length - 1 - y.length,by omega⟩
  have h1:=repA_skip (c:=32) (p:=[97,110,100,32]) (new:=S__0a07) x (hx x (by simp)).1 ((y.length+j)+1) (S_and_e3ee++y)
  have h2:=repA_hit (c:=32) (p:=[97,110,100,32]) (new:=S__0a07) (k:=y.length+j) (s:=y)
  have h3:=repA_none (c:=32) (p:=[97,110,100,32]) (new:=S__0a07) (hx y (by simp)).1 j
  have e0:S_and_e3ee=32::[97,110,100,32]:=rfl
  rw [e0] at h1 ⊢
  rw [h1,h2,h3]
  rfl
 | x::y::z::r,_,hx,k,hk=>by
  rw [listL_more] at hk ⊢
  have e2:S__0a07.length=2:=rfl
  simp only [List.length_append] at hk
  obtain ⟨j,rfl⟩ : ∃ j,k=(x++[44]).length+(j+1):=⟨k - x.length - 2,by simp only [List.length_append,List.length_singleton]; omega⟩
  simp only [List.length_append,List.length_singleton] at hk
  have ih:=rep_list (y::z::r) (by simp) (fun w hw=>hx w (List.mem_cons_of_mem _ hw)) j (by omega)
  obtain ⟨_,_,c,q,hy,hc⟩:=hx y (by simp)
  obtain ⟨t,ht⟩ : ∃ t,listL (y::z::r)=c::t:=by
   cases r with
   | nil=>rw [listL_two,hy]; exact ⟨_,rfl⟩
   | cons w r=>rw [listL_more,hy]; exact ⟨_,rfl⟩
  have h0:(32:UInt8)∉x++[44]:=by
   have:=(hx x (by simp)).1
   simp [this]
  have h1:=repA_skip (c:=32) (p:=[97,110,100,32]) (new:=S__0a07) (x++[44]) h0 (j+1) (32::listL (y::z::r))
  have hp:List.isPrefixOf [32,97,110,100,32] (32::listL (y::z::r))=false:=by
   rw [ht]
   simp [List.isPrefixOf,Ne.symm hc]
  have h2:=repA_one (c:=32) (p:=[97,110,100,32]) (new:=S__0a07) (k:=j) hp
  have e0:S_and_e3ee=32::[97,110,100,32]:=rfl
  have e1:x++(S__0a07++listL (y::z::r))=(x++[44])++(32::listL (y::z::r)):=by
   have:S__0a07=[44,32]:=rfl
   rw [this]; simp
  rw [e1,e0,h1,h2,← e0,ih]
  have e3:joinL (x::y::z::r) S__0a07=x++(S__0a07++joinL (y::z::r) S__0a07):=rfl
  rw [e3]
  have:S__0a07=[44,32]:=rfl
  rw [this]; simp
theorem cutL_hit {c:UInt8} : ∀ {a:List UInt8} (b:List UInt8),c∉a→cutL [c] (a++c::b)=(a,b,true)
 | [],b,_=>by simp [cutL,List.isPrefixOf]
 | x::a,b,h=>by
  have hx:x≠c:=fun e=>h (by simp [e])
  rw [List.cons_append,cutL,prefix_no hx,cutL_hit b fun hm=>h (List.mem_cons_of_mem _ hm)]
  rfl
theorem report_parts_eq {l:List (List UInt8)} (hl:l≠[]) (hw : ∀ x∈l,wordB x) (h1:fits (listL l).length=true) (h2:fits (joinL l S__0a07).length=true):report_parts (listL l)=some l:=by
 unfold report_parts
 have e1:xReplaceAll (listL l) S_and_e3ee S__0a07=some (joinL l S__0a07):=by
  unfold xReplaceAll
  rw [chk_t (by rw [h1]; decide),rep_list l hl hw _ (Nat.le_refl _)]
 rw [e1]
 simp only [Option.bind_some]
 have e2:xSplit (joinL l S__0a07) S__0a07=some l:=by
  unfold xSplit
  rw [chk_t (by rw [h2]; decide)]
  have e0:S__0a07=44::[32]:=rfl
  rw [e0] at *
  rw [splA_join l hl (fun x hx=>(hw x hx).2.1) _ (Nat.le_refl _)]
 rw [e2]
 rfl
end Go.Proofs.YtknnphhepnbaoaaGreatDoor
namespace Go.Proofs.YtknnphhepnbaoaaGreatDoor
open Go.Sm
theorem number_all:((List.range 1000).all fun n=>(numberL (itoaL (n:Nat))==((n:Int),true)) && !(itoaL (n:Nat)).contains 32 && !(itoaL (n:Nat)).contains 44 && !(itoaL (n:Nat)).contains 46&&(match itoaL (n:Nat) with | []=>false | c::_=>c != 97))=true:=by decide +kernel
theorem number_itoa {n:Int} (h0:0≤n) (h1:n≤999):numberL (itoaL n)=(n,true)∧wordB (itoaL n)∧(46:UInt8)∉itoaL n:=by
 obtain ⟨k,rfl⟩ : ∃ k:Nat,n=k:=⟨n.toNat,by omega⟩
 have h:=List.all_eq_true.1 number_all k (List.mem_range.2 (by omega))
 simp only [Bool.and_eq_true,beq_iff_eq,Bool.not_eq_true'] at h
 obtain ⟨⟨⟨⟨a,b⟩,c⟩,d⟩,e⟩:=h
 have nc : ∀ {x:UInt8} {l:List UInt8},l.contains x=false→x∉l:=fun h hm=>by
  rw [List.contains_iff_mem.2 hm] at h; cases h
 refine ⟨a,⟨nc b,nc c,?_⟩,nc d⟩
 split at e
 ·cases e
 ·rename_i q r hq
  exact ⟨q,r,hq,by simpa using e⟩
theorem xNumber_eq {s:List UInt8} (h:s.length≤2147483648):xNumber s=some (numberL s):=by
 unfold xNumber
 exact chk_t (Nat.ble_eq_true_of_le h)
theorem cutL_len (sep:List UInt8) : ∀ s:List UInt8,(cutL sep s).1.length≤s.length∧(cutL sep s).2.1.length≤s.length
 | []=>by simp [cutL]
 | b::s=>by
  have ih:=cutL_len sep s
  rw [cutL]
  split
  ·simp only [List.length_nil,List.length_drop,List.length_cons]; omega
  ·simp only [List.length_cons]; omega
def editL (s:List UInt8):Edit×Bool:=(((numberL (cutL S__cdb4 s).1).1,(numberL (cutL S__cdb4 s).2.1).1),(cutL S__cdb4 s).2.2&&(numberL (cutL S__cdb4 s).1).2&&(numberL (cutL S__cdb4 s).2.1).2)
theorem report_edit_eq {s:List UInt8} (h:s.length≤2147483648):report_edit s=some (editL s):=by
 have hl:=cutL_len S__cdb4 s
 unfold report_edit
 have hc:xCut s S__cdb4=some (cutL S__cdb4 s):=by
  unfold xCut
  refine chk_t ?_
  rw [Bool.and_eq_true]
  exact ⟨by decide,Nat.ble_eq_true_of_le h⟩
 rw [hc]
 simp only [Option.bind_some]
 rw [xNumber_eq (by omega),xNumber_eq (by omega)]
 simp only [Option.bind_some]
 unfold editL
 cases (cutL S__cdb4 s).2.2 <;> cases (numberL (cutL S__cdb4 s).1).2 <;> rfl
theorem editL_name {n:Edit} (h:okName n=true):editL (nameL n)=(n,true):=by
 obtain ⟨_,_,_,_,a0,b0,a1,b1⟩:=okName_key h
 obtain ⟨x1,_,x3⟩:=number_itoa a0 (by omega)
 obtain ⟨y1,_,_⟩:=number_itoa b0 (by omega)
 have e:nameL n=itoaL n.1++46::itoaL n.2:=by
  unfold nameL
  have:S__cdb4=[46]:=rfl
  rw [this]; simp
 have hc:cutL S__cdb4 (nameL n)=(itoaL n.1,itoaL n.2,true):=by
  rw [e]
  exact cutL_hit (c:=46) _ x3
 unfold editL
 rw [hc]
 simp only [x1,y1]
 rfl
theorem wordB_name {n:Edit} (h:okName n=true):wordB (nameL n):=by
 obtain ⟨_,_,_,_,a0,b0,a1,b1⟩:=okName_key h
 obtain ⟨_,⟨p1,p2,c,r,hc,hc2⟩,_⟩:=number_itoa a0 (by omega)
 obtain ⟨_,⟨q1,q2,_⟩,_⟩:=number_itoa b0 (by omega)
 have e:nameL n=itoaL n.1++46::itoaL n.2:=by
  unfold nameL
  have:S__cdb4=[46]:=rfl
  rw [this]; simp
 rw [e]
 refine ⟨?_,?_,c,r++46::itoaL n.2,by rw [hc]; rfl,hc2⟩
 ·simp only [List.mem_append,List.mem_cons,not_or]
  exact ⟨p1,by decide,q1⟩
 ·simp only [List.mem_append,List.mem_cons,not_or]
  exact ⟨p2,by decide,q2⟩
theorem repA_len {old new:List UInt8} (h:new.length≤old.length) (h1:1≤old.length) : ∀ (k:Nat) (s:List UInt8),(repA old new k s).length≤s.length
 | 0,s=>Nat.le_refl _
 | _+1,[]=>Nat.le_refl _
 | k+1,b::s=>by
  rw [repA]
  split
  ·rename_i hp
   have hl:=(List.isPrefixOf_iff_prefix.1 hp).length_le
   have:=repA_len h h1 k ((b::s).drop old.length)
   simp only [List.length_append,List.length_drop] at this ⊢
   omega
  ·have:=repA_len h h1 k s
   simp only [List.length_cons]; omega
theorem splA_len (sep:List UInt8) : ∀ (k:Nat) (s:List UInt8),(∀ x∈splA sep k s,x.length≤s.length)∧(splA sep k s).length≤k+1
 | 0,s=>by simp [splA]
 | _+1,[]=>by simp [splA]
 | k+1,b::s=>by
  rw [splA]
  split
  ·obtain ⟨h1,h2⟩:=splA_len sep k ((b::s).drop sep.length)
   refine ⟨fun x hx=>?_,by simp only [List.length_cons]; omega⟩
   rcases List.mem_cons.1 hx with rfl | hx
   ·simp
   ·have:=h1 x hx
    simp only [List.length_drop] at this
    omega
  ·obtain ⟨h1,h2⟩:=splA_len sep k s
   split
   ·exact ⟨by simp,by simp⟩
   ·rename_i q qs hq
    rw [hq] at h1 h2
    refine ⟨fun x hx=>?_,by simp only [List.length_cons] at h2 ⊢; omega⟩
    rcases List.mem_cons.1 hx with rfl | hx
    ·have:=h1 q (by simp)
     simp only [List.length_cons]; omega
    ·have:=h1 x (List.mem_cons_of_mem _ hx)
     simp only [List.length_cons]; omega
def partsL (s:List UInt8):List (List UInt8):=splA S__0a07 (repA S_and_e3ee S__0a07 s.length s).length (repA S_and_e3ee S__0a07 s.length s)
theorem report_parts_any {s:List UInt8} (h:s.length≤2147483648):report_parts s=some (partsL s)∧(∀ x∈partsL s,x.length≤s.length)∧(partsL s).length≤s.length+1:=by
 have hr:=repA_len (old:=S_and_e3ee) (new:=S__0a07) (by decide) (by decide) s.length s
 obtain ⟨h1,h2⟩:=splA_len S__0a07 (repA S_and_e3ee S__0a07 s.length s).length (repA S_and_e3ee S__0a07 s.length s)
 refine ⟨?_,fun x hx=>by have:=h1 x hx; omega,by unfold partsL; omega⟩
 unfold report_parts xReplaceAll
 have f1:fits s.length=true:=Nat.ble_eq_true_of_le h
 have f2:fits (repA S_and_e3ee S__0a07 s.length s).length=true:=Nat.ble_eq_true_of_le (by omega)
 rw [chk_t (by rw [f1]; decide)]
 simp only [Option.bind_some]
 unfold xSplit
 rw [chk_t (by rw [f2]; decide)]
 rfl
def eachL {α:Type} (o:List UInt8→α×Bool) (ps:List (List UInt8)):List α×Bool:=if ps.all (fun p=>(o p).2) then (ps.map (fun p=>(o p).1),true) else ([],false)
theorem each_loop {α:Type} {sz:Nat} {f:List α×Int→Option ((List α×Int)⊕(List α⊕(List α×Bool)))} {one:List UInt8→Option (α×Bool)} {o:List UInt8→α×Bool} (ps:List (List UInt8)) (hn:(ps.length+1) * sz≤140737488355328) (h1:1≤sz)
  (ho : ∀ p∈ps,one p=some (o p))
  (hstep : ∀ (i:Nat) (p:List UInt8) (a:List α),ps[i]? = some p→f (a,(i:Int))=(one p).bind fun r=>bif !r.2 then some (.inr (.inr ([],false))) else chk (appOk a.length [r.1].length sz) (some (.inl (a++[r.1],w64 ((i:Int)+1)))))
  (hend : ∀ a,f (a,(ps.length:Int))=some (.inr (.inl a))) :
  Itr.it f (([]:List α),(0:Int))=some (if ps.all (fun p=>(o p).2) then .inl (ps.map fun p=>(o p).1) else .inr ([],false)):=by
 have hsz:ps.length+1≤(ps.length+1) * sz:=Nat.le_mul_of_pos_right _ h1
 have h:=it_inv (f:=f) (fun s=>ps.length - s.2.toNat) (fun s=>∃ k:Nat,s.2=(k:Int)∧k≤ps.length∧s.1=(ps.take k).map (fun p=>(o p).1)∧(ps.take k).all (fun p=>(o p).2)=true)
  (fun r=>r=if ps.all (fun p=>(o p).2) then .inl (ps.map fun p=>(o p).1) else .inr ([],false))
  (fun s hs=>by
   obtain ⟨a,kk⟩:=s
   obtain ⟨k,h1',h2,h3,h4⟩:=hs
   simp only at h1' h3
   subst h1'
   by_cases hk:k<ps.length
   ·have hp:ps[k]? = some ps[k]:=List.getElem?_eq_getElem hk
    rw [hstep k _ a hp,ho _ (List.getElem_mem hk)]
    simp only [Option.bind_some]
    cases h5:(o ps[k]).2
    ·left
     refine ⟨_,rfl,?_⟩
     have:ps.all (fun p=>(o p).2)=false:=by
      rw [List.all_eq_false]
      exact ⟨ps[k],List.getElem_mem hk,by rw [h5]; simp⟩
     rw [this]; rfl
    ·right
     have hal:a.length=k:=by rw [h3,List.length_map,List.length_take]; omega
     have hm:(a.length+1) * sz≤(ps.length+1) * sz:=Nat.mul_le_mul_right _ (by omega)
     simp only [Bool.not_true,cond_false]
     rw [chk_t (appOk_le (by simp only [List.length_singleton]; omega) h1),w64_id (by omega) (by omega)]
     refine ⟨_,rfl,⟨k+1,by omega,by omega,?_,?_⟩,by simp only; omega⟩
     ·show a++[(o ps[k]).1]=_
      rw [List.take_add_one,List.map_append,← h3,hp]; rfl
     ·rw [List.take_add_one,List.all_append,h4,hp]
      simp [h5]
   ·left
    have:k=ps.length:=by omega
    subst this
    rw [List.take_length] at h3 h4
    exact ⟨_,hend a,by rw [h4,h3]; rfl⟩)
  (s:=(([]:List α),(0:Int))) ⟨0,rfl,by omega,by simp,by simp⟩ (by simp only; omega)
 obtain ⟨r,e1,rfl⟩:=h
 exact e1
theorem report_each_names_eq {s:List UInt8} (h:s.length≤1000000000):report_each_api_Name s=some (eachL editL (partsL s)):=by
 obtain ⟨h1,h2,h3⟩:=report_parts_any (s:=s) (by omega)
 unfold report_each_api_Name
 rw [h1]
 simp only [Option.bind_some]
 rw [each_loop (sz:=16) (one:=report_edit) (o:=editL) (partsL s) (by omega) (by omega) (fun p hp=>report_edit_eq (by have:=h2 p hp; omega))
  (fun i p a hp=>by
   have hlt:=lt_of_at hp
   unfold report_each_api_Name_loop1
   simp only
   rw [dec_t (show (i:Int)<((partsL s).length:Int) by omega),cond_true,idx_nat hp]
   rfl) (fun a=>by unfold report_each_api_Name_loop1; simp)]
 unfold eachL
 split <;> rfl
theorem report_each_ints_eq {s:List UInt8} (h:s.length≤1000000000):report_each_int s=some (eachL numberL (partsL s)):=by
 obtain ⟨h1,h2,h3⟩:=report_parts_any (s:=s) (by omega)
 unfold report_each_int
 rw [h1]
 simp only [Option.bind_some]
 rw [each_loop (sz:=8) (one:=xNumber) (o:=numberL) (partsL s) (by omega) (by omega) (fun p hp=>xNumber_eq (by have:=h2 p hp; omega))
  (fun i p a hp=>by
   have hlt:=lt_of_at hp
   unfold report_each_int_loop1
   simp only
   rw [dec_t (show (i:Int)<((partsL s).length:Int) by omega),cond_true,idx_nat hp]
   rfl) (fun a=>by unfold report_each_int_loop1; simp)]
 unfold eachL
 split <;> rfl
theorem each_names {l:List Edit} (hl:l≠[]) (h : ∀ n∈l,okName n=true) (h1:(listL (l.map nameL)).length≤2147483648) (h2:(joinL (l.map nameL) S__0a07).length≤2147483648):eachL editL (partsL (listL (l.map nameL)))=(l,true):=by
 have hp:=report_parts_eq (l:=l.map nameL) (by simpa using hl) (fun x hx=>by
  obtain ⟨n,hn,rfl⟩:=List.mem_map.1 hx
  exact wordB_name (h n hn)) (Nat.ble_eq_true_of_le h1) (Nat.ble_eq_true_of_le h2)
 have hq:=(report_parts_any h1).1
 have e:partsL (listL (l.map nameL))=l.map nameL:=Option.some.inj (hq.symm.trans hp)
 rw [e]
 unfold eachL
 have ha:(l.map nameL).all (fun p=>(editL p).2)=true:=List.all_eq_true.2 fun x hx=>by
  obtain ⟨n,hn,rfl⟩:=List.mem_map.1 hx
  rw [editL_name (h n hn)]
 rw [if_pos ha,List.map_map]
 congr 1
 have : ∀ n∈l,((fun p=>(editL p).1) ∘ nameL) n=n:=fun n hn=>by
  show (editL (nameL n)).1=n
  rw [editL_name (h n hn)]
 rw [List.map_congr_left this,List.map_id']
theorem each_ints {l:List Int} (hl:l≠[]) (h : ∀ n∈l,0≤n∧n≤999) (h1:(listL (l.map itoaL)).length≤2147483648) (h2:(joinL (l.map itoaL) S__0a07).length≤2147483648):eachL numberL (partsL (listL (l.map itoaL)))=(l,true):=by
 have hp:=report_parts_eq (l:=l.map itoaL) (by simpa using hl) (fun x hx=>by
  obtain ⟨n,hn,rfl⟩:=List.mem_map.1 hx
  exact (number_itoa (h n hn).1 (h n hn).2).2.1) (Nat.ble_eq_true_of_le h1) (Nat.ble_eq_true_of_le h2)
 have hq:=(report_parts_any h1).1
 have e:partsL (listL (l.map itoaL))=l.map itoaL:=Option.some.inj (hq.symm.trans hp)
 rw [e]
 unfold eachL
 have ha:(l.map itoaL).all (fun p=>(numberL p).2)=true:=List.all_eq_true.2 fun x hx=>by
  obtain ⟨n,hn,rfl⟩:=List.mem_map.1 hx
  rw [(number_itoa (h n hn).1 (h n hn).2).1]
 rw [if_pos ha,List.map_map]
 congr 1
 have : ∀ n∈l,((fun p=>(numberL p).1) ∘ itoaL) n=n:=fun n hn=>by
  show (numberL (itoaL n)).1=n
  rw [(number_itoa (h n hn).1 (h n hn).2).1]
 rw [List.map_congr_left this,List.map_id']
end Go.Proofs.YtknnphhepnbaoaaGreatDoor
namespace Go.Proofs.YtknnphhepnbaoaaGreatDoor
open Go.Sm
def innerL (s b e:List UInt8):List UInt8×Bool:=
 let t:=if b.isPrefixOf s then s.drop b.length else s
 (if e.isSuffixOf t then t.take (t.length - e.length) else t,b.isPrefixOf s&&e.isSuffixOf t)
theorem report_inner_eq {s b e:List UInt8} (h:s.length≤9223372036854775807):report_inner s b e=some (innerL s b e):=by
 unfold report_inner xCutPrefix
 simp only [Option.bind_some]
 have hl:(if b.isPrefixOf s then s.drop b.length else s).length≤9223372036854775807:=by
  split
  ·rw [List.length_drop]; omega
  ·exact h
 unfold xCutSuffix
 rw [chk_d hl]
 simp only [Option.bind_some]
 unfold innerL
 cases b.isPrefixOf s <;> rfl
theorem innerL_hit (b t e:List UInt8):innerL (b++t++e) b e=(t,true):=by
 unfold innerL
 have h1:b.isPrefixOf (b++t++e)=true:=by rw [List.append_assoc]; exact prefix_self _ _
 rw [h1]
 have h2:(b++t++e).drop b.length=t++e:=by simp
 simp only [if_true,h2]
 have h3:e.isSuffixOf (t++e)=true:=List.isSuffixOf_iff_suffix.2 ⟨t,rfl⟩
 rw [h3]
 simp
theorem innerL_len (s b e:List UInt8):(innerL s b e).1.length≤s.length:=by
 unfold innerL
 have h:(if b.isPrefixOf s then s.drop b.length else s).length≤s.length:=by
  split
  ·rw [List.length_drop]; omega
  ·exact Nat.le_refl _
 simp only
 generalize (if b.isPrefixOf s then s.drop b.length else s)=t at *
 split
 ·rw [List.length_take]; omega
 ·exact h
theorem contains1_eq (ls:List (List Edit)) (s:List Edit) (hn:Small ls) (hs : ∀ l∈ls,Small l):slices_ContainsFunc_api_Name_api_Name_1 ls s=some (ls.any fun x=>decide (x=s)):=by
 obtain ⟨z,h1,h2⟩:=it_any (f:=slices_IndexFunc_api_Name_api_Name_1_loop1 ls s) ls (fun x=>decide (x=s)) hn
  (fun i x hx=>by
   have hlt:=lt_of_at hx
   unfold slices_IndexFunc_api_Name_api_Name_1_loop1 report_readers_1_1
   rw [dec_t (show (i:Int)<(ls.length:Int) by omega),cond_true,idx_nat hx]
   simp only [Option.bind_some,slices_Equal_eq x s (hs x (List.mem_of_getElem? hx))]
   cases decide (x=s) <;> simp [succ64 hn hx])
  (by unfold slices_IndexFunc_api_Name_api_Name_1_loop1; simp)
 unfold slices_ContainsFunc_api_Name_api_Name_1 slices_IndexFunc_api_Name_api_Name_1
 rw [h1]
 rw [← h2]
 cases z <;> rfl
def setArg (s:List UInt8):Option (List Edit):=
 let c:=if (innerL s S_the_edit_db6e S_is_guilty_5dc8).2 then innerL s S_the_edit_db6e S_is_guilty_5dc8 else innerL s S_the_edits_27cf S_are_guilty_to_7335
 if c.2 then (if (eachL editL (partsL c.1)).2 then some (eachL editL (partsL c.1)).1 else none) else some []
def setOkB (s:List UInt8) (v:Vd) (l:List Edit):Bool:=
 (kindOf v.1).2.2.1&&decide (v.2.2.2.2.2.1=[])&&risingB l&&(setL l==s) && !(v.2.2.1.any fun x=>decide (x=l))&&decide (v.2.2.1.length<1024)
def read1 (s:List UInt8) (v:Vd):Option (List Edit):=match setArg s with
 | none=>none
 | some l=>if setOkB s v l then some l else none
def withSet (v:Vd) (l:List Edit):Vd:=(v.1,v.2.1,v.2.2.1++[l],v.2.2.2.1,v.2.2.2.2.1,v.2.2.2.2.2)
theorem kind_at {k:Int} (h0:0≤k) (h1:k<6):idx kindsTab k=some (kindOf k):=by
 obtain ⟨n,rfl⟩ : ∃ n:Nat,k=n:=⟨k.toNat,by omega⟩
 have hk6:n<kindsTab.length:=by show n<6; omega
 rw [idx_nat (List.getElem?_eq_getElem hk6)]
 simp [kindOf,List.getD_eq_getElem?_getD,List.getElem?_eq_getElem hk6]
theorem readers_1_eq {s:List UInt8} {v:Vd} (hs:s.length≤1000000000) (h0:0≤v.1) (h1:v.1<6) (hn:Small v.2.2.1) (hsets : ∀ l∈v.2.2.1,Small l) :
  report_readers_1 s v=some (match read1 s v with | some l=>(true,withSet v l) | none=>(false,v)):=by
 unfold report_readers_1
 rw [report_inner_eq (by omega)]
 simp only [Option.bind_some]
 have hc:(bif !(innerL s S_the_edit_db6e S_is_guilty_5dc8).2 then
   (report_inner s S_the_edits_27cf S_are_guilty_to_7335).bind fun r3=>some (r3.1,r3.2)
  else some ((innerL s S_the_edit_db6e S_is_guilty_5dc8).1,(innerL s S_the_edit_db6e S_is_guilty_5dc8).2):Option (List UInt8×Bool)) =
   some (if (innerL s S_the_edit_db6e S_is_guilty_5dc8).2 then innerL s S_the_edit_db6e S_is_guilty_5dc8 else innerL s S_the_edits_27cf S_are_guilty_to_7335):=by
  rw [report_inner_eq (by omega)]
  generalize innerL s S_the_edit_db6e S_is_guilty_5dc8=a
  obtain ⟨a1,a2⟩:=a
  cases a2 <;> rfl
 rw [hc]
 simp only [Option.bind_some]
 have hlc:(if (innerL s S_the_edit_db6e S_is_guilty_5dc8).2 then innerL s S_the_edit_db6e S_is_guilty_5dc8 else innerL s S_the_edits_27cf S_are_guilty_to_7335).1.length≤s.length:=by
  split
  ·exact innerL_len _ _ _
  ·exact innerL_len _ _ _
 have hread:read1 s v=match setArg s with | none=>none | some l=>if setOkB s v l then some l else none:=rfl
 rw [hread]
 unfold setArg
 simp only
 generalize (if (innerL s S_the_edit_db6e S_is_guilty_5dc8).2 then innerL s S_the_edit_db6e S_is_guilty_5dc8 else innerL s S_the_edits_27cf S_are_guilty_to_7335)=c at *
 have tail : ∀ l:List Edit,((slices_ContainsFunc_api_Name_api_Name_1 v.2.2.1 l).bind fun r6=>
  chk (decide (0≤v.1∧v.1<6)) (
   (idx kindsTab v.1).bind fun v7=>
   (bif !(bif !v7.2.2.1 then true else decide ((0:Int)<(v.2.2.2.2.2.1.length:Int))) then report_rising l else some false).bind fun r8=>
   (bif !(bif bif !v7.2.2.1 then true else decide ((0:Int)<(v.2.2.2.2.2.1.length:Int)) then true else !r8) then report_set l else some ([]:List UInt8)).bind fun r9=>
   bif bif bif bif bif bif !v7.2.2.1 then true else decide ((0:Int)<(v.2.2.2.2.2.1.length:Int)) then true else !r8 then true else !(r9==s) then true else r6 then true else decide ((1024:Int)≤(v.2.2.1.length:Int)) then
    some (false,(v.1,v.2.1,v.2.2.1,v.2.2.2.1,v.2.2.2.2.1,(v.2.2.2.2.2.1,v.2.2.2.2.2.2)))
   else
    chk (appOk v.2.2.1.length [l].length 24) (
     some (true,(v.1,v.2.1,v.2.2.1++[l],v.2.2.2.1,v.2.2.2.2.1,(v.2.2.2.2.2.1,v.2.2.2.2.2.2)))))) =
   (if Small l then some (if setOkB s v l then (true,withSet v l) else (false,v)) else
    ((slices_ContainsFunc_api_Name_api_Name_1 v.2.2.1 l).bind fun r6=>
  chk (decide (0≤v.1∧v.1<6)) (
   (idx kindsTab v.1).bind fun v7=>
   (bif !(bif !v7.2.2.1 then true else decide ((0:Int)<(v.2.2.2.2.2.1.length:Int))) then report_rising l else some false).bind fun r8=>
   (bif !(bif bif !v7.2.2.1 then true else decide ((0:Int)<(v.2.2.2.2.2.1.length:Int)) then true else !r8) then report_set l else some ([]:List UInt8)).bind fun r9=>
   bif bif bif bif bif bif !v7.2.2.1 then true else decide ((0:Int)<(v.2.2.2.2.2.1.length:Int)) then true else !r8 then true else !(r9==s) then true else r6 then true else decide ((1024:Int)≤(v.2.2.1.length:Int)) then
    some (false,(v.1,v.2.1,v.2.2.1,v.2.2.2.1,v.2.2.2.2.1,(v.2.2.2.2.2.1,v.2.2.2.2.2.2)))
   else
    chk (appOk v.2.2.1.length [l].length 24) (
     some (true,(v.1,v.2.1,v.2.2.1++[l],v.2.2.2.1,v.2.2.2.2.1,(v.2.2.2.2.2.1,v.2.2.2.2.2.2))))))):=fun l=>by
  by_cases hl:Small l
  ·rw [if_pos hl,contains1_eq _ _ hn hsets]
   simp only [Option.bind_some]
   rw [chk_d ⟨by omega,by omega⟩,kind_at h0 h1]
   simp only [Option.bind_some]
   unfold setOkB
   cases (kindOf v.1).2.2.1
   ·simp
   ·have eb:decide ((0:Int)<(v.2.2.2.2.2.1.length:Int)) = !decide (v.2.2.2.2.2.1=[]):=by
     by_cases hb:v.2.2.2.2.2.1=[]
     ·rw [hb]; rfl
     ·have:=List.length_pos_iff.2 hb
      rw [dec_t (show (0:Int)<(v.2.2.2.2.2.1.length:Int) by omega),dec_f hb]; rfl
    rw [eb]
    cases decide (v.2.2.2.2.2.1=[])
    ·simp
    ·simp only [Bool.not_true,cond_false,Bool.not_false,cond_true,report_rising_eq l hl,Option.bind_some,Bool.true_and]
     cases hr:risingB l
     ·simp
     ·simp only [Bool.not_true,cond_false,Bool.not_false,cond_true,report_set_eq (rising_setOk hr).1 (rising_setOk hr).2,Option.bind_some,Bool.true_and]
      cases (setL l==s)
      ·simp
      ·cases (v.2.2.1.any fun x=>decide (x=l))
       ·simp only [Bool.not_true,cond_false,Bool.not_false,Bool.true_and]
        by_cases hm:v.2.2.1.length<1024
        ·rw [dec_f (show ¬ (1024:Int)≤(v.2.2.1.length:Int) by omega),dec_t hm,cond_false,chk_t (appOk_le (by simp only [List.length_singleton]; omega) (by omega))]
         rfl
        ·rw [dec_t (show (1024:Int)≤(v.2.2.1.length:Int) by omega),dec_f hm]
         rfl
       ·simp
  ·rw [if_neg hl]
 cases hc2:c.2
 ·simp only [cond_false,Option.bind_some]
  rw [tail [],if_pos (by simp)]
  simp only [Bool.false_eq_true,if_false]
  cases setOkB s v [] <;> rfl
 ·simp only [cond_true,if_true]
  rw [report_each_names_eq (by omega)]
  simp only [Option.bind_some]
  cases he:(eachL editL (partsL c.1)).2
  ·simp only [Bool.not_false,cond_true,Option.bind_some,Bool.false_eq_true,if_false]
  ·simp only [Bool.not_true,cond_false,Option.bind_some,if_true]
   have hsm:Small (eachL editL (partsL c.1)).1:=by
    have h3:=(report_parts_any (s:=c.1) (by omega)).2.2
    unfold eachL
    split
    ·show ((partsL c.1).map _).length<_
     rw [List.length_map]; omega
    ·simp
   rw [tail _,if_pos hsm]
   cases setOkB s v (eachL editL (partsL c.1)).1 <;> rfl
theorem setArg_setL {l:List Edit} (h:risingB l=true):setArg (setL l)=some l:=by
 have hok:=(rising_ok h).2
 have hlen:=(rising_ok h).1
 match l,h,hok,hlen with
 | [],_,_,_=>decide +kernel
 | [n],_,hok,_=>
  have e:setL [n]=S_the_edit_db6e++nameL n++S_is_guilty_5dc8:=rfl
  have hn:=nameL_len n
  have h1:=each_names (l:=[n]) (by simp) hok (by show (nameL n).length≤_; omega) (by show (nameL n).length≤_; omega)
  have e2:listL ([n].map nameL)=nameL n:=rfl
  rw [e2] at h1
  unfold setArg
  rw [e,innerL_hit]
  simp only [if_true,h1]
 | x::y::r,_,hok,hlen=>
  have e:setL (x::y::r)=S_the_edits_27cf++listL ((x::y::r).map nameL)++S_are_guilty_to_7335:=rfl
  have hll:=listL_len (l:=(x::y::r).map nameL) (by rw [List.length_map]; omega) (names_len _)
  have hjl:=joinL_len S__0a07 (m:=1000) ((x::y::r).map nameL) (names_len _)
  rw [List.length_map] at hjl
  have hs:S__0a07.length=2:=rfl
  rw [hs] at hjl
  have h1:=each_names (l:=x::y::r) (by simp) hok (by omega) (by omega)
  have hno:(innerL (setL (x::y::r)) S_the_edit_db6e S_is_guilty_5dc8).2=false:=by
   have hp:List.isPrefixOf S_the_edit_db6e (setL (x::y::r))=false:=by
    rw [e]
    have:S_the_edits_27cf=[116,104,101,32,101,100,105,116,115,32]:=rfl
    rw [this]
    rfl
   unfold innerL
   simp only [hp,Bool.false_and]
  unfold setArg
  simp only
  rw [hno]
  simp only [Bool.false_eq_true,if_false]
  rw [e,innerL_hit]
  simp only [if_true,h1]
end Go.Proofs.YtknnphhepnbaoaaGreatDoor
namespace Go.Proofs.YtknnphhepnbaoaaGreatDoor
open Go.Sm
theorem innerL_back {s b e:List UInt8} (h:(innerL s b e).2=true):s=b++(innerL s b e).1++e:=by
 unfold innerL at h ⊢
 simp only [Bool.and_eq_true] at h
 obtain ⟨h1,h2⟩:=h
 simp only [h1,if_true] at h2 ⊢
 simp only [h2,if_true]
 have e1:=suffix_take h2
 obtain ⟨t,ht⟩:=List.isPrefixOf_iff_prefix.1 h1
 have e2:s.drop b.length=t:=by rw [← ht]; simp
 rw [e2] at e1 ⊢
 rw [List.append_assoc,← e1,ht]
def wordArg (s:List UInt8):Option (List Int):=
 let c:=if (innerL s S_it_shows_by_th_d234 S__cdb4).2 then innerL s S_it_shows_by_th_d234 S__cdb4 else innerL s S_it_shows_by_th_603a S__cdb4
 if c.2 then (if (eachL numberL (partsL c.1)).2 then some (eachL numberL (partsL c.1)).1 else none) else none
def read3 (s:List UInt8) (v:Vd):Option (List Int):=
 if (kindOf v.1).2.2.2.2 && !decide (v.2.2.2.2.2.1=[])&&decide (v.2.2.2.1=[]) then (match wordArg s with
  | some l=>if possB l&&(choicesL l==s) then some l else none
  | none=>none) else none
def withWord (v:Vd) (l:List Int):Vd:=(v.1,v.2.1,v.2.2.1,l,v.2.2.2.2.1,v.2.2.2.2.2)
theorem readers_3_eq {s:List UInt8} {v:Vd} (hs:s.length≤1000000000) (h0:0≤v.1) (h1:v.1<6) :
  report_readers_3 s v=some (match read3 s v with | some l=>(true,withWord v l) | none=>(false,v)):=by
 unfold report_readers_3
 rw [report_inner_eq (by omega)]
 simp only [Option.bind_some]
 have hc:(bif !(innerL s S_it_shows_by_th_d234 S__cdb4).2 then
   (report_inner s S_it_shows_by_th_603a S__cdb4).bind fun r3=>some (r3.1,r3.2)
  else some ((innerL s S_it_shows_by_th_d234 S__cdb4).1,(innerL s S_it_shows_by_th_d234 S__cdb4).2):Option (List UInt8×Bool)) =
   some (if (innerL s S_it_shows_by_th_d234 S__cdb4).2 then innerL s S_it_shows_by_th_d234 S__cdb4 else innerL s S_it_shows_by_th_603a S__cdb4):=by
  rw [report_inner_eq (by omega)]
  generalize innerL s S_it_shows_by_th_d234 S__cdb4=a
  obtain ⟨a1,a2⟩:=a
  cases a2 <;> rfl
 rw [hc]
 simp only [Option.bind_some]
 have hlc:(if (innerL s S_it_shows_by_th_d234 S__cdb4).2 then innerL s S_it_shows_by_th_d234 S__cdb4 else innerL s S_it_shows_by_th_603a S__cdb4).1.length≤s.length:=by
  split
  ·exact innerL_len _ _ _
  ·exact innerL_len _ _ _
 unfold read3 wordArg
 simp only
 generalize (if (innerL s S_it_shows_by_th_d234 S__cdb4).2 then innerL s S_it_shows_by_th_d234 S__cdb4 else innerL s S_it_shows_by_th_603a S__cdb4)=c at *
 rw [chk_t (by rw [dec_t ⟨h0,h1⟩,Bool.or_true])]
 cases hc2:c.2
 ·simp
 ·simp only [Bool.not_true,Bool.not_false,cond_true,cond_false,kind_at h0 h1,Option.bind_some,if_true]
  have eb:((v.2.2.2.2.2.1.length:Int)==0)=decide (v.2.2.2.2.2.1=[]):=by
   by_cases hb:v.2.2.2.2.2.1=[]
   ·rw [hb]; rfl
   ·have:=List.length_pos_iff.2 hb
    rw [dec_f hb,beq_eq_false_iff_ne]; omega
  have ew:decide ((0:Int)<(v.2.2.2.1.length:Int)) = !decide (v.2.2.2.1=[]):=by
   by_cases hb:v.2.2.2.1=[]
   ·rw [hb]; rfl
   ·have:=List.length_pos_iff.2 hb
    rw [dec_t (show (0:Int)<(v.2.2.2.1.length:Int) by omega),dec_f hb]; rfl
  rw [eb,ew]
  cases (kindOf v.1).2.2.2.2
  ·simp
  cases decide (v.2.2.2.2.2.1=[])
  ·cases decide (v.2.2.2.1=[])
   ·simp
   ·simp only [Bool.not_true,Bool.not_false,cond_false,Bool.true_and,Bool.and_true,if_true]
    rw [report_each_ints_eq (by omega)]
    simp only [Option.bind_some]
    cases he:(eachL numberL (partsL c.1)).2
    ·simp
    ·simp only [Bool.not_true,Bool.not_false,cond_true,cond_false,report_possible_eq,Option.bind_some,if_true]
     generalize (eachL numberL (partsL c.1)).1=l
     cases hp:possB l
     ·simp
     ·have hw:=possB_ok hp
      simp only [Bool.not_true,Bool.not_false,cond_true,cond_false,Bool.true_and]
      rw [report_choices_eq (by omega) fun n hn=>(hw.2 n hn).1]
      simp only [Option.bind_some]
      cases choicesL l==s <;> rfl
  ·simp
theorem wordArg_choicesL {l:List Int} (h:possB l=true) (hl:l≠[]):wordArg (choicesL l)=some l:=by
 have hw:=possB_ok h
 have hr : ∀ n∈l,0≤n∧n≤999:=fun n hn=>(hw.2 n hn).2
 match l,hl,hw.1,hr with
 | [n],_,_,hr=>
  have e:choicesL [n]=S_it_shows_by_th_d234++itoaL n++S__cdb4:=rfl
  have hn:=itoaL_len n
  have h1:=each_ints (l:=[n]) (by simp) hr (by show (itoaL n).length≤_; omega) (by show (itoaL n).length≤_; omega)
  have e2:listL ([n].map itoaL)=itoaL n:=rfl
  rw [e2] at h1
  unfold wordArg
  rw [e,innerL_hit]
  simp only [if_true,h1]
 | x::y::r,_,hlen,hr=>
  have e:choicesL (x::y::r)=S_it_shows_by_th_603a++listL ((x::y::r).map itoaL)++S__cdb4:=rfl
  have hll:=listL_len (l:=(x::y::r).map itoaL) (by rw [List.length_map]; omega) (ints_len _)
  have hjl:=joinL_len S__0a07 (m:=1000) ((x::y::r).map itoaL) (ints_len _)
  rw [List.length_map] at hjl
  have hs:S__0a07.length=2:=rfl
  rw [hs] at hjl
  have h1:=each_ints (l:=x::y::r) (by simp) hr (by omega) (by omega)
  have hno:(innerL (choicesL (x::y::r)) S_it_shows_by_th_d234 S__cdb4).2=false:=by
   have hp:List.isPrefixOf S_it_shows_by_th_d234 (choicesL (x::y::r))=false:=by
    rw [e]
    rfl
   unfold innerL
   simp only [hp,Bool.false_and]
  unfold wordArg
  simp only
  rw [hno]
  simp only [Bool.false_eq_true,if_false]
  rw [e,innerL_hit]
  simp only [if_true,h1]
def withBound (v:Vd) (r:List Int×List Int):Vd:=(v.1,v.2.1,v.2.2.1,v.2.2.2.1,v.2.2.2.2.1,r)
structure Meas (v:Vd) (s:List UInt8) (r:List Int×List Int):Prop where
 kb:(kindOf v.1).2.2.2.1=true
 ks : ¬ ((kindOf v.1).2.2.1=true∧v.2.2.1=[])
 vb:v.2.2.2.2.2.1=[]
 ok:RatOk r
 pos:r.1≠[]
 le:nat32 r.1≤denN (nat32 r.2)
 tx : ∃ t,RatText r t∧s=S_it_fails_with_5cf6++t++S__cdb4
theorem readers_2_eq {s:List UInt8} {v:Vd} {m:Nat} (hs:s.length≤1000000000) (h0:0≤v.1) (h1:v.1<6) (hG:GcdAll m) (hm : ∀ b:List UInt8,b.all isDig=true→b.length<(innerL s S_it_fails_with_5cf6 S__cdb4).1.length→decV b<m) :
  (∃ r,Meas v s r∧report_readers_2 s v=some (true,withBound v r))∨((∀ r,¬ Meas v s r)∧report_readers_2 s v=some (false,v)):=by
 unfold report_readers_2
 rw [report_inner_eq (by omega)]
 simp only [Option.bind_some]
 have hlc:=innerL_len s S_it_fails_with_5cf6 S__cdb4
 have hback : ∀ t,s=S_it_fails_with_5cf6++t++S__cdb4→innerL s S_it_fails_with_5cf6 S__cdb4=(t,true):=fun t e=>by rw [e]; exact innerL_hit _ _ _
 have hfwd:=innerL_back (s:=s) (b:=S_it_fails_with_5cf6) (e:=S__cdb4)
 generalize innerL s S_it_fails_with_5cf6 S__cdb4=c at *
 rw [chk_t (by rw [dec_t ⟨h0,h1⟩,Bool.or_true])]
 cases hc2:c.2
 ·right
  refine ⟨fun r hM=>?_,by simp; rfl⟩
  obtain ⟨t,_,e⟩:=hM.tx
  rw [hback t e] at hc2
  cases hc2
 ·have hse:=hfwd hc2
  simp only [Bool.not_true,Bool.not_false,cond_true,cond_false,kind_at h0 h1,Option.bind_some]
  rw [chk_t (by rw [dec_t ⟨h0,h1⟩,Bool.or_true])]
  have eb:decide ((0:Int)<(v.2.2.2.2.2.1.length:Int)) = !decide (v.2.2.2.2.2.1=[]):=by
   by_cases hb:v.2.2.2.2.2.1=[]
   ·rw [hb]; rfl
   ·have:=List.length_pos_iff.2 hb
    rw [dec_t (show (0:Int)<(v.2.2.2.2.2.1.length:Int) by omega),dec_f hb]; rfl
  have es:((v.2.2.1.length:Int)==0)=decide (v.2.2.1=[]):=by
   by_cases hb:v.2.2.1=[]
   ·rw [hb]; rfl
   ·have:=List.length_pos_iff.2 hb
    rw [dec_f hb,beq_eq_false_iff_ne]; omega
  rw [eb,es]
  cases hkb:(kindOf v.1).2.2.2.1
  ·right
   exact ⟨fun r hM=>absurd (hkb.symm.trans hM.kb) (by decide),by simp⟩
  simp only [Bool.not_true,Bool.not_false,cond_true,cond_false,Option.bind_some]
  by_cases hks:(kindOf v.1).2.2.1=true∧v.2.2.1=[]
  ·right
   refine ⟨fun r hM=>hM.ks hks,?_⟩
   rw [hks.1,dec_t hks.2]
   rfl
  have hks2:(bif (kindOf v.1).2.2.1 then decide (v.2.2.1=[]) else false)=false:=by
   cases hk:(kindOf v.1).2.2.1
   ·rfl
   ·rw [cond_true,dec_f (fun e=>hks ⟨hk,e⟩)]
  rw [hks2]
  by_cases hvb:v.2.2.2.2.2.1=[]
  ·rw [dec_t hvb]
   simp only [Bool.not_true,cond_false]
   obtain ⟨r,e,p1,p2,p3⟩:=ratio_Parse_spec (t:=c.1) (by omega) hG hm
   rw [p1]
   simp only [Option.bind_some]
   by_cases he:e=0
   ·obtain ⟨q1,q2⟩:=p2 he
    subst he
    have hw:=report_within_eq q1
    have e0:((0:Int) != 0)=false:=rfl
    rw [e0]
    simp only [Bool.not_false,cond_true,cond_false]
    have hw2:report_within (r.1,r.2)=some (decide (nat32 r.1≤denN (nat32 r.2))):=hw
    rw [hw2]
    simp only [Option.bind_some]
    have only : ∀ r',Meas v s r' → r' = r:=fun r' hM=>by
     obtain ⟨t,ht,e⟩:=hM.tx
     have hct:=hback t e
     rw [hct] at q2
     simp only at q2
     exact RatText.det hM.ok q1 ht q2
    by_cases hle:nat32 r.1≤denN (nat32 r.2)
    ·rw [dec_t hle]
     by_cases hpos:r.1=[]
     ·right
      refine ⟨fun r' hM=>?_,by rw [hpos]; rfl⟩
      have:=hM.pos
      rw [only r' hM] at this
      exact this hpos
     ·left
      have:=List.length_pos_iff.2 hpos
      have e1:((r.1.length:Int)==0)=false:=by rw [beq_eq_false_iff_ne]; omega
      refine ⟨r,⟨hkb,hks,hvb,q1,hpos,hle,c.1,q2,hse⟩,?_⟩
      rw [e1]
      rfl
    ·right
     refine ⟨fun r' hM=>?_,by rw [dec_f hle]; rfl⟩
     have:=hM.le
     rw [only r' hM] at this
     exact hle this
   ·right
    have e0:((e:Int) != 0)=true:=by simpa using he
    refine ⟨fun r' hM=>?_,by rw [e0]; rfl⟩
    obtain ⟨t,ht,e'⟩:=hM.tx
    have hct:=hback t e'
    have:=p3 he r' hM.ok
    rw [hct] at this
    exact this ht
  ·right
   refine ⟨fun r hM=>hvb hM.vb,?_⟩
   rw [dec_f hvb]
   rfl
end Go.Proofs.YtknnphhepnbaoaaGreatDoor
namespace Go.Proofs.YtknnphhepnbaoaaGreatDoor
open Go.Sm
def m2 (s:List UInt8) (v:Vd):Option Vd:=match report_readers_2 s v with
 | some (true,w)=>some w
 | _=>none
def stepP (s:List UInt8) (v:Vd):Option Vd:=match read1 s v with
 | some l=>some (withSet v l)
 | none=>match m2 s v with
  | some w=>some w
  | none=>(read3 s v).map (withWord v)
theorem ratOk_zero:RatOk (([],[]):List Int×List Int):=
 ⟨⟨by simp [limbs],by simp⟩,⟨by simp [limbs],by simp⟩,by simp,by simp,fun h=>absurd rfl h,by simp [validB,nat32]⟩
structure InvV (v:Vd):Prop where
 k0:0≤v.1
 k1:v.1<6
 many:v.2.2.1.length≤1024
 sets : ∀ l∈v.2.2.1,risingB l=true
 ok:RatOk v.2.2.2.2.2
theorem InvV.small {v:Vd} (h:InvV v):Small v.2.2.1∧∀ l∈v.2.2.1,Small l:=
 ⟨by have:=h.many; show v.2.2.1.length<_; omega,fun l hl=>by have:=(rising_ok (h.sets l hl)).1; show l.length<_; omega⟩
def Few (m:Nat) (s:List UInt8):Prop:=s.length≤1000000000∧∀ b:List UInt8,b.all isDig=true→b.length<(innerL s S_it_fails_with_5cf6 S__cdb4).1.length→decV b<m
theorem m2_eq {s:List UInt8} {v:Vd} {m:Nat} (hv:InvV v) (hG:GcdAll m) (hs:Few m s):report_readers_2 s v=some (match m2 s v with | some w=>(true,w) | none=>(false,v))∧(∀ w,m2 s v=some w→∃ r,Meas v s r∧w=withBound v r)∧(m2 s v=none→∀ r,¬ Meas v s r):=by
 rcases readers_2_eq hs.1 hv.k0 hv.k1 hG hs.2 with ⟨r,h1,h2⟩ | ⟨h1,h2⟩
 ·have e:m2 s v=some (withBound v r):=by unfold m2; rw [h2]
  rw [e,h2]
  exact ⟨rfl,fun w hw=>⟨r,h1,(Option.some.inj hw).symm⟩,fun h=>by cases h⟩
 ·have e:m2 s v=none:=by unfold m2; rw [h2]
  rw [e,h2]
  exact ⟨rfl,(fun w hw=>by cases hw),fun _=>h1⟩
theorem stepP_inv {s:List UInt8} {v w:Vd} {m:Nat} (hv:InvV v) (hG:GcdAll m) (hs:Few m s) (h:stepP s v=some w):InvV w:=by
 unfold stepP at h
 cases h1:read1 s v with
 | some l=>
  rw [h1] at h
  cases h
  unfold read1 at h1
  cases h2:setArg s with
  | none=>rw [h2] at h1; cases h1
  | some l' =>
   rw [h2] at h1
   simp only at h1
   split at h1
   ·rename_i hc
    cases h1
    unfold setOkB at hc
    simp only [Bool.and_eq_true,decide_eq_true_eq] at hc
    refine ⟨hv.k0,hv.k1,?_,fun x hx=>?_,hv.ok⟩
    ·show (v.2.2.1++[l]).length≤1024
     rw [List.length_append,List.length_singleton]; omega
    ·have hx:x∈v.2.2.1++[l]:=hx
     rcases List.mem_append.1 hx with hx | hx
     ·exact hv.sets x hx
     ·rw [List.mem_singleton] at hx
      subst hx
      exact hc.1.1.1.2
   ·cases h1
 | none=>
  rw [h1] at h
  simp only at h
  cases h2:m2 s v with
  | some w' =>
   rw [h2] at h
   cases h
   obtain ⟨r,hM,rfl⟩:=(m2_eq hv hG hs).2.1 _ h2
   exact ⟨hv.k0,hv.k1,hv.many,hv.sets,hM.ok⟩
  | none=>
   rw [h2] at h
   simp only [Option.map_eq_some_iff] at h
   obtain ⟨l,_,rfl⟩:=h
   exact ⟨hv.k0,hv.k1,hv.many,hv.sets,hv.ok⟩
theorem parse_inner {s:List UInt8} {v:Vd} {m:Nat} (hv:InvV v) (hG:GcdAll m) (hs:Few m s) :
  Itr.it (report_Parse_loop2 s [99,104,106]) (0,v)=some (match stepP s v with | some w=>.inr (.inl w) | none=>.inl v):=by
 have h:=it_inv (f:=report_Parse_loop2 s [99,104,106]) (fun st=>3 - st.1.toNat)
  (fun st=>st.2=v∧∃ i:Nat,st.1=(i:Int)∧i≤3∧(1≤i→read1 s v=none)∧(2≤i→m2 s v=none)∧(3≤i→read3 s v=none))
  (fun r=>r=match stepP s v with | some w=>.inr (.inl w) | none=>.inl v)
  (fun st hst=>by
   obtain ⟨a,u⟩:=st
   obtain ⟨h1,i,h2,h3,h4,h5,h6⟩:=hst
   simp only at h1 h2
   subst h1 h2
   unfold report_Parse_loop2
   have hveq:(u.1,u.2.1,u.2.2.1,u.2.2.2.1,u.2.2.2.2.1,(u.2.2.2.2.2.1,u.2.2.2.2.2.2))=u:=rfl
   have q1:=readers_1_eq hs.1 hv.k0 hv.k1 hv.small.1 hv.small.2
   have q2:=(m2_eq hv hG hs).1
   have q3:=readers_3_eq hs.1 hv.k0 hv.k1
   simp only
   rw [hveq]
   rcases (show i=0∨i=1∨i=2∨i=3 by omega) with rfl | rfl | rfl | rfl
   ·have hd:dyn1 99 s u=report_readers_1 s u:=rfl
    have hi:idx ([99,104,106]:List Nat) ((0:Nat):Int)=some 99:=rfl
    have hlt:decide (((0:Nat):Int)<(([99,104,106]:List Nat).length:Int))=true:=rfl
    rw [hlt,hi]
    simp only [cond_true,Option.bind_some]
    rw [hd,q1]
    simp only [Option.bind_some]
    cases hr:read1 s u with
    | some l=>
     left
     refine ⟨_,rfl,?_⟩
     have:stepP s u=some (withSet u l):=by unfold stepP; rw [hr]
     rw [this]
    | none=>
     right
     refine ⟨_,rfl,⟨rfl,1,by rw [w64_id] <;> simp,by omega,(fun _=>by first | exact hr | rfl),fun h=>by omega,fun h=>by omega⟩,?_⟩
     have:w64 (((0:Nat):Int)+1)=1:=by rw [w64_id] <;> simp
     show 3 - (w64 (((0:Nat):Int)+1)).toNat<3 - (((0:Nat):Int)).toNat
     rw [this]
     decide
   ·have hd:dyn1 104 s u=report_readers_2 s u:=rfl
    have hi:idx ([99,104,106]:List Nat) ((1:Nat):Int)=some 104:=rfl
    have hlt:decide (((1:Nat):Int)<(([99,104,106]:List Nat).length:Int))=true:=rfl
    rw [hlt,hi]
    simp only [cond_true,Option.bind_some]
    rw [hd,q2]
    simp only [Option.bind_some]
    have r1:=h4 (by omega)
    cases hr:m2 s u with
    | some w=>
     left
     refine ⟨_,rfl,?_⟩
     have:stepP s u=some w:=by unfold stepP; rw [r1]; simp only [hr]
     rw [this]
    | none=>
     right
     refine ⟨_,rfl,⟨rfl,2,by rw [w64_id] <;> simp,by omega,fun _=>r1,(fun _=>by first | exact hr | rfl),fun h=>by omega⟩,?_⟩
     have:w64 (((1:Nat):Int)+1)=2:=by rw [w64_id] <;> simp
     show 3 - (w64 (((1:Nat):Int)+1)).toNat<3 - (((1:Nat):Int)).toNat
     rw [this]
     decide
   ·have hd:dyn1 106 s u=report_readers_3 s u:=rfl
    have hi:idx ([99,104,106]:List Nat) ((2:Nat):Int)=some 106:=rfl
    have hlt:decide (((2:Nat):Int)<(([99,104,106]:List Nat).length:Int))=true:=rfl
    rw [hlt,hi]
    simp only [cond_true,Option.bind_some]
    rw [hd,q3]
    simp only [Option.bind_some]
    have r1:=h4 (by omega)
    have r2:=h5 (by omega)
    cases hr:read3 s u with
    | some l=>
     left
     refine ⟨_,rfl,?_⟩
     have:stepP s u=some (withWord u l):=by unfold stepP; rw [r1]; simp only [r2,hr]; rfl
     rw [this]
    | none=>
     right
     refine ⟨_,rfl,⟨rfl,3,by rw [w64_id] <;> simp,by omega,fun _=>r1,fun _=>r2,(fun _=>by first | exact hr | rfl)⟩,?_⟩
     have:w64 (((2:Nat):Int)+1)=3:=by rw [w64_id] <;> simp
     show 3 - (w64 (((2:Nat):Int)+1)).toNat<3 - (((2:Nat):Int)).toNat
     rw [this]
     decide
   ·left
    have hlt:decide (((3:Nat):Int)<(([99,104,106]:List Nat).length:Int))=false:=rfl
    rw [hlt,cond_false]
    refine ⟨_,rfl,?_⟩
    have:stepP s u=none:=by unfold stepP; rw [h4 (by omega)]; simp only [h5 (by omega),h6 (by omega)]; rfl
    rw [this])
  (s:=((0:Int),v)) ⟨rfl,0,rfl,by omega,fun h=>by omega,fun h=>by omega,fun h=>by omega⟩ (by simp only; omega)
 obtain ⟨r,e1,rfl⟩:=h
 exact e1
end Go.Proofs.YtknnphhepnbaoaaGreatDoor
namespace Go.Proofs.YtknnphhepnbaoaaGreatDoor
open Go.Sm
def runP:List (List UInt8)→Nat→Vd→Vd⊕Nat
 | [],_,v=>.inl v
 | s::r,i,v=>match stepP s v with
  | some w=>runP r (i+1) w
  | none=>.inr (i+1)
theorem runP_inv {m:Nat} (hG:GcdAll m) : ∀ (r:List (List UInt8)) (i:Nat) (v w:Vd),InvV v→(∀ s∈r,Few m s)→runP r i v = .inl w→InvV w
 | [],_,v,w,hv,_,h=>by
  simp only [runP,Sum.inl.injEq] at h
  subst h; exact hv
 | s::r,i,v,w,hv,hs,h=>by
  simp only [runP] at h
  cases h1:stepP s v with
  | none=>rw [h1] at h; cases h
  | some u=>
   rw [h1] at h
   exact runP_inv hG r (i+1) u w (stepP_inv hv hG (hs s (by simp)) h1) (fun z hz=>hs z (List.mem_cons_of_mem _ hz)) h
theorem parse_outer {s0:List UInt8} {r:List (List UInt8)} {v:Vd} {m:Nat} (hv:InvV v) (hG:GcdAll m) (hs : ∀ s∈r,Few m s) (hn:Small (s0::r)) :
  Itr.it (report_Parse_loop1 (s0::r)) (0,v)=some (match runP r 0 v with | .inl w=>.inl w | .inr i=>.inr (vd0,(i:Int),2)):=by
 have hlen:(s0::r).length=r.length+1:=rfl
 have hr:(((s0::r).take (((s0::r).length:Int)).toNat).drop (1:Int).toNat)=r:=by
  rw [Int.toNat_natCast,List.take_length]; rfl
 have h:=it_inv (f:=report_Parse_loop1 (s0::r)) (fun st=>r.length - st.1.toNat)
  (fun st=>∃ k:Nat,st.1=(k:Int)∧k≤r.length∧InvV st.2∧runP (r.drop k) k st.2=runP r 0 v)
  (fun res=>res=match runP r 0 v with | .inl w=>.inl w | .inr i=>.inr (vd0,(i:Int),2))
  (fun st hst=>by
   obtain ⟨a,u⟩:=st
   obtain ⟨k,h1,h2,h3,h4⟩:=hst
   simp only at h1 h3 h4
   subst h1
   unfold report_Parse_loop1
   simp only
   rw [hr]
   by_cases hk:k<r.length
   ·have hx:r[k]? = some r[k]:=List.getElem?_eq_getElem hk
    have hin:=parse_inner h3 hG (hs r[k] (List.getElem_mem hk))
    rw [List.drop_eq_getElem_cons hk] at h4
    simp only [runP] at h4
    rw [dec_t (show (k:Int)<(r.length:Int) by omega),idx_nat hx]
    simp only [cond_true,Option.bind_some]
    have hrd:report_readers=some [99,104,106]:=rfl
    rw [hrd]
    simp only [Option.bind_some]
    have hw:w64 ((k:Int)+1)=((k+1:Nat):Int):=by rw [w64_id (by omega) (by omega)]; omega
    have hin2:Itr.it (report_Parse_loop2 r[k] [99,104,106]) (0,u.1,u.2.1,u.2.2.1,u.2.2.2.1,u.2.2.2.2.1,u.2.2.2.2.2.1,u.2.2.2.2.2.2)=some (match stepP r[k] u with | some w=>.inr (.inl w) | none=>.inl u):=hin
    rw [hin2]
    cases hst:stepP r[k] u with
    | some w=>
     right
     rw [hst] at h4
     refine ⟨(((k+1:Nat):Int),w),?_,⟨k+1,rfl,by omega,stepP_inv h3 hG (hs r[k] (List.getElem_mem hk)) hst,h4⟩,by simp only [Int.toNat_natCast]; omega⟩
     simp only [Option.bind_some]
     rw [hw]
    | none=>
     left
     rw [hst] at h4
     refine ⟨_,rfl,?_⟩
     rw [← h4,hw]
     rfl
   ·left
    have hk2:k=r.length:=by omega
    subst hk2
    rw [List.drop_length] at h4
    simp only [runP] at h4
    rw [dec_f (show ¬ (r.length:Int)<(r.length:Int) by omega),cond_false]
    exact ⟨_,rfl,by rw [← h4]⟩)
  (s:=((0:Int),v)) ⟨0,rfl,by omega,hv,rfl⟩ (by simp only; omega)
 obtain ⟨res,e1,rfl⟩:=h
 exact e1
def leB (v:Vd):Bool:=decide (nat32 v.2.2.2.2.2.1≤denN (nat32 v.2.2.2.2.2.2))
def parseL:List (List UInt8)→Vd×Int×Int
 | []=>(vd0,0,3)
 | s::r=>if (firstL s).2 then (match runP r 0 (firstL s).1 with
  | .inl w=>if properB (leB w) w then (w,((s::r).length:Int),0) else (vd0,((s::r).length:Int),3)
  | .inr i=>(vd0,(i:Int),2)) else (vd0,0,2)
theorem firstL_inv {s:List UInt8} {v:Vd} (h:firstL s=(v,true)):InvV v:=by
 obtain ⟨k,m,hk,hm,_,t,_,rfl,_⟩:=firstL_back h
 exact ⟨by show 0≤(k:Int); omega,by show (k:Int)<6; omega,by show ([]:List (List Edit)).length≤1024; simp,(fun l hl=>by cases hl),ratOk_zero⟩
theorem report_Parse_eq {x:List (List UInt8)} {m:Nat} (hG:GcdAll m) (hs : ∀ s∈x,Few m s) (hn:Small x):report_Parse x=some (parseL x):=by
 unfold report_Parse
 match x,hs,hn with
 | [],_,_=>rfl
 | s::r,hs,hn=>
  have e0:(((s::r).length:Int)==0)=false:=by simp; omega
  have hi:idx (s::r) (0:Int)=some s:=idx_nat (i:=0) rfl
  have hfew:=(hs s (by simp)).1
  rw [e0,cond_false,hi]
  simp only [Option.bind_some]
  rw [report_first_eq (by omega)]
  simp only [Option.bind_some,parseL]
  cases hf:(firstL s).2
  ·rfl
  ·have hpair:firstL s=((firstL s).1,true):=Prod.ext rfl hf
   have hinv:=firstL_inv hpair
   generalize (firstL s).1=v at *
   have hlen:(s::r).length=r.length+1:=rfl
   simp only [Bool.not_true,cond_false,if_true]
   rw [chk_d ⟨by omega,by omega,by omega⟩]
   have ho:=parse_outer (s0:=s) hinv hG (fun z hz=>hs z (List.mem_cons_of_mem _ hz)) hn
   have ho2:Itr.it (report_Parse_loop1 (s::r)) (0,v.1,v.2.1,v.2.2.1,v.2.2.2.1,v.2.2.2.2.1,v.2.2.2.2.2.1,v.2.2.2.2.2.2)=some (match runP r 0 v with | .inl w=>.inl w | .inr i=>.inr (vd0,(i:Int),2)):=ho
   rw [ho2]
   cases hr:runP r 0 v with
   | inr i=>rfl
   | inl w=>
    have hw:=runP_inv hG r 0 v w hinv (fun z hz=>hs z (List.mem_cons_of_mem _ hz)) hr
    simp only [Option.bind_some]
    have hveq:(w.1,w.2.1,w.2.2.1,w.2.2.2.1,w.2.2.2.2.1,(w.2.2.2.2.2.1,w.2.2.2.2.2.2))=w:=rfl
    rw [hveq,report_proper_eq (report_within_eq hw.ok) hw.small.1 hw.small.2]
    simp only [Option.bind_some]
    show (bif !(properB (leB w) w) then _ else _)=_
    cases properB (leB w) w <;> rfl
end Go.Proofs.YtknnphhepnbaoaaGreatDoor
namespace Go.Proofs.YtknnphhepnbaoaaGreatDoor
open Go.Sm
end Go.Proofs.YtknnphhepnbaoaaGreatDoor
namespace Go.Proofs.YtknnphhepnbaoaaGreatDoor
open Go.Sm
end Go.Proofs.YtknnphhepnbaoaaGreatDoor
namespace Go.Proofs.YtknnphhepnbaoaaGreatDoor
open Go.Sm
end Go.Proofs.YtknnphhepnbaoaaGreatDoor
namespace Go.Proofs.YtknnphhepnbaoaaGreatDoor
open Go.Sm
theorem around_eq {x m:Int} (hx:i64 x) (hm:0<m) : ∃ r,culpritref01_Around x m=some r∧0≤r∧r<m:=by
 unfold culpritref01_Around
 have hz:(m==0)=false:=by rw [beq_eq_false_iff_ne]; omega
 obtain ⟨h1,h2⟩:=hx
 have key : ∀ y:Int,0≤y→0≤Int.tmod y m∧Int.tmod y m<m:=fun y hy=>by
  rw [Int.tmod_eq_emod_of_nonneg hy]
  exact ⟨Int.emod_nonneg _ (by omega),Int.emod_lt_of_pos _ hm⟩
 by_cases h0:x<0
 ·have e1:w64 (0 - w64 (x+1)) = -(x+1):=by
   rw [w64_id (x:=x+1) (by omega) (by omega),w64_id (by omega) (by omega)]; omega
  rw [dec_t h0,cond_true,e1,hz]
  exact ⟨_,rfl,key _ (by omega)⟩
 ·rw [dec_f h0,cond_false,hz]
  exact ⟨_,rfl,key _ (by omega)⟩
theorem at_eq {l:List Int} {k m:Int} (hl : ∀ n∈l,i64 n) (hm:0<m) : ∃ r,culpritref01_At l k m=some r∧0≤r∧r<m:=by
 unfold culpritref01_At
 by_cases h0:k<0
 ·rw [dec_t h0]
  exact ⟨0,rfl,by omega,hm⟩
 by_cases h1:(l.length:Int)≤k
 ·rw [dec_f h0,dec_t h1]
  exact ⟨0,rfl,by omega,hm⟩
 ·obtain ⟨v,hv,hv2⟩:=idx_lt (a:=l) (i:=k) (by omega) (by omega)
  obtain ⟨r,e1,e2⟩:=around_eq (hl v (List.mem_of_getElem? hv2)) hm
  rw [dec_f h0,dec_f h1,hv]
  simp only [cond_false,Option.bind_some,e1]
  exact ⟨r,rfl,e2⟩
theorem sameNames_eq (a b:List Edit) (hn:Small a):culpritref22_SameNames a b=some (decide (a=b)):=by
 unfold culpritref22_SameNames
 by_cases hl:a.length=b.length
 ·have e0:((a.length:Int) != (b.length:Int))=false:=by simp [hl]
  rw [e0,cond_false]
  have h:=it_all (f:=culpritref22_SameNames_loop1 a b) (z:=false) a (fun i x=>decide (b[i]? = some x)) hn
   (fun i x hx=>by
    have hlt:=lt_of_at hx
    have hb:b[i]? = some b[i]:=List.getElem?_eq_getElem (by omega)
    unfold culpritref22_SameNames_loop1
    rw [dec_t (show (i:Int)<(a.length:Int) by omega),cond_true,idx_nat hx,idx_nat hb]
    simp only [Option.bind_some,hb,Option.some.injEq]
    generalize b[i]=y
    obtain ⟨x1,x2⟩:=x
    obtain ⟨y1,y2⟩:=y
    have e1:((x1:Int)==y1)=decide (y1=x1):=by rw [Bool.eq_iff_iff,beq_iff_eq,decide_eq_true_eq]; exact eq_comm
    have e2:((x2:Int)==y2)=decide (y2=x2):=by rw [Bool.eq_iff_iff,beq_iff_eq,decide_eq_true_eq]; exact eq_comm
    rw [e1,e2]
    by_cases h1:y1=x1 <;> by_cases h2:y2=x2 <;> simp [h1,h2,succ64 hn hx])
   (by unfold culpritref22_SameNames_loop1; simp)
  rw [h,allI_eq hl]
  cases decide (a=b) <;> rfl
 ·have e0:((a.length:Int) != (b.length:Int))=true:=by simp; omega
  rw [e0,cond_true,dec_f (show ¬ a=b from fun e=>hl (by rw [e]))]
end Go.Proofs.YtknnphhepnbaoaaGreatDoor
namespace Go.Proofs.YtknnphhepnbaoaaGreatDoor
open Go.Sm
set_option synthInstance.maxSize 1000
set_option synthInstance.maxHeartbeats 400000
instance decVd:DecidableEq Vd:=instDecidableEqProd (α:=Int) (β:=List UInt8×List (List Edit)×List Int×Int×(List Int×List Int))
theorem sameInts_eq (a b:List Int) (hn:Small a):culpritref01_SameInts a b=some (decide (a=b)):=by
 unfold culpritref01_SameInts
 by_cases hl:a.length=b.length
 ·have e0:((a.length:Int) != (b.length:Int))=false:=by simp [hl]
  rw [e0,cond_false]
  have h:=it_all (f:=culpritref01_SameInts_loop1 a b) (z:=false) a (fun i x=>decide (b[i]? = some x)) hn
   (fun i x hx=>by
    have hlt:=lt_of_at hx
    have hb:b[i]? = some b[i]:=List.getElem?_eq_getElem (by omega)
    unfold culpritref01_SameInts_loop1
    rw [dec_t (show (i:Int)<(a.length:Int) by omega),cond_true,idx_nat hx,idx_nat hb]
    simp only [Option.bind_some,hb,Option.some.injEq]
    generalize b[i]=y
    have e1:((x:Int) != y) = !decide (y=x):=by
     rw [bne,Bool.not_inj_iff,Bool.eq_iff_iff,beq_iff_eq,decide_eq_true_eq]; exact eq_comm
    rw [e1]
    by_cases h1:y=x <;> simp [h1,succ64 hn hx])
   (by unfold culpritref01_SameInts_loop1; simp)
  rw [h,allI_eq hl]
  cases decide (a=b) <;> rfl
 ·have e0:((a.length:Int) != (b.length:Int))=true:=by simp; omega
  rw [e0,cond_true,dec_f (show ¬ a=b from fun e=>hl (by rw [e]))]
theorem sameLimbs_eq (a b:List Int) (hn:Small a):culpritref05_SameLimbs a b=some (decide (a=b)):=by
 unfold culpritref05_SameLimbs
 by_cases hl:a.length=b.length
 ·have e0:((a.length:Int) != (b.length:Int))=false:=by simp [hl]
  rw [e0,cond_false]
  have h:=it_all (f:=culpritref05_SameLimbs_loop1 a b) (z:=false) a (fun i x=>decide (b[i]? = some x)) hn
   (fun i x hx=>by
    have hlt:=lt_of_at hx
    have hb:b[i]? = some b[i]:=List.getElem?_eq_getElem (by omega)
    unfold culpritref05_SameLimbs_loop1
    rw [dec_t (show (i:Int)<(a.length:Int) by omega),cond_true,idx_nat hx,idx_nat hb]
    simp only [Option.bind_some,hb,Option.some.injEq]
    generalize b[i]=y
    have e1:((x:Int) != y) = !decide (y=x):=by
     rw [bne,Bool.not_inj_iff,Bool.eq_iff_iff,beq_iff_eq,decide_eq_true_eq]; exact eq_comm
    rw [e1]
    by_cases h1:y=x <;> simp [h1,succ64 hn hx])
   (by unfold culpritref05_SameLimbs_loop1; simp)
  rw [h,allI_eq hl]
  cases decide (a=b) <;> rfl
 ·have e0:((a.length:Int) != (b.length:Int))=true:=by simp; omega
  rw [e0,cond_true,dec_f (show ¬ a=b from fun e=>hl (by rw [e]))]
theorem sameRatio_eq {a b:List Int×List Int} (h1:Small a.1) (h2:Small a.2):culpritref05_Same (a.1,a.2) (b.1,b.2)=some (decide (a=b)):=by
 unfold culpritref05_Same
 simp only
 rw [sameLimbs_eq _ _ h1]
 simp only [Option.bind_some]
 by_cases e1:a.1=b.1
 ·rw [dec_t e1,cond_true,sameLimbs_eq _ _ h2]
  simp only [Option.bind_some,cond_true]
  congr 1
  rw [Bool.eq_iff_iff,decide_eq_true_eq,decide_eq_true_eq]
  exact ⟨fun e2=>Prod.ext e1 e2,fun e=>by rw [e]⟩
 ·rw [dec_f e1,dec_f (fun e=>e1 (by rw [e]))]
  rfl
structure SmallV (v:Vd):Prop where
 sets:Small v.2.2.1
 each : ∀ l∈v.2.2.1,Small l
 word:Small v.2.2.2.1
 n:Small v.2.2.2.2.2.1
 d:Small v.2.2.2.2.2.2
theorem same_eq {v w:Vd} (h:SmallV v):culpritref36_Same v w=some (decide (v=w)):=by
 unfold culpritref36_Same
 obtain ⟨k,t,ss,wd,m,n,d⟩:=v
 obtain ⟨k',t',ss',wd',m',n',d'⟩:=w
 obtain ⟨g1,g2,g3,g4,g5⟩:=h
 simp only at g1 g2 g3 g4 g5 ⊢
 have hr:=sameRatio_eq (a:=(n,d)) (b:=(n',d')) g4 g5
 simp only at hr
 have bi : ∀ a b:Int,(a != b) = !decide (a=b):=fun a b=>by by_cases h:a=b <;> simp [h]
 have bt:(t==t')=decide (t=t'):=by by_cases h:t=t' <;> simp [h]
 rw [bi k k',bt,bi m m',sameInts_eq _ _ g3,hr]
 by_cases e1:k=k'
 ·by_cases e2:t=t'
  ·by_cases e3:ss.length=ss'.length
   ·have b3:((ss.length:Int) != (ss'.length:Int))=false:=by simp [e3]
    rw [dec_t e1,dec_t e2,b3]
    by_cases e4:wd=wd'
    ·by_cases e5:m=m'
     ·by_cases e6:((n,d):List Int×List Int)=(n',d')
      ·rw [dec_t e4,dec_t e5,dec_t e6]
       have hl:=it_all (f:=culpritref36_Same_loop1 (k,t,ss,wd,m,n,d) (k',t',ss',wd',m',n',d')) (z:=false) ss (fun i x=>decide (ss'[i]? = some x)) g1
        (fun i x hx=>by
         have hlt:=lt_of_at hx
         have hb:ss'[i]? = some ss'[i]:=List.getElem?_eq_getElem (by omega)
         unfold culpritref36_Same_loop1
         simp only
         rw [dec_t (show (i:Int)<(ss.length:Int) by omega),cond_true,idx_nat hx,idx_nat hb]
         simp only [Option.bind_some,hb,Option.some.injEq]
         generalize ss'[i]=y
         rw [sameNames_eq x y (g2 x (List.mem_of_getElem? hx))]
         simp only [Option.bind_some]
         by_cases h1:x=y
         ·simp [h1,succ64 g1 hx]
         ·have h2 : ¬ y=x:=fun e=>h1 e.symm
          simp [h1,h2])
        (by unfold culpritref36_Same_loop1; simp)
       simp only [Bool.not_true,cond_false,Bool.not_false,cond_true,Option.bind_some,hl,allI_eq e3]
       have e7:((k,t,ss,wd,m,n,d):Vd)=(k',t',ss',wd',m',n',d')↔ss=ss' := by
        simp only [Prod.mk.injEq] at e6 ⊢
        exact ⟨fun q=>q.2.2.1,fun q=>⟨e1,e2,q,e4,e5,e6.1,e6.2⟩⟩
       by_cases e8:ss=ss'
       ·rw [dec_t e8,dec_t (e7.2 e8)]; rfl
       ·rw [dec_f e8,dec_f (fun q=>e8 (e7.1 q))]; rfl
      ·have hne : ¬ ((k,t,ss,wd,m,n,d):Vd)=(k',t',ss',wd',m',n',d'):=fun q=>e6 (congrArg (fun v:Vd=>v.2.2.2.2.2) q)
       rw [dec_t e4,dec_t e5,dec_f e6,dec_f hne]
       rfl
     ·have hne : ¬ ((k,t,ss,wd,m,n,d):Vd)=(k',t',ss',wd',m',n',d'):=fun q=>e5 (congrArg (fun v:Vd=>v.2.2.2.2.1) q)
      rw [dec_t e4,dec_f e5,dec_f hne]
      rfl
    ·have hne : ¬ ((k,t,ss,wd,m,n,d):Vd)=(k',t',ss',wd',m',n',d'):=fun q=>e4 (congrArg (fun v:Vd=>v.2.2.2.1) q)
     rw [dec_f e4,dec_f hne]
     rfl
   ·have b3:((ss.length:Int) != (ss'.length:Int))=true:=by simp; omega
    have hne : ¬ ((k,t,ss,wd,m,n,d):Vd)=(k',t',ss',wd',m',n',d'):=fun q=>e3 (congrArg (fun v:Vd=>v.2.2.1.length) q)
    rw [dec_t e1,dec_t e2,b3,dec_f hne]
    rfl
  ·have hne : ¬ ((k,t,ss,wd,m,n,d):Vd)=(k',t',ss',wd',m',n',d'):=fun q=>e2 (congrArg (fun v:Vd=>v.2.1) q)
   rw [dec_t e1,dec_f e2,dec_f hne]
   rfl
 ·have hne : ¬ ((k,t,ss,wd,m,n,d):Vd)=(k',t',ss',wd',m',n',d'):=fun q=>e1 (congrArg (fun v:Vd=>v.1) q)
  rw [dec_f e1,dec_f hne]
  rfl
end Go.Proofs.YtknnphhepnbaoaaGreatDoor
