/-
  The reference models' fractions with small denominators, number by number. Over Fn of all seven laws. No program is walked here.
  The reference model's drawn verdicts are proper. Over Fn of all seven laws. No program is walked here.
  Sentences have bounded lengths; what is read of any short sentences; sentences with something changed. No program is walked here.
  Sentences with something changed. No program is walked here.
  What a proper verdict prints, tells, and is read back from. No program is walked here.
  The reference model of reports, part 2: the sentences. No program is walked here.
-/
import Derived.Test.YtknnphhepnbaoaaGreatDoorLawsF
import Derived.Test.YtknnphhepnbaoaaGreatDoorLawsB
import Derived.Test.YtknnphhepnbaoaaGreatDoorLawsC
import Derived.Test.YtknnphhepnbaoaaGreatDoorLawsE
import Derived.Test.YtknnphhepnbaoaaGreatDoorLawsN
namespace Go.Proofs.YtknnphhepnbaoaaGreatDoor
open Go.Sm
theorem of_29:ofB 29=true:=by decide +kernel
theorem of_30:ofB 30=true:=by decide +kernel
theorem of_31:ofB 31=true:=by decide +kernel
theorem of_32:ofB 32=true:=by decide +kernel
theorem of_33:ofB 33=true:=by decide +kernel
theorem of_34:ofB 34=true:=by decide +kernel
theorem of_35:ofB 35=true:=by decide +kernel
theorem of_36:ofB 36=true:=by decide +kernel
theorem of_37:ofB 37=true:=by decide +kernel
theorem of_38:ofB 38=true:=by decide +kernel
theorem of_39:ofB 39=true:=by decide +kernel
theorem of_40:ofB 40=true:=by decide +kernel
theorem of_all : ∀ d:Nat,1≤d→d≤40→ofB d=true:=fun d h1 h2=>by
 match d,h1,h2 with
 | 1,_,_=>exact of_1
 | 2,_,_=>exact of_2
 | 3,_,_=>exact of_3
 | 4,_,_=>exact of_4
 | 5,_,_=>exact of_5
 | 6,_,_=>exact of_6
 | 7,_,_=>exact of_7
 | 8,_,_=>exact of_8
 | 9,_,_=>exact of_9
 | 10,_,_=>exact of_10
 | 11,_,_=>exact of_11
 | 12,_,_=>exact of_12
 | 13,_,_=>exact of_13
 | 14,_,_=>exact of_14
 | 15,_,_=>exact of_15
 | 16,_,_=>exact of_16
 | 17,_,_=>exact of_17
 | 18,_,_=>exact of_18
 | 19,_,_=>exact of_19
 | 20,_,_=>exact of_20
 | 21,_,_=>exact of_21
 | 22,_,_=>exact of_22
 | 23,_,_=>exact of_23
 | 24,_,_=>exact of_24
 | 25,_,_=>exact of_25
 | 26,_,_=>exact of_26
 | 27,_,_=>exact of_27
 | 28,_,_=>exact of_28
 | 29,_,_=>exact of_29
 | 30,_,_=>exact of_30
 | 31,_,_=>exact of_31
 | 32,_,_=>exact of_32
 | 33,_,_=>exact of_33
 | 34,_,_=>exact of_34
 | 35,_,_=>exact of_35
 | 36,_,_=>exact of_36
 | 37,_,_=>exact of_37
 | 38,_,_=>exact of_38
 | 39,_,_=>exact of_39
 | 40,_,_=>exact of_40
 | 0,h,_=>omega
 | n+41,_,h=>omega
theorem of_eq {n d:Nat} (h1:1≤n) (h2:n≤d) (h3:d≤40):culpritref05_Of (n:Int) (d:Int)=some (fracL n d,0):=by
 obtain ⟨a,rfl⟩ : ∃ a,n=a+1:=⟨n - 1,by omega⟩
 have:=List.all_eq_true.1 (of_all d (by omega) h3) a (List.mem_range.2 (by omega))
 simpa using this
theorem gcd_facts {n d:Nat} (h1:1≤n) (h2:n≤d) (h3:d≤40) : ∃ x y,n / Nat.gcd n d=x∧d / Nat.gcd n d=y∧1≤x∧x≤y∧y≤40∧Nat.gcd x y=1:=by
 have hg:0<Nat.gcd n d:=Nat.gcd_pos_of_pos_left _ h1
 refine ⟨_,_,rfl,rfl,?_,?_,?_,?_⟩
 ·exact (Nat.le_div_iff_mul_le hg).2 (by rw [Nat.one_mul]; exact Nat.le_of_dvd h1 (Nat.gcd_dvd_left _ _))
 ·exact Nat.div_le_div_right h2
 ·exact Nat.le_trans (Nat.div_le_self _ _) h3
 ·exact Nat.coprime_div_gcd_div_gcd hg
theorem of_ok {n d:Nat} (h1:1≤n) (h2:n≤d) (h3:d≤40) : ∃ r,culpritref05_Of (n:Int) (d:Int)=some (r,0)∧RatOk r∧r.1≠[]∧nat32 r.1≤denN (nat32 r.2)∧nat32 r.1≤40∧nat32 r.2≤40:=by
 refine ⟨_,of_eq h1 h2 h3,?_⟩
 unfold fracL
 obtain ⟨x,y,ex,ey,q1,q2,q3,q4⟩:=gcd_facts h1 h2 h3
 rw [ex,ey]
 have e2:(if y=1 then ([]:List Int) else oneL y)=oneL (if y=1 then 0 else y):=by
  by_cases hy:y=1
  ·rw [if_pos hy,if_pos hy]; rfl
  ·rw [if_neg hy,if_neg hy]
 have v:validB x (if y=1 then 0 else y)=true:=by
  unfold validB
  by_cases hy:y=1
  ·rw [if_pos hy]; simp
  ·have g1:decide (y=0)=false:=decide_eq_false (by omega)
   have g2:decide (x=0)=false:=decide_eq_false (by omega)
   have g3:decide (Nat.gcd x y=1)=true:=decide_eq_true q4
   rw [if_neg hy,g1,g2,g3,decide_eq_false hy]
   rfl
 rw [e2]
 have hl : ∀ z,(oneL z).length≤64:=fun z=>by unfold oneL; split <;> simp
 have hy40:(if y=1 then 0 else y)<4294967296:=by split <;> omega
 refine ⟨⟨oneL_canon (by omega),oneL_canon hy40,hl _,hl _,fun _ _=>gcdOk_one (oneL_canon (by omega)) (by show (oneL x).length≤1000000; have:=hl x; omega) hy40,by rw [oneL_nat,oneL_nat]; exact v⟩,?_,?_,by rw [oneL_nat]; omega,by rw [oneL_nat]; split <;> omega⟩
 ·show oneL x≠[]
  unfold oneL
  rw [if_neg (by omega)]
  simp
 ·show nat32 (oneL x)≤denN (nat32 (oneL _))
  rw [oneL_nat,oneL_nat]
  unfold denN
  by_cases hy:y=1
  ·rw [if_pos hy,if_pos rfl]; omega
  ·rw [if_neg hy]
   split <;> omega
end Go.Proofs.YtknnphhepnbaoaaGreatDoor
namespace Go.Proofs.YtknnphhepnbaoaaGreatDoor
open Go.Sm
theorem bind_ex {α β:Type} {m:Option α} {f:α→Option β} {P:α→Prop} {Q:β→Prop} (h : ∃ a,m=some a∧P a) (g : ∀ a,P a→∃ b,f a=some b∧Q b) : ∃ b,m.bind f=some b∧Q b:=by
 obtain ⟨a,rfl,h2⟩:=h
 exact g a h2
def drawn (b c:Int) (n:Nat):List Edit:=(List.range n).map fun k:Nat=>(b,16 * (k:Int)+c)
theorem drawn_len (b c:Int) (n:Nat):(drawn b c n).length=n:=by simp [drawn]
theorem drawn_rising {b c:Int} {n:Nat} (hb0:0≤b) (hb1:b<4) (hc0:0≤c) (hc1:c<14) (hn:n<5):risingB (drawn b c n)=true:=by
 rcases (show n=0∨n=1∨n=2∨n=3∨n=4 by omega) with rfl | rfl | rfl | rfl | rfl
 ·rfl
 all_goals
  simp [drawn,List.range_succ,risingB,risingFrom,okName,lessB]
  omega
theorem draw_set {l:List Int} (hl : ∀ n∈l,i64 n) (s8:Int×Int×List UInt8×List (List Edit)×List Int×Int×List Int×List Int) :
  ∃ x,Itr.it (culpritref37_Made_loop2 l s8) (([]:List (Int×Int)),0)=some x∧risingB x=true∧x.length≤4:=by
 obtain ⟨a,ha,ha0,ha1⟩:=at_eq (k:=w64 ((4:Int)+s8.1)) hl (show (0:Int)<5 by omega)
 obtain ⟨b,hb,hb0,hb1⟩:=at_eq (k:=w64 ((8:Int)+s8.1)) hl (show (0:Int)<4 by omega)
 obtain ⟨c,hc,hc0,hc1⟩:=at_eq (k:=w64 ((12:Int)+s8.1)) hl (show (0:Int)<14 by omega)
 refine it_inv (f:=culpritref37_Made_loop2 l s8) (fun s=>5 - s.2.toNat) (fun s=>∃ k:Nat,(k:Int)≤a∧s=(drawn b c k,(k:Int))) _ (fun s hs=>?_) ⟨0,by omega,rfl⟩ (by simp only; omega)
 obtain ⟨k,hk,rfl⟩:=hs
 unfold culpritref37_Made_loop2
 rw [ha]
 simp only [Option.bind_some]
 by_cases h:(k:Int)<a
 ·right
  rw [dec_t h,cond_true,hb,hc]
  simp only [Option.bind_some]
  have e1:w64 (w64 ((16:Int) * (k:Int))+c)=16 * (k:Int)+c:=by rw [w64_id (x:=16 * (k:Int)) (by omega) (by omega),w64_id (by omega) (by omega)]
  have e2:w64 ((k:Int)+1)=((k+1:Nat):Int):=by rw [w64_id (by omega) (by omega)]; omega
  rw [e1,e2,chk_t (appOk_le (by rw [drawn_len]; simp only [List.length_cons,List.length_nil]; omega) (by omega))]
  refine ⟨_,rfl,⟨k+1,by omega,?_⟩,?_⟩
  ·have:drawn b c (k+1)=drawn b c k++[(b,16 * (k:Int)+c)]:=by simp [drawn,List.range_succ]
   rw [this]
  ·simp only; omega
 ·left
  rw [dec_f h]
  exact ⟨_,rfl,drawn_rising hb0 hb1 hc0 hc1 (by omega),by rw [drawn_len]; omega⟩
theorem known_eq {s8:Int×Int×List UInt8×List (List Edit)×List Int×Int×List Int×List Int} (x:List Edit) (hn:Small s8.2.2.2.1) (hs : ∀ y∈s8.2.2.2.1,Small y) :
  Itr.it (culpritref37_Made_loop3 s8 x) (false,0)=some (s8.2.2.2.1.any fun y=>decide (y=x)):=by
 obtain ⟨r,e1,e2⟩:=it_inv (f:=culpritref37_Made_loop3 s8 x) (fun s=>s8.2.2.2.1.length - s.2.toNat) (fun s=>∃ k:Nat,k≤s8.2.2.2.1.length∧s=((s8.2.2.2.1.take k).any fun y=>decide (y=x),(k:Int)))
  (fun r=>r=s8.2.2.2.1.any fun y=>decide (y=x)) (fun s hs' => by
   obtain ⟨k,hk,rfl⟩:=hs'
   unfold culpritref37_Made_loop3
   simp only
   by_cases h:k<s8.2.2.2.1.length
   ·right
    have hy:s8.2.2.2.1[k]? = some s8.2.2.2.1[k]:=List.getElem?_eq_getElem h
    have hm:=List.mem_of_getElem? hy
    generalize s8.2.2.2.1[k]=y at *
    have e2:w64 ((k:Int)+1)=((k+1:Nat):Int):=by rw [w64_id (by omega) (by omega)]; omega
    have e3:((s8.2.2.2.1.take (k+1)).any fun y=>decide (y=x))=(((s8.2.2.2.1.take k).any fun y=>decide (y=x))||decide (y=x)):=by
     rw [List.take_add_one,hy,List.any_append]; simp
    refine ⟨_,?_,⟨k+1,by omega,rfl⟩,?_⟩
    ·rw [dec_t (show (k:Int)<(s8.2.2.2.1.length:Int) by omega),cond_true,e2,e3,idx_nat hy]
     cases (s8.2.2.2.1.take k).any fun y=>decide (y=x)
     ·simp only [Bool.not_false,cond_true,Option.bind_some,sameNames_eq y x (hs y hm),Bool.false_or,cond_false]
     ·rfl
    ·simp only; omega
   ·left
    rw [dec_f (show ¬ (k:Int)<(s8.2.2.2.1.length:Int) by omega)]
    refine ⟨_,rfl,?_⟩
    rw [List.take_of_length_le (by omega)]) (s:=(false,0)) ⟨0,by omega,rfl⟩ (by simp only; omega)
 rw [e1,e2]
theorem setsB_snoc : ∀ (pre ss:List (List Edit)) (x:List Edit),setsB pre (ss++[x])=(setsB pre ss&&(risingB x && !((pre++ss).any fun y=>decide (y=x))))
 | pre,[],x=>by simp [setsB]
 | pre,y::ss,x=>by
  have:=setsB_snoc (pre++[y]) ss x
  simp only [List.cons_append,setsB,this,List.append_assoc,List.singleton_append,Bool.and_assoc,List.nil_append]
theorem draw_sets {l:List Int} (hl : ∀ n∈l,i64 n) (k:Int) (t:List UInt8) (w:List Int) (m:Int) (n d:List Int) :
  ∃ s,Itr.it (culpritref37_Made_loop1 l) ((0:Int),k,t,([]:List (List Edit)),w,m,n,d)=some s∧∃ ss,s=(k,t,ss,w,m,n,d)∧ss.length≤4∧setsB [] ss=true∧(∀ x∈ss,x.length≤4)∧ss≠[]:=by
 obtain ⟨a,ha,ha0,ha1⟩:=at_eq (k:=(3:Int)) hl (show (0:Int)<4 by omega)
 refine it_inv (f:=culpritref37_Made_loop1 l) (fun s=>5 - s.1.toNat) (fun s=>∃ (i:Nat) (ss:List (List Edit)),(i:Int)≤a+1∧s=((i:Int),k,t,ss,w,m,n,d)∧ss.length≤i∧setsB [] ss=true∧(∀ x∈ss,x.length≤4)∧(1≤i→ss≠[]))
  (fun s=>∃ ss,s=(k,t,ss,w,m,n,d)∧ss.length≤4∧setsB [] ss=true∧(∀ x∈ss,x.length≤4)∧ss≠[]) (fun s hs=>?_)
  ⟨0,[],by omega,rfl,by simp,rfl,by simp,by omega⟩ (by simp only; omega)
 obtain ⟨i,ss,hi,rfl,h1,h2,h3,h4⟩:=hs
 unfold culpritref37_Made_loop1
 rw [ha]
 simp only [Option.bind_some]
 by_cases h:(i:Int)≤a
 ·right
  obtain ⟨x,e1,e2,e3⟩:=draw_set hl ((i:Int),k,t,ss,w,m,n,d)
  have e4:=known_eq (s8:=((i:Int),k,t,ss,w,m,n,d)) x (by show ss.length<_; omega) (fun y hy=>by have:=h3 y hy; show y.length<_; omega)
  have e5:w64 ((i:Int)+1)=((i+1:Nat):Int):=by rw [w64_id (by omega) (by omega)]; omega
  rw [dec_t h,cond_true,e1]
  simp only [Option.bind_some]
  rw [e4]
  simp only [Option.bind_some,e5]
  cases hk:ss.any fun y=>decide (y=x)
  ·rw [Bool.not_false,cond_true,chk_t (appOk_le (by simp only [List.length_cons,List.length_nil]; omega) (by omega))]
   refine ⟨_,rfl,⟨i+1,ss++[x],by omega,rfl,by simp only [List.length_append,List.length_cons,List.length_nil]; omega,?_,?_,by simp⟩,?_⟩
   ·rw [setsB_snoc,h2,e2,List.nil_append,hk]; rfl
   ·intro y hy
    rcases List.mem_append.1 hy with hy | hy
    ·exact h3 y hy
    ·rw [List.mem_singleton.1 hy]; exact e3
   ·simp only; omega
  ·rw [Bool.not_true,cond_false]
   refine ⟨_,rfl,⟨i+1,ss,by omega,rfl,by omega,h2,h3,fun _=>?_⟩,?_⟩
   ·rintro rfl
    simp at hk
   ·simp only; omega
 ·left
  rw [dec_f h]
  exact ⟨_,rfl,ss,rfl,by omega,h2,h3,h4 (by omega)⟩
theorem draw_word {l:List Int} (hl : ∀ n∈l,i64 n) (k:Int) (t:List UInt8) (ss:List (List Edit)) (m:Int) (n d:List Int) :
  ∃ s,Itr.it (culpritref37_Made_loop4 l) ((0:Int),k,t,ss,([]:List Int),m,n,d)=some s∧∃ w,s=(k,t,ss,w,m,n,d)∧w.length≤4∧∀ x∈w,0≤x∧x≤902:=by
 obtain ⟨a,ha,ha0,ha1⟩:=at_eq (k:=(18:Int)) hl (show (0:Int)<5 by omega)
 refine it_inv (f:=culpritref37_Made_loop4 l) (fun s=>5 - s.1.toNat) (fun s=>∃ (i:Nat) (w:List Int),(i:Int)≤a∧s=((i:Int),k,t,ss,w,m,n,d)∧w.length=i∧∀ x∈w,0≤x∧x≤902)
  (fun s=>∃ w,s=(k,t,ss,w,m,n,d)∧w.length≤4∧∀ x∈w,0≤x∧x≤902) (fun s hs=>?_)
  ⟨0,[],by omega,rfl,rfl,by simp⟩ (by simp only; omega)
 obtain ⟨i,w,hi,rfl,h1,h2⟩:=hs
 unfold culpritref37_Made_loop4
 rw [ha]
 simp only [Option.bind_some]
 by_cases h:(i:Int)<a
 ·right
  obtain ⟨b,hb,hb0,hb1⟩:=at_eq (k:=w64 ((19:Int)+(i:Int))) hl (show (0:Int)<12 by omega)
  obtain ⟨c,hc,hc0,hc1⟩:=at_eq (k:=w64 ((19:Int)+(i:Int))) hl (show (0:Int)<83 by omega)
  have e5:w64 ((i:Int)+1)=((i+1:Nat):Int):=by rw [w64_id (by omega) (by omega)]; omega
  have q1:0≤b * c:=Int.mul_nonneg hb0 hc0
  have q2:b * c≤902:=by
   have:b * c≤11 * 82:=Int.mul_le_mul (by omega) (by omega) hc0 (by omega)
   omega
  have e6:w64 (b * c)=b * c:=w64_id (by omega) (by omega)
  rw [dec_t h,cond_true,hb,hc]
  simp only [Option.bind_some]
  rw [e5,e6,chk_t (appOk_le (by simp only [List.length_cons,List.length_nil]; omega) (by omega))]
  refine ⟨_,rfl,⟨i+1,w++[b * c],by omega,rfl,by simp [h1],?_⟩,?_⟩
  ·intro x hx
   rcases List.mem_append.1 hx with hx | hx
   ·exact h2 x hx
   ·rw [List.mem_singleton.1 hx]; exact ⟨q1,q2⟩
  ·simp only; omega
 ·left
  rw [dec_f h]
  exact ⟨_,rfl,w,rfl,by omega,h2⟩
structure MadeOk (v:Vd):Prop where
 p:properB (leB v) v=true
 r:RatOk v.2.2.2.2.2
 b:v.2.2.2.2.2.1=[]→v.2.2.2.2.2.2=[]
 n:nat32 v.2.2.2.2.2.1≤40
 d:nat32 v.2.2.2.2.2.2≤40
 ss:v.2.2.1.length≤4
 s : ∀ x∈v.2.2.1,x.length≤4
 w:v.2.2.2.1.length≤4
theorem tests_named : ∀ x∈[S_t0_512f,S_t_e3b9,S_is_fa51,S_the_b977,S_abcdefghijklmn_f39d],namedB x=true:=by decide
theorem made_eq {l:List Int} (hl : ∀ n∈l,i64 n) : ∃ v,culpritref37_Made l=some v∧MadeOk v:=by
 unfold culpritref37_Made
 obtain ⟨k,hk,hk0,hk1⟩:=at_eq (k:=(0:Int)) hl (show (0:Int)<6 by omega)
 obtain ⟨a,ha,ha0,ha1⟩:=at_eq (k:=(1:Int)) hl (show (0:Int)<5 by omega)
 obtain ⟨t,ht,ht2⟩:=idx_lt (a:=[S_t0_512f,S_t_e3b9,S_is_fa51,S_the_b977,S_abcdefghijklmn_f39d]) (i:=a) ha0 ha1
 have htn:=tests_named t (List.mem_of_getElem? ht2)
 rw [hk,ha]
 simp only [Option.bind_some]
 rw [ht]
 simp only [Option.bind_some]
 refine bind_ex (P:=fun s=>∃ m,s=(k,t,([]:List (List Edit)),([]:List Int),m,([]:List Int),([]:List Int))∧0≤m∧m<4∧(m=0∨k=5)) ?_ ?_
 ·by_cases h:k=5
  ·obtain ⟨m,hm,hm0,hm1⟩:=at_eq (k:=(2:Int)) hl (show (0:Int)<4 by omega)
   rw [show (k==(5:Int))=true by simp [h],cond_true,hm]
   exact ⟨_,rfl,m,rfl,hm0,hm1, .inr h⟩
  ·rw [show (k==(5:Int))=false by simp [h],cond_false]
   exact ⟨_,rfl,0,rfl,by omega,by omega, .inl rfl⟩
 rintro _ ⟨m,rfl,hm0,hm1,hm2⟩
 refine bind_ex (P:=fun s=>∃ ss,s=(k,t,ss,([]:List Int),m,([]:List Int),([]:List Int))∧ss.length≤4∧setsB [] ss=true∧(∀ x∈ss,x.length≤4)∧(kindOf k).2.2.1=decide (0<ss.length)) ?_ ?_
 ·simp only
  by_cases h:k=2∨k=4
  ·rw [show (bif k==(2:Int) then true else k==(4:Int))=true by rcases h with rfl | rfl <;> rfl,cond_true]
   obtain ⟨s,e1,ss,e2,e3,e4,e5,e6⟩:=draw_sets hl k t [] m [] []
   refine ⟨s,e1,ss,e2,e3,e4,e5,?_⟩
   rw [dec_t (List.length_pos_iff.2 e6)]
   rcases h with rfl | rfl <;> rfl
  ·rw [show (bif k==(2:Int) then true else k==(4:Int))=false by
    rw [show (k==(2:Int))=false by simp; omega,show (k==(4:Int))=false by simp; omega]; rfl,cond_false]
   refine ⟨_,rfl,[],rfl,by simp,rfl,by simp,?_⟩
   rcases (show k=0∨k=1∨k=3∨k=5 by omega) with rfl | rfl | rfl | rfl <;> rfl
 rintro _ ⟨ss,rfl,hss,hsb,hse,hks⟩
 refine bind_ex (P:=fun s=>∃ r:List Int×List Int,s=(k,t,ss,([]:List Int),m,r.1,r.2)∧RatOk r∧(r.1=[]→r.2=[])∧nat32 r.1≤denN (nat32 r.2)∧nat32 r.1≤40∧nat32 r.2≤40∧(kindOf k).2.2.2.1=decide (0<r.1.length)) ?_ ?_
 ·simp only
  by_cases h:k=2∨k=3∨k=5
  ·rw [show (bif bif k==(2:Int) then true else k==(3:Int) then true else k==(5:Int))=true by rcases h with rfl | rfl | rfl <;> rfl,cond_true]
   obtain ⟨b,hb,hb0,hb1⟩:=at_eq (k:=(16:Int)) hl (show (0:Int)<40 by omega)
   have e1:w64 ((1:Int)+b)=1+b:=w64_id (by omega) (by omega)
   obtain ⟨c,hc,hc0,hc1⟩:=at_eq (k:=(17:Int)) hl (show (0:Int)<1+b by omega)
   have e2:w64 ((1:Int)+c)=1+c:=w64_id (by omega) (by omega)
   obtain ⟨x,hx⟩ : ∃ x:Nat,1+c=x:=⟨(1+c).toNat,by omega⟩
   obtain ⟨y,hy⟩ : ∃ y:Nat,1+b=y:=⟨(1+b).toNat,by omega⟩
   obtain ⟨r,q1,q2,q3,q4,q5,q6⟩:=of_ok (n:=x) (d:=y) (by omega) (by omega) (by omega)
   rw [hb]
   simp only [Option.bind_some]
   rw [e1,hc]
   simp only [Option.bind_some]
   rw [e2,hx,hy,q1]
   refine ⟨_,rfl,r,rfl,q2,fun h=>absurd h q3,q4,q5,q6,?_⟩
   rw [dec_t (List.length_pos_iff.2 q3)]
   rcases h with rfl | rfl | rfl <;> rfl
  ·rw [show (bif bif k==(2:Int) then true else k==(3:Int) then true else k==(5:Int))=false by
    rw [show (k==(2:Int))=false by simp; omega,show (k==(3:Int))=false by simp; omega,show (k==(5:Int))=false by simp; omega]; rfl,cond_false]
   refine ⟨_,rfl,([],[]),rfl,ratOk_zero,fun _=>rfl,by simp [nat32],by simp [nat32],by simp [nat32],?_⟩
   rcases (show k=0∨k=1∨k=4 by omega) with rfl | rfl | rfl <;> rfl
 rintro _ ⟨⟨n,d⟩,rfl,hr,hnd,hle,hn,hd,hkb⟩
 refine bind_ex (P:=fun s=>∃ w,s=(k,t,ss,w,m,n,d)∧possB w=true∧w.length≤4∧((kindOf k).2.2.2.2=true∨w=[])) ?_ ?_
 ·simp only
  by_cases h:k=2∨k=3
  ·rw [show (bif k==(2:Int) then true else k==(3:Int))=true by rcases h with rfl | rfl <;> rfl,cond_true]
   have hkw:(kindOf k).2.2.2.2=true:=by rcases h with rfl | rfl <;> rfl
   obtain ⟨s,e1,w,rfl,e3,e4⟩:=draw_word hl k t ss m n d
   rw [e1]
   simp only [Option.bind_some]
   rcases List.eq_nil_or_concat w with rfl | ⟨u,z,rfl⟩
   ·exact ⟨_,rfl,[],rfl,rfl,by simp, .inr rfl⟩
   ·rw [List.concat_eq_append] at e3 e4 ⊢
    have hz:=e4 z (by simp)
    have hlen:(u++[z]).length=u.length+1:=by simp
    have e5:w64 (((u++[z]).length:Int) - 1)=(u.length:Int):=by rw [hlen,w64_id (by omega) (by omega)]; omega
    have e6:w64 (z+1)=z+1:=w64_id (by omega) (by omega)
    have hi:idx (u++[z]) (u.length:Int)=some z:=idx_nat (by simp)
    rw [dec_t (show (0:Int)<((u++[z]).length:Int) by omega),cond_true,e5,hi]
    simp only [Option.bind_some,e6,Int.toNat_natCast]
    have e7:(u++[z]).set u.length (z+1)=u++[z+1]:=by simp
    rw [e7]
    refine ⟨_,rfl,u++[z+1],rfl,?_,by simp at e3 ⊢; omega, .inl hkw⟩
    unfold possB
    simp only [Bool.and_eq_true,decide_eq_true_eq,List.all_eq_true,Bool.or_eq_true]
    refine ⟨⟨by simp at e3 ⊢; omega,fun x hx=>?_⟩, .inr (by simp; omega)⟩
    rcases List.mem_append.1 hx with hx | hx
    ·have:=e4 x (by simp [hx]); omega
    ·rw [List.mem_singleton.1 hx]; omega
  ·rw [show (bif k==(2:Int) then true else k==(3:Int))=false by
    rw [show (k==(2:Int))=false by simp; omega,show (k==(3:Int))=false by simp; omega]; rfl,cond_false]
   exact ⟨_,rfl,[],rfl,rfl,by simp, .inr rfl⟩
 rintro _ ⟨w,rfl,hw,hw4,hkw⟩
 refine ⟨_,rfl,?_,hr,hnd,hn,hd,hss,hse,hw4⟩
 exact properB_iff.2 ⟨htn,hk0,hk1,dec_t hle,hm0,hm1,hw,by show ss.length≤1024; omega,hsb,hks,hkb,hkw,hm2⟩
end Go.Proofs.YtknnphhepnbaoaaGreatDoor
namespace Go.Proofs.YtknnphhepnbaoaaGreatDoor
open Go.Sm
theorem listL_len2 {l:List (List UInt8)} (hn:l.length≤256) (h : ∀ x∈l,x.length≤43):(listL l).length≤12000:=by
 unfold listL
 split
 ·simp
 ·rename_i z hz
  have hz2:=h z (List.mem_of_getLast? hz)
  have hj:=joinL_len S__0a07 (m:=43) l.dropLast fun u hu=>h u ((List.dropLast_sublist _).subset hu)
  have hs:S__0a07.length=2:=rfl
  have ha:S_and_e3ee.length=5:=rfl
  have hd:l.dropLast.length≤256:=by rw [List.length_dropLast]; omega
  rw [hs] at hj
  split
  ·omega
  ·simp only [List.length_append]; omega
theorem setL_len2 {l:List Edit} (h:l.length≤256):(setL l).length≤13000:=by
 unfold setL
 split
 ·show S_the_fault_is_o_64f9.length≤_; decide
 ·rename_i n
  have:=nameL_len n
  have e1:S_the_edit_db6e.length=9:=rfl
  have e2:S_is_guilty_5dc8.length=11:=rfl
  simp only [List.length_append]; omega
 ·have:=listL_len2 (l:=l.map nameL) (by simpa using h) (fun x hx=>by obtain ⟨n,_,rfl⟩:=List.mem_map.1 hx; exact nameL_len n)
  have e3:S_the_edits_27cf.length=10:=rfl
  have e4:S_are_guilty_to_7335.length=21:=rfl
  simp only [List.length_append]; omega
theorem choicesL_len {l:List Int} (h:l.length≤256):(choicesL l).length≤13000:=by
 unfold choicesL
 have e1:S_it_shows_by_th_d234.length=23:=rfl
 have e2:S_it_shows_by_th_603a.length=24:=rfl
 have e3:S__cdb4.length=1:=rfl
 split
 ·rename_i n
  have:=itoaL_len n
  simp only [List.length_append]; omega
 ·have:=listL_len2 (l:=l.map itoaL) (by simpa using h) (fun x hx=>by obtain ⟨n,_,rfl⟩:=List.mem_map.1 hx; have:=itoaL_len n; omega)
  simp only [List.length_append]; omega
theorem textL_len {v:Vd} {t:List UInt8} {w:Bool} (hp:properB w v=true) (ht:t.length≤1235):(textL t v).length≤1027∧∀ s∈textL t v,s.length≤13000:=by
 have P:=properB_iff.1 hp
 have hm:=P.many
 have hw:=possB_ok P.word
 have hnl:=namedB_len P.named
 have hkl:=(kindOf_len v.1).1
 have hml:=machL_len (kindOf v.1).1 v.2.2.2.2.1
 have e1:S_it_fails_with_5cf6.length=26:=rfl
 have e3:S__cdb4.length=1:=rfl
 unfold textL
 constructor
 ·simp only [List.length_append,List.length_cons,List.length_map]
  split <;> split <;> simp only [List.length_nil,List.length_singleton] <;> omega
 ·intro s hs
  simp only [List.cons_append,List.mem_cons,List.mem_append] at hs
  rcases hs with rfl | (hs | hs) | hs
  ·simp only [List.length_append]; omega
  ·obtain ⟨l,hl,rfl⟩:=List.mem_map.1 hs
   exact setL_len2 (rising_ok (setsB_mem _ _ P.sets l hl)).1
  ·split at hs
   ·simp at hs
   ·rw [List.mem_singleton.1 hs]
    simp only [List.length_append]; omega
  ·split at hs
   ·simp at hs
   ·rw [List.mem_singleton.1 hs]
    exact choicesL_len (by omega)
theorem few_of {K:Nat} {s:List UInt8} (hK:K≤1000000000) (h:s.length≤K):Few (10 ^ K) s:=by
 refine ⟨by omega,fun b hb hl=>?_⟩
 have h1:=innerL_len s S_it_fails_with_5cf6 S__cdb4
 exact Nat.lt_of_lt_of_le (decV_lt hb) (Nat.pow_le_pow_right (by omega) (by omega))
theorem few_ex {x:List (List UInt8)} (h : ∀ s∈x,s.length≤1000000000) : ∃ m,∀ s∈x,Few m s:=by
 obtain ⟨K,hK⟩ : ∃ K:Nat,K=1000000000:=⟨_,rfl⟩
 exact ⟨10 ^ K,fun s hs=>few_of (by omega) (by have:=h s hs; omega)⟩
theorem parse_all {x:List (List UInt8)} (h : ∀ s∈x,s.length≤1000000000) (hn:Small x):report_Parse x=some (parseL x):=by
 obtain ⟨m,hm⟩:=few_ex h
 exact report_Parse_eq (gcdAll m) hm hn
end Go.Proofs.YtknnphhepnbaoaaGreatDoor
namespace Go.Proofs.YtknnphhepnbaoaaGreatDoor
open Go.Sm
end Go.Proofs.YtknnphhepnbaoaaGreatDoor
namespace Go.Proofs.YtknnphhepnbaoaaGreatDoor
open Go.Sm
theorem vd_eta (v:Vd):(v.1,v.2.1,v.2.2.1,v.2.2.2.1,v.2.2.2.2.1,(v.2.2.2.2.2.1,v.2.2.2.2.2.2))=v:=rfl
structure Said (v:Vd) (t:List UInt8):Prop where
 tt:RatText v.2.2.2.2.2 t
 tl:t.length≤1235
 print:report_Print v=some (textL t v,0)
 facts:report_Facts v=some (factsL t v,0)
 parse:parseL (textL t v)=(v,((textL t v).length:Int),0)
end Go.Proofs.YtknnphhepnbaoaaGreatDoor
namespace Go.Proofs.YtknnphhepnbaoaaGreatDoor
open Go.Sm
theorem n20_digit {d:Nat} (h:d<10):List.map (fun n:Int=>UInt8.ofNat n.toNat) [IntKind.u8.wrap (w64 ((48:Int)+(d:Int)))]=[UInt8.ofNat (48+d)]:=by
 have e:IntKind.u8.wrap (w64 ((48:Int)+(d:Int)))=((48+d:Nat):Int):=by
  rw [w64_id (by omega) (by omega),IntKind.wrap_u8]; omega
 rw [e]; rfl
theorem n20_rec : ∀ (k j n:Nat),n<10 ^ (k+1)→k≤30→(n:Int)≤9223372036854775807→culpritref20_Decimal_rec (k+1+j) (n:Int)=some (digs (k+1) n)
 | k,j,n,h,hk,hn=>by
  rw [show k+1+j=(k+j)+1 by omega]
  show culpritref20_Decimal_body (culpritref20_Decimal_rec (k+j)) (n:Int)=_
  unfold culpritref20_Decimal_body
  by_cases h1:n<10
  ·rw [dec_t (show (n:Int)<10 by omega),cond_true,n20_digit h1]
   simp only [digs]
   rw [if_pos h1]
  ·have hd:Int.tdiv (n:Int) 10=((n / 10:Nat):Int):=by rw [Int.tdiv_eq_ediv_of_nonneg (by omega)]; omega
   have hm:Int.tmod (n:Int) 10=((n % 10:Nat):Int):=by rw [Int.tmod_eq_emod_of_nonneg (by omega)]; omega
   match k,h,hk with
   | 0,h,_=>omega
   | k+1,h,hk=>
    have h2:n / 10<10 ^ (k+1):=by rw [Nat.pow_succ] at h; omega
    have ih:=n20_rec k j (n / 10) h2 (by omega) (by omega)
    rw [dec_f (show ¬ (n:Int)<10 by omega),cond_false,show (!((10:Int)==0))=true from rfl,chk_t rfl,hd,w64_id (by omega) (by omega),ih]
    simp only [Option.bind_some]
    rw [chk_t rfl,hm,n20_digit (by omega)]
    have hl:=digs_len (k+1) (n / 10)
    rw [chk_d (by simp only [List.length_singleton]; omega)]
    conv=>rhs; rw [digs]
    rw [if_neg h1]
theorem n20_Decimal_eq {n:Int} (h0:0≤n) (h1:n≤9223372036854775807):culpritref20_Decimal n=some (itoaL n):=by
 obtain ⟨m,rfl⟩ : ∃ m:Nat,n=m:=⟨n.toNat,by omega⟩
 unfold culpritref20_Decimal itoaL
 rw [if_neg (by omega),Int.toNat_natCast]
 exact n20_rec 19 44 m (by
  have:(9223372036854775807:Nat)<10 ^ 20:=by decide
  omega) (by omega) h1
theorem okName_i64 {n:Edit} (h:okName n=true):0≤n.1∧n.1<4∧0≤n.2∧n.2≤63:=by
 unfold okName at h
 simp only [Bool.and_eq_true,decide_eq_true_eq] at h
 exact ⟨h.1.1.1,h.1.1.2,h.1.2,h.2⟩
theorem n37_Name_eq {n:Edit} (h:okName n=true):culpritref37_Name (n.1,n.2)=some (nameL n):=by
 obtain ⟨a,b,c,d⟩:=okName_i64 h
 have l1:=itoaL_len n.1
 have l2:=itoaL_len n.2
 have l3:S__cdb4.length=1:=rfl
 unfold culpritref37_Name
 simp only
 rw [n20_Decimal_eq a (by omega)]
 simp only [Option.bind_some]
 rw [chk_d (by omega),n20_Decimal_eq c (by omega)]
 simp only [Option.bind_some]
 rw [chk_d (by simp only [List.length_append]; omega)]
 rfl
theorem n37_names_eq {l:List Edit} (hn:l.length≤1000000) (h : ∀ n∈l,okName n=true):culpritref37_names l=some (l.map nameL):=by
 unfold culpritref37_names
 rw [printed_loop (one:=fun n:Edit=>culpritref37_Name (n.1,n.2)) (t:=nameL) l (by omega) (fun x hx=>n37_Name_eq (h x hx))
  (fun i x a hx=>by
   have hlt:=lt_of_at hx
   unfold culpritref37_names_loop1
   simp only
   rw [dec_t (show (i:Int)<(l.length:Int) by omega),cond_true,idx_nat hx]
   rfl) (fun a=>by unfold culpritref37_names_loop1; simp)]
 rfl
theorem n37_numbers_eq {l:List Int} (hn:l.length≤1000000) (h : ∀ n∈l,0≤n∧n≤999):culpritref37_numbers l=some (l.map itoaL):=by
 unfold culpritref37_numbers
 rw [printed_loop (one:=culpritref20_Decimal) (t:=itoaL) l (by omega) (fun x hx=>n20_Decimal_eq (h x hx).1 (by have:=(h x hx).2; omega))
  (fun i x a hx=>by
   have hlt:=lt_of_at hx
   unfold culpritref37_numbers_loop1
   simp only
   rw [dec_t (show (i:Int)<(l.length:Int) by omega),cond_true,idx_nat hx]
   rfl) (fun a=>by unfold culpritref37_numbers_loop1; simp)]
 rfl
theorem joinL_snoc (sep:List UInt8) : ∀ (a:List (List UInt8)) (x:List UInt8),a≠[]→joinL (a++[x]) sep=joinL a sep++sep++x
 | [],_,h=>absurd rfl h
 | [y],x,_=>by simp [joinL]
 | y::z::r,x,_=>by
  have:=joinL_snoc sep (z::r) x (by simp)
  simp only [List.cons_append] at this ⊢
  simp only [joinL,this,List.append_assoc]
theorem listL_eq {l:List (List UInt8)} {x:List UInt8} (h:l≠[]):listL (l++[x])=joinL l S__0a07++S_and_e3ee++x:=by
 unfold listL
 rw [List.getLast?_append]
 simp only [List.getLast?_singleton,Option.some_or]
 have:0<l.length:=List.length_pos_iff.2 h
 rw [if_neg (by simp only [List.length_append,List.length_singleton]; omega),List.dropLast_concat]
theorem n37_List_eq {l:List (List UInt8)} (hn:l.length≤1000000) (h : ∀ x∈l,x.length≤43):culpritref37_List l=some (listL l):=by
 unfold culpritref37_List
 have hs:S__0a07.length=2:=rfl
 have ha:S_and_e3ee.length=5:=rfl
 obtain ⟨r,e1,e2⟩:=it_inv (f:=culpritref37_List_loop1 l) (fun s=>l.length - s.2.toNat)
  (fun s=>∃ k:Nat,s.2=(k:Int)∧k≤l.length∧((k<l.length∨l.length≤1)∧s.1=joinL (l.take k) S__0a07∨k=l.length∧s.1=listL l))
  (fun r=>r=listL l) (fun s hs' => by
   obtain ⟨o,_⟩:=s
   obtain ⟨k,rfl,hk,ho⟩:=hs'
   simp only at hk ho
   unfold culpritref37_List_loop1
   simp only
   have hw1:w64 ((l.length:Int) - 1)=(l.length:Int) - 1:=w64_id (by omega) (by omega)
   by_cases hlt:k<l.length
   ·right
    have ho2:o=joinL (l.take k) S__0a07:=by
     rcases ho with ⟨_,ho⟩ | ⟨hc,_⟩
     ·exact ho
     ·omega
    subst ho2
    obtain ⟨x,hx⟩ : ∃ x,l[k]? = some x:=⟨_,List.getElem?_eq_getElem hlt⟩
    have hxl:=h x (List.mem_of_getElem? hx)
    have hjl:=joinL_len S__0a07 (m:=43) (l.take k) fun u hu=>h u (List.mem_of_mem_take hu)
    rw [List.length_take,hs] at hjl
    have hw2:w64 ((k:Int)+1)=((k+1:Nat):Int):=by rw [w64_id (by omega) (by omega)]; omega
    have htk:l.take (k+1)=l.take k++[x]:=by rw [List.take_add_one,hx]; rfl
    rw [dec_t (show (k:Int)<(l.length:Int) by omega),cond_true,hw1,hw2]
    have hmin:min k l.length=k:=by omega
    rw [hmin] at hjl
    by_cases h0:k=0
    ·subst h0
     rw [dec_f (show ¬ (0:Int)<((0:Nat):Int) by omega)]
     simp only [cond_false,Option.bind_some]
     rw [idx_nat hx]
     simp only [Option.bind_some]
     rw [chk_d (by simp only [List.take_zero,joinL,List.length_nil]; omega)]
     refine ⟨_,rfl,⟨1,rfl,by omega,?_⟩,by simp only; omega⟩
     simp only [List.take_zero,joinL,List.nil_append]
     rw [show (1:Nat)=0+1 from rfl,htk]
     simp only [List.take_zero,List.nil_append,joinL]
     by_cases h1:l.length=1
     ·left; exact ⟨.inr (by omega),trivial⟩
     ·left; exact ⟨.inl (by omega),trivial⟩
    ·have hne:l.take k≠[]:=fun e=>by
      have h9:(l.take k).length=0:=by rw [e]; rfl
      rw [List.length_take] at h9
      omega
     rw [dec_t (show (0:Int)<(k:Int) by omega)]
     simp only [cond_true]
     by_cases hlast:k=l.length - 1
     ·rw [show ((k:Int)==(l.length:Int) - 1)=true by rw [beq_iff_eq]; omega,cond_true,chk_d (by omega)]
      simp only [Option.bind_some]
      rw [dec_f (show ¬ (k:Int)<(l.length:Int) - 1 by omega),cond_false]
      simp only [Option.bind_some]
      rw [idx_nat hx]
      simp only [Option.bind_some]
      rw [chk_d (by simp only [List.length_append]; omega)]
      refine ⟨_,rfl,⟨k+1,rfl,by omega, .inr ⟨by omega,?_⟩⟩,by simp only; omega⟩
      have hl2:l=l.take k++[x]:=by
       rw [← htk,List.take_of_length_le (by omega)]
      conv=>rhs; rw [hl2]
      rw [listL_eq hne]
     ·rw [show ((k:Int)==(l.length:Int) - 1)=false by rw [beq_eq_false_iff_ne]; omega,cond_false]
      simp only [Option.bind_some]
      rw [dec_t (show (k:Int)<(l.length:Int) - 1 by omega),cond_true,chk_d (by omega)]
      simp only [Option.bind_some]
      rw [idx_nat hx]
      simp only [Option.bind_some]
      rw [chk_d (by simp only [List.length_append]; omega)]
      refine ⟨_,rfl,⟨k+1,rfl,by omega, .inl ⟨.inl (by omega),?_⟩⟩,by simp only; omega⟩
      simp only
      rw [htk,joinL_snoc _ _ _ hne]
   ·left
    have hk2:k=l.length:=by omega
    subst hk2
    rw [dec_f (show ¬ (l.length:Int)<(l.length:Int) by omega)]
    refine ⟨_,rfl,?_⟩
    rcases ho with ⟨hc,ho⟩ | ⟨_,ho⟩
    ·rw [ho,List.take_length]
     match l,hc with
     | [],_=>rfl
     | [x],_=>rfl
     | x::y::r,hc=>simp only [List.length_cons] at hc; omega
    ·exact ho) (s:=(([]:List UInt8),0)) ⟨0,rfl,by omega, .inl ⟨by omega,rfl⟩⟩ (by simp only; omega)
 rw [e1,e2]
 rfl
theorem n37_set_eq {l:List Edit} (hn:l.length≤256) (h : ∀ n∈l,okName n=true):culpritref37_set l=some (setL l):=by
 unfold culpritref37_set
 have e1:S_the_edit_db6e.length=9:=rfl
 have e2:S_is_guilty_5dc8.length=11:=rfl
 have e3:S_the_edits_27cf.length=10:=rfl
 have e4:S_are_guilty_to_7335.length=21:=rfl
 match l,hn,h with
 | [],_,_=>rfl
 | [n],_,h=>
  have hi:idx [n] (0:Int)=some n:=idx_nat (i:=0) rfl
  have:=nameL_len n
  rw [show ((([n]:List Edit).length:Int)==0)=false from rfl,cond_false,show ((([n]:List Edit).length:Int)==1)=true from rfl,cond_true,hi]
  simp only [Option.bind_some]
  rw [n37_Name_eq (h n (by simp))]
  simp only [Option.bind_some]
  rw [chk_d (by omega),chk_d (by simp only [List.length_append]; omega)]
  rfl
 | x::y::r,hn,h=>
  have f1:(((x::y::r).length:Int)==0)=false:=by simp; omega
  have f2:(((x::y::r).length:Int)==1)=false:=by simp; omega
  have hll : ∀ z∈(x::y::r).map nameL,z.length≤43:=fun z hz=>by obtain ⟨n,_,rfl⟩:=List.mem_map.1 hz; exact nameL_len n
  have hln:=listL_len2 (l:=(x::y::r).map nameL) (by simpa using hn) hll
  rw [f1,cond_false,f2,cond_false,n37_names_eq (by omega) h]
  simp only [Option.bind_some]
  rw [n37_List_eq (by rw [List.length_map]; omega) hll]
  simp only [Option.bind_some]
  rw [chk_d (by omega),chk_d (by simp only [List.length_append]; omega)]
  rfl
theorem n37_choices_eq {l:List Int} (hn:l.length≤160) (h : ∀ n∈l,0≤n∧n≤999):culpritref37_choices l=some (choicesL l):=by
 unfold culpritref37_choices
 have e1:S_it_shows_by_th_d234.length=23:=rfl
 have e2:S_it_shows_by_th_603a.length=24:=rfl
 have e3:S__cdb4.length=1:=rfl
 have many : ∀ l:List Int,l.length≤160→(∀ n∈l,0≤n∧n≤999)→((culpritref37_numbers l).bind fun r4=>(culpritref37_List r4).bind fun r5=>
   chk (decide (S_it_shows_by_th_603a.length+r5.length≤9223372036854775807)) (
    chk (decide ((S_it_shows_by_th_603a++r5).length+S__cdb4.length≤9223372036854775807)) (
     some ((S_it_shows_by_th_603a++r5)++S__cdb4))))=some (S_it_shows_by_th_603a++listL (l.map itoaL)++S__cdb4):=fun l hn h=>by
  have hll : ∀ z∈l.map itoaL,z.length≤43:=fun z hz=>by obtain ⟨n,_,rfl⟩:=List.mem_map.1 hz; have:=itoaL_len n; omega
  have hln:=listL_len2 (l:=l.map itoaL) (by rw [List.length_map]; omega) hll
  rw [n37_numbers_eq (by omega) h]
  simp only [Option.bind_some]
  rw [n37_List_eq (by rw [List.length_map]; omega) hll]
  simp only [Option.bind_some]
  rw [chk_d (by omega),chk_d (by simp only [List.length_append]; omega)]
 match l,hn,h with
 | [],hn,h=>
  have e0:((([]:List Int).length:Int)==1)=false:=rfl
  rw [e0,cond_false,many [] hn h]
  rfl
 | [n],_,h=>
  have e0:((([n]:List Int).length:Int)==1)=true:=rfl
  have hi:idx [n] (0:Int)=some n:=idx_nat (i:=0) rfl
  have:=itoaL_len n
  have hb:=h n (by simp)
  rw [e0,cond_true,hi]
  simp only [Option.bind_some]
  rw [n20_Decimal_eq hb.1 (by omega)]
  simp only [Option.bind_some]
  rw [chk_d (by omega),chk_d (by simp only [List.length_append]; omega)]
  rfl
 | x::y::r,hn,h=>
  have e0:(((x::y::r).length:Int)==1)=false:=by simp; omega
  rw [e0,cond_false,many _ hn h]
  rfl
theorem n37_ends_eq {k m:Int} (h0:0≤k) (h1:k<6) (m0:0≤m) (m1:m<4):culpritref37_ends k m=some (machL (kindOf k).1 m):=by
 have all : ∀ k<6,∀ m<4,culpritref37_ends ((k:Nat):Int) ((m:Nat):Int)=some (machL (kindOf ((k:Nat):Int)).1 ((m:Nat):Int)):=by decide +kernel
 obtain ⟨a,rfl⟩ : ∃ a:Nat,k=a:=⟨k.toNat,by omega⟩
 obtain ⟨b,rfl⟩ : ∃ b:Nat,m=b:=⟨m.toNat,by omega⟩
 exact all a (by omega) b (by omega)
theorem n37_measure_eq {r:List Int×List Int} (h:RatOk r) : ∃ t,culpritref37_measure (r.1,r.2)=some (S_it_fails_with_5cf6++t++S__cdb4)∧RatText r t∧t.length≤1235:=by
 obtain ⟨t,h1,h2,h3⟩:=f5_Print_eq h
 have e1:S_it_fails_with_5cf6.length=26:=rfl
 have e3:S__cdb4.length=1:=rfl
 refine ⟨t,?_,h2,h3⟩
 unfold culpritref37_measure
 simp only
 rw [h1]
 simp only [Option.bind_some]
 rw [chk_d (by omega),chk_d (by simp only [List.length_append]; omega)]
theorem n37_print_loop {v:Vd} {s:List UInt8} (hm:v.2.2.1.length≤1024) (h : ∀ l∈v.2.2.1,risingB l=true):Itr.it (culpritref37_Print_loop1 v) ([s],(0:Int))=some (s::v.2.2.1.map setL):=by
 have hf:=it_fold (f:=culpritref37_Print_loop1 v) (fun i (a:List (List UInt8))=>(a,i)) v.2.2.1 (fun a x=>a++[setL x]) id (fun k a=>a=s::(v.2.2.1.take k).map setL) (by omega)
  (fun i x a hx ha=>by
   have hlt:=lt_of_at hx
   have hr:=rising_ok (h x (List.mem_of_getElem? hx))
   refine ⟨?_,?_⟩
   ·show culpritref37_Print_loop1 v (a,(i:Int))=_
    unfold culpritref37_Print_loop1
    simp only
    rw [dec_t (show (i:Int)<(v.2.2.1.length:Int) by omega),cond_true,idx_nat hx]
    simp only [Option.bind_some]
    rw [n37_set_eq hr.1 hr.2]
    simp only [Option.bind_some]
    rw [chk_t (appOk_le (by rw [ha]; simp only [List.length_cons,List.length_map,List.length_take,List.length_nil]; omega) (by omega)),w64_id (by omega) (by omega)]
   ·rw [ha,List.take_add_one,hx]; simp)
  (fun a ha=>by
   show culpritref37_Print_loop1 v (a,(v.2.2.1.length:Int))=_
   unfold culpritref37_Print_loop1
   simp only
   rw [dec_f (show ¬ (v.2.2.1.length:Int)<(v.2.2.1.length:Int) by omega)]
   rfl) (a:=[s]) (by simp)
 have e : ∀ (l:List (List Edit)) (a:List (List UInt8)),l.foldl (fun a x=>a++[setL x]) a=a++l.map setL:=by
  intro l
  induction l with
  | nil=>intro a; simp
  | cons x l ih=>intro a; simp [ih]
 rw [hf,e]
 rfl
theorem n37_Print_eq {v:Vd} (hr:RatOk v.2.2.2.2.2) (hn:Small v.2.2.1) (hs : ∀ l∈v.2.2.1,Small l) (hw:Small v.2.2.2.1) :
  ∃ t,RatText v.2.2.2.2.2 t∧t.length≤1235∧culpritref37_Print v=some (if properB (leB v) v=true then (textL t v,0) else ([],1)):=by
 obtain ⟨t,h1,h2,h3⟩:=n37_measure_eq hr
 refine ⟨t,h2,h3,?_⟩
 unfold culpritref37_Print
 have hv:(v.1,v.2.1,v.2.2.1,v.2.2.2.1,v.2.2.2.2.1,(v.2.2.2.2.2.1,v.2.2.2.2.2.2))=v:=rfl
 rw [hv,n37_Proper_eq hr hn hs hw]
 simp only [Option.bind_some]
 cases hb:properB (leB v) v
 ·rfl
 ·have P:=properB_iff.1 hb
  have hk0:=P.k0
  have hk1:=P.k1
  have hmany:=P.many
  have hnl:=namedB_len P.named
  have hkl:=(kindOf_len v.1).1
  have hml:=machL_len (kindOf v.1).1 v.2.2.2.2.1
  have hwd:=possB_ok P.word
  simp only [Bool.not_true,cond_false,if_true]
  rw [n37_ends_eq hk0 hk1 P.m0 P.m1]
  simp only [Option.bind_some]
  rw [chk_d (by omega),n37_print_loop hmany (fun l hl=>setsB_mem _ _ P.sets l hl)]
  simp only [Option.bind_some]
  unfold textL
  have hm2:culpritref37_measure v.2.2.2.2.2=some (S_it_fails_with_5cf6++t++S__cdb4):=h1
  by_cases hN:v.2.2.2.2.2.1=[]
  ·rw [dec_f (show ¬ (0:Int)<(v.2.2.2.2.2.1.length:Int) by rw [hN]; simp),if_pos hN]
   simp only [cond_false,Option.bind_some,List.append_nil]
   by_cases hW:v.2.2.2.1=[]
   ·rw [dec_f (show ¬ (0:Int)<(v.2.2.2.1.length:Int) by rw [hW]; simp),if_pos hW]
    simp
   ·have hWp:0<v.2.2.2.1.length:=List.length_pos_iff.2 hW
    rw [dec_t (show (0:Int)<(v.2.2.2.1.length:Int) by omega),if_neg hW,cond_true,n37_choices_eq hwd.1 (fun n hn=>(hwd.2 n hn).2)]
    simp only [Option.bind_some]
    rw [chk_t (appOk_le (by simp only [List.length_cons,List.length_map,List.length_nil]; omega) (by omega))]
    simp
  ·have hNp:0<v.2.2.2.2.2.1.length:=List.length_pos_iff.2 hN
   rw [dec_t (show (0:Int)<(v.2.2.2.2.2.1.length:Int) by omega),if_neg hN,cond_true,hm2]
   simp only [Option.bind_some]
   rw [chk_t (appOk_le (by simp only [List.length_cons,List.length_map,List.length_nil]; omega) (by omega))]
   simp only [Option.bind_some]
   by_cases hW:v.2.2.2.1=[]
   ·rw [dec_f (show ¬ (0:Int)<(v.2.2.2.1.length:Int) by rw [hW]; simp),if_pos hW]
    simp
   ·have hWp:0<v.2.2.2.1.length:=List.length_pos_iff.2 hW
    rw [dec_t (show (0:Int)<(v.2.2.2.1.length:Int) by omega),if_neg hW,cond_true,n37_choices_eq hwd.1 (fun n hn=>(hwd.2 n hn).2)]
    simp only [Option.bind_some]
    rw [chk_t (appOk_le (by simp only [List.length_append,List.length_cons,List.length_map,List.length_nil]; omega) (by omega))]
    simp
end Go.Proofs.YtknnphhepnbaoaaGreatDoor
