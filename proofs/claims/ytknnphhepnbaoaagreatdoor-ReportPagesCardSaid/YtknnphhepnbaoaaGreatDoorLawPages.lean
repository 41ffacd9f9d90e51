/-
  The documented examples hold: reckoned by the kernel. No condition.
  ReportPrints: the law holds, in plain terms. No program is walked here.
  ReportParses: the law holds, in plain terms. No program is walked here.
  ReportPages: what the function computes is true. No program is walked here.
-/
import Derived.Test.YtknnphhepnbaoaaGreatDoorLawsA
import Derived.KernelRfl
import Derived.Test.YtknnphhepnbaoaaGreatDoorLawsV
import Derived.Test.YtknnphhepnbaoaaGreatDoorLawsP
import Derived.Test.YtknnphhepnbaoaaGreatDoorLawsG
import Derived.Test.YtknnphhepnbaoaaGreatDoorLawsY
namespace Go.Proofs.YtknnphhepnbaoaaGreatDoor
open Go.Sm
theorem lives_true:culpritlaw37_lives=some true:=by kernel_rfl
end Go.Proofs.YtknnphhepnbaoaaGreatDoor
namespace Go.Proofs.YtknnphhepnbaoaaGreatDoor
open Go.Sm
structure Lim (K:Nat) (v:Vd):Prop where
 n:limbs v.2.2.2.2.2.1
 d:limbs v.2.2.2.2.2.2
 sets:v.2.2.1.length≤K
 each : ∀ l∈v.2.2.1,l.length≤K
 word:v.2.2.2.1.length≤K
theorem Lim.any {K:Nat} {v:Vd} (h:Lim K v) (hK:K≤1000000):AnyV v:=
 ⟨h.n,h.d,by have:=h.sets; show v.2.2.1.length<_; omega,fun l hl=>by have:=h.each l hl; show l.length<_; omega,by have:=h.word; show v.2.2.2.1.length<_; omega⟩
theorem tmod_nat (a b:Nat):Int.tmod (a:Int) (b:Int)=((a % b:Nat):Int):=by
 rw [Int.tmod_eq_emod_of_nonneg (by omega)]; omega
theorem idx_some {α:Type} {xs:List α} {k:Nat} (h:k<xs.length) : ∃ x,idx xs (k:Int)=some x∧x∈xs:=⟨xs[k],idx_nat (List.getElem?_eq_getElem h),List.getElem_mem h⟩
theorem limbs_lit : ∀ r∈[(([]:List Int),([]:List Int)),([1],([]:List Int)),([2],([]:List Int)),([2],[4]),([1],[3])],limbs r.1∧limbs r.2:=by
 unfold limbs; decide
theorem spoilt_eq {v:Vd} {a b:Int} {K:Nat} (h:Lim K v) (hK:K≤900000) (ia:i64 a) (ib:i64 b) : ∃ w,culpritref37_Spoilt v a b=some w∧Lim (K+1) w:=by
 obtain ⟨r1,e1,p1,p2⟩:=around_eq ib (m:=64) (by omega)
 obtain ⟨r3,e3,p3,p4⟩:=around_eq ia (m:=8) (by omega)
 obtain ⟨i,rfl⟩ : ∃ i:Nat,r1=i:=⟨r1.toNat,by omega⟩
 obtain ⟨j,rfl⟩ : ∃ j:Nat,r3=j:=⟨r3.toNat,by omega⟩
 obtain ⟨hn,hd,h1,h2,h3⟩:=h
 have up : ∀ {w:Vd},limbs w.2.2.2.2.2.1→limbs w.2.2.2.2.2.2→w.2.2.1=v.2.2.1→w.2.2.2.1=v.2.2.2.1→Lim (K+1) w:=fun {w} q1 q2 q3 q4=>⟨q1,q2,by rw [q3]; omega,fun l hl=>by rw [q3] at hl; have:=h2 l hl; omega,by rw [q4]; omega⟩
 unfold culpritref37_Spoilt
 rw [e1]
 simp only [Option.bind_some,List.nil_append]
 rw [chk_t (b:=!((6:Int)==0)) rfl,chk_t (appOk_le (by simp only [List.length_nil]; omega) (by omega)),chk_t (appOk_le (by simp only [List.length_nil]; omega) (by omega)),e3]
 simp only [Option.bind_some]
 have t6:Int.tmod (i:Int) 6=((i % 6:Nat):Int):=tmod_nat i 6
 have t5:Int.tmod (i:Int) 5=((i % 5:Nat):Int):=tmod_nat i 5
 have tl:Int.tmod (i:Int) (v.2.2.1.length:Int)=((i % v.2.2.1.length:Nat):Int):=tmod_nat i _
 rcases (show j=0∨j=1∨j=2∨j=3∨j=4∨j=5∨j=6∨j=7 by omega) with rfl | rfl | rfl | rfl | rfl | rfl | rfl | rfl
 ·exact ⟨_,rfl,up hn hd rfl rfl⟩
 ·rw [t6]
  obtain ⟨x,hx,_⟩:=idx_some (xs:=[([]:List UInt8),S_T_e632,S_a_b_c868,S_abcdefghijklmn_918a,S_9a_66e2,S_u_0bfe]) (k:=i % 6) (by show i % 6<6; omega)
  rw [hx]
  exact ⟨_,rfl,up hn hd rfl rfl⟩
 ·exact ⟨_,rfl,up hn hd rfl rfl⟩
 ·rw [chk_t (appOk_le (by simp only [List.length_singleton]; omega) (by omega))]
  refine ⟨_,rfl,hn,hd,?_,fun l hl=>?_,by show v.2.2.2.1.length≤_; omega⟩
  ·show (v.2.2.1++[_]).length≤_
   rw [List.length_append,List.length_singleton]; omega
  ·rcases List.mem_append.1 hl with hl | hl
   ·have:=h2 l hl; omega
   ·rw [List.mem_singleton.1 hl]; simp
 ·rw [show (((4:Nat):Int)==0)=false from rfl,show (((4:Nat):Int)==1)=false from rfl,show (((4:Nat):Int)==2)=false from rfl,show (((4:Nat):Int)==3)=false from rfl,show (((4:Nat):Int)==4)=true from rfl,cond_false,cond_false,cond_false,cond_false,cond_true]
  by_cases h0:v.2.2.1=[]
  ·rw [h0]
   exact ⟨_,rfl,hn,hd,by simp,fun l hl=>(by cases hl),by show v.2.2.2.1.length≤_; omega⟩
  ·have hp:=List.length_pos_iff.2 h0
   obtain ⟨x,hx,hm⟩:=idx_some (xs:=v.2.2.1) (k:=i % v.2.2.1.length) (Nat.mod_lt _ hp)
   rw [dec_t (show (0:Int)<(v.2.2.1.length:Int) by omega),show ((v.2.2.1.length:Int)==0)=false by rw [beq_eq_false_iff_ne]; omega,tl,hx,chk_t (b:=!false) rfl]
   simp only [Option.bind_some]
   rw [chk_t (b:=appOk _ _ _) (appOk_le (by simp only [List.length_singleton]; omega) (by omega))]
   refine ⟨_,rfl,hn,hd,?_,fun l hl=>?_,by show v.2.2.2.1.length≤_; omega⟩
   ·show (v.2.2.1++[x]).length≤_
    rw [List.length_append,List.length_singleton]; omega
   ·rcases List.mem_append.1 hl with hl | hl
    ·have:=h2 l hl; omega
    ·rw [List.mem_singleton.1 hl]; have:=h2 x hm; omega
 ·rw [show (((5:Nat):Int)==0)=false from rfl,show (((5:Nat):Int)==1)=false from rfl,show (((5:Nat):Int)==2)=false from rfl,show (((5:Nat):Int)==3)=false from rfl,show (((5:Nat):Int)==4)=false from rfl,show (((5:Nat):Int)==5)=true from rfl,cond_false,cond_false,cond_false,cond_false,cond_false,cond_true]
  by_cases h0:v.2.2.1=[]
  ·rw [h0]
   exact ⟨_,rfl,hn,hd,by simp,fun l hl=>(by cases hl),by show v.2.2.2.1.length≤_; omega⟩
  ·have hp:=List.length_pos_iff.2 h0
   obtain ⟨x,hx,hm⟩:=idx_some (xs:=v.2.2.1) (k:=i % v.2.2.1.length) (Nat.mod_lt _ hp)
   have hxl:=h2 x hm
   rw [dec_t (show (0:Int)<(v.2.2.1.length:Int) by omega),show ((v.2.2.1.length:Int)==0)=false by rw [beq_eq_false_iff_ne]; omega,tl,hx]
   simp only [Bool.not_false,Option.bind_some]
   have c1 : ∀ {α:Type} (m:Option α),chk true m=m:=fun m=>rfl
   rw [c1,c1,chk_t (b:=appOk _ _ _) (appOk_le (by simp only [List.length_nil]; omega) (by omega)),chk_t (b:=appOk _ _ _) (appOk_le (by simp only [List.length_singleton]; omega) (by omega))]
   refine ⟨_,rfl,hn,hd,?_,fun l hl=>?_,by show v.2.2.2.1.length≤_; omega⟩
   ·show (v.2.2.1.set _ _).length≤_
    rw [List.length_set]; omega
   ·rcases List.mem_or_eq_of_mem_set hl with hl | hl
    ·have:=h2 l hl; omega
    ·rw [hl,List.length_append,List.length_singleton]; omega
 ·rw [show (((6:Nat):Int)==0)=false from rfl,show (((6:Nat):Int)==1)=false from rfl,show (((6:Nat):Int)==2)=false from rfl,show (((6:Nat):Int)==3)=false from rfl,show (((6:Nat):Int)==4)=false from rfl,show (((6:Nat):Int)==5)=false from rfl,show (((6:Nat):Int)==6)=true from rfl,cond_false,cond_false,cond_false,cond_false,cond_false,cond_false,cond_true]
  rw [t5]
  obtain ⟨x,hx,_⟩:=idx_some (xs:=[(0:Int),1,999,1000,-1]) (k:=i % 5) (by show i % 5<5; omega)
  rw [hx]
  simp only [Option.bind_some]
  rw [chk_t (b:=appOk _ _ _) (appOk_le (by simp only [List.length_singleton]; omega) (by omega))]
  refine ⟨_,rfl,hn,hd,by show v.2.2.1.length≤_; omega,fun l hl=>by have:=h2 l hl; omega,?_⟩
  show (v.2.2.2.1++[x]).length≤_
  rw [List.length_append,List.length_singleton]; omega
 ·rw [t5]
  obtain ⟨x,hx,hm⟩:=idx_some (xs:=[(([]:List Int),([]:List Int)),([1],([]:List Int)),([2],([]:List Int)),([2],[4]),([1],[3])]) (k:=i % 5) (by show i % 5<5; omega)
  rw [hx]
  have:=limbs_lit x hm
  exact ⟨_,rfl,up this.1 this.2 rfl rfl⟩
end Go.Proofs.YtknnphhepnbaoaaGreatDoor
namespace Go.Proofs.YtknnphhepnbaoaaGreatDoor
open Go.Sm
structure Short (v:Vd):Prop where
 sets:Small v.2.2.1
 each : ∀ l∈v.2.2.1,Small l
 word:Small v.2.2.2.1
 n:Small v.2.2.2.2.2.1
 d:Small v.2.2.2.2.2.2
theorem parseL_short {x:List (List UInt8)} {m:Nat} (hG:GcdAll m) (hs : ∀ s∈x,Few m s):Short (parseL x).1:=by
 have h0:Short vd0:=⟨by simp [vd0],fun l h=>by simp [vd0] at h,by simp [vd0],by simp [vd0],by simp [vd0]⟩
 match x,hs with
 | [],_=>exact h0
 | s::r,hs=>
  simp only [parseL]
  split
  ·rename_i hf
   have hpair:firstL s=((firstL s).1,true):=Prod.ext rfl hf
   cases hr:runP r 0 (firstL s).1 with
   | inr i=>exact h0
   | inl w=>
    have hw:=runP_inv hG r 0 _ w (firstL_inv hpair) (fun z hz=>hs z (List.mem_cons_of_mem _ hz)) hr
    simp only
    split
    ·rename_i hp
     have hwd:=(possB_ok (properB_iff.1 hp).word).1
     exact ⟨hw.small.1,hw.small.2,by show w.2.2.2.1.length<_; omega,by have:=hw.ok.ln; show w.2.2.2.2.2.1.length<_; omega,by have:=hw.ok.ld; show w.2.2.2.2.2.2.length<_; omega⟩
    ·exact h0
  ·exact h0
end Go.Proofs.YtknnphhepnbaoaaGreatDoor
namespace Go.Proofs.YtknnphhepnbaoaaGreatDoor
open Go.Sm
theorem Short.small {v:Vd} (h:Short v):SmallV v:=⟨h.sets,h.each,h.word,h.n,h.d⟩
theorem run_reads (n:Nat) (b:Bool) : ∀ (l:List Rw) (k:Nat) (o out:List Vd),runL (readG n b) (fun a=>.inl a.2) l (k,o) = .inl out→out.length=o.length+l.length∧∀ v∈out,v∈o∨∃ x∈l,v=(parseL x).1
 | [],k,o,out,h=>by
  simp only [runL,Sum.inl.injEq] at h
  subst h
  exact ⟨rfl,fun v hv=>.inl hv⟩
 | x::r,k,o,out,h=>by
  rw [runL] at h
  unfold readG at h
  by_cases hc:(parseL x).2.2≠0∨(k+1=n∧b=false)
  ·rw [if_pos hc] at h
   simp at h
  ·rw [if_neg hc] at h
   obtain ⟨h1,h2⟩:=run_reads n b r (k+1) (o++[(parseL x).1]) out h
   refine ⟨by rw [h1,List.length_append,List.length_singleton,List.length_cons]; omega,fun v hv=>?_⟩
   rcases h2 v hv with hv | ⟨y,hy,e⟩
   ·rcases List.mem_append.1 hv with hv | hv
    ·exact .inl hv
    ·exact .inr ⟨x,List.mem_cons_self ..,List.mem_singleton.1 hv⟩
   ·exact .inr ⟨y,List.mem_cons_of_mem _ hy,e⟩
theorem run_stops (n:Nat) (b:Bool) : ∀ (l:List Rw) (k:Nat) (o:List Vd) (t:List Vd×Int×Int),runL (readG n b) (fun a=>.inl a.2) l (k,o) = .inr t→t.1=[]
 | [],k,o,t,h=>by simp [runL] at h
 | x::r,k,o,t,h=>by
  rw [runL] at h
  unfold readG at h
  by_cases hc:(parseL x).2.2≠0∨(k+1=n∧b=false)
  ·rw [if_pos hc] at h
   simp only [Sum.inr.injEq] at h
   rw [← h]
  ·rw [if_neg hc] at h
   exact run_stops n b r (k+1) _ t h
theorem readR_small (s:List UInt8):(readR s).1.length≤64∧∀ v∈(readR s).1,SmallV v:=by
 unfold readR
 split
 ·exact ⟨by simp,fun v hv=>by cases hv⟩
 ·rename_i h1
  split
  ·exact ⟨by simp,fun v hv=>by cases hv⟩
  ·rename_i h2
   obtain ⟨_,ho⟩:=rowsR_ok s
   unfold readT
   cases hr:runL (readG (rowsR s).length (endedB s)) (fun a=>.inl a.2) (rowsR s) (0,[]) with
   | inr t=>
    have:=run_stops _ _ _ _ _ _ hr
    simp only
    rw [this]
    exact ⟨by simp,fun v hv=>by cases hv⟩
   | inl out=>
    obtain ⟨g1,g2⟩:=run_reads _ _ _ _ _ _ hr
    simp only
    refine ⟨by rw [g1]; simp only [List.length_nil]; omega,fun v hv=>?_⟩
    rcases g2 v hv with hv | ⟨x,hx,rfl⟩
    ·cases hv
    ·obtain ⟨_,hx2⟩:=ho x hx
     obtain ⟨m,hm⟩:=few_ex (x:=x) (fun s hs=>by have:=hx2 s hs; omega)
     exact (parseL_short (gcdAll m) hm).small
theorem pageF_len (f:Vd→List (List UInt8)×Int) : ∀ (l:List Vd) (acc:List UInt8),(pageF f l acc).1.length≤65536
 | [],acc=>by
  rw [pageF]
  split
  ·simp
  ·show acc.length≤_; omega
 | v::r,acc=>by
  rw [pageF]
  split
  ·exact pageF_len f r _
  ·simp
theorem pageA_len (f:Vd→List (List UInt8)×Int) (l:List Vd):(pageA f l).1.length≤65536:=by
 unfold pageA
 split
 ·simp
 ·exact pageF_len f l []
theorem short_eq {s:List UInt8} : ∃ r,culpritref01_Short s 60=some r∧r.length≤60:=by
 unfold culpritref01_Short
 by_cases h:60<s.length
 ·rw [dec_t (show (60:Int)<(s.length:Int) by omega),cond_true,chk_d ⟨by omega,by omega,by show (60:Int)≤_; omega⟩]
  exact ⟨_,rfl,by simp only [List.length_drop,List.length_take]; omega⟩
 ·rw [dec_f (show ¬ (60:Int)<(s.length:Int) by omega)]
  exact ⟨_,rfl,by omega⟩
theorem pages_loop1 {f:Vd→List (List UInt8)×Int} (hf : ∀ v,AnyV v→PrintsAs f v∧culpritref37_Print v=some (f v)) {r2 r7:List Vd} {r4:Vd} {r5:Int} (h2 : ∀ v∈r2,AnyV v) (h4:AnyV r4) (h7 : ∀ v∈r7,AnyV v) :
  Itr.it (culpritlaw37_ReportPages_loop1 r2 r4 r5 r7) (0:Int)=some (.inl ()):=by
 obtain ⟨ls,hls⟩ : ∃ ls:List (List Vd),ls=[r2,([]++r2)++[(r4.1,r4.2.1,r4.2.2.1,r4.2.2.2.1,r4.2.2.2.2.1,(r4.2.2.2.2.2.1,r4.2.2.2.2.2.2))],List.replicate (w64 ((64:Int)+r5)).toNat ((0,[],[],[],0,([],[])):Vd),r7]:=⟨_,rfl⟩
 have hok : ∀ l∈ls,∀ v∈l,AnyV v:=fun l hl v hv=>by
  rw [hls] at hl
  simp only [List.mem_cons,List.not_mem_nil,or_false] at hl
  rcases hl with rfl | rfl | rfl | rfl
  ·exact h2 v hv
  ·rw [List.nil_append] at hv
   rcases List.mem_append.1 hv with hv | hv
   ·exact h2 v hv
   ·rw [List.mem_singleton.1 hv]; exact h4
  ·rw [(List.mem_replicate.1 hv).2]
   exact ⟨(fun x hx=>by cases hx),(fun x hx=>by cases hx),by show (0:Nat)<_; omega,(fun l hl=>by cases hl),by show (0:Nat)<_; omega⟩
  ·exact h7 v hv
 have h:=it_all (f:=culpritlaw37_ReportPages_loop1 r2 r4 r5 r7) (z:=false) ls (fun _ _=>true) (by rw [hls]; show (4:Nat)<_; omega)
  (fun i x hx=>by
   have hlt:=lt_of_at hx
   have hl4:ls.length=4:=by rw [hls]; rfl
   have ok:=hok x (List.mem_of_getElem? hx)
   have e1:=page_rep (f:=f) (l:=x) (fun v hv=>(hf v (ok v hv)).1)
   have e2:=page_ref (f:=f) (l:=x) (fun v hv=>(hf v (ok v hv)).1) (fun v hv=>(hf v (ok v hv)).2)
   unfold culpritlaw37_ReportPages_loop1
   rw [← hls,dec_t (show (i:Int)<(ls.length:Int) by omega),cond_true,idx_nat hx]
   simp only [Option.bind_some]
   rw [e1,e2]
   simp only [Option.bind_some]
   rw [show ((pageA f x).2 != (pageA f x).2)=false by simp,show ((pageA f x).1==(pageA f x).1)=true by simp,w64_id (by omega) (by omega)]
   rfl)
  (by unfold culpritlaw37_ReportPages_loop1; rw [← hls,dec_f (show ¬ (ls.length:Int)<(ls.length:Int) by omega)]; rfl)
 rw [h,allI_const,List.all_eq_true.2 fun _ _=>rfl]
 rfl
theorem pages_loop2 {r16 r18:List UInt8×Int} {r19:Int} {r20:List UInt8}:Itr.it (culpritlaw37_ReportPages_loop2 r16 r18 r19 r20) (0:Int)=some (.inl ()):=by
 obtain ⟨ls,hls⟩ : ∃ ls:List (List UInt8),ls=[r16.1,(r16.1.take r19.toNat).drop (0:Int).toNat,(((r16.1.take r19.toNat).drop (0:Int).toNat)++S__01ba)++((r16.1.take (r16.1.length:Int).toNat).drop r19.toNat),(((r16.1.take r19.toNat).drop (0:Int).toNat)++r20)++((r16.1.take (r16.1.length:Int).toNat).drop r19.toNat),r20,r16.1++S__01ba,r18.1++r16.1,[]]:=⟨_,rfl⟩
 have h:=it_all (f:=culpritlaw37_ReportPages_loop2 r16 r18 r19 r20) (z:=false) ls (fun _ _=>true) (by rw [hls]; show (8:Nat)<_; omega)
  (fun i x hx=>by
   have hlt:=lt_of_at hx
   have hl4:ls.length=8:=by rw [hls]; rfl
   obtain ⟨s1,s2⟩:=readR_small x
   unfold culpritlaw37_ReportPages_loop2
   rw [← hls,dec_t (show (i:Int)<(ls.length:Int) by omega),cond_true,idx_nat hx]
   simp only [Option.bind_some]
   rw [read_rep,read_ref]
   simp only [Option.bind_some]
   have b1 : ∀ z:Int,(z != z)=false:=fun z=>by simp
   rw [b1,b1,sameAll_self s2 (by show (readR x).1.length<_; omega),w64_id (by omega) (by omega)]
   rfl)
  (by unfold culpritlaw37_ReportPages_loop2; rw [← hls,dec_f (show ¬ (ls.length:Int)<(ls.length:Int) by omega)]; rfl)
 rw [h,allI_const,List.all_eq_true.2 fun _ _=>rfl]
 rfl
theorem read_long {s:List UInt8} (h:65536<s.length):report_Read s=some ([],0,4):=by
 rw [read_rep,readR,if_pos h]
theorem pages_true {l:List Int} {n a h b:Int} {raw:List UInt8} (hl : ∀ x∈l,i64 x) (hn:i64 n) (ia:i64 a) (ih:i64 h) (ib:i64 b):culpritlaw37_ReportPages l n a h b raw=some true:=by
 obtain ⟨f,hf⟩:=prints_as
 have one : ∀ x∈([1]:List Int),i64 x:=fun x hx=>by rw [List.mem_singleton.1 hx]; exact ⟨by omega,by omega⟩
 obtain ⟨p,p1,p2,p3⟩:=around_eq hn (m:=4) (by omega)
 obtain ⟨vs,v1,v2,v3⟩:=verdicts_eq (n:=p.toNat) hl (by omega)
 rw [Int.toNat_of_nonneg p2] at v1
 obtain ⟨v,hv,mv⟩:=made_eq hl
 have PV:=properB_iff.1 mv.p
 have L0:Lim 1024 v:=⟨mv.r.n.1,mv.r.d.1,PV.many,fun s hs=>by have:=mv.s s hs; omega,by have:=mv.w; omega⟩
 obtain ⟨w,w1,w2⟩:=spoilt_eq L0 (by omega) ih ib
 obtain ⟨q,q1,q2,q3⟩:=around_eq ib (m:=2) (by omega)
 obtain ⟨u,u1,u2,u3⟩:=around_eq ib (m:=3) (by omega)
 obtain ⟨zs,z1,z2,z3⟩:=verdicts_eq (l:=[1]) (n:=63+u.toNat) one (by omega)
 have eu:w64 ((63:Int)+u)=((63+u.toNat:Nat):Int):=by rw [w64_id (by omega) (by omega)]; omega
 obtain ⟨ys,y1,y2,y3⟩:=verdicts_eq (l:=[1]) (n:=62) one (by omega)
 have am : ∀ {xs:List Vd},(∀ v∈xs,MadeOk v)→∀ v∈xs,AnyV v:=fun h v hv=>(h v hv).any
 have pg : ∀ {xs:List Vd},(∀ v∈xs,MadeOk v)→culpritref37_Page xs=some (pageA f xs):=fun h=>page_ref (fun v hv=>(hf v (am h v hv)).1) (fun v hv=>(hf v (am h v hv)).2)
 have l1:=pageA_len f vs
 have l2:=pageA_len f ys
 obtain ⟨k,k1,k2,k3⟩:=around_eq ia (m:=(((pageA f vs).1.length+1:Nat):Int)) (by omega)
 have ek:w64 (((pageA f vs).1.length:Int)+1)=(((pageA f vs).1.length+1:Nat):Int):=by rw [w64_id (by omega) (by omega)]; omega
 obtain ⟨r,r1,r2⟩:=short_eq (s:=raw)
 have hS:S__01ba.length=1:=rfl
 have t1:((pageA f vs).1.take k.toNat).length≤65536:=by rw [List.length_take]; omega
 have t2:(((pageA f vs).1.take (((pageA f vs).1.length:Nat):Int).toNat).drop k.toNat).length≤65536:=by rw [List.length_drop,List.length_take]; omega
 unfold culpritlaw37_ReportPages
 rw [p1]
 simp only [Option.bind_some]
 rw [v1]
 simp only [Option.bind_some]
 rw [chk_t (appOk_le (by simp only [List.length_nil]; omega) (by omega)),hv]
 simp only [Option.bind_some]
 rw [vd_eta,w1]
 simp only [Option.bind_some]
 rw [vd_eta,chk_t (appOk_le (by simp only [List.nil_append,List.length_singleton]; omega) (by omega)),q1]
 simp only [Option.bind_some]
 rw [w64_id (x:=(64:Int)+q) (by omega) (by omega),chk_d ⟨by omega,by omega,by show (64:Int)+q≤9223372036854775807; omega⟩,u1]
 simp only [Option.bind_some]
 rw [eu,z1]
 simp only [Option.bind_some]
 rw [pages_loop1 hf (am v3) (w2.any (by omega)) (am z3)]
 simp only [Option.bind_some]
 rw [pg v3]
 simp only [Option.bind_some]
 rw [show culpritlaw37_verdicts [1] 62=some ys from y1]
 simp only [Option.bind_some]
 rw [pg y3]
 simp only [Option.bind_some]
 rw [ek,k1]
 simp only [Option.bind_some]
 rw [r1]
 simp only [Option.bind_some,Int.toNat_zero,List.drop_zero]
 rw [chk_d ⟨by omega,by omega,by omega⟩,chk_d ⟨by omega,by omega,by omega⟩,chk_d (by omega),chk_d ⟨by omega,by omega,by omega⟩,chk_d (by rw [List.length_append]; omega),chk_d ⟨by omega,by omega,by omega⟩,chk_d (by omega),chk_d ⟨by omega,by omega,by omega⟩,chk_d (by rw [List.length_append]; omega),chk_d (by omega),chk_d (by omega)]
 rw [pages_loop2]
 simp only [Option.bind_some]
 rw [chk_d ⟨by omega,by omega,by show (65537:Int)≤9223372036854775807; omega⟩,read_long (by rw [List.length_map,List.length_replicate]; omega)]
 simp only [Option.bind_some]
 rw [show ((4:Int)==4)=true from rfl,cond_true,lives_true]
 rfl
end Go.Proofs.YtknnphhepnbaoaaGreatDoor
