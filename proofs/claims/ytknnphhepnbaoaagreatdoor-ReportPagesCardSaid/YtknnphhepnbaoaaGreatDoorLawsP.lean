/-
  The reference model of reports, part 3: cutting sentences, numbers, edits, sets out of texts. No program is walked here.
  The reference model of reports, part 4: ratios out of texts. No program is walked here.
  The reference model of reports, part 5: sentences of sets, of words, and first ones, read. No program is walked here.
  The reference model of reports, part 6: Parse, whole. No program is walked here.
  The reference model of reports, part 7: Parse reads what package report reads. No program is walked here.
-/
import Derived.Test.YtknnphhepnbaoaaGreatDoorLawsG
import Derived.Test.YtknnphhepnbaoaaGreatDoorLawsC
namespace Go.Proofs.YtknnphhepnbaoaaGreatDoor
open Go.Sm
theorem byte_cases (c:UInt8) : ∀ s:List UInt8,c∉s∨∃ a b,s=a++c::b∧c∉a
 | []=>.inl (by simp)
 | x::s=>by
  by_cases hx:x=c
  ·exact .inr ⟨[],s,by rw [hx]; rfl,by simp⟩
  ·rcases byte_cases c s with h | ⟨a,b,rfl,h⟩
   ·exact .inl (by simp [h,Ne.symm hx])
   ·exact .inr ⟨x::a,b,rfl,by simp [h,Ne.symm hx]⟩
theorem it_scan {R:Type} {f:Int→Option (Int⊕R)} {z:R} (n:Nat) (hn:n<9223372036854775808) (hstep : ∀ i:Nat,i<n→f i=some (.inl ((i:Int)+1))) (hend:f n=some (.inr z)):Itr.it f (0:Int)=some z:=by
 have:=it_find (f:=f) n (fun _=>none) z hn (fun i hi=>hstep i hi) hend
 rw [this]
 congr 1
 have:(List.range n).findSome? (fun _=>(none:Option R))=none:=List.findSome?_eq_none_iff.2 fun _ _=>rfl
 rw [this]; rfl
theorem at_mid (a b:List UInt8) (c:UInt8):(a++c::b)[a.length]? = some c:=by simp
theorem take_mid (a b:List UInt8) (c:UInt8):(a++c::b).take a.length=a:=by simp
theorem drop_mid (a b:List UInt8) (c:UInt8):(a++c::b).drop (a.length+1)=b:=by
 rw [← List.drop_drop]; simp
theorem at_pre {a b:List UInt8} {c:UInt8} {i:Nat} (h:i<a.length) : ∃ x,(a++c::b)[i]? = some x∧x∈a:=by
 refine ⟨a[i],?_,List.getElem_mem h⟩
 rw [List.getElem?_append_left h,List.getElem?_eq_getElem h]
def innerR (s b e:List UInt8):List UInt8×Bool:=if (innerL s b e).2 then innerL s b e else ([],false)
theorem prefix_take (b s:List UInt8):b.isPrefixOf s=(decide (b.length≤s.length)&&(s.take b.length==b)):=by
 rw [Bool.eq_iff_iff,Bool.and_eq_true,decide_eq_true_eq,beq_iff_eq,List.isPrefixOf_iff_prefix]
 constructor
 ·intro h
  exact ⟨h.length_le,(List.prefix_iff_eq_take.1 h).symm⟩
 ·rintro ⟨_,h2⟩
  exact List.prefix_iff_eq_take.2 h2.symm
theorem suffix_drop (e s:List UInt8):e.isSuffixOf s=(decide (e.length≤s.length)&&(s.drop (s.length - e.length)==e)):=by
 rw [Bool.eq_iff_iff,Bool.and_eq_true,decide_eq_true_eq,beq_iff_eq,List.isSuffixOf_iff_suffix]
 constructor
 ·intro h
  exact ⟨h.length_le,(List.suffix_iff_eq_drop.1 h).symm⟩
 ·rintro ⟨_,h2⟩
  exact List.suffix_iff_eq_drop.2 h2.symm
theorem n37_inner_eq {s b e:List UInt8} (hs:s.length≤1000000000) (hb:b.length≤1000) (he:e.length≤1000):culpritref37_inner s b e=some (innerR s b e):=by
 unfold culpritref37_inner
 have hw1:w64 ((b.length:Int)+(e.length:Int))=((b.length+e.length:Nat):Int):=by rw [w64_id (by omega) (by omega)]; omega
 have hw2:w64 ((s.length:Int) - (e.length:Int))=(s.length:Int) - (e.length:Int):=w64_id (by omega) (by omega)
 rw [hw1,hw2]
 by_cases hl:s.length<b.length+e.length
 ·have h0:(innerL s b e).2=false:=by
   unfold innerL
   simp only
   rw [prefix_take b s]
   by_cases hbl:b.length≤s.length
   ·cases ht:(s.take b.length==b)
    ·simp
    ·simp only [dec_t hbl,Bool.and_self,if_true,Bool.true_and]
     rw [suffix_drop,List.length_drop,dec_f (show ¬ e.length≤s.length - b.length by omega),Bool.false_and]
   ·rw [dec_f hbl]; simp
  rw [dec_t (show (s.length:Int)<((b.length+e.length:Nat):Int) by omega)]
  simp only [Bool.not_true,Bool.not_false,Bool.true_or,cond_true]
  rw [chk_t rfl,chk_t rfl]
  unfold innerR
  rw [h0]; rfl
 ·have hbl:b.length≤s.length:=by omega
  rw [dec_f (show ¬ (s.length:Int)<((b.length+e.length:Nat):Int) by omega)]
  simp only [Bool.not_true,Bool.not_false,Bool.false_or,cond_false,Int.toNat_natCast,show (0:Int).toNat=0 from rfl,List.drop_zero,List.take_length]
  rw [chk_d ⟨by omega,by omega,by omega⟩,chk_t (by rw [dec_t (show (0:Int)≤(s.length:Int) - (e.length:Int)∧(s.length:Int) - (e.length:Int)≤(s.length:Int)∧(s.length:Int)≤(s.length:Int) from ⟨by omega,by omega,by omega⟩),Bool.or_true])]
  have hn:((s.length:Int) - (e.length:Int)).toNat=s.length - e.length:=by omega
  rw [hn]
  have hp:=prefix_take b s
  rw [dec_t hbl,Bool.true_and] at hp
  unfold innerR innerL
  simp only
  rw [hp]
  cases ht:(s.take b.length==b)
  ·simp
  ·have hsf:=suffix_drop e (s.drop b.length)
   rw [List.length_drop,List.drop_drop,dec_t (show e.length≤s.length - b.length by omega),Bool.true_and,show b.length+(s.length - b.length - e.length)=s.length - e.length by omega] at hsf
   simp only [Bool.not_true,Bool.not_false,cond_false,if_true,Bool.true_and,hsf]
   cases ht2:(s.drop (s.length - e.length)==e)
   ·simp
   ·simp only [Bool.not_true,cond_false,if_true]
    rw [chk_d ⟨by omega,by omega,by omega⟩,List.length_drop,List.take_drop,show b.length+(s.length - b.length - e.length)=s.length - e.length by omega]
theorem innerR_len (s b e:List UInt8):(innerR s b e).1.length≤s.length:=by
 unfold innerR
 split
 ·exact innerL_len _ _ _
 ·simp
def partR:Nat→List UInt8→List UInt8→List (List UInt8)
 | 0,_,p=>[p]
 | _+1,[],p=>[p]
 | k+1,b::r,p=>if S__0a07.isPrefixOf (b::r) then p::partR k ((b::r).drop 2) [] else if S_and_e3ee.isPrefixOf (b::r) then p::partR k ((b::r).drop 5) [] else partR k r (p++[b])
theorem partR_nil (k:Nat) (p:List UInt8):partR k [] p=[p]:=by cases k <;> rfl
theorem partR_fuel : ∀ (k j:Nat) (s p:List UInt8),s.length≤k→partR (k+j) s p=partR k s p
 | 0,j,s,p,h=>by
  have:s=[]:=List.eq_nil_of_length_eq_zero (by omega)
  subst this
  rw [partR_nil,partR_nil]
 | k+1,j,[],p,_=>by rw [partR_nil,partR_nil]
 | k+1,j,b::r,p,h=>by
  have hr:r.length≤k:=by simpa using h
  rw [show k+1+j=(k+j)+1 by omega]
  simp only [partR]
  rw [partR_fuel k j ((b::r).drop 2) [] (by simp only [List.length_drop,List.length_cons]; omega),partR_fuel k j ((b::r).drop 5) [] (by simp only [List.length_drop,List.length_cons]; omega),partR_fuel k j r (p++[b]) hr]
theorem partR_skip : ∀ (u:List UInt8),(32:UInt8)∉u→(44:UInt8)∉u→∀ (k:Nat) (s p:List UInt8),partR (u.length+k) (u++s) p=partR k s (p++u)
 | [],_,_,k,s,p=>by simp
 | b::u,h1,h2,k,s,p=>by
  have b1:b≠32:=fun e=>h1 (by simp [e])
  have b2:b≠44:=fun e=>h2 (by simp [e])
  have e:(b::u).length+k=(u.length+k)+1:=by simp only [List.length_cons]; omega
  have p1:S__0a07.isPrefixOf (b::(u++s))=false:=prefix_no (c:=44) (p:=[32]) b2
  have p2:S_and_e3ee.isPrefixOf (b::(u++s))=false:=prefix_no (c:=32) (p:=[97,110,100,32]) b1
  rw [e,List.cons_append,partR,p1,p2]
  simp only [Bool.false_eq_true,if_false]
  rw [partR_skip u (fun hm=>h1 (List.mem_cons_of_mem _ hm)) (fun hm=>h2 (List.mem_cons_of_mem _ hm)) k s (p++[b])]
  simp
theorem partR_len : ∀ (k:Nat) (s p:List UInt8),(∀ x∈partR k s p,x.length≤p.length+s.length)∧(partR k s p).length≤k+1
 | 0,s,p=>by simp [partR]
 | k+1,[],p=>by simp [partR]
 | k+1,b::r,p=>by
  rw [partR]
  split
  ·obtain ⟨h1,h2⟩:=partR_len k ((b::r).drop 2) []
   refine ⟨fun x hx=>?_,by simp only [List.length_cons]; omega⟩
   rcases List.mem_cons.1 hx with rfl | hx
   ·omega
   ·have:=h1 x hx
    simp only [List.length_drop,List.length_nil] at this
    omega
  ·split
   ·obtain ⟨h1,h2⟩:=partR_len k ((b::r).drop 5) []
    refine ⟨fun x hx=>?_,by simp only [List.length_cons]; omega⟩
    rcases List.mem_cons.1 hx with rfl | hx
    ·omega
    ·have:=h1 x hx
     simp only [List.length_drop,List.length_nil] at this
     omega
   ·obtain ⟨h1,h2⟩:=partR_len k r (p++[b])
    refine ⟨fun x hx=>?_,by omega⟩
    have:=h1 x hx
    simp only [List.length_append,List.length_cons,List.length_nil] at this ⊢
    omega
theorem partR_list : ∀ (l:List (List UInt8)),l≠[]→(∀ x∈l,wordB x)→∀ k,(listL l).length≤k→partR k (listL l) []=l
 | [],h,_,_,_=>absurd rfl h
 | [x],_,hx,k,hk=>by
  have e:listL [x]=x:=rfl
  rw [e] at hk ⊢
  obtain ⟨j,rfl⟩ : ∃ j,k=x.length+j:=⟨k - x.length,by omega⟩
  have:=partR_skip x (hx x (by simp)).1 (hx x (by simp)).2.1 j [] []
  rw [List.append_nil,partR_nil] at this
  exact this
 | [x,y],_,hx,k,hk=>by
  rw [listL_two] at hk ⊢
  have e5:S_and_e3ee.length=5:=rfl
  simp only [List.length_append] at hk
  obtain ⟨j,rfl⟩ : ∃ j,k=x.length+((y.length+j)+1):=⟨k - x.length - 1 - y.length,by omega⟩
  rw [partR_skip x (hx x (by simp)).1 (hx x (by simp)).2.1]
  have e0:S_and_e3ee++y=32::([97,110,100,32]++y):=rfl
  have p1:S__0a07.isPrefixOf (32::([97,110,100,32]++y))=false:=rfl
  have p2:S_and_e3ee.isPrefixOf (32::([97,110,100,32]++y))=true:=prefix_self S_and_e3ee y
  rw [e0,partR,p1,p2]
  simp only [Bool.false_eq_true,if_false,if_true,List.nil_append]
  have h3:=partR_skip y (hx y (by simp)).1 (hx y (by simp)).2.1 j [] []
  rw [List.append_nil,partR_nil,List.nil_append] at h3
  have e6:(32::([97,110,100,32]++y)).drop 5=y:=rfl
  rw [e6,h3]
 | x::y::z::r,_,hx,k,hk=>by
  rw [listL_more] at hk ⊢
  have e2:S__0a07.length=2:=rfl
  simp only [List.length_append] at hk
  obtain ⟨j,rfl⟩ : ∃ j,k=x.length+(j+1):=⟨k - x.length - 1,by omega⟩
  have ih:=partR_list (y::z::r) (by simp) (fun w hw=>hx w (List.mem_cons_of_mem _ hw)) j (by omega)
  rw [partR_skip x (hx x (by simp)).1 (hx x (by simp)).2.1]
  generalize listL (y::z::r)=q at *
  have e0:S__0a07++q=44::([32]++q):=rfl
  have p1:S__0a07.isPrefixOf (44::([32]++q))=true:=prefix_self S__0a07 q
  rw [e0,partR,p1]
  simp only [if_true,List.nil_append]
  have e6:(44::([32]++q)).drop 2=q:=rfl
  rw [e6,ih]
theorem slice_eq (s:List UInt8) (k j:Nat):(s.take (k+j)).drop k=(s.drop k).take j:=by
 rw [List.drop_take]; congr 1; omega
theorem n37_Parts_eq {s:List UInt8} (hs:s.length≤1000000000):culpritref37_Parts s=some (partR s.length s []):=by
 unfold culpritref37_Parts
 obtain ⟨z,h1,h2,h3⟩:=it_inv (f:=culpritref37_Parts_loop1 s) (fun st=>s.length - st.2.2.toNat)
  (fun st=>∃ k:Nat,st.2.2=(k:Int)∧k≤s.length∧st.1.length≤k∧st.2.1.length≤k∧st.1++partR (s.length - k) (s.drop k) st.2.1=partR s.length s [])
  (fun z=>z.1.length≤s.length∧z.1++[z.2]=partR s.length s [])
  (fun st hst=>by
   obtain ⟨o,p,i⟩:=st
   obtain ⟨k,e,hk,ho,hp,hq⟩:=hst
   simp only at e ho hp hq
   subst e
   unfold culpritref37_Parts_loop1
   simp only
   by_cases hlt:k<s.length
   ·right
    have w2:w64 ((k:Int)+2)=((k+2:Nat):Int):=by rw [w64_id (by omega) (by omega)]; omega
    have w5:w64 ((k:Int)+5)=((k+5:Nat):Int):=by rw [w64_id (by omega) (by omega)]; omega
    have w1:w64 ((k:Int)+1)=((k+1:Nat):Int):=by rw [w64_id (by omega) (by omega)]; omega
    rw [dec_t (show (k:Int)<(s.length:Int) by omega),cond_true,w2,w5,w1]
    simp only [Int.toNat_natCast,slice_eq]
    obtain ⟨j,hj⟩ : ∃ j,s.length - k=j+1:=⟨s.length - k - 1,by omega⟩
    have hd:=List.drop_eq_getElem_cons hlt
    have q2:S__0a07.isPrefixOf (s.drop k)=(bif decide (((k+2:Nat):Int)≤(s.length:Int)) then ((s.drop k).take 2==S__0a07) else false):=by
     rw [prefix_take,show S__0a07.length=2 from rfl,List.length_drop]
     by_cases h:k+2≤s.length
     ·rw [dec_t (show 2≤s.length - k by omega),dec_t (show ((k+2:Nat):Int)≤(s.length:Int) by omega)]; simp
     ·rw [dec_f (show ¬ 2≤s.length - k by omega),dec_f (show ¬ ((k+2:Nat):Int)≤(s.length:Int) by omega)]; simp
    have q5:S_and_e3ee.isPrefixOf (s.drop k)=(bif decide (((k+5:Nat):Int)≤(s.length:Int)) then ((s.drop k).take 5==S_and_e3ee) else false):=by
     rw [prefix_take,show S_and_e3ee.length=5 from rfl,List.length_drop]
     by_cases h:k+5≤s.length
     ·rw [dec_t (show 5≤s.length - k by omega),dec_t (show ((k+5:Nat):Int)≤(s.length:Int) by omega)]; simp
     ·rw [dec_f (show ¬ 5≤s.length - k by omega),dec_f (show ¬ ((k+5:Nat):Int)≤(s.length:Int) by omega)]; simp
    have c2 : ∀ m:Nat,(!(decide (((k+m:Nat):Int)≤(s.length:Int)))||decide ((0:Int)≤(k:Int)∧(k:Int)≤((k+m:Nat):Int)∧((k+m:Nat):Int)≤(s.length:Int)))=true:=fun m=>by
     by_cases h:((k+m:Nat):Int)≤(s.length:Int)
     ·rw [dec_t (show (0:Int)≤(k:Int)∧(k:Int)≤((k+m:Nat):Int)∧((k+m:Nat):Int)≤(s.length:Int) from ⟨by omega,by omega,h⟩),Bool.or_true]
     ·rw [dec_f h]; rfl
    have ap:appOk o.length [p].length 16=true:=appOk_le (by simp only [List.length_singleton]; omega) (by omega)
    rw [chk_t (c2 2),← q2,chk_t (c2 5),← q5]
    rw [hj] at hq
    rw [hd] at hq
    rw [partR] at hq
    rw [← hd] at hq
    cases h2:S__0a07.isPrefixOf (s.drop k)
    ·rw [h2] at hq
     cases h5:S_and_e3ee.isPrefixOf (s.drop k)
     ·rw [h5] at hq
      simp only [Bool.false_eq_true,if_false] at hq
      have et:(s.drop k).take 1=[s[k]]:=by rw [hd]; rfl
      rw [et]
      simp only [cond_false]
      rw [chk_d ⟨by omega,by omega,by omega⟩,chk_d (by simp only [List.length_singleton]; omega)]
      refine ⟨_,rfl,⟨k+1,rfl,by omega,by simp only; omega,by simp only [List.length_append,List.length_singleton]; omega,?_⟩,by simp only [Int.toNat_natCast]; omega⟩
      simp only
      rw [show s.length - (k+1)=j by omega]
      exact hq
     ·rw [h5] at hq
      simp only [Bool.false_eq_true,if_false,if_true] at hq
      have hl5:=(List.isPrefixOf_iff_prefix.1 h5).length_le
      rw [show S_and_e3ee.length=5 from rfl,List.length_drop] at hl5
      simp only [cond_false,cond_true]
      rw [chk_t ap]
      refine ⟨_,rfl,⟨k+5,rfl,by omega,by simp only [List.length_append,List.length_singleton]; omega,by simp,?_⟩,by simp only [Int.toNat_natCast]; omega⟩
      simp only
      rw [List.drop_drop] at hq
      rw [← partR_fuel (s.length - (k+5)) (j - (s.length - (k+5))) (s.drop (k+5)) [] (by rw [List.length_drop]; omega),show s.length - (k+5)+(j - (s.length - (k+5)))=j by omega,← hq]
      simp
    ·rw [h2] at hq
     simp only [if_true] at hq
     have hl2:=(List.isPrefixOf_iff_prefix.1 h2).length_le
     rw [show S__0a07.length=2 from rfl,List.length_drop] at hl2
     simp only [cond_true]
     rw [chk_t ap]
     refine ⟨_,rfl,⟨k+2,rfl,by omega,by simp only [List.length_append,List.length_singleton]; omega,by simp,?_⟩,by simp only [Int.toNat_natCast]; omega⟩
     simp only
     rw [List.drop_drop] at hq
     rw [← partR_fuel (s.length - (k+2)) (j - (s.length - (k+2))) (s.drop (k+2)) [] (by rw [List.length_drop]; omega),show s.length - (k+2)+(j - (s.length - (k+2)))=j by omega,← hq]
     simp
   ·left
    have hk2:k=s.length:=by omega
    subst hk2
    rw [dec_f (show ¬ (s.length:Int)<(s.length:Int) by omega),cond_false]
    rw [Nat.sub_self,List.drop_length,partR_nil] at hq
    exact ⟨_,rfl,ho,hq⟩)
  (s:=(([]:List (List UInt8)),([]:List UInt8),(0:Int))) ⟨0,rfl,by omega,by simp,by simp,by simp⟩ (by simp only; omega)
 rw [h1]
 simp only [Option.bind_some]
 rw [chk_t (appOk_le (by simp only [List.length_singleton]; omega) (by omega)),h3]
theorem n37_number_total (s:List UInt8) : ∃ r,culpritref37_number s=some r:=by
 unfold culpritref37_number
 by_cases hl:s.length<1∨3<s.length
 ·have e0:(bif decide ((s.length:Int)<(1:Int)) then true else decide ((3:Int)<(s.length:Int)))=true:=by
   rcases hl with h | h
   ·rw [dec_t (show (s.length:Int)<1 by omega)]; rfl
   ·rw [dec_t (show (3:Int)<(s.length:Int) by omega)]; cases decide ((s.length:Int)<1) <;> rfl
  rw [e0]
  exact ⟨_,rfl⟩
 ·have e0:(bif decide ((s.length:Int)<(1:Int)) then true else decide ((3:Int)<(s.length:Int)))=false:=by
   rw [dec_f (show ¬ (s.length:Int)<1 by omega),dec_f (show ¬ (3:Int)<(s.length:Int) by omega)]; rfl
  rw [e0,cond_false]
  obtain ⟨z,h1,h2⟩:=it_inv (f:=culpritref37_number_loop1 s) (fun st=>s.length - st.2.toNat)
   (fun st=>∃ k:Nat,st.2=(k:Int)∧k≤s.length∧0≤st.1∧st.1<10 ^ k)
   (fun z=>∀ n,z = .inl n→0≤n∧n<1000)
   (fun st hst=>by
    obtain ⟨n,i⟩:=st
    obtain ⟨k,e,hk,hn0,hn1⟩:=hst
    simp only at e hn0 hn1
    subst e
    unfold culpritref37_number_loop1
    simp only
    by_cases hlt:k<s.length
    ·have hx:s[k]? = some s[k]:=List.getElem?_eq_getElem hlt
     generalize s[k]=x at hx
     rw [dec_t (show (k:Int)<(s.length:Int) by omega),cond_true,idx_nat hx]
     simp only [Option.bind_some]
     have e1:(bif !(decide ((x.toNat:Int)<(48:Int))) then some x else some 0:Option UInt8)=some (bif !(decide ((x.toNat:Int)<(48:Int))) then x else 0):=by
      cases decide ((x.toNat:Int)<(48:Int)) <;> rfl
     rw [e1]
     simp only [Option.bind_some]
     by_cases hd:48≤x.toNat∧x.toNat≤57
     ·right
      rw [dec_f (show ¬ (x.toNat:Int)<48 by omega)]
      simp only [Bool.not_false,cond_true,cond_false]
      rw [dec_f (show ¬ (57:Int)<(x.toNat:Int) by omega),cond_false]
      have hk3:k=0∨k=1∨k=2:=by omega
      have hp:n<100∧10 * n+9<10 ^ (k+1):=by
       rcases hk3 with rfl | rfl | rfl <;> simp at hn1 ⊢ <;> omega
      have hu:IntKind.u8.wrap ((x.toNat:Int) - 48)=(x.toNat:Int) - 48:=by rw [IntKind.wrap_u8]; omega
      rw [hu,w64_id (x:=10 * n) (by omega) (by omega),w64_id (x:=(x.toNat:Int) - 48) (by omega) (by omega),w64_id (x:=10 * n+((x.toNat:Int) - 48)) (by omega) (by omega),w64_id (x:=(k:Int)+1) (by omega) (by omega)]
      exact ⟨_,rfl,⟨k+1,by simp only; omega,by omega,by simp only; omega,by simp only; omega⟩,by simp only; omega⟩
     ·left
      have e2:(bif decide ((x.toNat:Int)<(48:Int)) then true else decide ((57:Int)<((bif !(decide ((x.toNat:Int)<(48:Int))) then x else 0:UInt8).toNat:Int)))=true:=by
       by_cases h:(x.toNat:Int)<48
       ·rw [dec_t h]; rfl
       ·rw [dec_f h]
        simp only [Bool.not_false,cond_true,cond_false]
        exact dec_t (by omega)
      rw [e2,cond_true]
      exact ⟨_,rfl,fun n h=>by cases h⟩
    ·left
     rw [dec_f (show ¬ (k:Int)<(s.length:Int) by omega),cond_false]
     refine ⟨_,rfl,fun m h=>?_⟩
     cases h
     have hk3:k=0∨k=1∨k=2∨k=3:=by omega
     rcases hk3 with rfl | rfl | rfl | rfl <;> simp at hn1 <;> omega)
   (s:=((0:Int),(0:Int))) ⟨0,rfl,by omega,by simp,by simp⟩ (by simp only; omega)
  rw [h1]
  simp only [Option.bind_some]
  cases z with
  | inr r=>exact ⟨_,rfl⟩
  | inl n=>
   obtain ⟨a,b⟩:=h2 n rfl
   simp only
   rw [n20_Decimal_eq a (by omega)]
   exact ⟨_,rfl⟩
theorem n37_number_all:((List.range 1000).all fun n=>decide (culpritref37_number (itoaL (n:Nat))=some ((n:Int),true)))=true:=by decide +kernel
theorem n37_number_itoa {n:Int} (h0:0≤n) (h1:n≤999):culpritref37_number (itoaL n)=some (n,true):=by
 obtain ⟨k,rfl⟩ : ∃ k:Nat,n=k:=⟨n.toNat,by omega⟩
 exact of_decide_eq_true (List.all_eq_true.1 n37_number_all k (List.mem_range.2 (by omega)))
theorem n37_named_spec {s:List UInt8} (hs:s.length≤1000000000) : ∃ r,culpritref37_named s=some r∧∀ n,okName n=true→s=nameL n→r=(n,true):=by
 unfold culpritref37_named
 rcases byte_cases 46 s with h | ⟨a,b,rfl,h⟩
 ·rw [it_scan (f:=culpritref37_named_loop1 s) (z:=.inl ()) s.length (by omega) (fun i hi=>by
   have hx:s[i]? = some s[i]:=List.getElem?_eq_getElem hi
   have hne:s[i]≠46:=fun e=>h (e ▸ List.getElem_mem hi)
   generalize s[i]=x at hx hne
   unfold culpritref37_named_loop1
   rw [dec_t (show (i:Int)<(s.length:Int) by omega),cond_true,idx_nat hx]
   simp only [Option.bind_some]
   have e1:((x.toNat:Int)==46)=false:=by
    rw [beq_eq_false_iff_ne]
    intro e
    exact hne (UInt8.toNat_inj.1 (by show x.toNat=46; omega))
   rw [e1,cond_false,w64_id (by omega) (by omega)])
   (by unfold culpritref37_named_loop1; rw [dec_f (show ¬ (s.length:Int)<(s.length:Int) by omega)]; rfl)]
  refine ⟨_,rfl,fun n _ e=>absurd ?_ h⟩
  rw [e]
  unfold nameL
  have:S__cdb4=[46]:=rfl
  rw [this]; simp
 ·simp only [List.length_append,List.length_cons] at hs
  obtain ⟨r1,e1⟩:=n37_number_total a
  obtain ⟨r2,e2⟩:=n37_number_total b
  rw [it_scan (f:=culpritref37_named_loop1 (a++46::b)) (z:=.inr ((r1.1,r2.1),bif r1.2 then r2.2 else false)) a.length (by omega) (fun i hi=>by
   obtain ⟨x,hx,hm⟩:=at_pre (b:=b) (c:=46) hi
   have hne:x≠46:=fun e=>h (e ▸ hm)
   unfold culpritref37_named_loop1
   rw [dec_t (show (i:Int)<((a++46::b).length:Int) by simp only [List.length_append,List.length_cons]; omega),cond_true,idx_nat hx]
   simp only [Option.bind_some]
   have e1:((x.toNat:Int)==46)=false:=by
    rw [beq_eq_false_iff_ne]
    intro e
    exact hne (UInt8.toNat_inj.1 (by show x.toNat=46; omega))
   rw [e1,cond_false,w64_id (by omega) (by omega)])
   (by
    unfold culpritref37_named_loop1
    have hl:(a++46::b).length=a.length+b.length+1:=by simp only [List.length_append,List.length_cons]; omega
    rw [dec_t (show (a.length:Int)<((a++46::b).length:Int) by omega),cond_true,idx_nat (at_mid a b 46)]
    simp only [Option.bind_some]
    rw [show (((46:UInt8).toNat:Int)==46)=true from rfl,cond_true,chk_d ⟨by omega,by omega,by omega⟩,Int.toNat_natCast,show (0:Int).toNat=0 from rfl,List.drop_zero,take_mid,e1]
    simp only [Option.bind_some]
    have hw:w64 ((a.length:Int)+1)=((a.length+1:Nat):Int):=by rw [w64_id (by omega) (by omega)]; omega
    rw [hw,chk_d ⟨by omega,by omega,by omega⟩,Int.toNat_natCast,Int.toNat_natCast,List.take_length,drop_mid,e2]
    rfl)]
  refine ⟨_,rfl,fun n hn e=>?_⟩
  obtain ⟨n0,n1,n2,n3⟩:=okName_i64 hn
  have h46:=(number_itoa n0 (by omega)).2.2
  have e3:a++46::b=itoaL n.1++46::itoaL n.2:=by
   rw [e]
   unfold nameL
   have:S__cdb4=[46]:=rfl
   rw [this]; simp
  have hcut:=cutL_hit (c:=46) b h
  rw [e3,cutL_hit (c:=46) _ h46] at hcut
  simp only [Prod.mk.injEq,and_true] at hcut
  obtain ⟨rfl,rfl⟩:=hcut
  rw [n37_number_itoa n0 (by omega)] at e1
  rw [n37_number_itoa n2 (by omega)] at e2
  cases e1
  cases e2
  rfl
end Go.Proofs.YtknnphhepnbaoaaGreatDoor
namespace Go.Proofs.YtknnphhepnbaoaaGreatDoor
open Go.Sm
theorem f5_row_eq {s:List UInt8} (hn:Small s):culpritref05_row s=some (rowB s):=by
 have h:=it_all (f:=culpritref05_row_loop1 s) (z:=false) s (fun _ x=>isDig x) hn
  (fun i x hx=>by
   have hlt:=lt_of_at hx
   unfold culpritref05_row_loop1 isDig
   rw [dec_t (show (i:Int)<(s.length:Int) by omega),cond_true,idx_nat hx]
   simp only [Option.bind_some]
   by_cases h1:(x.toNat:Int)<48
   ·rw [dec_t h1,dec_f (show ¬ 48≤x.toNat by omega)]
    simp
   ·rw [dec_f h1,dec_t (show 48≤x.toNat by omega)]
    by_cases h2:(57:Int)<x.toNat
    ·rw [dec_f (show ¬ x.toNat≤57 by omega)]
     simp [h2]
    ·rw [dec_t (show x.toNat≤57 by omega)]
     simp [h2,succ64 hn hx])
  (by unfold culpritref05_row_loop1; simp)
 rw [allI_const] at h
 unfold culpritref05_row
 rw [h]
 match s,hn with
 | [],_=>rfl
 | [c],_=>
  have e2:decide ((1:Int)<(([c]:List UInt8).length:Int))=false:=rfl
  have e3:((([c]:List UInt8).length:Int)==1)=true:=rfl
  rw [e2,e3]
  simp only [rowB]
  cases hA:([c].all isDig) <;> simp
 | c::d::r,_=>
  have e2:decide ((1:Int)<((c::d::r:List UInt8).length:Int))=true:=decide_eq_true (by simp only [List.length_cons]; omega)
  have e6:(((c::d::r:List UInt8).length:Int)==1)=false:=by rw [beq_eq_false_iff_ne]; simp only [List.length_cons]; omega
  have e3:idx (c::d::r) (0:Int)=some c:=idx_nat (i:=0) rfl
  have e4:((d::r:List UInt8)==[])=false:=rfl
  have e5:((c.toNat:Int) != 48) = !(c.toNat==48):=by
   rw [bne,Bool.eq_iff_iff,Bool.not_eq_true',Bool.not_eq_true',beq_eq_false_iff_ne,beq_eq_false_iff_ne]; omega
  rw [e2,e6,e3]
  simp only [rowB,e4,Bool.false_or]
  cases hA:((c::d::r).all isDig)
  ·simp
  ·simp [e5]
theorem f5_whole_digit : ∀ d<10,culpritref05_Whole ((d:Nat):Int)=some (oneL d):=by decide +kernel
theorem f5_number_eq {s:List UInt8} (hd:s.all isDig=true) (hn:s.length≤617) : ∃ z,culpritref05_number s=some (z,decide (z.length≤64))∧canon z∧nat32 z=decV s:=by
 have h:=it_inv (f:=culpritref05_number_loop1 s) (fun t=>s.length - t.2.toNat)
  (fun t=>∃ k:Nat,t.2=(k:Int)∧k≤s.length∧canon t.1∧nat32 t.1=decV (s.take k)∧t.1.length≤3 * k)
  (fun z=>canon z∧nat32 z=decV s)
  (fun t ht=>by
   obtain ⟨o,kk⟩:=t
   obtain ⟨k,h1,h2,h3,h4,h5⟩:=ht
   simp only at h1 h3 h4 h5
   subst h1
   unfold culpritref05_number_loop1
   simp only
   by_cases hk:k<s.length
   ·right
    have hb:s[k]? = some s[k]:=List.getElem?_eq_getElem hk
    have hbd:=List.all_eq_true.1 hd s[k] (List.getElem_mem hk)
    simp only [isDig,Bool.and_eq_true,decide_eq_true_eq] at hbd
    generalize hbv:s[k]=b at *
    obtain ⟨z1,e1,e2,e3,e4⟩:=f5_Times_eq h3.1 (canon_one (n:=10) (by omega) (by omega)).1 (by simp only [List.length_singleton]; omega)
    have ew:w64 (IntKind.u8.wrap ((b.toNat:Int) - 48))=((b.toNat - 48:Nat):Int):=by
     rw [IntKind.wrap_u8,w64_id (by omega) (by omega)]; omega
    have hlt:b.toNat - 48<4294967296:=by omega
    have hol:(oneL (b.toNat - 48)).length≤1:=by unfold oneL; split <;> simp
    simp only [List.length_singleton] at e4
    obtain ⟨z2,f1,f2,f3,f4⟩:=f5_Plus_eq e2.1 (oneL_canon hlt).1 (by omega) (by omega)
    have hw:w64 ((k:Int)+1)=((k+1:Nat):Int):=by rw [w64_id (by omega) (by omega)]; omega
    have e1' : culpritref05_Times o [10]=some z1:=e1
    rw [dec_t (show (k:Int)<(s.length:Int) by omega),cond_true,e1']
    simp only [Option.bind_some]
    rw [idx_nat hb]
    simp only [Option.bind_some]
    rw [ew,f5_whole_digit _ (by omega)]
    simp only [Option.bind_some,f1]
    refine ⟨_,rfl,⟨k+1,by simp only [hw],by omega,f2,?_,?_⟩,by simp only [hw,Int.toNat_natCast]; omega⟩
    ·rw [f3,e3,h4,oneL_nat,List.take_add_one,hb]
     unfold decV
     simp only [Option.toList_some,List.foldl_append,List.foldl_cons,List.foldl_nil]
     have:nat32 [((10:Nat):Int)]=10:=by simp [nat32]
     rw [this]
    ·simp only
     omega
   ·left
    have hk2:k=s.length:=by omega
    subst hk2
    rw [dec_f (show ¬ ((s.length:Int)<(s.length:Int)) by omega),cond_false]
    rw [List.take_length] at h4
    exact ⟨_,rfl,h3,h4⟩)
  (s:=(([]:List Int),(0:Int))) ⟨0,rfl,by omega,⟨by simp [limbs],by simp⟩,by simp [nat32,decV],by simp⟩ (by simp only; omega)
 obtain ⟨z,h1,h2,h3⟩:=h
 refine ⟨z,?_,h2,h3⟩
 unfold culpritref05_number
 rw [dec_f (show ¬ (617:Int)<(s.length:Int) by omega),cond_false,h1]
 simp only [Option.bind_some]
 congr 2
 rw [Bool.eq_iff_iff,decide_eq_true_eq,decide_eq_true_eq]; omega
theorem f5_number_any {s:List UInt8} (hd:s.all isDig=true) : ∃ z f,culpritref05_number s=some (z,f)∧(f=true→canon z∧z.length≤64∧nat32 z=decV s∧s.length≤617)∧(f=false→∀ x:List Int,canon x→x.length≤64→s.length≤617→nat32 x≠decV s):=by
 by_cases hl:s.length≤617
 ·obtain ⟨z,h1,h2,h3⟩:=f5_number_eq hd hl
  refine ⟨z,_,h1,fun hf=>⟨h2,of_decide_eq_true hf,h3,hl⟩,fun hf x hx hxl _ e=>?_⟩
  have:=canon_inj hx h2 (by rw [e,h3])
  rw [this] at hxl
  exact of_decide_eq_false hf hxl
 ·refine ⟨[],false,?_,(fun h=>by cases h),fun _ x _ _ h=>absurd h hl⟩
  unfold culpritref05_number
  rw [dec_t (show (617:Int)<(s.length:Int) by omega),cond_true]
theorem ratOk_of {z y:List Int} (c1:canon z) (d1:canon y) (c2:z.length≤64) (d2:y.length≤64) (hv:validB (nat32 z) (nat32 y)=true):RatOk (z,y):=
 ⟨c1,d1,c2,d2,fun q1 q2=>gcdAll (nat32 y+1) z y c1 d1 c2 d2 (by omega) q1 q2,hv⟩
theorem f5_slash {t:List UInt8} (ht:t.length≤1000000000) {a b:List UInt8} {m:Bool} (h:(m=false∧(47:UInt8)∉t∧a=t∧b=[])∨(m=true∧t=a++47::b∧(47:UInt8)∉a)) :
  Itr.it (culpritref05_Parse_loop1 t) (0:Int)=some (a.length:Int)∧decide ((a.length:Int)<(t.length:Int))=m∧t.take a.length=a∧(m=true→t.drop (a.length+1)=b)∧a.length+b.length≤t.length∧(m=true→a.length+1+b.length=t.length):=by
 have step : ∀ (i:Nat) (x:UInt8),t[i]? = some x→x≠47→culpritref05_Parse_loop1 t (i:Int)=some (.inl ((i:Int)+1)):=fun i x hx hne=>by
  have hlt:=lt_of_at hx
  unfold culpritref05_Parse_loop1
  rw [dec_t (show (i:Int)<(t.length:Int) by omega),cond_true,idx_nat hx]
  simp only [Option.bind_some,cond_true]
  have e1:((x.toNat:Int) != 47)=true:=by
   rw [bne_iff_ne]
   intro e
   exact hne (UInt8.toNat_inj.1 (by show x.toNat=47; omega))
  rw [e1,cond_true,w64_id (by omega) (by omega)]
 rcases h with ⟨rfl,h,rfl,rfl⟩ | ⟨rfl,rfl,h⟩
 ·refine ⟨it_scan a.length (by omega) (fun i hi=>step i _ (List.getElem?_eq_getElem hi) fun e=>h (e ▸ List.getElem_mem hi)) ?_,dec_f (by omega),List.take_length,(fun e=>by cases e),by simp,(fun e=>by cases e)⟩
  unfold culpritref05_Parse_loop1
  rw [dec_f (by omega)]
  rfl
 ·have hl:(a++47::b).length=a.length+b.length+1:=by simp only [List.length_append,List.length_cons]; omega
  refine ⟨it_scan a.length (by omega) (fun i hi=>?_) ?_,dec_t (by omega),take_mid a b 47,fun _=>drop_mid a b 47,by omega,fun _=>by omega⟩
  ·obtain ⟨x,hx,hm⟩:=at_pre (b:=b) (c:=47) hi
   exact step i x hx fun e=>h (e ▸ hm)
  ·unfold culpritref05_Parse_loop1
   rw [dec_t (show (a.length:Int)<((a++47::b).length:Int) by omega),cond_true,idx_nat (at_mid a b 47)]
   rfl
theorem f5_Parse_spec {t:List UInt8} (ht:t.length≤1000000000) :
  ∃ r e,culpritref05_Parse t=some (r,e)∧(e=0→RatOk r∧RatText r t)∧(e≠0→∀ r',RatOk r' → ¬ RatText r' t):=by
 obtain ⟨a,b,m,hab⟩ : ∃ a b m,(m=false∧(47:UInt8)∉t∧a=t∧b=[])∨(m=true∧t=a++47::b∧(47:UInt8)∉a):=by
  rcases byte_cases 47 t with h | ⟨a,b,h1,h2⟩
  ·exact ⟨t,[],false, .inl ⟨rfl,h,rfl,rfl⟩⟩
  ·exact ⟨a,b,true, .inr ⟨rfl,h1,h2⟩⟩
 obtain ⟨s1,s2,s3,s4,s5,s6⟩:=f5_slash ht hab
 have hal:a.length≤t.length:=by omega
 unfold culpritref05_Parse
 rw [s1]
 simp only [Option.bind_some]
 rw [s2,chk_d ⟨by omega,by omega,by omega⟩,show (0:Int).toNat=0 from rfl,List.drop_zero,Int.toNat_natCast,s3,f5_row_eq (s:=a) (by show a.length<_; omega)]
 simp only [Option.bind_some]
 have hw:w64 ((a.length:Int)+1)=((a.length+1:Nat):Int):=by rw [w64_id (by omega) (by omega)]; omega
 rw [hw,Int.toNat_natCast,Int.toNat_natCast,List.take_length]
 have ck:(m=true→decide (0≤((a.length+1:Nat):Int)∧((a.length+1:Nat):Int)≤(t.length:Int)∧(t.length:Int)≤(t.length:Int))=true):=fun hm=>dec_t ⟨by omega,by have:=s6 hm; omega,by omega⟩
 cases m with
 | false=>
  obtain ⟨_,h2,rfl,rfl⟩ | ⟨h,_⟩:=hab
  case inr=>cases h
  simp only [Bool.and_false,Bool.not_false,Bool.true_or,cond_false]
  rw [chk_t rfl]
  simp only [Option.bind_some]
  have only : ∀ r',RatOk r' → RatText r' a→rowB a=true∧decV a=nat32 r'.1∧a.length≤617∧r'.2=[]:=fun r' _ hT=>by
   obtain ⟨a',a1,a2,a3,⟨e1,rfl⟩ | ⟨_,b,_,_,_,rfl⟩⟩:=hT
   ·exact ⟨a1,a2,a3,e1⟩
   ·exact absurd (by show (47:UInt8)∈a' ++ [47]++b; simp) h2
  cases hr:rowB a
  ·refine ⟨_,2,rfl,(fun e=>absurd e (by decide)),fun _ r' ho hT=>?_⟩
   have:=(only r' ho hT).1
   rw [hr] at this; cases this
  ·obtain ⟨z,f,n1,n2,n3⟩:=f5_number_any (rowB_dig hr)
   simp only [Bool.not_true,cond_false]
   rw [chk_d ⟨by omega,by omega,by omega⟩,n1]
   simp only [Option.bind_some]
   cases f
   ·refine ⟨_,4,rfl,(fun e=>absurd e (by decide)),fun _ r' ho hT=>?_⟩
    obtain ⟨_,q2,q3,_⟩:=only r' ho hT
    exact n3 rfl r'.1 ho.n ho.ln q3 q2.symm
   ·obtain ⟨c1,c2,c3,c4⟩:=n2 rfl
    have dn:canon ([]:List Int):=⟨by simp [limbs],by simp⟩
    have hv:validB (nat32 z) (nat32 ([]:List Int))=true:=by
     have:nat32 ([]:List Int)=0:=rfl
     rw [this]; simp [validB]
    simp only [Bool.not_true,cond_false,f5_Valid_eq c1 dn c2 (by simp),if_pos hv,Option.bind_some]
    exact ⟨(z,[]),0,rfl,fun _=>⟨ratOk_of c1 dn c2 (by simp) hv,a,hr,c3.symm,c4, .inl ⟨rfl,rfl⟩⟩,fun e=>absurd rfl e⟩
 | true=>
  obtain ⟨h,_⟩ | ⟨_,h2,h3⟩:=hab
  case inl=>cases h
  have ck2:=ck rfl
  have hb2:=s6 rfl
  have hmem:(47:UInt8)∈t:=by rw [h2]; simp
  have only : ∀ r',RatOk r' → RatText r' t→rowB a=true∧decV a=nat32 r'.1∧a.length≤617∧r'.2≠[]∧rowB b=true∧decV b=nat32 r'.2∧b.length≤617:=fun r' _ hT=>by
   obtain ⟨a',a1,a2,a3,⟨e1,e2⟩ | ⟨e1,b',b1,b2,b3,e2⟩⟩:=hT
   ·rw [e2] at hmem
    exact absurd hmem (dig_ne (rowB_dig a1))
   ·have e3:a++47::b=a' ++ 47::b' := by
     rw [← h2,e2]
     show a' ++ [47]++b' = _
     simp
    obtain ⟨rfl,rfl⟩:=slash_inj h3 (dig_ne (rowB_dig a1)) e3
    exact ⟨a1,a2,a3,e1,b1,b2,b3⟩
  rw [ck2,Bool.or_true,chk_t rfl,s4 rfl]
  cases ha:rowB a
  ·refine ⟨_,2,rfl,(fun e=>absurd e (by decide)),fun _ r' ho hT=>?_⟩
   have:=(only r' ho hT).1
   rw [ha] at this; cases this
  simp only [Bool.not_true,Bool.not_false,Bool.and_true,cond_true,cond_false]
  rw [f5_row_eq (s:=b) (by show b.length<_; omega)]
  simp only [Option.bind_some]
  cases hb:rowB b
  ·refine ⟨_,2,rfl,(fun e=>absurd e (by decide)),fun _ r' ho hT=>?_⟩
   have:=(only r' ho hT).2.2.2.2.1
   rw [hb] at this; cases this
  obtain ⟨z,f,n1,n2,n3⟩:=f5_number_any (rowB_dig ha)
  obtain ⟨y,g,k1,k2,k3⟩:=f5_number_any (rowB_dig hb)
  simp only [Bool.not_true,cond_false]
  rw [chk_d ⟨by omega,by omega,by omega⟩,n1]
  simp only [Option.bind_some]
  rw [chk_t rfl,k1]
  simp only [Option.bind_some]
  cases f
  ·refine ⟨_,4,rfl,(fun e=>absurd e (by decide)),fun _ r' ho hT=>?_⟩
   obtain ⟨_,q2,q3,_⟩:=only r' ho hT
   exact n3 rfl r'.1 ho.n ho.ln q3 q2.symm
  cases g
  ·refine ⟨_,4,rfl,(fun e=>absurd e (by decide)),fun _ r' ho hT=>?_⟩
   obtain ⟨_,_,_,_,_,q2,q3⟩:=only r' ho hT
   exact k3 rfl r'.2 ho.d ho.ld q3 q2.symm
  obtain ⟨c1,c2,c3,c4⟩:=n2 rfl
  obtain ⟨d1,d2,d3,d4⟩:=k2 rfl
  have same : ∀ r',RatOk r' → RatText r' t→r'.1=z∧r'.2=y:=fun r' ho hT=>by
   obtain ⟨_,q2,_,_,_,q6,_⟩:=only r' ho hT
   exact ⟨canon_inj ho.n c1 (by rw [← q2,c3]),canon_inj ho.d d1 (by rw [← q6,d3])⟩
  simp only [Bool.not_true,cond_true,cond_false,f5_Valid_eq c1 d1 c2 d2,Option.bind_some]
  by_cases hv:validB (nat32 z) (nat32 y)=true
  ·rw [if_pos hv]
   by_cases hy:y=[]
   ·refine ⟨_,1,by rw [hy]; rfl,(fun e=>absurd e (by decide)),fun _ r' ho hT=>?_⟩
    have q:=only r' ho hT
    exact q.2.2.2.1 (by rw [(same r' ho hT).2,hy])
   ·have hlen:0<y.length:=List.length_pos_iff.2 hy
    have e1:((y.length:Int)==0)=false:=by rw [beq_eq_false_iff_ne]; omega
    refine ⟨(z,y),0,by rw [e1]; rfl,fun _=>⟨ratOk_of c1 d1 c2 d2 hv,a,ha,c3.symm,c4, .inr ⟨hy,b,hb,d3.symm,d4,?_⟩⟩,fun e=>absurd rfl e⟩
    rw [h2]
    show _=a++[47]++b
    simp
  ·rw [if_neg hv]
   refine ⟨_,1,rfl,(fun e=>absurd e (by decide)),fun _ r' ho hT=>?_⟩
   obtain ⟨q1,q2⟩:=same r' ho hT
   have:=ho.v
   rw [q1,q2] at this
   exact hv this
structure MeasS (s:List UInt8) (r:List Int×List Int):Prop where
 ok:RatOk r
 pos:r.1≠[]
 le:nat32 r.1≤denN (nat32 r.2)
 tx : ∃ t,RatText r t∧s=S_it_fails_with_5cf6++t++S__cdb4
theorem MeasS.det {s:List UInt8} {r r' : List Int×List Int} (h:MeasS s r) (h' : MeasS s r'):r=r' := by
 obtain ⟨t,t1,t2⟩:=h.tx
 obtain ⟨u,u1,u2⟩:=h'.tx
 have e:=innerL_hit S_it_fails_with_5cf6 t S__cdb4
 rw [← t2,u2,innerL_hit] at e
 simp only [Prod.mk.injEq,and_true] at e
 subst e
 exact RatText.det h.ok h'.ok t1 u1
theorem n37_ParseMeasure_spec {s:List UInt8} (hs:s.length≤1000000000) : ∃ r,culpritref37_ParseMeasure s=some r∧(r.2=true→MeasS s r.1)∧(∀ r',MeasS s r' → r=(r',true)):=by
 unfold culpritref37_ParseMeasure
 rw [n37_inner_eq hs (by decide) (by decide)]
 simp only [Option.bind_some]
 have hil:=innerR_len s S_it_fails_with_5cf6 S__cdb4
 obtain ⟨r,e,p1,p2,p3⟩:=f5_Parse_spec (t:=(innerR s S_it_fails_with_5cf6 S__cdb4).1) (by omega)
 rw [p1]
 simp only [Option.bind_some]
 have hfwd:(innerR s S_it_fails_with_5cf6 S__cdb4).2=true→s=S_it_fails_with_5cf6++(innerR s S_it_fails_with_5cf6 S__cdb4).1++S__cdb4:=fun h=>by
  unfold innerR at h ⊢
  split
  ·exact innerL_back (by assumption)
  ·rename_i hh; rw [if_neg hh] at h; cases h
 have hback : ∀ t,s=S_it_fails_with_5cf6++t++S__cdb4→innerR s S_it_fails_with_5cf6 S__cdb4=(t,true):=fun t e=>by
  unfold innerR; rw [e,innerL_hit]; rfl
 generalize innerR s S_it_fails_with_5cf6 S__cdb4=c at *
 have noM:(c.2=true→e=0→r.1=[])→∀ r',¬ MeasS s r' := fun h r' hM=>by
  obtain ⟨t,t1,t2⟩:=hM.tx
  have hc:=hback t t2
  subst hc
  by_cases he:e=0
  ·obtain ⟨q1,q2⟩:=p2 he
   have e1:=RatText.det hM.ok q1 t1 q2
   exact hM.pos (by rw [e1]; exact h rfl he)
  ·exact p3 he r' hM.ok t1
 by_cases hgo:c.2=true∧e=0∧r.1≠[]
 ·obtain ⟨g1,rfl,g3⟩:=hgo
  obtain ⟨q1,q2⟩:=p2 rfl
  have hp:=List.length_pos_iff.2 g3
  rw [g1,show ((0:Int)==0)=true from rfl,dec_t (show (0:Int)<(r.1.length:Int) by omega)]
  simp only [cond_true]
  have hone:culpritref17_One=some (([1],[]):List Int×List Int):=rfl
  rw [hone]
  simp only [Option.bind_some]
  have o1:=f5_Order_eq q1.n q1.d ratOk_one.n ratOk_one.d q1.ln q1.ld ratOk_one.ln ratOk_one.ld
  rw [o1]
  simp only [Option.bind_some]
  have ed:denN (nat32 ([]:List Int))=1:=rfl
  have en:nat32 ([1]:List Int)=1:=by simp [nat32]
  rw [ed,en,Nat.mul_one,Nat.one_mul]
  have ecmp:decide (cmp3 (nat32 r.1) (denN (nat32 r.2))≤0)=decide (nat32 r.1≤denN (nat32 r.2)):=by
   rw [Bool.eq_iff_iff,decide_eq_true_eq,decide_eq_true_eq]
   unfold cmp3
   split
   ·omega
   ·split <;> omega
  rw [ecmp]
  refine ⟨_,rfl,fun h=>?_,fun r' hM=>?_⟩
  ·exact ⟨q1,g3,of_decide_eq_true h,c.1,q2,hfwd g1⟩
  ·obtain ⟨t,t1,t2⟩:=hM.tx
   have hc:=hback t t2
   subst hc
   have hM2:r' = r:=RatText.det hM.ok q1 t1 q2
   subst hM2
   rw [dec_t hM.le]
 ·have hno:(bif bif c.2 then (e==(0:Int)) else false then decide ((0:Int)<(r.1.length:Int)) else false)=false:=by
   cases h1:c.2
   ·rfl
   ·by_cases h2:e=0
    ·have h3:r.1=[]:=by
      by_cases h3:r.1=[]
      ·exact h3
      ·exact absurd ⟨h1,h2,h3⟩ hgo
     rw [h2,h3]; rfl
    ·rw [show (e==(0:Int))=false by rw [beq_eq_false_iff_ne]; exact h2]; rfl
  rw [hno]
  refine ⟨_,rfl,(fun h=>by cases h),fun r' hM=>absurd hM (noM (fun h1 h2=>?_) r')⟩
  by_cases h3:r.1=[]
  ·exact h3
  ·exact absurd ⟨h1,h2,h3⟩ hgo
end Go.Proofs.YtknnphhepnbaoaaGreatDoor
namespace Go.Proofs.YtknnphhepnbaoaaGreatDoor
open Go.Sm
theorem ref_each {α:Type} {sz:Nat} {f:List α×Int→Option ((List α×Int)⊕(List α⊕(List α×Bool)))} {one:List UInt8→Option (α×Bool)} (ps:List (List UInt8)) (hn:(ps.length+1) * sz≤140737488355328) (h1:1≤sz)
  (ho : ∀ p∈ps,∃ r,one p=some r)
  (hstep : ∀ (i:Nat) (p:List UInt8) (a:List α),ps[i]? = some p→f (a,(i:Int))=(one p).bind fun r=>bif !r.2 then some (.inr (.inr ([],false))) else chk (appOk a.length [r.1].length sz) (some (.inl (a++[r.1],w64 ((i:Int)+1)))))
  (hend : ∀ a,f (a,(ps.length:Int))=some (.inr (.inl a))) :
  ∃ z,Itr.it f (([]:List α),(0:Int))=some z∧(z = .inr ([],false)∨∃ l,z = .inl l∧l.length=ps.length)∧∀ l:List α,ps.map one=l.map (fun x=>some (x,true))→z = .inl l:=by
 have hsz:ps.length+1≤(ps.length+1) * sz:=Nat.le_mul_of_pos_right _ h1
 refine it_inv (f:=f) (fun s=>ps.length - s.2.toNat) (fun s=>∃ k:Nat,s.2=(k:Int)∧k≤ps.length∧s.1.length=k∧∀ l:List α,ps.map one=l.map (fun x=>some (x,true))→s.1=l.take k)
  (fun z=>(z = .inr ([],false)∨∃ l,z = .inl l∧l.length=ps.length)∧∀ l:List α,ps.map one=l.map (fun x=>some (x,true))→z = .inl l)
  (fun s hs=>by
   obtain ⟨a,kk⟩:=s
   obtain ⟨k,h1',h2,h3,h4⟩:=hs
   simp only at h1' h3 h4
   subst h1'
   by_cases hk:k<ps.length
   ·have hp:ps[k]? = some ps[k]:=List.getElem?_eq_getElem hk
    obtain ⟨r,hr⟩:=ho _ (List.getElem_mem hk)
    have at_ : ∀ l:List α,ps.map one=l.map (fun x=>some (x,true))→∃ x,l[k]? = some x∧r=(x,true):=fun l hl=>by
     have e:=congrArg (fun q:List (Option (α×Bool))=>q[k]?) hl
     simp only [List.getElem?_map,hp,Option.map_some,hr] at e
     cases hx:l[k]? with
     | none=>rw [hx] at e; cases e
     | some x=>
      rw [hx] at e
      simp only [Option.map_some,Option.some.injEq] at e
      exact ⟨x,rfl,e⟩
    rw [hstep k _ a hp,hr]
    simp only [Option.bind_some]
    cases h5:r.2
    ·left
     refine ⟨_,rfl, .inl rfl,fun l hl=>?_⟩
     obtain ⟨x,_,e⟩:=at_ l hl
     rw [e] at h5; cases h5
    ·right
     have hm:(a.length+1) * sz≤(ps.length+1) * sz:=Nat.mul_le_mul_right _ (by omega)
     simp only [Bool.not_true,cond_false]
     rw [chk_t (appOk_le (by simp only [List.length_singleton]; omega) h1),w64_id (by omega) (by omega)]
     refine ⟨_,rfl,⟨k+1,by omega,by omega,by simp only [List.length_append,List.length_singleton]; omega,fun l hl=>?_⟩,by simp only; omega⟩
     obtain ⟨x,hx,e⟩:=at_ l hl
     simp only
     rw [List.take_add_one,hx,← h4 l hl,e]; rfl
   ·left
    have:k=ps.length:=by omega
    subst this
    refine ⟨_,hend a, .inr ⟨a,rfl,h3⟩,fun l hl=>?_⟩
    have hlen:ps.length=l.length:=by simpa using congrArg List.length hl
    rw [h4 l hl,List.take_of_length_le (by omega)])
  (s:=(([]:List α),(0:Int))) ⟨0,rfl,by omega,rfl,fun l _=>by simp⟩ (by simp only; omega)
theorem setL_cases (l:List Edit):(l=[]∧setL l=S_the_fault_is_o_64f9)∨(∃ n,l=[n]∧setL l=S_the_edit_db6e++nameL n++S_is_guilty_5dc8)∨(2≤l.length∧setL l=S_the_edits_27cf++listL (l.map nameL)++S_are_guilty_to_7335):=by
 match l with
 | []=>exact .inl ⟨rfl,rfl⟩
 | [n]=>exact .inr (.inl ⟨n,rfl,rfl⟩)
 | x::y::r=>exact .inr (.inr ⟨by simp,rfl⟩)
theorem innerR_hit (b t e:List UInt8):innerR (b++t++e) b e=(t,true):=by
 unfold innerR; rw [innerL_hit]; rfl
theorem innerR_no {s b e:List UInt8} (h:b.isPrefixOf s=false):innerR s b e=([],false):=by
 unfold innerR innerL
 simp only [h,Bool.false_and]
 rfl
theorem n37_ParseSet_spec {s:List UInt8} (hs:s.length≤1000000000) : ∃ r,culpritref37_ParseSet s=some r∧(r.2=true→risingB r.1=true∧setL r.1=s)∧(∀ l,risingB l=true→setL l=s→r=(l,true)):=by
 unfold culpritref37_ParseSet
 rw [n37_inner_eq hs (by decide) (by decide)]
 simp only [Option.bind_some]
 rw [n37_inner_eq hs (by decide) (by decide)]
 simp only [Option.bind_some]
 have l1:=innerR_len s S_the_edit_db6e S_is_guilty_5dc8
 have l2:=innerR_len s S_the_edits_27cf S_are_guilty_to_7335
 have tail : ∀ q:List Edit,Small q→∃ b,((culpritref37_rising q).bind fun r10=>(bif r10 then culpritref37_set q else some ([]:List UInt8)).bind fun r11=>some (q,bif r10 then r11==s else false))=some (q,b)∧(b=true→risingB q=true∧setL q=s)∧(risingB q=true→setL q=s→b=true):=fun q hq=>by
  rw [n37_rising_eq q hq]
  simp only [Option.bind_some]
  cases hr:risingB q
  ·exact ⟨false,rfl,(fun h=>by cases h),fun h=>by cases h⟩
  ·have ho:=rising_ok hr
   simp only [cond_true,n37_set_eq ho.1 ho.2,Option.bind_some]
   exact ⟨_,rfl,fun h=>⟨trivial,beq_iff_eq.1 h⟩,fun _ h=>beq_iff_eq.2 h⟩
 by_cases hany:(innerR s S_the_edit_db6e S_is_guilty_5dc8).2=true∨(innerR s S_the_edits_27cf S_are_guilty_to_7335).2=true
 ·obtain ⟨m,hm,hml,hmc⟩ : ∃ m,(bif (innerR s S_the_edit_db6e S_is_guilty_5dc8).2 then some (innerR s S_the_edit_db6e S_is_guilty_5dc8).1 else some (innerR s S_the_edits_27cf S_are_guilty_to_7335).1:Option (List UInt8))=some m∧m.length≤s.length ∧
    ∀ l,risingB l=true→setL l=s→l≠[]∧partR m.length m []=l.map nameL:=by
   have hword : ∀ l:List Edit,risingB l=true→∀ x∈l.map nameL,wordB x:=fun l hl x hx=>by
    obtain ⟨n,hn,rfl⟩:=List.mem_map.1 hx
    exact wordB_name ((rising_ok hl).2 n hn)
   have h0 : ∀ b e,(innerR S_the_fault_is_o_64f9 b e).2=true→b.isPrefixOf S_the_fault_is_o_64f9=true:=fun b e h=>by
    cases hb:b.isPrefixOf S_the_fault_is_o_64f9
    ·rw [innerR_no hb] at h; cases h
    ·rfl
   have hx : ∀ l,risingB l=true→setL l=s→l≠[]∧(bif (innerR s S_the_edit_db6e S_is_guilty_5dc8).2 then (innerR s S_the_edit_db6e S_is_guilty_5dc8).1 else (innerR s S_the_edits_27cf S_are_guilty_to_7335).1)=listL (l.map nameL):=fun l hl e=>by
    rcases setL_cases l with ⟨rfl,e2⟩ | ⟨n,rfl,e2⟩ | ⟨h2,e2⟩
    ·exfalso
     rw [e2] at e
     subst e
     rcases hany with h | h
     ·have:=h0 _ _ h; revert this; decide
     ·have:=h0 _ _ h; revert this; decide
    ·refine ⟨by simp,?_⟩
     rw [e2] at e
     subst e
     rw [innerR_hit]
     rfl
    ·refine ⟨fun h=>by rw [h] at h2; simp at h2,?_⟩
     rw [e2] at e
     subst e
     rw [innerR_hit,innerR_no]
     ·rfl
     ·rfl
   refine ⟨bif (innerR s S_the_edit_db6e S_is_guilty_5dc8).2 then (innerR s S_the_edit_db6e S_is_guilty_5dc8).1 else (innerR s S_the_edits_27cf S_are_guilty_to_7335).1,?_,?_,fun l hl e=>?_⟩
   ·cases (innerR s S_the_edit_db6e S_is_guilty_5dc8).2 <;> rfl
   ·cases (innerR s S_the_edit_db6e S_is_guilty_5dc8).2
    ·exact l2
    ·exact l1
   ·obtain ⟨a1,a2⟩:=hx l hl e
    rw [a2]
    exact ⟨a1,partR_list _ (by simpa using a1) (hword l hl) _ (Nat.le_refl _)⟩
  rw [hm]
  simp only [Option.bind_some]
  have hor:(bif (innerR s S_the_edit_db6e S_is_guilty_5dc8).2 then true else (innerR s S_the_edits_27cf S_are_guilty_to_7335).2)=true:=by
   rcases hany with h | h
   ·rw [h]; rfl
   ·rw [h]; cases (innerR s S_the_edit_db6e S_is_guilty_5dc8).2 <;> rfl
  rw [hor,cond_true,n37_Parts_eq (by omega)]
  simp only [Option.bind_some]
  obtain ⟨p1,p2⟩:=partR_len m.length m []
  obtain ⟨z,z1,z2,z3⟩:=ref_each (sz:=16) (one:=culpritref37_named) (f:=culpritref37_ParseSet_loop1 (partR m.length m [])) (partR m.length m []) (by omega) (by omega)
   (fun p hp=>by
    have:=p1 p hp
    rw [List.length_nil] at this
    obtain ⟨r,hr,_⟩:=n37_named_spec (s:=p) (by omega)
    exact ⟨r,hr⟩)
   (fun i p a hp=>by
    have hlt:=lt_of_at hp
    unfold culpritref37_ParseSet_loop1
    simp only
    rw [dec_t (show (i:Int)<((partR m.length m []).length:Int) by omega),cond_true,idx_nat hp]
    rfl) (fun a=>by unfold culpritref37_ParseSet_loop1; simp)
  rw [z1]
  simp only [Option.bind_some]
  have comp : ∀ l,risingB l=true→setL l=s→z = .inl l:=fun l hl e=>by
   refine z3 l ?_
   rw [(hmc l hl e).2,List.map_map]
   refine List.map_congr_left fun n hn=>?_
   have hok:=(rising_ok hl).2 n hn
   have hnl:=nameL_len n
   obtain ⟨r,hr,h2⟩:=n37_named_spec (s:=nameL n) (by omega)
   show culpritref37_named (nameL n)=_
   rw [hr,h2 n hok rfl]
  rcases z2 with rfl | ⟨q,rfl,hq⟩
  ·exact ⟨_,rfl,(fun h=>by cases h),fun l hl e=>by have:=comp l hl e; cases this⟩
  ·obtain ⟨b,b1,b2,b3⟩:=tail q (by show q.length<_; omega)
   simp only
   refine ⟨_,b1,b2,fun l hl e=>?_⟩
   have:=comp l hl e
   cases this
   rw [b3 hl e]
 ·have f1:(innerR s S_the_edit_db6e S_is_guilty_5dc8).2=false:=by
   cases h:(innerR s S_the_edit_db6e S_is_guilty_5dc8).2
   ·rfl
   ·exact absurd (.inl h) hany
  have f2:(innerR s S_the_edits_27cf S_are_guilty_to_7335).2=false:=by
   cases h:(innerR s S_the_edits_27cf S_are_guilty_to_7335).2
   ·rfl
   ·exact absurd (.inr h) hany
  rw [f1,f2]
  simp only [cond_false,Option.bind_some]
  obtain ⟨b,b1,b2,b3⟩:=tail [] (by simp)
  refine ⟨_,b1,b2,fun l hl e=>?_⟩
  rcases setL_cases l with ⟨rfl,_⟩ | ⟨n,rfl,e2⟩ | ⟨h2,e2⟩
  ·rw [b3 hl e]
  ·rw [← e,e2,innerR_hit] at f1; cases f1
  ·rw [← e,e2,innerR_hit] at f2; cases f2
theorem choicesL_cases (l:List Int):(∃ n,l=[n]∧choicesL l=S_it_shows_by_th_d234++itoaL n++S__cdb4)∨(l.length≠1∧choicesL l=S_it_shows_by_th_603a++listL (l.map itoaL)++S__cdb4):=by
 match l with
 | []=>exact .inr ⟨by simp,rfl⟩
 | [n]=>exact .inl ⟨n,rfl,rfl⟩
 | x::y::r=>exact .inr ⟨by simp,rfl⟩
theorem partR_ne : ∀ (k:Nat) (s p:List UInt8),partR k s p≠[]
 | 0,_,_=>by simp [partR]
 | _+1,[],_=>by simp [partR]
 | k+1,b::r,p=>by
  rw [partR]
  split
  ·simp
  ·split
   ·simp
   ·exact partR_ne k r _
theorem n37_ParseWord_spec {s:List UInt8} (hs:s.length≤1000000000) : ∃ r,culpritref37_ParseWord s=some r∧(r.2=true→r.1≠[]∧possB r.1=true∧choicesL r.1=s)∧(∀ l,l≠[]→possB l=true→choicesL l=s→r=(l,true)):=by
 unfold culpritref37_ParseWord
 rw [n37_inner_eq hs (by decide) (by decide)]
 simp only [Option.bind_some]
 rw [n37_inner_eq hs (by decide) (by decide)]
 simp only [Option.bind_some]
 have l1:=innerR_len s S_it_shows_by_th_d234 S__cdb4
 have l2:=innerR_len s S_it_shows_by_th_603a S__cdb4
 by_cases hany:(innerR s S_it_shows_by_th_d234 S__cdb4).2=true∨(innerR s S_it_shows_by_th_603a S__cdb4).2=true
 ·obtain ⟨m,hm,hml,hmc⟩ : ∃ m,(bif (innerR s S_it_shows_by_th_d234 S__cdb4).2 then some (innerR s S_it_shows_by_th_d234 S__cdb4).1 else some (innerR s S_it_shows_by_th_603a S__cdb4).1:Option (List UInt8))=some m∧m.length≤s.length ∧
    ∀ l,l≠[]→possB l=true→choicesL l=s→partR m.length m []=l.map itoaL:=by
   have hx : ∀ l,choicesL l=s→(bif (innerR s S_it_shows_by_th_d234 S__cdb4).2 then (innerR s S_it_shows_by_th_d234 S__cdb4).1 else (innerR s S_it_shows_by_th_603a S__cdb4).1)=listL (l.map itoaL):=fun l e=>by
    rcases choicesL_cases l with ⟨n,rfl,e2⟩ | ⟨h2,e2⟩
    ·rw [e2] at e
     subst e
     rw [innerR_hit]
     rfl
    ·rw [e2] at e
     subst e
     rw [innerR_hit,innerR_no]
     ·rfl
     ·rfl
   refine ⟨bif (innerR s S_it_shows_by_th_d234 S__cdb4).2 then (innerR s S_it_shows_by_th_d234 S__cdb4).1 else (innerR s S_it_shows_by_th_603a S__cdb4).1,?_,?_,fun l hne hl e=>?_⟩
   ·cases (innerR s S_it_shows_by_th_d234 S__cdb4).2 <;> rfl
   ·cases (innerR s S_it_shows_by_th_d234 S__cdb4).2
    ·exact l2
    ·exact l1
   ·rw [hx l e]
    refine partR_list _ (by simpa using hne) (fun x hx=>?_) _ (Nat.le_refl _)
    obtain ⟨n,hn,rfl⟩:=List.mem_map.1 hx
    have:=((possB_ok hl).2 n hn).2
    exact (number_itoa this.1 this.2).2.1
  have hno:(bif !(innerR s S_it_shows_by_th_d234 S__cdb4).2 then !(innerR s S_it_shows_by_th_603a S__cdb4).2 else false)=false:=by
   rcases hany with h | h
   ·rw [h]; rfl
   ·rw [h]; cases (innerR s S_it_shows_by_th_d234 S__cdb4).2 <;> rfl
  rw [hno,cond_false,hm]
  simp only [Option.bind_some]
  rw [n37_Parts_eq (by omega)]
  simp only [Option.bind_some]
  obtain ⟨p1,p2⟩:=partR_len m.length m []
  obtain ⟨z,z1,z2,z3⟩:=ref_each (sz:=8) (one:=culpritref37_number) (f:=culpritref37_ParseWord_loop1 (partR m.length m [])) (partR m.length m []) (by omega) (by omega)
   (fun p _=>n37_number_total p)
   (fun i p a hp=>by
    have hlt:=lt_of_at hp
    unfold culpritref37_ParseWord_loop1
    simp only
    rw [dec_t (show (i:Int)<((partR m.length m []).length:Int) by omega),cond_true,idx_nat hp]
    rfl) (fun a=>by unfold culpritref37_ParseWord_loop1; simp)
  rw [z1]
  simp only [Option.bind_some]
  have comp : ∀ l,l≠[]→possB l=true→choicesL l=s→z = .inl l:=fun l hne hl e=>by
   refine z3 l ?_
   rw [hmc l hne hl e,List.map_map]
   refine List.map_congr_left fun n hn=>?_
   have:=((possB_ok hl).2 n hn).2
   exact n37_number_itoa this.1 this.2
  rcases z2 with rfl | ⟨q,rfl,hq⟩
  ·exact ⟨_,rfl,(fun h=>by cases h),fun l hne hl e=>by have:=comp l hne hl e; cases this⟩
  ·simp only
   rw [n37_word_eq (by show q.length<_; omega)]
   simp only [Option.bind_some]
   cases hr:possB q
   ·simp only [cond_false,Option.bind_some]
    refine ⟨_,rfl,(fun h=>by cases h),fun l hne hl e=>?_⟩
    have:=comp l hne hl e
    cases this
    rw [hl] at hr; cases hr
   ·have ho:=possB_ok hr
    simp only [cond_true,n37_choices_eq ho.1 (fun n hn=>(ho.2 n hn).2),Option.bind_some]
    refine ⟨_,rfl,fun h=>?_,fun l hne hl e=>?_⟩
    ·have h2:=beq_iff_eq.1 h
     refine ⟨fun e=>?_,hr,h2⟩
     have hp0:=partR_ne m.length m []
     have e9:q=[]:=e
     exact hp0 (List.eq_nil_of_length_eq_zero (by rw [← hq,e9]; rfl))
    ·have:=comp l hne hl e
     cases this
     rw [beq_iff_eq.2 e]
 ·have f1:(innerR s S_it_shows_by_th_d234 S__cdb4).2=false:=by
   cases h:(innerR s S_it_shows_by_th_d234 S__cdb4).2
   ·rfl
   ·exact absurd (.inl h) hany
  have f2:(innerR s S_it_shows_by_th_603a S__cdb4).2=false:=by
   cases h:(innerR s S_it_shows_by_th_603a S__cdb4).2
   ·rfl
   ·exact absurd (.inr h) hany
  rw [f1,f2]
  simp only [Bool.not_false,cond_true]
  refine ⟨_,rfl,(fun h=>by cases h),fun l _ _ e=>?_⟩
  rcases choicesL_cases l with ⟨n,rfl,e2⟩ | ⟨h2,e2⟩
  ·rw [← e,e2,innerR_hit] at f1; cases f1
  ·rw [← e,e2,innerR_hit] at f2; cases f2
end Go.Proofs.YtknnphhepnbaoaaGreatDoor
namespace Go.Proofs.YtknnphhepnbaoaaGreatDoor
open Go.Sm
theorem findSome_map {α β γ:Type} (f:α→Option β) (g:β→γ) : ∀ l:List α,l.findSome? (fun x=>(f x).map g)=(l.findSome? f).map g
 | []=>rfl
 | x::l=>by
  simp only [List.findSome?,findSome_map f g l]
  cases f x <;> rfl
theorem n37_ParseFirst_eq {s:List UInt8} (hs:s.length≤1000000000):culpritref37_ParseFirst s=some (firstL s):=by
 obtain ⟨a,b,hab,h32,hb⟩ : ∃ a b,s=a++b∧(32:UInt8)∉a∧(b=[]∨b.head? = some 32):=by
  rcases byte_cases 32 s with h | ⟨a,b,h1,h2⟩
  ·exact ⟨s,[],by simp,h, .inl rfl⟩
  ·exact ⟨a,32::b,h1,h2, .inr rfl⟩
 have hal:a.length≤s.length:=by rw [hab]; simp
 have hta:s.take a.length=a:=by rw [hab]; simp
 have hda:s.drop a.length=b:=by rw [hab]; simp
 have hscan:Itr.it (culpritref37_ParseFirst_loop1 s) (0:Int)=some (a.length:Int):=by
  refine it_scan a.length (by omega) (fun i hi=>?_) ?_
  ·have hx:s[i]? = some a[i]:=by rw [hab,List.getElem?_append_left hi,List.getElem?_eq_getElem hi]
   have hne:a[i]≠32:=fun e=>h32 (e ▸ List.getElem_mem hi)
   generalize a[i]=x at hx hne
   unfold culpritref37_ParseFirst_loop1
   rw [dec_t (show (i:Int)<(s.length:Int) by omega),cond_true,idx_nat hx]
   simp only [Option.bind_some,cond_true]
   have e1:((x.toNat:Int) != 32)=true:=by
    rw [bne_iff_ne]
    intro e
    exact hne (UInt8.toNat_inj.1 (by show x.toNat=32; omega))
   rw [e1,cond_true,w64_id (by omega) (by omega)]
  ·unfold culpritref37_ParseFirst_loop1
   rcases hb with rfl | hb
   ·have:a.length=s.length:=by rw [hab]; simp
    rw [dec_f (show ¬ (a.length:Int)<(s.length:Int) by omega)]
    rfl
   ·cases b with
    | nil=>cases hb
    | cons c r=>
     simp only [List.head?_cons,Option.some.injEq] at hb
     subst hb
     have hx:s[a.length]? = some 32:=by rw [hab]; exact at_mid a r 32
     have:=lt_of_at hx
     rw [dec_t (show (a.length:Int)<(s.length:Int) by omega),cond_true,idx_nat hx]
     rfl
 unfold culpritref37_ParseFirst
 rw [hscan]
 simp only [Option.bind_some]
 rw [chk_d ⟨by omega,by omega,by omega⟩,show (0:Int).toNat=0 from rfl,List.drop_zero,Int.toNat_natCast,hta,n20_Named_eq]
 simp only [Option.bind_some]
 have part : ∀ {t:List UInt8} {k m:Nat},k<6→m<4→namedB t=true→s=t++machL (kindOf (k:Nat)).1 (m:Nat)→a=t∧b=machL (kindOf (k:Nat)).1 (m:Nat):=fun {t k m} hk hm ht e=>by
  rcases hb with rfl | hb
  ·exfalso
   rw [List.append_nil] at hab
   subst hab
   have hsp:=machL_space k hk m hm
   cases hM:machL (kindOf (k:Nat)).1 (m:Nat) with
   | nil=>rw [hM] at hsp; cases hsp
   | cons c r=>
    rw [hM] at hsp e
    simp only [List.head?_cons,Option.some.injEq] at hsp
    subst hsp
    rw [e] at h32
    exact h32 (by simp)
  ·exact split_space h32 (named_space ht) hb (machL_space k hk m hm) (by rw [← hab,e])
 cases hn:namedB a
 ·simp only [Bool.not_false,cond_true]
  congr 1
  cases h2:(firstL s).2
  ·unfold firstL at h2 ⊢
   cases hf:(List.range 6).findSome? (innK s) with
   | none=>rfl
   | some v=>rw [hf] at h2; cases h2
  ·obtain ⟨k,m,hk,hm,_,t,ht,_,e⟩:=firstL_back (Prod.ext rfl h2:firstL s=((firstL s).1,true))
   obtain ⟨rfl,_⟩:=part hk hm ht e
   rw [ht] at hn; cases hn
 ·simp only [Bool.not_true,cond_false]
  obtain ⟨h,hh⟩ : ∃ h:Nat→Nat→Option Vd,h=fun k m=>if b=machL (kindOf (k:Nat)).1 (m:Nat)∧(m=0∨k=5) then some (vdOf k m a) else none:=⟨_,rfl⟩
  have inner : ∀ k:Nat,k<6→Itr.it (culpritref37_ParseFirst_loop3 s (a.length:Int) (k:Int)) (0:Int) =
    some ((((List.range 4).findSome? (h k)).map fun v=>(.inr (.inr (.inr (v,true))):Unit⊕(Int⊕(Unit⊕(Vd×Bool))))).getD (.inl ())):=fun k hk=>by
   rw [← findSome_map]
   refine it_find 4 _ (Sum.inl ()) (by omega) (fun i hi=>?_) (by unfold culpritref37_ParseFirst_loop3; simp)
   unfold culpritref37_ParseFirst_loop3
   rw [dec_t (show (i:Int)<4 by omega),cond_true,chk_d ⟨by omega,by omega,by omega⟩,n37_ends_eq (by omega) (by omega) (by omega) (by omega)]
   simp only [Option.bind_some]
   simp only [Int.toNat_natCast]
   rw [List.take_length,hda]
   have hw:w64 ((i:Int)+1)=(i:Int)+1:=w64_id (by omega) (by omega)
   have e5:((k:Int)==5)=decide (k=5):=by rw [Bool.eq_iff_iff,beq_iff_eq,decide_eq_true_eq]; omega
   have e0:((i:Int)==0)=decide (i=0):=by rw [Bool.eq_iff_iff,beq_iff_eq,decide_eq_true_eq]; omega
   rw [e5,e0,hw,hh]
   simp only
   by_cases h1:b=machL (kindOf (k:Nat)).1 (i:Nat)
   ·rw [beq_iff_eq.2 h1,cond_true]
    by_cases h2:i=0∨k=5
    ·rw [if_pos ⟨h1,h2⟩]
     have:(bif decide (i=0) then true else decide (k=5))=true:=by
      rcases h2 with h | h
      ·rw [dec_t h]; rfl
      ·rw [dec_t h]; cases decide (i=0) <;> rfl
     rw [this,cond_true,chk_d ⟨by omega,by omega,by omega⟩,hta]
     rfl
    ·rw [if_neg fun h=>h2 h.2]
     have:(bif decide (i=0) then true else decide (k=5))=false:=by
      rw [dec_f (fun h=>h2 (.inl h)),dec_f (fun h=>h2 (.inr h))]; rfl
     rw [this,cond_false]
     rfl
   ·rw [beq_eq_false_iff_ne.2 h1,if_neg fun h=>h1 h.1]
    rfl
  have outer:Itr.it (culpritref37_ParseFirst_loop2 s (a.length:Int)) (0:Int) =
    some ((((List.range 6).findSome? fun k=>(List.range 4).findSome? (h k)).map fun v=>(.inr (v,true):Unit⊕(Vd×Bool))).getD (.inl ())):=by
   rw [← findSome_map]
   refine it_find 6 _ (Sum.inl ()) (by omega) (fun i hi=>?_) (by unfold culpritref37_ParseFirst_loop2; simp)
   unfold culpritref37_ParseFirst_loop2
   rw [dec_t (show (i:Int)<6 by omega),cond_true,inner i hi]
   simp only [Option.bind_some]
   have hw:w64 ((i:Int)+1)=(i:Int)+1:=w64_id (by omega) (by omega)
   rw [hw]
   cases (List.range 4).findSome? (h i) <;> rfl
  rw [outer]
  simp only [Option.bind_some]
  cases hf:(List.range 6).findSome? fun k=>(List.range 4).findSome? (h k) with
  | some v=>
   obtain ⟨k,hk,h1⟩:=List.exists_of_findSome?_eq_some hf
   obtain ⟨m,hm,h2⟩:=List.exists_of_findSome?_eq_some h1
   rw [List.mem_range] at hk hm
   rw [hh] at h2
   simp only at h2
   split at h2
   ·rename_i hc
    simp only [Option.some.injEq] at h2
    have:=firstL_read hk hm hc.2 hn
    rw [← hc.1,← hab,h2] at this
    rw [this]
    rfl
   ·cases h2
  | none=>
   simp only [Option.map_none,Option.getD_none]
   congr 1
   cases h2:(firstL s).2
   ·unfold firstL at h2 ⊢
    cases hf:(List.range 6).findSome? (innK s) with
    | none=>rfl
    | some v=>rw [hf] at h2; cases h2
   ·exfalso
    obtain ⟨k,m,hk,hm,h0,t,ht,_,e⟩:=firstL_back (Prod.ext rfl h2:firstL s=((firstL s).1,true))
    obtain ⟨rfl,hb2⟩:=part hk hm ht e
    rw [List.findSome?_eq_none_iff] at hf
    have h1:=hf k (List.mem_range.2 hk)
    rw [List.findSome?_eq_none_iff] at h1
    have h3:=h1 m (List.mem_range.2 hm)
    rw [hh] at h3
    simp only at h3
    rw [if_pos ⟨hb2,h0⟩] at h3
    cases h3
end Go.Proofs.YtknnphhepnbaoaaGreatDoor
namespace Go.Proofs.YtknnphhepnbaoaaGreatDoor
open Go.Sm
structure Says (s:List UInt8) (a:List Edit×Bool) (b:(List Int×List Int)×Bool) (c:List Int×Bool):Prop where
 a1:a.2=true→risingB a.1=true∧setL a.1=s
 a2 : ∀ l,risingB l=true→setL l=s→a=(l,true)
 b1:b.2=true→MeasS s b.1
 b2 : ∀ r,MeasS s r→b=(r,true)
 c1:c.2=true→c.1≠[]∧possB c.1=true∧choicesL c.1=s
 c2 : ∀ l,l≠[]→possB l=true→choicesL l=s→c=(l,true)
theorem Says.one {s:List UInt8} {a:List Edit×Bool} {b:(List Int×List Int)×Bool} {c:List Int×Bool} (h:Says s a b c):(a.2=true→b.2=false∧c.2=false)∧(b.2=true→c.2=false):=by
 have A:a.2=true→s.head? = some 116:=fun ha=>by
  rw [← (h.a1 ha).2]
  rcases setL_cases a.1 with ⟨_,e⟩ | ⟨n,_,e⟩ | ⟨_,e⟩ <;> rw [e] <;> rfl
 have B:b.2=true→s[0]? = some 105∧s[3]? = some 102:=fun hb=>by
  obtain ⟨t,_,e⟩:=(h.b1 hb).tx
  rw [e]; exact ⟨rfl,rfl⟩
 have C:c.2=true→s[0]? = some 105∧s[3]? = some 115:=fun hc=>by
  rw [← (h.c1 hc).2.2]
  rcases choicesL_cases c.1 with ⟨n,_,e⟩ | ⟨_,e⟩ <;> rw [e] <;> exact ⟨rfl,rfl⟩
 have hd:s.head? = some 116→s[0]? = some 105→False:=fun e1 e2=>by
  rw [List.head?_eq_getElem?] at e1
  rw [e1] at e2
  revert e2; decide
 refine ⟨fun ha=>⟨?_,?_⟩,fun hb=>?_⟩
 ·cases hb:b.2
  ·rfl
  ·exact (hd (A ha) (B hb).1).elim
 ·cases hc:c.2
  ·rfl
  ·exact (hd (A ha) (C hc).1).elim
 ·cases hc:c.2
  ·rfl
  ·have e:=(B hb).2
   rw [(C hc).2] at e
   revert e; decide
theorem read1_says {s:List UInt8} {a:List Edit×Bool} {b:(List Int×List Int)×Bool} {c:List Int×Bool} (h:Says s a b c) (u:Vd) :
  read1 s u=if a.2=true∧(kindOf u.1).2.2.1=true∧u.2.2.2.2.2.1=[]∧(u.2.2.1.any fun x=>decide (x=a.1))=false∧u.2.2.1.length<1024 then some a.1 else none:=by
 unfold read1
 cases ha:a.2
 ·rw [if_neg (fun e=>by have:=e.1; cases this)]
  cases hs:setArg s with
  | none=>rfl
  | some l=>
   simp only
   rw [if_neg]
   intro e
   unfold setOkB at e
   simp only [Bool.and_eq_true,beq_iff_eq] at e
   have:=h.a2 l e.1.1.1.2 e.1.1.2
   rw [this] at ha; cases ha
 ·obtain ⟨r1,r2⟩:=h.a1 ha
  have hs:setArg s=some a.1:=by rw [← r2]; exact setArg_setL r1
  rw [hs]
  simp only
  unfold setOkB
  rw [r1,beq_iff_eq.2 r2]
  cases (kindOf u.1).2.2.1
  ·simp
  ·by_cases h1:u.2.2.2.2.2.1=[]
   ·cases (u.2.2.1.any fun x=>decide (x=a.1))
    ·by_cases h2:u.2.2.1.length<1024 <;> simp [h1,h2]
    ·simp
   ·simp [h1]
theorem read3_says {s:List UInt8} {a:List Edit×Bool} {b:(List Int×List Int)×Bool} {c:List Int×Bool} (h:Says s a b c) (u:Vd) :
  read3 s u=if c.2=true∧(kindOf u.1).2.2.2.2=true∧u.2.2.2.2.2.1≠[]∧u.2.2.2.1=[] then some c.1 else none:=by
 unfold read3
 cases hc:c.2
 ·simp only [Bool.false_eq_true,false_and,if_false]
  split
  ·cases hs:wordArg s with
   | none=>rfl
   | some l=>
    simp only
    rw [if_neg]
    intro e
    simp only [Bool.and_eq_true,beq_iff_eq] at e
    have hne:l≠[]:=fun e2=>by
     subst e2
     rw [← e.2] at hs
     revert hs
     decide +kernel
    have:=h.c2 l hne e.1 e.2
    rw [this] at hc; cases hc
  ·rfl
 ·obtain ⟨r1,r2,r3⟩:=h.c1 hc
  have hs:wordArg s=some c.1:=by rw [← r3]; exact wordArg_choicesL r2 r1
  rw [hs]
  simp only
  rw [r2,beq_iff_eq.2 r3]
  cases (kindOf u.1).2.2.2.2
  ·simp
  ·by_cases h1:u.2.2.2.2.2.1=[]
   ·simp [h1]
   ·by_cases h2:u.2.2.2.1=[] <;> simp [h1,h2]
theorem m2_says {s:List UInt8} {a:List Edit×Bool} {b:(List Int×List Int)×Bool} {c:List Int×Bool} (h:Says s a b c) {u:Vd} {m:Nat} (hu:InvV u) (hG:GcdAll m) (hs:Few m s) :
  m2 s u=if b.2=true∧(kindOf u.1).2.2.2.1=true∧¬ ((kindOf u.1).2.2.1=true∧u.2.2.1=[])∧u.2.2.2.2.2.1=[] then some (withBound u b.1) else none:=by
 obtain ⟨_,h2,h3⟩:=m2_eq hu hG hs
 cases hm:m2 s u with
 | some w=>
  obtain ⟨r,hM,rfl⟩:=h2 w hm
  have:=h.b2 r ⟨hM.ok,hM.pos,hM.le,hM.tx⟩
  rw [this,if_pos ⟨rfl,hM.kb,hM.ks,hM.vb⟩]
 | none=>
  rw [if_neg]
  rintro ⟨e1,e2,e3,e4⟩
  have hM:=h.b1 e1
  exact h3 hm b.1 ⟨e2,e3,e4,hM.ok,hM.pos,hM.le,hM.tx⟩
structure InvW (v:Vd):Prop where
 b:v.2.2.2.2.2.1≠[]→(kindOf v.1).2.2.2.1=true
 w:v.2.2.2.1.length≤160
theorem stepP_invW {s:List UInt8} {v w:Vd} {m:Nat} (hv:InvV v) (hw:InvW v) (hG:GcdAll m) (hs:Few m s) (h:stepP s v=some w):InvW w:=by
 unfold stepP at h
 cases h1:read1 s v with
 | some l=>
  rw [h1] at h
  cases h
  exact ⟨hw.b,hw.w⟩
 | none=>
  rw [h1] at h
  simp only at h
  cases h2:m2 s v with
  | some w' =>
   rw [h2] at h
   cases h
   obtain ⟨r,hM,rfl⟩:=(m2_eq hv hG hs).2.1 _ h2
   exact ⟨fun _=>hM.kb,hw.w⟩
  | none=>
   rw [h2] at h
   simp only [Option.map_eq_some_iff] at h
   obtain ⟨l,h3,rfl⟩:=h
   unfold read3 at h3
   split at h3
   ·split at h3
    ·split at h3
     ·rename_i hc2
      cases h3
      simp only [Bool.and_eq_true,beq_iff_eq] at hc2
      exact ⟨hw.b,(possB_ok hc2.1).1⟩
     ·cases h3
    ·cases h3
   ·cases h3
theorem says_of {s:List UInt8} (hs:s.length≤1000000000) : ∃ a b c,culpritref37_ParseSet s=some a∧culpritref37_ParseMeasure s=some b∧culpritref37_ParseWord s=some c∧Says s a b c:=by
 obtain ⟨a,a0,a1,a2⟩:=n37_ParseSet_spec hs
 obtain ⟨b,b0,b1,b2⟩:=n37_ParseMeasure_spec hs
 obtain ⟨c,c0,c1,c2⟩:=n37_ParseWord_spec hs
 exact ⟨a,b,c,a0,b0,c0,a1,a2,b1,b2,c1,c2⟩
theorem nil_len {α:Type} (l:List α):((l.length:Int)==0)=decide (l=[]):=by
 cases l with
 | nil=>rfl
 | cons x l=>rw [dec_f (by simp),beq_eq_false_iff_ne]; simp only [List.length_cons]; omega
theorem pos_len {α:Type} (l:List α):decide ((0:Int)<(l.length:Int)) = !decide (l=[]):=by
 cases l with
 | nil=>rfl
 | cons x l=>rw [dec_t (show (0:Int)<((x::l).length:Int) by simp only [List.length_cons]; omega),dec_f (show ¬ (x::l=[]) by simp)]; rfl
theorem n37_known_loop {st:Int×Vd} {a:List Edit×Bool} (hn:st.2.2.2.1.length≤1024) (hs : ∀ l∈st.2.2.2.1,Small l) (f0:Bool) :
  Itr.it (culpritref37_Parse_loop2 st a) (f0,(0:Int))=some (f0 && !(st.2.2.2.1.any fun x=>decide (x=a.1)),withSet st.2 a.1):=by
 obtain ⟨u,hu⟩ : ∃ u,u=st.2:=⟨_,rfl⟩
 rw [← hu] at hn hs
 have hf:=it_fold (f:=culpritref37_Parse_loop2 st a) (fun i (f:Bool)=>(f,i)) u.2.2.1 (fun f x=>f && !decide (x=a.1)) (fun f=>(f,withSet u a.1)) (fun _ _=>True) (by omega)
  (fun i x f hx _=>by
   have hlt:=lt_of_at hx
   refine ⟨?_,trivial⟩
   unfold culpritref37_Parse_loop2
   simp only
   rw [← hu,dec_t (show (i:Int)<(u.2.2.1.length:Int) by omega),cond_true,idx_nat hx]
   have hw:w64 ((i:Int)+1)=(i:Int)+1:=w64_id (by omega) (by omega)
   rw [hw]
   cases f
   ·simp
   ·simp only [cond_true,Option.bind_some,sameNames_eq x a.1 (hs x (List.mem_of_getElem? hx)),Bool.true_and])
  (fun f _=>by
   unfold culpritref37_Parse_loop2
   simp only
   rw [← hu,dec_f (show ¬ (u.2.2.1.length:Int)<(u.2.2.1.length:Int) by omega),cond_false]
   rfl) (a:=f0) trivial
 have e : ∀ (l:List (List Edit)) (f:Bool),l.foldl (fun f x=>f && !decide (x=a.1)) f=(f && !(l.any fun x=>decide (x=a.1))):=by
  intro l
  induction l with
  | nil=>intro f; simp
  | cons x l ih=>
   intro f
   simp only [List.foldl_cons,List.any_cons,ih]
   cases f <;> cases decide (x=a.1) <;> simp
 rw [← hu,hf,e]
theorem n37_step {x:List (List UInt8)} {s:List UInt8} {u:Vd} {i m:Nat} (hx:x[i]? = some s) (hi:Small x) (hu:InvV u) (hw:InvW u) (hG:GcdAll m) (hs:Few m s) :
  culpritref37_Parse_loop1 x ((i:Int),u)=some (match stepP s u with | some w=>.inl ((i:Int)+1,w) | none=>.inr (.inr (vd0,(i:Int),2))):=by
 obtain ⟨a,b,c,a0,b0,c0,hsay⟩:=says_of hs.1
 have hlt:=lt_of_at hx
 have hmany:=hu.many
 have hwi:w64 ((i:Int)+1)=(i:Int)+1:=w64_id (by omega) (by omega)
 unfold culpritref37_Parse_loop1
 simp only
 rw [dec_t (show (i:Int)<(x.length:Int) by omega),cond_true,idx_nat hx]
 simp only [Option.bind_some]
 rw [a0]
 simp only [Option.bind_some]
 rw [b0]
 simp only [Option.bind_some]
 rw [c0]
 simp only [Option.bind_some]
 unfold stepP
 rw [read1_says hsay,read3_says hsay,m2_says hsay hu hG hs]
 obtain ⟨k,hk⟩ : ∃ k:Nat,u.1=(k:Int):=⟨u.1.toNat,by have:=hu.k0; omega⟩
 have hk6:k<6:=by have:=hu.k1; omega
 obtain ⟨k1,k2,k3⟩:=kind_sets k hk6
 rw [← hk] at k1 k2 k3
 simp only [nil_len,pos_len]
 rw [← k1]
 cases ha:a.2
 ·rw [if_neg (fun e=>by have:=e.1; cases this)]
  simp only [cond_false,Option.bind_some]
  cases hb:b.2
  ·rw [if_neg (fun e=>by have:=e.1; cases this)]
   simp only [cond_false,Option.bind_some]
   cases hc:c.2
   ·rw [if_neg (fun e=>by have:=e.1; cases this)]
    rfl
   ·by_cases h1:u.2.2.2.2.2.1=[]
    ·rw [if_neg (fun e=>e.2.2.1 h1),dec_t h1]
     rfl
    ·by_cases h2:u.2.2.2.1=[]
     ·have hkb:=hw.b h1
      rw [k2] at hkb
      have e3:(u.1 != (5:Int))=(kindOf u.1).2.2.2.2:=by
       rw [k3]
       rw [hk] at hkb ⊢
       rcases (show k=0∨k=1∨k=2∨k=3∨k=4∨k=5 by omega) with rfl | rfl | rfl | rfl | rfl | rfl <;> revert hkb <;> decide
      rw [dec_f h1,dec_t h2,e3]
      cases hkw:(kindOf u.1).2.2.2.2
      ·rw [if_neg (fun e=>by have:=e.2.1; cases this)]
       rfl
      ·rw [if_pos ⟨rfl,rfl,h1,h2⟩]
       simp only [Bool.not_false,cond_true,Bool.not_true,cond_false,Option.bind_some,hwi]
       rfl
     ·rw [if_neg (fun e=>h2 e.2.2.2),dec_f h1,dec_f h2]
      rfl
  ·have hc:=hsay.one.2 hb
   rw [hc]
   simp only [cond_true,cond_false]
   rw [if_neg (show ¬ (false=true∧_) from fun e=>by have:=e.1; cases this)]
   by_cases h1:u.2.2.2.2.2.1=[]
   ·rw [dec_t h1]
    simp only [cond_true]
    have e3:(bif bif bif u.1==(2:Int) then !decide (u.2.2.1=[]) else false then true else u.1==(3:Int) then true else u.1==(5:Int))=decide ((kindOf u.1).2.2.2.1=true∧¬ ((kindOf u.1).2.2.1=true∧u.2.2.1=[])):=by
     rw [k1,k2,hk]
     rcases (show k=0∨k=1∨k=2∨k=3∨k=4∨k=5 by omega) with rfl | rfl | rfl | rfl | rfl | rfl <;> by_cases hh:u.2.2.1=[] <;> simp [hh]
    rw [e3]
    by_cases h2:(kindOf u.1).2.2.2.1=true∧¬ ((kindOf u.1).2.2.1=true∧u.2.2.1=[])
    ·rw [dec_t h2,if_pos ⟨trivial,h2.1,h2.2,h1⟩]
     simp only [cond_true,Option.bind_some,Bool.not_true,cond_false,hwi]
     rfl
    ·rw [dec_f h2,if_neg (fun e=>h2 ⟨e.2.1,e.2.2.1⟩)]
     rfl
   ·rw [dec_f h1,if_neg (fun e=>h1 e.2.2.2)]
    rfl
 ·obtain ⟨hb,hc⟩:=hsay.one.1 ha
  rw [hb,hc]
  simp only [cond_true,cond_false]
  rw [if_neg (show ¬ (false=true∧(kindOf u.1).2.2.2.1=true∧_) from fun e=>by have:=e.1; cases this),if_neg (show ¬ (false=true∧(kindOf u.1).2.2.2.2=true∧_) from fun e=>by have:=e.1; cases this)]
  by_cases h1:u.2.2.2.2.2.1=[]
  ·rw [dec_t h1]
   simp only [cond_true]
   cases hks:(kindOf u.1).2.2.1
   ·rw [if_neg (fun e=>by have:=e.2.1; cases this)]
    rfl
   ·simp only [cond_true]
    rw [chk_t (appOk_le (by simp only [List.length_nil]; omega) (by omega)),chk_t (appOk_le (by simp only [List.nil_append,List.length_singleton]; omega) (by omega))]
    have hl:=n37_known_loop (st:=((i:Int),u)) (a:=a) hmany hu.small.2 (decide ((((([]:List (List Edit))++u.2.2.1)++[a.1]).length:Int)≤(1024:Int)))
    rw [hl]
    simp only [Option.bind_some]
    have e4:decide ((((([]:List (List Edit))++u.2.2.1)++[a.1]).length:Int)≤(1024:Int))=decide (u.2.2.1.length<1024):=by
     rw [Bool.eq_iff_iff,decide_eq_true_eq,decide_eq_true_eq]
     simp only [List.nil_append,List.length_append,List.length_singleton]
     omega
    rw [e4]
    by_cases h2:u.2.2.1.length<1024
    ·rw [dec_t h2]
     cases h3:(u.2.2.1.any fun x=>decide (x=a.1))
     ·rw [if_pos (by refine ⟨?_,?_,h1,?_,h2⟩ <;> first | rfl | trivial)]
      simp only [Bool.not_false,Bool.and_self,Bool.not_true,cond_false,Option.bind_some,hwi]
     ·rw [if_neg (fun e=>by have:=e.2.2.2.1; cases this)]
      rfl
    ·rw [dec_f h2,if_neg (fun e=>h2 e.2.2.2.2)]
     rfl
  ·rw [dec_f h1,if_neg (fun e=>h1 e.2.2.1)]
   rfl
theorem n37_outer {s0:List UInt8} {r:List (List UInt8)} {v:Vd} {m:Nat} (hv:InvV v) (hw:InvW v) (hG:GcdAll m) (hs : ∀ s∈r,Few m s) (hn:Small (s0::r)) :
  ∃ z,Itr.it (culpritref37_Parse_loop1 (s0::r)) ((1:Int),v)=some z∧z=(match runP r 0 v with | .inl w=>.inl w | .inr i=>.inr (vd0,(i:Int),2))∧∀ w,z = .inl w→InvV w∧InvW w:=by
 have hlen:(s0::r).length=r.length+1:=rfl
 refine it_inv (f:=culpritref37_Parse_loop1 (s0::r)) (fun st=>r.length+1 - st.1.toNat)
  (fun st=>∃ k:Nat,st.1=((k+1:Nat):Int)∧k≤r.length∧InvV st.2∧InvW st.2∧runP (r.drop k) k st.2=runP r 0 v)
  (fun z=>z=(match runP r 0 v with | .inl w=>.inl w | .inr i=>.inr (vd0,(i:Int),2))∧∀ w,z = .inl w→InvV w∧InvW w)
  (fun st hst=>by
   obtain ⟨a,u⟩:=st
   obtain ⟨k,h1,h2,h3,h4,h5⟩:=hst
   simp only at h1 h3 h4 h5
   subst h1
   by_cases hk:k<r.length
   ·have hx:(s0::r)[k+1]? = some r[k]:=by rw [List.getElem?_cons_succ,List.getElem?_eq_getElem hk]
    have hfew:=hs r[k] (List.getElem_mem hk)
    rw [n37_step hx hn h3 h4 hG hfew]
    rw [List.drop_eq_getElem_cons hk] at h5
    simp only [runP] at h5
    cases hst:stepP r[k] u with
    | some w=>
     right
     rw [hst] at h5
     exact ⟨_,rfl,⟨k+1,by simp only; omega,by omega,stepP_inv h3 hG hfew hst,stepP_invW h3 h4 hG hfew hst,h5⟩,by simp only; omega⟩
    | none=>
     left
     rw [hst] at h5
     refine ⟨_,rfl,?_,fun w h=>by cases h⟩
     rw [← h5]
   ·left
    have hk2:k=r.length:=by omega
    subst hk2
    rw [List.drop_length] at h5
    unfold culpritref37_Parse_loop1
    simp only
    rw [dec_f (show ¬ ((r.length+1:Nat):Int)<((s0::r).length:Int) by rw [hlen]; omega),cond_false]
    refine ⟨_,rfl,by rw [← h5]; rfl,fun w h=>?_⟩
    cases h
    exact ⟨h3,h4⟩)
  (s:=((1:Int),v)) ⟨0,rfl,by omega,hv,hw,rfl⟩ (by simp only; have:r.length+1<9223372036854775808:=hn; omega)
theorem n37_Parse_eq {x:List (List UInt8)} {m:Nat} (hG:GcdAll m) (hs : ∀ s∈x,Few m s) (hn:Small x):culpritref37_Parse x=some (parseL x):=by
 unfold culpritref37_Parse
 match x,hs,hn with
 | [],_,_=>rfl
 | s::r,hs,hn=>
  have e0:(((s::r).length:Int)==0)=false:=by simp; omega
  have hi:idx (s::r) (0:Int)=some s:=idx_nat (i:=0) rfl
  have hfew:=(hs s (by simp)).1
  rw [e0,cond_false,hi]
  simp only [Option.bind_some]
  rw [n37_ParseFirst_eq hfew]
  simp only [Option.bind_some,parseL]
  cases hf:(firstL s).2
  ·rfl
  ·have hpair:firstL s=((firstL s).1,true):=Prod.ext rfl hf
   have hinv:=firstL_inv hpair
   have hinw:InvW (firstL s).1:=by
    obtain ⟨k,m,hk,hm,_,t,_,e,_⟩:=firstL_back hpair
    rw [e]
    exact ⟨fun h=>absurd rfl h,by show ([]:List Int).length≤160; simp⟩
   generalize (firstL s).1=v at *
   simp only [Bool.not_true,cond_false,if_true]
   obtain ⟨z,z1,z2,z3⟩:=n37_outer (s0:=s) hinv hinw hG (fun z hz=>hs z (List.mem_cons_of_mem _ hz)) hn
   have z1' : Itr.it (culpritref37_Parse_loop1 (s::r)) (1,v.1,v.2.1,v.2.2.1,v.2.2.2.1,v.2.2.2.2.1,v.2.2.2.2.2.1,v.2.2.2.2.2.2)=some z:=z1
   rw [z1']
   simp only [Option.bind_some]
   cases hr:runP r 0 v with
   | inr i=>
    rw [hr] at z2
    subst z2
    rfl
   | inl w=>
    rw [hr] at z2
    subst z2
    obtain ⟨w1,w2⟩:=z3 w rfl
    have hveq:(w.1,w.2.1,w.2.2.1,w.2.2.2.1,w.2.2.2.2.1,(w.2.2.2.2.2.1,w.2.2.2.2.2.2))=w:=rfl
    simp only
    rw [hveq,n37_Proper_eq w1.ok w1.small.1 w1.small.2 (by have:=w2.w; show w.2.2.2.1.length<_; omega)]
    simp only [Option.bind_some]
    cases properB (leB w) w <;> rfl
end Go.Proofs.YtknnphhepnbaoaaGreatDoor
