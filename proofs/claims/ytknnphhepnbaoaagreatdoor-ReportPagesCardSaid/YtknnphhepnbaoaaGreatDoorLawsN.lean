/-
  The reference model of ratios, part 1: limbs, comparison, sum, halves, difference. No program is walked here.
  The reference model of ratios, part 2: the greatest common measure, by halving. No program is walked here.
  The reference model of ratios, part 3: products, order, validity. No program is walked here.
  The reference model of ratios, part 4: decimal texts. No program is walked here.
  The reference model of reports, part 1: names, words, proper verdicts. No program is walked here.
-/
import Derived.Test.YtknnphhepnbaoaaGreatDoorLawsB
import Derived.Test.YtknnphhepnbaoaaGreatDoorLawsE
import Derived.Test.YtknnphhepnbaoaaGreatDoorLawsC
namespace Go.Proofs.YtknnphhepnbaoaaGreatDoor
open Go.Sm
theorem f5_trim_loop {l:List Int} {f:Int→Option (Int⊕Int)} (hn:Small l)
  (hf : ∀ s,f s=((bif (decide ((0:Int)<s)) then idx l (w64 (s - (1:Int))) else some (0:Int)).bind fun _=>
   (bif (decide ((0:Int)<s)) then idx l (w64 (s - (1:Int))) else some (0:Int)).bind fun v4=>
   bif bif decide ((0:Int)<s) then v4==(0:Int) else false then some (Sum.inl (w64 (s - (1:Int)))) else some (Sum.inr s))) {n:Nat} (hln:n≤l.length) :
  Itr.it f (n:Int)=some ((tlen l n:Nat):Int):=by
 have h:=it_meas (f:=f) (fun s=>s.toNat) (fun s=>(tlen l s.toNat:Int)) (fun s=>0≤s∧s≤l.length)
  (fun s hs=>by
   rw [hf]
   by_cases h0:0<s
   ·have hw:w64 (s - 1)=s - 1:=w64_id (by omega) (by omega)
    obtain ⟨v,h1,h2⟩:=idx_lt (a:=l) (i:=s - 1) (by omega) (by omega)
    obtain ⟨k,hk⟩ : ∃ k,s.toNat=k+1:=⟨s.toNat - 1,by omega⟩
    have e:(s - 1).toNat=k:=by omega
    rw [e] at h2
    rw [dec_t h0]
    simp only [cond_true,hw,h1,Option.bind_some]
    by_cases hv:v=0
    ·right
     refine ⟨s - 1,by simp [hv],⟨by omega,by omega⟩,by omega,?_⟩
     rw [e,hk]
     simp [tlen,h2,hv]
    ·left
     have:((v:Int)==0)=false:=by simpa using hv
     rw [this]
     simp only [cond_false,hk,tlen,h2]
     rw [if_neg (by simpa using hv)]
     congr 2
     omega
   ·left
    have:s=0:=by omega
    subst this
    rfl) (s:=(n:Int)) ⟨by omega,by omega⟩ (by have:l.length<9223372036854775808:=hn; show (n:Int).toNat<_; omega)
 rw [h,Int.toNat_natCast]
theorem f5_Trim_eq {l:List Int} (hn:l.length≤1000000):culpritref05_Trim l=some (trimL l):=by
 unfold culpritref05_Trim
 rw [f5_trim_loop (l:=l) (f:=culpritref05_Trim_loop1 l) (by show l.length<_; omega) (fun s=>rfl) (Nat.le_refl _)]
 have:=tlen_le l l.length
 simp only [Option.bind_some,Int.toNat_natCast]
 rw [chk_d ⟨by omega,by omega,by omega⟩,chk_t (appOk_le (by simp only [List.length_nil,List.length_drop,List.length_take]; omega) (by omega))]
 rfl
theorem u64_nat {n:Nat} (h:n<18446744073709551616):IntKind.u64.wrap (n:Int)=(n:Int):=by rw [IntKind.wrap_u64]; omega
theorem f5_limb_eq {l:List Int} (h:limbs l) (k:Nat):culpritref05_limb l (k:Int)=some ((limbAt l k:Nat):Int):=by
 unfold culpritref05_limb limbAt
 rw [List.getD_eq_getElem?_getD]
 by_cases hk:k<l.length
 ·obtain ⟨a,ha,ha2⟩:=at_of_lt h hk
  rw [dec_t (show (k:Int)<(l.length:Int) by omega),idx_nat ha]
  simp only [cond_true,Option.bind_some,ha,Option.getD_some,Int.toNat_natCast]
  rw [u64_nat (by omega)]
 ·rw [dec_f (show ¬ (k:Int)<(l.length:Int) by omega),List.getElem?_eq_none (by omega)]
  rfl
theorem takeB {B:Nat} (hB:B=4294967296) {l:List Int} (h:limbs l) (k:Nat):nat32 (l.take k)<B ^ k:=by
 have h1:=nat32_lt (limbs_take (k:=k) h)
 rw [← hB] at h1
 have h2:B ^ (l.take k).length≤B ^ k:=Nat.pow_le_pow_right (by omega) (by rw [List.length_take]; omega)
 omega
theorem take_all (l:List Int) {k:Nat} (h:l.length≤k):l.take k=l:=List.take_of_length_le h
theorem f5_odd_eq {l:List Int} (h:limbs l):culpritref05_odd l=some (decide (nat32 l % 2=1)):=by
 unfold culpritref05_odd
 have h0:=f5_limb_eq h 0
 rw [show ((0:Nat):Int)=0 from rfl] at h0
 rw [h0]
 simp only [Option.bind_some]
 rw [show (!((2:Int)==0))=true from rfl,chk_t rfl]
 have e:limbAt l 0 % 2=nat32 l % 2:=by
  cases l with
  | nil=>rfl
  | cons x r=>simp only [limbAt,nat32,List.getD_cons_zero]; omega
 rw [← e]
 congr 1
 generalize limbAt l 0=n
 rw [Int.tmod_eq_emod_of_nonneg (by omega),Bool.eq_iff_iff,beq_iff_eq,decide_eq_true_eq]
 omega
def cmp3 (a b:Nat):Int:=if a<b then -1 else if b<a then 1 else 0
theorem max_if (x y:List Int):(if (y.length:Int) > (x.length:Int) then (y.length:Int) else (x.length:Int))=((max x.length y.length:Nat):Int):=by
 split <;> omega
theorem f5_Compare_eq {x y:List Int} (hx:limbs x) (hy:limbs y) (nx:x.length≤1000000) (ny:y.length≤1000000):culpritref05_Compare x y=some (cmp3 (nat32 x) (nat32 y)):=by
 obtain ⟨B,hB⟩ : ∃ B:Nat,B=4294967296:=⟨_,rfl⟩
 unfold culpritref05_Compare
 rw [max_if]
 obtain ⟨N,hN⟩ : ∃ N,N=max x.length y.length:=⟨_,rfl⟩
 have hN1:x.length≤N:=by omega
 have hN2:y.length≤N:=by omega
 rw [← hN]
 have hw:w64 ((N:Int) - 1)=(N:Int) - 1:=w64_id (by omega) (by omega)
 rw [hw]
 obtain ⟨r,e1,e2⟩:=it_inv (f:=culpritref05_Compare_loop1 x y) (fun s=>(s+1).toNat) (fun s=>∃ k:Nat,s=(k:Int) - 1∧k≤N∧nat32 x+nat32 (y.take k)=nat32 y+nat32 (x.take k))
  (fun r=>(match r with | Sum.inl _=>(0:Int) | Sum.inr t=>t)=cmp3 (nat32 x) (nat32 y)) (fun s hs=>by
   obtain ⟨k,rfl,hk,he⟩:=hs
   unfold culpritref05_Compare_loop1
   by_cases h0:k=0
   ·left
    subst h0
    rw [dec_f (show ¬ (0:Int)≤((0:Nat):Int) - 1 by omega)]
    refine ⟨_,rfl,?_⟩
    simp only [List.take_zero,nat32,Nat.add_zero] at he
    simp [cmp3,he]
   ·obtain ⟨j,rfl⟩ : ∃ j,k=j+1:=⟨k - 1,by omega⟩
    have ej:((j+1:Nat):Int) - 1=(j:Int):=by omega
    have tx:=nat32_takeAt hB x j
    have ty:=nat32_takeAt hB y j
    have bx:=takeB hB hx j
    have bY:=takeB hB hy j
    rw [ej,dec_t (show (0:Int)≤(j:Int) by omega),cond_true,f5_limb_eq hx j,f5_limb_eq hy j]
    simp only [Option.bind_some]
    rw [tx,ty] at he
    generalize limbAt x j=a at *
    generalize limbAt y j=b at *
    generalize B ^ j=D at *
    rcases Nat.lt_trichotomy a b with h | h | h
    ·left
     rw [dec_t (show (a:Int)<(b:Int) by omega)]
     refine ⟨_,rfl,?_⟩
     have h1:D * (a+1)≤D * b:=Nat.mul_le_mul_left _ h
     rw [Nat.mul_add,Nat.mul_one] at h1
     have:nat32 x<nat32 y:=by omega
     simp [cmp3,this]
    ·right
     subst h
     rw [dec_f (show ¬ (a:Int)<(a:Int) by omega)]
     simp only [cond_false]
     rw [w64_id (by omega) (by omega)]
     exact ⟨_,rfl,⟨j,rfl,by omega,by omega⟩,by omega⟩
    ·left
     rw [dec_f (show ¬ (a:Int)<(b:Int) by omega),dec_t (show (b:Int)<(a:Int) by omega)]
     refine ⟨_,rfl,?_⟩
     have h1:D * (b+1)≤D * a:=Nat.mul_le_mul_left _ h
     rw [Nat.mul_add,Nat.mul_one] at h1
     have:nat32 y<nat32 x:=by omega
     have h2 : ¬ nat32 x<nat32 y:=by omega
     simp [cmp3,this,h2]) (s:=(N:Int) - 1) ⟨N,rfl,Nat.le_refl _,by rw [take_all x hN1,take_all y hN2]; omega⟩ (by omega)
 rw [e1]
 simp only [Option.bind_some]
 cases r with
 | inl u=>exact congrArg some e2
 | inr t=>exact congrArg some e2
theorem f5_Plus_eq {x y:List Int} (hx:limbs x) (hy:limbs y) (nx:x.length≤900000) (ny:y.length≤900000) :
  ∃ z,culpritref05_Plus x y=some z∧canon z∧nat32 z=nat32 x+nat32 y∧z.length≤max x.length y.length+1:=by
 obtain ⟨B,hB⟩ : ∃ B:Nat,B=4294967296:=⟨_,rfl⟩
 unfold culpritref05_Plus
 obtain ⟨N,hN⟩ : ∃ N,N=max x.length y.length:=⟨_,rfl⟩
 have hN1:x.length≤N:=by omega
 have hN2:y.length≤N:=by omega
 obtain ⟨r,e1,e2,e3,e4⟩:=it_inv (f:=culpritref05_Plus_loop1 x y) (fun s=>N+1 - s.2.2.toNat)
  (fun s=>∃ (o:List Int) (c k:Nat),s=(o,(c:Int),(k:Int))∧limbs o∧o.length=k∧k≤N+1∧c≤1∧nat32 o+B ^ k * c=nat32 (x.take k)+nat32 (y.take k))
  (fun r=>limbs r∧r.length=N+1∧nat32 r=nat32 x+nat32 y) (fun s hs=>by
   obtain ⟨o,c,k,rfl,h1,h2,h3,h4,h5⟩:=hs
   unfold culpritref05_Plus_loop1
   simp only
   rw [max_if,← hN]
   have hw:w64 ((N:Int)+1)=((N+1:Nat):Int):=by rw [w64_id (by omega) (by omega)]; omega
   rw [hw]
   by_cases hk:k<N+1
   ·right
    have a2:=limbAt_lt hx k
    have b2:=limbAt_lt hy k
    have tx:=nat32_takeAt hB x k
    have ty:=nat32_takeAt hB y k
    rw [dec_t (show (k:Int)<((N+1:Nat):Int) by omega),cond_true,f5_limb_eq hx k]
    simp only [Option.bind_some]
    rw [f5_limb_eq hy k]
    simp only [Option.bind_some]
    generalize limbAt x k=a at *
    generalize limbAt y k=b at *
    have w1:IntKind.u64.wrap ((a:Int)+(b:Int))=((a+b:Nat):Int):=by rw [← Int.natCast_add,u64_nat (by omega)]
    have w2:IntKind.u64.wrap (((a+b:Nat):Int)+(c:Int))=((a+b+c:Nat):Int):=by rw [← Int.natCast_add,u64_nat (by omega)]
    rw [w1,w2,low32 (by omega),shr32]
    generalize hT:a+b+c=T at *
    have hdm:T % 4294967296+B * (T / 4294967296)=T:=by rw [hB]; omega
    have hw2:w64 ((k:Int)+1)=((k+1:Nat):Int):=by rw [w64_id (by omega) (by omega)]; omega
    rw [chk_t (appOk_le (by simp only [List.length_singleton]; omega) (by omega)),chk_d (by omega),hw2]
    refine ⟨_,rfl,⟨_,_,k+1,rfl,limbs_append.2 ⟨h1,fun z hz=>by rw [List.mem_singleton.1 hz]; omega⟩,by simp [h2],by omega,by omega,?_⟩,by simp only [Int.toNat_natCast]; omega⟩
    rw [nat32_append,h2,tx,ty]
    simp only [nat32,Int.toNat_natCast,Nat.mul_zero,Nat.add_zero]
    rw [← hB,Nat.pow_succ,Nat.mul_assoc]
    rw [← hB] at hdm
    generalize T % B=lo at *
    generalize T / B=hi at *
    generalize B ^ k=D at *
    have e3:D * lo+D * (B * hi)=D * a+D * b+D * c:=by
     rw [← Nat.mul_add,hdm,← hT,Nat.mul_add,Nat.mul_add]
    omega
   ·left
    have hk2:k=N+1:=by omega
    subst hk2
    rw [dec_f (show ¬ ((N+1:Nat):Int)<((N+1:Nat):Int) by omega)]
    refine ⟨_,rfl,h1,h2,?_⟩
    rw [take_all x (by omega),take_all y (by omega)] at h5
    have bx:=takeB hB hx N
    have bY:=takeB hB hy N
    rw [take_all x hN1] at bx
    rw [take_all y hN2] at bY
    have hc:c=0:=by
     rcases (show c=0∨c=1 by omega) with h | h
     ·exact h
     ·subst h
      rw [Nat.mul_one,Nat.pow_succ] at h5
      have:B ^ N * 2≤B ^ N * B:=Nat.mul_le_mul_left _ (by omega)
      omega
    subst hc
    rw [Nat.mul_zero,Nat.add_zero] at h5
    exact h5) (s:=(([]:List Int),0,0)) ⟨[],0,0,rfl,by simp [limbs],rfl,by omega,by omega,by simp [nat32]⟩ (by simp only; omega)
 rw [e1]
 simp only [Option.bind_some]
 rw [f5_Trim_eq (by omega)]
 refine ⟨_,rfl,trimL_canon e2,by rw [trimL_nat]; exact e4,?_⟩
 have:=trimL_len r
 omega
theorem shr1 (n:Nat):shrI .u32 (n:Int) (1:Int)=((n / 2:Nat):Int):=shrN (s:=1) (by omega)
theorem shl31 (n:Nat) (h:n<4294967296):IntKind.u32.wrap (shlI .u64 (n:Int) (31:Int))=((n % 2 * 2147483648:Nat):Int):=by
 show IntKind.u32.wrap (IntKind.u64.wrap ((n:Int) * 2 ^ (min (31:Int).toNat 64)))=_
 have:(2:Int) ^ (min (31:Int).toNat 64)=2147483648:=by decide
 rw [this,IntKind.wrap_u64,IntKind.wrap_u32]
 omega
theorem orHalf {a b:Nat} (ha:a<2147483648) (hb:b<2):a ||| (b * 2147483648)=a+b * 2147483648:=by
 rw [Nat.or_comm]
 have:=Nat.shiftLeft_add_eq_or_of_lt (i:=31) (show a<2 ^ 31 from ha) b
 rw [Nat.shiftLeft_eq] at this
 have e:(2:Nat) ^ 31=2147483648:=rfl
 rw [e] at this
 rw [← this,Nat.add_comm]
theorem limbN_of {l:List Int} {k a:Nat} (h:l[k]? = some (a:Int)):limbAt l k=a:=by
 unfold limbAt
 rw [List.getD_eq_getElem?_getD,h]; simp
theorem limbAt_congr {l m:List Int} {k:Nat} (h:l[k]? = m[k]?):limbAt l k=limbAt m k:=by
 unfold limbAt
 rw [List.getD_eq_getElem?_getD,List.getD_eq_getElem?_getD,h]
theorem take_set_self (l:List Int) (k:Nat) (v:Int) (h:k<l.length):nat32 ((l.set k v).take (k+1))=nat32 (l.take k)+4294967296 ^ k * v.toNat:=by
 have:(l.set k v)[k]? = some v:=by rw [List.getElem?_set_self h]
 rw [nat32_take this,List.take_set_of_le (Nat.le_refl _)]
theorem f5_half_eq {x:List Int} (hx:limbs x) (nx:x.length≤1000000) : ∃ z,culpritref05_half x=some z∧canon z∧nat32 z=nat32 x / 2∧z.length≤x.length:=by
 obtain ⟨B,hB⟩ : ∃ B:Nat,B=4294967296:=⟨_,rfl⟩
 unfold culpritref05_half
 obtain ⟨r,e1,e2,e3,e4⟩:=it_inv (f:=culpritref05_half_loop1 x) (fun s=>x.length - s.2.toNat)
  (fun s=>∃ (o:List Int) (k:Nat),s=(o,(k:Int))∧limbs o∧o.length=x.length∧k≤x.length∧(∀ j,k≤j→o[j]? = x[j]?)∧2 * nat32 (o.take k)+limbAt x 0 % 2=nat32 (x.take k)+B ^ k * (limbAt x k % 2))
  (fun r=>limbs r∧r.length=x.length∧2 * nat32 r+nat32 x % 2=nat32 x) (fun s hs=>by
   obtain ⟨o,k,rfl,h1,h2,h3,h4,h5⟩:=hs
   unfold culpritref05_half_loop1
   simp only
   by_cases hk:k<x.length
   ·right
    obtain ⟨a,ha,ha2⟩:=at_of_lt hx hk
    have ho:o[k]? = some (a:Int):=by rw [h4 k (Nat.le_refl _),ha]
    have hb2:=limbAt_lt hx (k+1)
    have hw2:w64 ((k:Int)+1)=((k+1:Nat):Int):=by rw [w64_id (by omega) (by omega)]; omega
    have hl1:culpritref05_limb o ((k+1:Nat):Int)=some ((limbAt x (k+1):Nat):Int):=by
     rw [f5_limb_eq h1,limbAt_congr (h4 (k+1) (by omega))]
    have tx:=nat32_takeAt hB x k
    rw [limbN_of ha] at tx h5
    rw [dec_t (show (k:Int)<(x.length:Int) by omega),cond_true,idx_nat ho]
    simp only [Option.bind_some]
    rw [chk_d (by omega),hw2,hl1]
    simp only [Option.bind_some]
    rw [chk_d (by omega),Int.toNat_natCast]
    generalize hb:limbAt x (k+1)=b at *
    rw [shr1,shl31 _ hb2,or32 (by omega) (by omega),orHalf (by omega) (by omega)]
    refine ⟨_,rfl,⟨_,k+1,rfl,limbs_set h1 (by omega) (by omega),by rw [List.length_set]; exact h2,by omega,fun j hj=>by rw [List.getElem?_set_ne (by omega)]; exact h4 j (by omega),?_⟩,by simp only [Int.toNat_natCast]; omega⟩
    rw [take_set_self _ _ _ (by omega),tx,hb,Int.toNat_natCast,← hB,Nat.pow_succ]
    generalize nat32 (o.take k)=P at *
    generalize nat32 (x.take k)=Q at *
    generalize limbAt x 0 % 2=u at *
    generalize B ^ k=D at *
    have e5:2 * (D * (a / 2+b % 2 * 2147483648))=D * (2 * (a / 2))+D * B * (b % 2):=by
     rw [Nat.mul_add,Nat.mul_add,hB,Nat.mul_assoc D 4294967296,Nat.mul_left_comm 2 D,Nat.mul_left_comm 2 D]
     have:2 * (b % 2 * 2147483648)=4294967296 * (b % 2):=by omega
     rw [this]
    have e6:D * (2 * (a / 2))+D * (a % 2)=D * a:=by rw [← Nat.mul_add]; congr 1; omega
    omega
   ·left
    have hk2:k=x.length:=by omega
    subst hk2
    rw [dec_f (show ¬ (x.length:Int)<(x.length:Int) by omega)]
    refine ⟨_,rfl,h1,h2,?_⟩
    rw [take_all o (by omega),take_all x (Nat.le_refl _)] at h5
    have h0:limbAt x x.length=0:=by
     unfold limbAt
     rw [List.getD_eq_getElem?_getD,List.getElem?_eq_none (by omega)]; rfl
    have e:limbAt x 0 % 2=nat32 x % 2:=by
     cases x with
     | nil=>rfl
     | cons y r=>simp only [limbAt,nat32,List.getD_cons_zero]; omega
    rw [h0] at h5
    omega) (s:=(x,0)) ⟨x,0,rfl,hx,rfl,by omega,fun _ _=>rfl,by simp [nat32]⟩ (by simp only; omega)
 rw [e1]
 simp only [Option.bind_some]
 rw [f5_trim_loop (l:=r) (f:=culpritref05_half_loop2 r) (by show r.length<_; omega) (fun s=>rfl) (n:=x.length) (by omega)]
 simp only [Option.bind_some,Int.toNat_natCast]
 have hle:=tlen_le r x.length
 rw [chk_d ⟨by omega,by omega⟩]
 have et:r.take (tlen r x.length)=trimL r:=by unfold trimL; rw [e3]
 rw [et]
 refine ⟨_,rfl,trimL_canon e2,by rw [trimL_nat]; omega,?_⟩
 have:=trimL_len r
 omega
theorem f5_take_eq {x y:List Int} (hx:limbs x) (hy:canon y) (nx:x.length≤1000000) (hle:nat32 y≤nat32 x) : ∃ z,culpritref05_take x y=some z∧canon z∧nat32 z=nat32 x - nat32 y∧z.length≤x.length:=by
 obtain ⟨B,hB⟩ : ∃ B:Nat,B=4294967296:=⟨_,rfl⟩
 have hyl:y.length≤x.length:=by
  rcases Nat.lt_or_ge x.length y.length with h | h
  ·exfalso
   have h1:=nat32_lt hx
   have h2:=nat32_ge hy (fun e=>by simp [e] at h)
   have h3:(4294967296:Nat) ^ x.length≤4294967296 ^ (y.length - 1):=Nat.pow_le_pow_right (by omega) (by omega)
   omega
  ·exact h
 unfold culpritref05_take
 obtain ⟨r,e1,e2,e3,e4⟩:=it_inv (f:=culpritref05_take_loop1 y) (fun s=>x.length - s.2.2.toNat)
  (fun s=>∃ (o:List Int) (c k:Nat),s=(o,(c:Int),(k:Int))∧limbs o∧o.length=x.length∧k≤x.length∧c≤1∧(∀ j,k≤j→o[j]? = x[j]?)∧nat32 (o.take k)+nat32 (y.take k)=nat32 (x.take k)+B ^ k * c)
  (fun r=>limbs r∧r.length=x.length∧nat32 r=nat32 x - nat32 y) (fun s hs=>by
   obtain ⟨o,c,k,rfl,h1,h2,h3,h4,h5,h6⟩:=hs
   unfold culpritref05_take_loop1
   simp only
   by_cases hk:k<x.length
   ·right
    obtain ⟨a,ha,ha2⟩:=at_of_lt hx hk
    have ho:o[k]? = some (a:Int):=by rw [h5 k (Nat.le_refl _),ha]
    have hb2:=limbAt_lt hy.1 k
    have hw2:w64 ((k:Int)+1)=((k+1:Nat):Int):=by rw [w64_id (by omega) (by omega)]; omega
    have tx:=nat32_takeAt hB x k
    have ty:=nat32_takeAt hB y k
    rw [limbN_of ha] at tx
    rw [dec_t (show (k:Int)<(o.length:Int) by omega),cond_true,idx_nat ho]
    simp only [Option.bind_some]
    rw [f5_limb_eq hy.1 k]
    simp only [Option.bind_some]
    generalize limbAt y k=b at *
    rw [chk_d (by omega),hw2,Int.toNat_natCast]
    have w0:IntKind.u64.wrap (a:Int)=(a:Int):=u64_nat (by omega)
    have w1:IntKind.u64.wrap ((a:Int)+(4294967296:Int))=((a+4294967296:Nat):Int):=by rw [IntKind.wrap_u64]; omega
    have w2:IntKind.u64.wrap (((a+4294967296:Nat):Int) - (b:Int))=((a+4294967296 - b:Nat):Int):=by rw [IntKind.wrap_u64]; omega
    have w3:IntKind.u64.wrap (((a+4294967296 - b:Nat):Int) - (c:Int))=((a+4294967296 - b - c:Nat):Int):=by rw [IntKind.wrap_u64]; omega
    rw [w0,w1,w2,w3]
    generalize hT:a+4294967296 - b - c=T at *
    have hT2:T+b+c=a+4294967296:=by omega
    have hdm:T % 4294967296+4294967296 * (T / 4294967296)=T:=by omega
    have hq:T / 4294967296≤1:=by omega
    have w4:IntKind.u64.wrap ((1:Int) - ((T / 4294967296:Nat):Int))=((1 - T / 4294967296:Nat):Int):=by rw [IntKind.wrap_u64]; omega
    rw [low32 (by omega),shr32,w4]
    refine ⟨_,rfl,⟨_,_,k+1,rfl,limbs_set h1 (by omega) (by omega),by rw [List.length_set]; exact h2,by omega,by omega,fun j hj=>by rw [List.getElem?_set_ne (by omega)]; exact h5 j (by omega),?_⟩,by simp only [Int.toNat_natCast]; omega⟩
    rw [take_set_self _ _ _ (by omega),tx,ty,Int.toNat_natCast,← hB,Nat.pow_succ]
    rw [← hB] at hdm hT2 hq
    generalize T % B=lo at *
    generalize T / B=hi at *
    generalize nat32 (o.take k)=P at *
    generalize nat32 (x.take k)=Q at *
    generalize nat32 (y.take k)=R at *
    generalize B ^ k=D at *
    have e5:D * lo+D * b+D * c=D * a+D * B * (1 - hi):=by
     rw [Nat.mul_assoc D B,← Nat.mul_add,← Nat.mul_add,← Nat.mul_add]
     congr 1
     rcases (show hi=0∨hi=1 by omega) with h | h <;> subst h <;> simp only [Nat.mul_zero,Nat.mul_one,Nat.sub_zero,Nat.sub_self] at * <;> omega
    omega
   ·left
    have hk2:k=x.length:=by omega
    subst hk2
    rw [dec_f (show ¬ (x.length:Int)<(o.length:Int) by omega)]
    refine ⟨_,rfl,h1,h2,?_⟩
    rw [take_all o (by omega),take_all x (Nat.le_refl _),take_all y hyl] at h6
    have hb:=nat32_lt h1
    rw [h2,← hB] at hb
    have hc:c=0:=by
     rcases (show c=0∨c=1 by omega) with h | h
     ·exact h
     ·subst h; omega
    subst hc
    omega) (s:=(x,0,0)) ⟨x,0,0,rfl,hx,rfl,by omega,by omega,fun _ _=>rfl,by simp [nat32]⟩ (by simp only; omega)
 rw [e1]
 simp only [Option.bind_some]
 rw [f5_trim_loop (l:=r) (f:=culpritref05_take_loop2 r) (by show r.length<_; omega) (fun s=>rfl) (n:=r.length) (Nat.le_refl _)]
 simp only [Option.bind_some,Int.toNat_natCast]
 have hle:=tlen_le r r.length
 rw [chk_d ⟨by omega,by omega⟩]
 refine ⟨_,rfl,trimL_canon e2,by show nat32 (trimL r)=_; rw [trimL_nat]; exact e4,?_⟩
 have:=trimL_len r
 show (trimL r).length≤_
 omega
end Go.Proofs.YtknnphhepnbaoaaGreatDoor
namespace Go.Proofs.YtknnphhepnbaoaaGreatDoor
open Go.Sm
theorem gcd_half_left {a b:Nat} (ha:a % 2=0) (ho:Nat.gcd a b % 2=1):Nat.gcd (a / 2) b=Nat.gcd a b:=by
 have e:a=2 * (a / 2):=by omega
 apply Nat.dvd_antisymm
 ·exact Nat.dvd_gcd (Nat.dvd_trans (Nat.gcd_dvd_left _ _) ⟨2,by omega⟩) (Nat.gcd_dvd_right _ _)
 ·refine Nat.dvd_gcd ?_ (Nat.gcd_dvd_right _ _)
  have h1:Nat.gcd a b ∣ 2 * (a / 2):=by rw [← e]; exact Nat.gcd_dvd_left _ _
  have h2:Nat.Coprime (Nat.gcd a b) 2:=by
   show Nat.gcd (Nat.gcd a b) 2=1
   rw [Nat.gcd_comm,Nat.gcd_rec,ho,Nat.gcd_one_left]
  exact Nat.Coprime.dvd_of_dvd_mul_left h2 h1
theorem gcd_both {a b:Nat} (ha:a % 2=0) (hb:b % 2=0):2 * Nat.gcd (a / 2) (b / 2)=Nat.gcd a b:=by
 have e1:a=2 * (a / 2):=by omega
 have e2:b=2 * (b / 2):=by omega
 rw [← Nat.gcd_mul_left,← e1,← e2]
theorem odd_gcd {a b:Nat} (h:a % 2=1∨b % 2=1):Nat.gcd a b % 2=1:=by
 rcases Nat.mod_two_eq_zero_or_one (Nat.gcd a b) with h0 | h0
 ·exfalso
  have d:2 ∣ Nat.gcd a b:=Nat.dvd_of_mod_eq_zero h0
  have d1:=Nat.mod_eq_zero_of_dvd (Nat.dvd_trans d (Nat.gcd_dvd_left a b))
  have d2:=Nat.mod_eq_zero_of_dvd (Nat.dvd_trans d (Nat.gcd_dvd_right a b))
  omega
 ·exact h0
theorem log2_half {a:Nat} (h:2≤a):Nat.log2 (a / 2)+1=Nat.log2 a:=by
 rw [Nat.log2_def a,if_pos h]
theorem log2_mono {a b:Nat} (h:a≤b):Nat.log2 a≤Nat.log2 b:=by
 by_cases h0:a=0
 ·subst h0; simp
 ·exact (Nat.le_log2 (by omega)).2 (Nat.le_trans ((Nat.le_log2 h0).1 (Nat.le_refl _)) h)
theorem log2_limbs {l:List Int} {n:Nat} (h:limbs l) (hn:l.length≤n):Nat.log2 (nat32 l)≤32 * n:=by
 by_cases h0:nat32 l=0
 ·rw [h0]; simp
 ·have h1:=nat32_lt h
  have h2:(4294967296:Nat) ^ l.length≤4294967296 ^ n:=Nat.pow_le_pow_right (by decide) hn
  have h3:nat32 l<2 ^ (32 * n):=by
   rw [Nat.pow_mul,show (2:Nat) ^ 32=4294967296 from by decide]
   omega
  exact Nat.le_of_lt ((Nat.log2_lt h0).2 h3)
theorem len_le_of {a b:List Int} (ha:canon a) (hb:canon b) (h:nat32 a≤nat32 b):a.length≤b.length:=by
 rcases Nat.lt_or_ge b.length a.length with h1 | h1
 ·have:=len_lt hb ha h1; omega
 ·exact h1
theorem f5_oddpart {a:List Int} {b:Nat} {f:List Int→Option (List Int⊕List Int)} (hf : ∀ s,f s=(culpritref05_odd s).bind fun r=>bif !r then (culpritref05_half s).bind fun r=>some (Sum.inl r) else some (Sum.inr s))
  (ha:canon a) (h0:nat32 a≠0) (hn:a.length≤1000000) (ho:Nat.gcd (nat32 a) b % 2=1) :
  ∃ r,Itr.it f a=some r∧canon r∧nat32 r % 2=1∧nat32 r≤nat32 a∧Nat.gcd (nat32 r) b=Nat.gcd (nat32 a) b∧r.length≤a.length∧Nat.log2 (nat32 r)+(1 - nat32 a % 2)≤Nat.log2 (nat32 a):=by
 refine it_inv (f:=f) (fun s=>Nat.log2 (nat32 s)) (fun s=>canon s∧nat32 s≠0∧nat32 s≤nat32 a∧Nat.gcd (nat32 s) b=Nat.gcd (nat32 a) b∧s.length≤a.length∧(s=a∨Nat.log2 (nat32 s)+1≤Nat.log2 (nat32 a)))
  _ (fun s hs=>?_) (s:=a) ⟨ha,h0,Nat.le_refl _,rfl,Nat.le_refl _, .inl rfl⟩ (by have:=log2_limbs ha.1 hn; show Nat.log2 (nat32 a)<_; omega)
 obtain ⟨h1,h2,h3,h4,h5,h6⟩:=hs
 rw [hf,f5_odd_eq h1.1]
 simp only [Option.bind_some]
 by_cases hp:nat32 s % 2=1
 ·left
  rw [dec_t hp]
  refine ⟨s,rfl,h1,hp,h3,h4,h5,?_⟩
  rcases h6 with rfl | h6
  ·omega
  ·omega
 ·right
  rw [dec_f hp]
  obtain ⟨z,e1,e2,e3,e4⟩:=f5_half_eq h1.1 (by omega)
  simp only [Bool.not_false,cond_true]
  rw [e1]
  have hl:=log2_half (a:=nat32 s) (by omega)
  refine ⟨z,rfl,⟨e2,by omega,by omega,?_,by omega, .inr ?_⟩,?_⟩
  ·rw [e3,gcd_half_left (by omega) (by rw [h4]; exact ho)]; exact h4
  ·rw [e3]
   rcases h6 with rfl | h6
   ·omega
   ·omega
  ·rw [e3]; omega
def binM (a b:Nat):Nat:=2 * (Nat.log2 a+Nat.log2 b)+b % 2
theorem f5_Common_eq {x y:List Int} (hx:canon x) (hy:canon y) (h0:nat32 x≠0) (nx:x.length≤100000) (ny:y.length≤100000) :
  ∃ g,culpritref05_Common x y=some g∧canon g∧nat32 g=Nat.gcd (nat32 x) (nat32 y)∧g.length≤x.length:=by
 unfold culpritref05_Common
 rw [f5_Trim_eq (by omega)]
 simp only [Option.bind_some]
 rw [f5_Trim_eq (by omega),trimL_id hx,trimL_id hy]
 simp only [Option.bind_some]
 have lx:=log2_limbs hx.1 nx
 have ly:=log2_limbs hy.1 ny
 obtain ⟨⟨tw,a,b⟩,e1,t,et,ha,hb,ha0,hla,hlb,hg,hnb,hlog⟩:=it_inv (f:=culpritref05_Common_loop1) (fun s=>Nat.log2 (nat32 s.2.1))
  (fun s=>∃ t:Nat,s.1=(t:Int)∧canon s.2.1∧canon s.2.2∧nat32 s.2.1≠0∧s.2.1.length≤x.length∧s.2.2.length≤y.length∧2 ^ t * Nat.gcd (nat32 s.2.1) (nat32 s.2.2)=Nat.gcd (nat32 x) (nat32 y)∧t+Nat.log2 (nat32 s.2.1)≤Nat.log2 (nat32 x))
  (fun s=>∃ t:Nat,s.1=(t:Int)∧canon s.2.1∧canon s.2.2∧nat32 s.2.1≠0∧s.2.1.length≤x.length∧s.2.2.length≤y.length∧2 ^ t * Nat.gcd (nat32 s.2.1) (nat32 s.2.2)=Nat.gcd (nat32 x) (nat32 y) ∧
   (s.2.2=[]∨Nat.gcd (nat32 s.2.1) (nat32 s.2.2) % 2=1)∧t≤Nat.log2 (nat32 x)) (fun s hs=>by
   obtain ⟨_,a,b⟩:=s
   obtain ⟨t,rfl,h1,h2,h3,h4,h5,h6,h7⟩:=hs
   simp only at h1 h2 h3 h4 h5 h6 h7
   unfold culpritref05_Common_loop1
   simp only
   by_cases hb0:b=[]
   ·left
    subst hb0
    exact ⟨_,rfl,t,rfl,h1,h2,h3,h4,h5,h6, .inl rfl,by omega⟩
   ·have hl:0<b.length:=List.length_pos_iff.2 hb0
    have hbn:nat32 b≠0:=fun e=>hb0 ((nat32_nil h2).1 e)
    rw [dec_t (show (0:Int)<(b.length:Int) by omega)]
    simp only [cond_true]
    rw [f5_odd_eq h1.1]
    simp only [Option.bind_some]
    by_cases pa:nat32 a % 2=1
    ·left
     rw [dec_t pa]
     exact ⟨_,rfl,t,rfl,h1,h2,h3,h4,h5,h6, .inr (odd_gcd (.inl pa)),by omega⟩
    ·rw [dec_f pa]
     simp only [Bool.not_false,cond_true]
     rw [f5_odd_eq h2.1]
     simp only [Option.bind_some]
     by_cases pb:nat32 b % 2=1
     ·left
      rw [dec_t pb]
      exact ⟨_,rfl,t,rfl,h1,h2,h3,h4,h5,h6, .inr (odd_gcd (.inr pb)),by omega⟩
     ·right
      rw [dec_f pb]
      simp only [Bool.not_false,cond_true]
      obtain ⟨z,z1,z2,z3,z4⟩:=f5_half_eq h1.1 (by omega)
      obtain ⟨u,u1,u2,u3,u4⟩:=f5_half_eq h2.1 (by omega)
      have hl2:=log2_half (a:=nat32 a) (by omega)
      rw [z1]
      simp only [Option.bind_some]
      rw [u1]
      simp only [Option.bind_some]
      rw [w64_id (by omega) (by omega)]
      refine ⟨_,rfl,⟨t+1,by simp,z2,u2,by simp only; omega,by simp only; omega,by simp only; omega,?_,by simp only [z3]; omega⟩,by simp only [z3]; omega⟩
      simp only [z3,u3]
      rw [Nat.pow_succ,Nat.mul_assoc,gcd_both (by omega) (by omega)]
      exact h6) (s:=((0:Int),x,y)) ⟨0,rfl,hx,hy,h0,Nat.le_refl _,Nat.le_refl _,by simp,by simp⟩ (by simp only; omega)
 simp only at et ha hb ha0 hla hlb hg hnb hlog
 subst et
 rw [e1]
 simp only [Option.bind_some]
 obtain ⟨g,e2,hgc,hgv,hgl⟩:=it_inv (f:=culpritref05_Common_loop2) (fun s=>binM (nat32 s.1) (nat32 s.2))
  (fun s=>canon s.1∧canon s.2∧nat32 s.1≠0∧s.1.length≤100000∧s.2.length≤100000∧(s.2=[]∨Nat.gcd (nat32 s.1) (nat32 s.2) % 2=1)∧Nat.gcd (nat32 s.1) (nat32 s.2)=Nat.gcd (nat32 a) (nat32 b))
  (fun g=>canon g∧nat32 g=Nat.gcd (nat32 a) (nat32 b)∧g.length≤100000) (fun s hs=>by
   obtain ⟨p,q⟩:=s
   obtain ⟨h1,h2,h3,h4,h5,h6,h7⟩:=hs
   simp only at h1 h2 h3 h4 h5 h6 h7
   unfold culpritref05_Common_loop2
   simp only
   by_cases hq0:q=[]
   ·left
    subst hq0
    exact ⟨p,rfl,h1,by rw [← h7]; exact (Nat.gcd_zero_right _).symm,h4⟩
   ·right
    have hl:0<q.length:=List.length_pos_iff.2 hq0
    have hqn:nat32 q≠0:=fun e=>hq0 ((nat32_nil h2).1 e)
    have hodd:Nat.gcd (nat32 p) (nat32 q) % 2=1:=h6.resolve_left hq0
    obtain ⟨p',p1,p2,p3,p4,p5,p6,p7⟩:=f5_oddpart (b:=nat32 q) (f:=culpritref05_Common_loop3) (fun s=>rfl) h1 h3 (by omega) hodd
    obtain ⟨q',q1,q2,q3,q4,q5,q6,q7⟩:=f5_oddpart (b:=nat32 p') (f:=culpritref05_Common_loop4) (fun s=>rfl) h2 hqn (by omega) (by rw [Nat.gcd_comm,p5]; exact hodd)
    have hgg:Nat.gcd (nat32 p') (nat32 q')=Nat.gcd (nat32 a) (nat32 b):=by rw [Nat.gcd_comm,q5,Nat.gcd_comm,p5,h7]
    rw [dec_t (show (0:Int)<(q.length:Int) by omega),cond_true,p1]
    simp only [Option.bind_some]
    rw [q1]
    simp only [Option.bind_some]
    rw [f5_Compare_eq p2.1 q2.1 (by omega) (by omega)]
    simp only [Option.bind_some]
    have hb3:=log2_mono q4
    by_cases hc:nat32 q' < nat32 p'
    ·have e3:decide ((0:Int)<cmp3 (nat32 p') (nat32 q'))=true:=by
      unfold cmp3; rw [if_neg (by omega),if_pos hc]; rfl
     rw [e3]
     simp only [cond_true,Option.bind_some]
     obtain ⟨z,z1,z2,z3,z4⟩:=f5_take_eq (x:=p') (y:=q') p2.1 q2 (by omega) (by omega)
     rw [z1]
     refine ⟨_,rfl,⟨q2,z2,by simp only; omega,by simp only; omega,by simp only; omega, .inr ?_,?_⟩,?_⟩
     ·exact odd_gcd (.inl q3)
     ·simp only [z3]
      rw [Nat.gcd_sub_self_right (by omega),Nat.gcd_comm]; exact hgg
     ·simp only [z3,binM]
      have l1:Nat.log2 (nat32 p' - nat32 q')≤Nat.log2 (nat32 p'):=log2_mono (by omega)
      omega
    ·have e3:decide ((0:Int)<cmp3 (nat32 p') (nat32 q'))=false:=by
      unfold cmp3
      rw [if_neg hc]
      split <;> rfl
     rw [e3]
     simp only [cond_false,Option.bind_some]
     obtain ⟨z,z1,z2,z3,z4⟩:=f5_take_eq (x:=q') (y:=p') q2.1 p2 (by omega) (by omega)
     rw [z1]
     refine ⟨_,rfl,⟨p2,z2,by simp only; omega,by simp only; omega,by simp only; omega, .inr ?_,?_⟩,?_⟩
     ·exact odd_gcd (.inl p3)
     ·simp only [z3]
      rw [Nat.gcd_sub_self_right (by omega)]; exact hgg
     ·simp only [z3,binM]
      have l1:Nat.log2 (nat32 q' - nat32 p')≤Nat.log2 (nat32 q'):=log2_mono (by omega)
      omega) (s:=(a,b)) ⟨ha,hb,ha0,by simp only; omega,by simp only; omega,hnb,rfl⟩ (by
   have l1:=log2_limbs ha.1 (show a.length≤100000 by omega)
   have l2:=log2_limbs hb.1 (show b.length≤100000 by omega)
   simp only [binM]; omega)
 rw [e2]
 simp only [Option.bind_some]
 have hG:=Nat.gcd_pos_of_pos_left (nat32 y) (show 0<nat32 x by omega)
 have hGx:Nat.gcd (nat32 x) (nat32 y)≤nat32 x:=Nat.le_of_dvd (by omega) (Nat.gcd_dvd_left _ _)
 obtain ⟨r,e3,hrc,hrv⟩:=it_inv (f:=culpritref05_Common_loop5 ((t:Int),a,b)) (fun s=>t - s.2.toNat)
  (fun s=>∃ k:Nat,s.2=(k:Int)∧k≤t∧canon s.1∧nat32 s.1=2 ^ k * Nat.gcd (nat32 a) (nat32 b))
  (fun r=>canon r∧nat32 r=2 ^ t * Nat.gcd (nat32 a) (nat32 b)) (fun s hs=>by
   obtain ⟨o,_⟩:=s
   obtain ⟨k,rfl,h1,h2,h3⟩:=hs
   simp only at h1 h2 h3
   unfold culpritref05_Common_loop5
   simp only
   by_cases hk:k<t
   ·right
    have hlen:o.length≤x.length:=len_le_of h2 hx (by
     rw [h3]
     have:2 ^ k≤2 ^ t:=Nat.pow_le_pow_right (by omega) h1
     have:=Nat.mul_le_mul_right (Nat.gcd (nat32 a) (nat32 b)) this
     omega)
    obtain ⟨z,z1,z2,z3,z4⟩:=f5_Plus_eq h2.1 h2.1 (by omega) (by omega)
    rw [dec_t (show (k:Int)<(t:Int) by omega),cond_true,z1]
    simp only [Option.bind_some]
    rw [w64_id (by omega) (by omega)]
    refine ⟨_,rfl,⟨k+1,by simp,by omega,z2,?_⟩,by simp only; omega⟩
    simp only [z3,h3]
    rw [Nat.pow_succ,Nat.mul_comm (2 ^ k) 2,Nat.mul_assoc]; omega
   ·left
    rw [dec_f (show ¬ (k:Int)<(t:Int) by omega)]
    have:k=t:=by omega
    subst this
    exact ⟨o,rfl,h2,h3⟩) (s:=(g,0)) ⟨0,rfl,by omega,hgc,by simp [hgv]⟩ (by simp only; omega)
 rw [e3]
 refine ⟨r,rfl,hrc,by rw [hrv,hg],len_le_of hrc hx (by rw [hrv,hg]; exact hGx)⟩
theorem f5_one_eq {x:List Int} (hx:canon x):culpritref05_one x=some (decide (nat32 x=1)):=by
 unfold culpritref05_one
 match x,hx with
 | [],_=>rfl
 | [n],hx=>
  have hn:=hx.1 n (by simp)
  have hi:idx [n] (0:Int)=some n:=idx_nat (i:=0) rfl
  rw [show ((([n]:List Int).length:Int)==1)=true from rfl]
  simp only [cond_true,hi,Option.bind_some]
  congr 1
  rw [Bool.eq_iff_iff,beq_iff_eq,decide_eq_true_eq]
  simp only [nat32]
  omega
 | n::m::r,hx=>
  have e:(((n::m::r).length:Int)==1)=false:=by simp; omega
  rw [e]
  simp only [cond_false,Option.bind_some]
  have h1:=nat32_ge hx (by simp)
  have h2:(4294967296:Nat) ^ 1≤4294967296 ^ ((n::m::r).length - 1):=Nat.pow_le_pow_right (by omega) (by simp)
  rw [dec_f (by omega)]
end Go.Proofs.YtknnphhepnbaoaaGreatDoor
namespace Go.Proofs.YtknnphhepnbaoaaGreatDoor
open Go.Sm
theorem f5_times_inner {B:Nat} (hB:B=4294967296) {x y out:List Int} {i:Nat} (hx:limbs x) (hy:limbs y) (ho:limbs out) (hlen:i+y.length<out.length) (hs:out.length≤1000000) :
  ∃ r:List Int,Itr.it (culpritref05_Times_loop2 x y (out,(i:Int))) (out,0,0)=some r∧limbs r∧r.length=out.length∧∃ c:Nat,nat32 r+B ^ (i+(y.length+1)) * c=nat32 out+B ^ i * (limbAt x i * nat32 y):=by
 have ha:=limbAt_lt hx i
 obtain ⟨a,hae⟩ : ∃ a,limbAt x i=a:=⟨_,rfl⟩
 rw [hae] at ha ⊢
 refine it_inv (f:=culpritref05_Times_loop2 x y (out,(i:Int))) (fun s=>y.length+1 - s.2.2.toNat)
  (fun s=>∃ (o:List Int) (c k:Nat),s=(o,(c:Int),(k:Int))∧limbs o∧o.length=out.length∧k≤y.length+1∧c<4294967296∧nat32 o+B ^ (i+k) * c=nat32 out+B ^ i * (a * nat32 (y.take k)))
  _ (fun s hs' => ?_) (s:=(out,0,0)) ⟨out,0,0,rfl,ho,rfl,by omega,by omega,by simp [nat32]⟩ (by simp only; omega)
 obtain ⟨o,c,k,rfl,h1,h2,h4,h6,h7⟩:=hs'
 unfold culpritref05_Times_loop2
 simp only
 by_cases hk:k<y.length+1
 ·right
  have hb2:=limbAt_lt hy k
  obtain ⟨u,hu,hu2⟩:=at_of_lt h1 (show i+k<o.length by omega)
  have hw:w64 ((i:Int)+(k:Int))=((i+k:Nat):Int):=by rw [w64_id (by omega) (by omega)]; omega
  have hw2:w64 ((k:Int)+1)=((k+1:Nat):Int):=by rw [w64_id (by omega) (by omega)]; omega
  have hyk:=nat32_takeAt hB y k
  rw [dec_t (show (k:Int)≤(y.length:Int) by omega),cond_true,f5_limb_eq hx i,hae]
  simp only [Option.bind_some]
  rw [f5_limb_eq hy k]
  simp only [Option.bind_some]
  generalize limbAt y k=b at *
  obtain ⟨m1,m2⟩:=mac ha hb2 hu2 h6
  rw [u64_nat (n:=a) (by omega),u64_nat (n:=b) (by omega)] at m1
  rw [hw,idx_nat hu]
  simp only [Option.bind_some]
  rw [chk_d (by omega),m1,low32 m2,shr32,hw2]
  have hset:=nat32_set hB (v:=(((a * b+u+c) % 4294967296:Nat):Int)) hu
  generalize hT:a * b+u+c=T at *
  refine ⟨_,rfl,⟨_,_,k+1,rfl,limbs_set h1 (by omega) (by omega),by rw [List.length_set]; exact h2,by omega,by omega,?_⟩,by simp only [Int.toNat_natCast]; omega⟩
  simp only [Int.toNat_natCast] at hset hyk ⊢
  rw [hyk,Nat.mul_add,Nat.mul_add]
  have hdm:T % 4294967296+B * (T / 4294967296)=T:=by rw [hB]; omega
  generalize T % 4294967296=lo at *
  generalize T / 4294967296=hi at *
  have e1:B ^ (i+(k+1)) * hi=B ^ (i+k) * (B * hi):=by rw [← Nat.add_assoc,Nat.pow_succ,Nat.mul_assoc]
  have e2:B ^ i * (a * (B ^ k * b))=B ^ (i+k) * (a * b):=by
   rw [Nat.pow_add,Nat.mul_assoc (B ^ i) (B ^ k),← Nat.mul_assoc a,Nat.mul_comm a (B ^ k),Nat.mul_assoc (B ^ k)]
  rw [e1,e2]
  generalize B ^ (i+k)=D at *
  have e3:D * lo+D * (B * hi)=D * (a * b)+D * u+D * c:=by
   rw [← Nat.mul_add,hdm,← hT,Nat.mul_add,Nat.mul_add]
  omega
 ·left
  have hk2:k=y.length+1:=by omega
  subst hk2
  rw [dec_f (show ¬ (((y.length+1:Nat):Int)≤(y.length:Int)) by omega),cond_false]
  rw [take_all y (by omega)] at h7
  exact ⟨_,rfl,h1,h2,c,h7⟩
theorem f5_Times_eq {x y:List Int} (hx:limbs x) (hy:limbs y) (hn:x.length+y.length≤900000) : ∃ z,culpritref05_Times x y=some z∧canon z∧nat32 z=nat32 x * nat32 y∧z.length≤x.length+y.length+1:=by
 obtain ⟨B,hB⟩ : ∃ B:Nat,B=4294967296:=⟨_,rfl⟩
 have hw:w64 (w64 ((x.length:Int)+(y.length:Int))+1)=((x.length+y.length+1:Nat):Int):=by rw [w64_id (x:=(x.length:Int)+(y.length:Int)) (by omega) (by omega),w64_id (by omega) (by omega)]; omega
 have hzero : ∀ n,nat32 (List.replicate n (0:Int))=0:=fun n=>by
  induction n with
  | zero=>rfl
  | succ n ih=>rw [List.replicate_succ]; simp only [nat32,ih,Int.toNat_zero,Nat.mul_zero]
 obtain ⟨r,h1,h2,h3,h4⟩:=it_inv (f:=culpritref05_Times_loop1 x y) (fun s=>x.length - s.2.toNat)
  (fun s=>∃ (o:List Int) (k:Nat),s=(o,(k:Int))∧limbs o∧o.length=x.length+y.length+1∧k≤x.length∧nat32 o=nat32 (x.take k) * nat32 y)
  (fun r=>limbs r∧r.length=x.length+y.length+1∧nat32 r=nat32 x * nat32 y)
  (fun s hs' => by
   obtain ⟨o,k,rfl,h1,h2,h4,h5⟩:=hs'
   unfold culpritref05_Times_loop1
   simp only
   by_cases hk:k<x.length
   ·right
    obtain ⟨r,e1,e2,e3,c,e4⟩:=f5_times_inner hB hx hy h1 (i:=k) (by omega) (by omega)
    have hw2:w64 ((k:Int)+1)=((k+1:Nat):Int):=by rw [w64_id (by omega) (by omega)]; omega
    have hxk:=nat32_takeAt hB x k
    have bx:=takeB hB hx (k+1)
    have bY:=takeB hB hy y.length
    rw [take_all y (Nat.le_refl _)] at bY
    rw [dec_t (show (k:Int)<(x.length:Int) by omega),cond_true,e1]
    simp only [Option.bind_some]
    rw [hw2]
    have htot:nat32 r+B ^ (k+(y.length+1)) * c=nat32 (x.take (k+1)) * nat32 y:=by
     rw [e4,h5,hxk,Nat.add_mul,Nat.mul_assoc]
    have hc:c=0:=by
     rcases Nat.eq_zero_or_pos c with h | h
     ·exact h
     ·exfalso
      have m1:nat32 (x.take (k+1)) * nat32 y<B ^ (k+1) * B ^ y.length:=Nat.mul_lt_mul'' bx bY
      have m2:B ^ (k+1) * B ^ y.length=B ^ (k+(y.length+1)):=by rw [← Nat.pow_add]; congr 1; omega
      have m3:B ^ (k+(y.length+1)) * 1≤B ^ (k+(y.length+1)) * c:=Nat.mul_le_mul_left _ h
      omega
    subst hc
    exact ⟨_,rfl,⟨r,k+1,rfl,e2,by omega,by omega,by omega⟩,by simp only [Int.toNat_natCast]; omega⟩
   ·left
    have hk2:k=x.length:=by omega
    subst hk2
    rw [dec_f (show ¬ ((x.length:Int)<(x.length:Int)) by omega),cond_false]
    rw [List.take_length] at h5
    exact ⟨_,rfl,h1,h2,h5⟩)
  (s:=(List.replicate (x.length+y.length+1) 0,0)) ⟨_,0,rfl,fun z hz=>by rw [(List.mem_replicate.1 hz).2]; omega,by simp,by omega,by simp [nat32,hzero]⟩ (by simp only; omega)
 refine ⟨trimL r,?_,trimL_canon h2,by rw [trimL_nat,h4],by have:=trimL_len r; omega⟩
 unfold culpritref05_Times
 rw [hw,chk_d ⟨by omega,by omega,by simp only [maxLen]; omega⟩,Int.toNat_natCast,h1]
 simp only [Option.bind_some]
 rw [f5_Trim_eq (by omega)]
 rfl
theorem f5_Den_eq {r:List Int×List Int} (h:canon r.2) (hl:r.2.length≤64) : ∃ z,culpritref05_Den (r.1,r.2)=some z∧limbs z∧nat32 z=denN (nat32 r.2)∧z.length≤64:=by
 unfold culpritref05_Den denN
 simp only
 by_cases h0:r.2=[]
 ·rw [h0]
  exact ⟨[1],rfl,fun x hx=>by rw [List.mem_singleton.1 hx]; omega,by simp [nat32],by simp⟩
 ·have hp:0<r.2.length:=List.length_pos_iff.2 h0
  rw [show ((r.2.length:Int)==0)=false by simp; omega,cond_false]
  exact ⟨r.2,rfl,h.1,by rw [if_neg (fun e=>h0 ((nat32_nil h).1 e))],hl⟩
theorem f5_Order_eq {a b:List Int×List Int} (a1:canon a.1) (a2:canon a.2) (b1:canon b.1) (b2:canon b.2) (la1:a.1.length≤64) (la2:a.2.length≤64) (lb1:b.1.length≤64) (lb2:b.2.length≤64) :
  culpritref05_Order (a.1,a.2) (b.1,b.2)=some (cmp3 (nat32 a.1 * denN (nat32 b.2)) (nat32 b.1 * denN (nat32 a.2))):=by
 unfold culpritref05_Order
 simp only
 obtain ⟨z,z1,z2,z3,z4⟩:=f5_Den_eq b2 lb2
 obtain ⟨u,u1,u2,u3,u4⟩:=f5_Den_eq a2 la2
 obtain ⟨p,p1,p2,p3,p4⟩:=f5_Times_eq a1.1 z2 (by omega)
 obtain ⟨q,q1,q2,q3,q4⟩:=f5_Times_eq b1.1 u2 (by omega)
 rw [z1]
 simp only [Option.bind_some]
 rw [p1]
 simp only [Option.bind_some]
 rw [u1]
 simp only [Option.bind_some]
 rw [q1]
 simp only [Option.bind_some]
 rw [f5_Compare_eq p2.1 q2.1 (by omega) (by omega),p3,q3,z3,u3]
 rfl
theorem f5_Valid_eq {n d:List Int} (hn:canon n) (hd:canon d) (ln:n.length≤64) (ld:d.length≤64):culpritref05_Valid (n,d)=some (if validB (nat32 n) (nat32 d)=true then 0 else 1):=by
 unfold culpritref05_Valid
 simp only
 rw [dec_f (show ¬ (64:Int)<(n.length:Int) by omega),dec_f (show ¬ (64:Int)<(d.length:Int) by omega)]
 simp only [cond_false]
 rw [f5_Trim_eq (by omega),trimL_id hn]
 simp only [Option.bind_some]
 rw [show ((n.length:Int)==(n.length:Int))=true by simp,cond_true,f5_Trim_eq (by omega),trimL_id hd]
 simp only [Option.bind_some,cond_true]
 rw [show ((d.length:Int)==(d.length:Int))=true by simp]
 simp only [Bool.not_true,Bool.not_false,cond_true,cond_false]
 rw [f5_one_eq hd]
 simp only [Option.bind_some]
 unfold validB
 by_cases h1:nat32 d=1
 ·rw [dec_t h1]; rfl
 ·rw [dec_f h1]
  simp only [cond_false,Bool.not_false,Bool.true_and]
  by_cases hn0:n=[]
  ·subst hn0
   by_cases hd0:d=[]
   ·subst hd0; rfl
   ·have hp:0<d.length:=List.length_pos_iff.2 hd0
    have hdn:nat32 d≠0:=fun e=>hd0 ((nat32_nil hd).1 e)
    have e0:nat32 ([]:List Int)=0:=rfl
    rw [dec_t (show (0:Int)<(d.length:Int) by omega),e0,dec_f hdn]
    rfl
  ·have hp:0<n.length:=List.length_pos_iff.2 hn0
   have hnn:nat32 n≠0:=fun e=>hn0 ((nat32_nil hn).1 e)
   rw [show ((n.length:Int)==0)=false by simp; omega,dec_f hnn]
   simp only [cond_false,Bool.false_and,Bool.not_false,Bool.true_and]
   by_cases hd0:d=[]
   ·subst hd0; rfl
   ·have hpd:0<d.length:=List.length_pos_iff.2 hd0
    have hdn:nat32 d≠0:=fun e=>hd0 ((nat32_nil hd).1 e)
    obtain ⟨g,g1,g2,g3,g4⟩:=f5_Common_eq hd hn hdn (by omega) (by omega)
    rw [dec_t (show (0:Int)<(d.length:Int) by omega),cond_true,g1]
    simp only [Option.bind_some,cond_true]
    rw [f5_one_eq g2,g3,dec_f hdn,Nat.gcd_comm]
    simp only [Option.bind_some,Bool.false_or]
    by_cases hg:Nat.gcd (nat32 n) (nat32 d)=1
    ·rw [decide_eq_true hg]; rfl
    ·rw [decide_eq_false hg]; rfl
theorem RatOk.valid5 {r:List Int×List Int} (h:RatOk r):culpritref05_Valid (r.1,r.2)=some 0:=by
 rw [f5_Valid_eq h.n h.d h.ln h.ld,if_pos h.v]
end Go.Proofs.YtknnphhepnbaoaaGreatDoor
namespace Go.Proofs.YtknnphhepnbaoaaGreatDoor
open Go.Sm
theorem drop_set_at {l:List Int} {j:Nat} (v:Int) (h:j<l.length):(l.set j v).drop j=v::l.drop (j+1):=by
 rw [List.drop_eq_getElem_cons (by rw [List.length_set]; exact h),List.getElem_set_self,List.drop_set_of_lt (by omega)]
theorem bindN {α β:Type} (a:α) (f:α→Option β):(some a).bind f=f a:=id (rfl:(some a).bind f=f a)
theorem nat32_cons (x:Int) (l:List Int):nat32 (x::l)=x.toNat+4294967296 * nat32 l:=id (rfl:nat32 (x::l)=x.toNat+4294967296 * nat32 l)
theorem f5_tenth_eq {x:List Int} (hx:limbs x) (nx:x.length≤1000000) : ∃ q,culpritref05_tenth x=some (q,((nat32 x % 10:Nat):Int))∧canon q∧nat32 q=nat32 x / 10∧q.length≤x.length:=by
 unfold culpritref05_tenth
 rw [chk_d ⟨by omega,by omega,by simp only [maxLen]; omega⟩,Int.toNat_natCast]
 have hw:w64 ((x.length:Int) - 1)=(x.length:Int) - 1:=w64_id (by omega) (by omega)
 rw [hw]
 obtain ⟨⟨o,_⟩,e1,e2,e3,r,rfl,e4,e5⟩:=it_inv (f:=culpritref05_tenth_loop1 x) (fun s=>(s.2.2+1).toNat)
  (fun s=>∃ (o:List Int) (r k:Nat),s=(o,(r:Int),(k:Int) - 1)∧limbs o∧o.length=x.length∧k≤x.length∧r<10∧nat32 (x.drop k)=10 * nat32 (o.drop k)+r)
  (fun s=>limbs s.1∧s.1.length=x.length∧∃ r:Nat,s.2=(r:Int)∧r<10∧nat32 x=10 * nat32 s.1+r) (fun s hs=>by
   obtain ⟨o,r,k,rfl,h1,h2,h3,h4,h5⟩:=hs
   unfold culpritref05_tenth_loop1
   simp only
   by_cases h0:k=0
   ·left
    subst h0
    rw [dec_f (show ¬ (0:Int)≤((0:Nat):Int) - 1 by omega)]
    exact ⟨_,rfl,h1,h2,r,rfl,h4,h5⟩
   ·right
    obtain ⟨j,rfl⟩ : ∃ j,k=j+1:=⟨k - 1,by omega⟩
    have ej:((j+1:Nat):Int) - 1=(j:Int):=by omega
    obtain ⟨a,ha,ha2⟩:=at_of_lt hx (show j<x.length by omega)
    obtain ⟨u,hu,_⟩:=at_of_lt h1 (show j<o.length by omega)
    rw [ej,dec_t (show (0:Int)≤(j:Int) by omega),cond_true,chk_d (by omega),idx_nat ha]
    simp only [bindN]
    rw [show (!((10:Int)==0))=true from rfl,chk_t rfl,idx_nat hu]
    simp only [bindN]
    rw [chk_t rfl]
    have hj:=join32 (hi:=r) (lo:=a) (by omega) ha2
    rw [u64_nat (n:=r) (by omega)] at hj
    rw [hj,Int.toNat_natCast]
    generalize hT:r * 4294967296+a=T at *
    have hT2:T<42949672960:=by omega
    have d1:Int.tdiv (T:Int) (10:Int)=((T / 10:Nat):Int):=by rw [Int.tdiv_eq_ediv_of_nonneg (by omega)]; omega
    have d2:Int.tmod (T:Int) (10:Int)=((T % 10:Nat):Int):=by rw [Int.tmod_eq_emod_of_nonneg (by omega)]; omega
    rw [d1,d2,u64_nat (by omega),low32 (by omega),Nat.mod_eq_of_lt (show T / 10<4294967296 by omega),w64_id (by omega) (by omega)]
    refine ⟨_,rfl,⟨_,_,j,rfl,limbs_set h1 (by omega) (by omega),by rw [List.length_set]; exact h2,by omega,by omega,?_⟩,by simp only; omega⟩
    have hx2:x.drop j=(a:Int)::x.drop (j+1):=by
     rw [List.drop_eq_getElem_cons (by omega)]
     congr 1
     rw [List.getElem?_eq_getElem (by omega)] at ha
     exact Option.some.inj ha
    rw [hx2,drop_set_at _ (by omega)]
    rw [nat32_cons,nat32_cons,Int.toNat_natCast,Int.toNat_natCast,h5]
    omega) (s:=(List.replicate x.length 0,0,(x.length:Int) - 1)) ⟨_,0,x.length,rfl,fun z hz=>by rw [(List.mem_replicate.1 hz).2]; omega,by simp,Nat.le_refl _,by omega,by rw [List.drop_length,List.drop_of_length_le (by simp)]; rfl⟩ (by simp only; omega)
 simp only at e2 e3 e5
 rw [e1]
 simp only [bindN]
 rw [f5_Trim_eq (by omega)]
 simp only [bindN]
 rw [w64_id (by omega) (by omega)]
 have hr:nat32 x % 10=r:=by omega
 refine ⟨trimL o,by rw [hr],trimL_canon e2,by rw [trimL_nat]; omega,?_⟩
 have:=trimL_len o
 omega
theorem digit_u8 {d:Nat} (h:d<10) : ∃ c:UInt8,List.map (fun n:Int=>UInt8.ofNat n.toNat) [IntKind.u8.wrap (w64 ((48:Int)+(d:Int)))]=[c]∧c.toNat=48+d:=by
 rw [w64_id (by omega) (by omega)]
 refine ⟨_,rfl,?_⟩
 show (UInt8.ofNat (IntKind.u8.wrap ((48:Int)+(d:Int))).toNat).toNat=48+d
 rw [IntKind.wrap_u8,UInt8.toNat_ofNat']
 omega
def digM (n:Nat):Nat:=if n=0 then 0 else Nat.log2 n+1
theorem digM_tenth {n:Nat} (h:n≠0):digM (n / 10)<digM n:=by
 unfold digM
 rw [if_neg h]
 split
 ·omega
 ·rename_i h1
  have:=(Nat.log2_lt h1).2 (show n / 10<2 ^ (Nat.log2 n) by
   have h2:=Nat.lt_log2_self (n:=n)
   rw [Nat.pow_succ] at h2
   omega)
  omega
theorem f5_Decimal_eq {x:List Int} (hx:canon x) (hn:x.length≤64) : ∃ r,culpritref05_Decimal x=some r∧rowB r=true∧decV r=nat32 x∧r.length≤617:=by
 suffices h : ∃ r,culpritref05_Decimal x=some r∧rowB r=true∧decV r=nat32 x by
  obtain ⟨r,h1,h2,h3⟩:=h
  refine ⟨r,h1,h2,h3,?_⟩
  by_cases hl:2≤r.length
  ·have h5:=rowB_ge h2 hl
   have h6:=nat32_lt hx.1
   have h7:(4294967296:Nat) ^ x.length≤4294967296 ^ 64:=Nat.pow_le_pow_right (by omega) hn
   have h8:(10:Nat) ^ (r.length - 1)<10 ^ 617:=Nat.lt_of_le_of_lt h5 (Nat.lt_trans (Nat.lt_of_lt_of_le (by rw [h3]; exact h6) h7) big64)
   have h9:=(Nat.pow_lt_pow_iff_right (a:=10) (by omega)).1 h8
   omega
  ·omega
 unfold culpritref05_Decimal
 by_cases h0:x=[]
 ·subst h0
  exact ⟨S_0_5fec,rfl,rfl,rfl⟩
 have hp:0<x.length:=List.length_pos_iff.2 h0
 have hxn:nat32 x≠0:=fun e=>h0 ((nat32_nil hx).1 e)
 rw [show ((x.length:Int)==0)=false by simp; omega,cond_false,f5_Trim_eq (by omega),trimL_id hx]
 simp only [Option.bind_some]
 have hlog:=log2_limbs hx.1 hn
 obtain ⟨r,e1,e2,e3⟩:=it_inv (f:=culpritref05_Decimal_loop1) (fun s=>digM (nat32 s.2))
  (fun s=>canon s.2∧s.2.length≤64∧s.1.length+digM (nat32 s.2)≤4000∧s.1.all isDig=true∧(s.2=[]→rowB s.1=true)∧decV s.1+10 ^ s.1.length * nat32 s.2=nat32 x)
  (fun r=>rowB r=true∧decV r=nat32 x) (fun s hs=>by
   obtain ⟨t,n⟩:=s
   obtain ⟨h1,h2,hlen,h3,h4,h5⟩:=hs
   simp only at h1 h2 hlen h3 h4 h5
   unfold culpritref05_Decimal_loop1
   simp only
   by_cases hn0:n=[]
   ·left
    subst hn0
    exact ⟨t,rfl,h4 rfl,by simpa [nat32] using h5⟩
   ·right
    have hl:0<n.length:=List.length_pos_iff.2 hn0
    have hnn:nat32 n≠0:=fun e=>hn0 ((nat32_nil h1).1 e)
    obtain ⟨q,q1,q2,q3,q4⟩:=f5_tenth_eq h1.1 (by omega)
    obtain ⟨c,c1,c2⟩:=digit_u8 (d:=nat32 n % 10) (by omega)
    rw [dec_t (show (0:Int)<(n.length:Int) by omega),cond_true,q1]
    simp only [Option.bind_some]
    rw [c1,chk_d (by simp only [List.length_singleton]; omega)]
    have hM:=digM_tenth hnn
    have hc:isDig c=true:=by
     unfold isDig
     rw [dec_t (by omega),dec_t (by omega)]; rfl
    refine ⟨_,rfl,⟨q2,by simp only; omega,by simp only [List.singleton_append,List.length_cons,q3]; omega,?_,fun hq=>?_,?_⟩,by simp only [q3]; exact hM⟩
    ·simp only [List.singleton_append,List.all_cons,hc,h3,Bool.and_self]
    ·simp only at hq
     subst hq
     simp only [List.singleton_append,rowB,List.all_cons,hc,h3,Bool.and_self,Bool.and_true,Bool.or_eq_true,beq_iff_eq]
     right
     have:nat32 ([]:List Int)=0:=rfl
     rw [this] at q3
     rw [Bool.not_eq_true',beq_eq_false_iff_ne]
     omega
    ·simp only [List.singleton_append,List.length_cons,q3]
     rw [decV_cons,c2,Nat.pow_succ]
     have e6:48+nat32 n % 10 - 48=nat32 n % 10:=by omega
     rw [e6,← h5]
     generalize nat32 n=m at *
     generalize 10 ^ t.length=D at *
     rw [Nat.mul_assoc]
     have e7:D * (m % 10)+D * (10 * (m / 10))=D * m:=by rw [← Nat.mul_add]; congr 1; omega
     omega) (s:=(([]:List UInt8),x)) ⟨hx,hn,by simp only [digM,if_neg hxn,List.length_nil]; omega,rfl,fun h=>absurd h h0,by simp [decV]⟩ (by simp only [digM,if_neg hxn]; omega)
 rw [e1]
 exact ⟨r,rfl,e2,e3⟩
theorem f5_Print_eq {r:List Int×List Int} (h:RatOk r) : ∃ t,culpritref05_Print (r.1,r.2)=some (t,0)∧RatText r t∧t.length≤1235:=by
 unfold culpritref05_Print
 simp only
 rw [h.valid5]
 simp only [Option.bind_some]
 have e0:((0:Int) != 0)=false:=rfl
 rw [e0,cond_false]
 obtain ⟨a,a1,a2,a3,a4⟩:=f5_Decimal_eq h.n h.ln
 obtain ⟨b,b1,b2,b3,b4⟩:=f5_Decimal_eq h.d h.ld
 have es:S__8a5e.length=1:=rfl
 by_cases hd:r.2=[]
 ·rw [hd]
  have e1:((([]:List Int).length:Int)==0)=true:=rfl
  rw [e1,cond_true,a1]
  exact ⟨a,rfl,⟨a,a2,a3,a4, .inl ⟨hd,rfl⟩⟩,by omega⟩
 ·have hlen:0<r.2.length:=List.length_pos_iff.2 hd
  have e1:((r.2.length:Int)==0)=false:=by rw [beq_eq_false_iff_ne]; omega
  rw [e1,cond_false,a1]
  simp only [Option.bind_some]
  rw [chk_d (by omega),b1]
  simp only [Option.bind_some]
  rw [chk_d (by simp only [List.length_append]; omega)]
  exact ⟨_,rfl,⟨a,a2,a3,a4, .inr ⟨hd,b,b2,b3,b4,rfl⟩⟩,by simp only [List.length_append]; omega⟩
end Go.Proofs.YtknnphhepnbaoaaGreatDoor
namespace Go.Proofs.YtknnphhepnbaoaaGreatDoor
open Go.Sm
theorem isCh_all:((List.range 256).all fun n=>isCh (UInt8.ofNat n)==((decide (97≤n)&&decide (n≤122))||(decide (48≤n)&&decide (n≤57))))=true:=by decide +kernel
theorem isCh_eq (b:UInt8):isCh b=((decide (97≤b.toNat)&&decide (b.toNat≤122))||(decide (48≤b.toNat)&&decide (b.toNat≤57))):=by
 have:=List.all_eq_true.1 isCh_all b.toNat (List.mem_range.2 b.toNat_lt)
 rw [UInt8.ofNat_toNat] at this
 exact beq_iff_eq.1 this
theorem n20_Named_eq (s:List UInt8):culpritref20_Named s=some (namedB s):=by
 unfold culpritref20_Named
 match s with
 | []=>rfl
 | c::r=>
  by_cases hl:(c::r).length≤16
  ·have hn:Small (c::r):=by show (c::r).length<_; omega
   have e0:(bif decide (((c::r).length:Int)<(1:Int)) then true else decide ((16:Int)<((c::r).length:Int)))=false:=by
    rw [dec_f (show ¬ ((c::r).length:Int)<1 by simp; omega),dec_f (show ¬ (16:Int)<((c::r).length:Int) by omega)]; rfl
   rw [e0,cond_false]
   have h:=it_all (f:=culpritref20_Named_loop1 (c::r)) (z:=false) (c::r)
    (fun i x=>(decide ((97:Int)≤(x.toNat:Int))&&decide ((x.toNat:Int)≤122))||(!decide (i=0)&&(decide ((48:Int)≤(x.toNat:Int))&&decide ((x.toNat:Int)≤57)))) hn
    (fun i x hx=>by
     have hlt:=lt_of_at hx
     unfold culpritref20_Named_loop1
     rw [dec_t (show (i:Int)<((c::r).length:Int) by omega),cond_true,idx_nat hx]
     simp only [Option.bind_some]
     have e1 : ∀ b:Bool,(bif b then some x else some 0:Option UInt8)=some (bif b then x else 0):=fun b=>by cases b <;> rfl
     rw [e1,e1]
     simp only [Option.bind_some]
     have e2 : ∀ (a:Int) (b:Int),(bif decide (a≤(x.toNat:Int)) then decide ((((bif decide (a≤(x.toNat:Int)) then x else 0):UInt8).toNat:Int)≤b) else false)=(decide (a≤(x.toNat:Int))&&decide ((x.toNat:Int)≤b)):=fun a b=>by
      cases decide (a≤(x.toNat:Int)) <;> rfl
     rw [e2,e2]
     have e3:((i:Int)==0)=decide (i=0):=by rw [Bool.eq_iff_iff,beq_iff_eq,decide_eq_true_eq]; omega
     rw [e3]
     cases (decide ((97:Int)≤(x.toNat:Int))&&decide ((x.toNat:Int)≤122)) <;> cases decide (i=0) <;> cases (decide ((48:Int)≤(x.toNat:Int))&&decide ((x.toNat:Int)≤57)) <;> simp [succ64 hn hx])
    (by unfold culpritref20_Named_loop1; simp)
   rw [h]
   have hq:allI (fun i (x:UInt8)=>(decide ((97:Int)≤(x.toNat:Int))&&decide ((x.toNat:Int)≤122))||(!decide (i=0)&&(decide ((48:Int)≤(x.toNat:Int))&&decide ((x.toNat:Int)≤57)))) 0 (c::r)=namedB (c::r):=by
    have gen : ∀ (l:List UInt8) (k:Nat),allI (fun i (x:UInt8)=>(decide ((97:Int)≤(x.toNat:Int))&&decide ((x.toNat:Int)≤122))||(!decide (i=0)&&(decide ((48:Int)≤(x.toNat:Int))&&decide ((x.toNat:Int)≤57)))) (k+1) l=l.all isCh:=by
     intro l
     induction l with
     | nil=>intro k; rfl
     | cons x l ih=>
      intro k
      simp only [allI,List.all_cons]
      rw [ih (k+1),isCh_eq,dec_f (show ¬ k+1=0 by omega)]
      congr 1
      rw [Bool.eq_iff_iff]
      simp only [Bool.or_eq_true,Bool.and_eq_true,decide_eq_true_eq,Bool.not_false,true_and]
      omega
    simp only [allI,namedB,List.all_cons]
    rw [gen r 0,dec_t hl,isCh_eq c,decide_true,Bool.not_true,Bool.false_and,Bool.or_false]
    cases r.all isCh
    ·simp
    ·rw [Bool.eq_iff_iff]
     simp only [Bool.or_eq_true,Bool.and_eq_true,decide_eq_true_eq,true_and,and_true]
     omega
   rw [hq]
   simp only [Option.bind_some]
   cases namedB (c::r) <;> rfl
  ·have e0:(bif decide (((c::r).length:Int)<(1:Int)) then true else decide ((16:Int)<((c::r).length:Int)))=true:=by
    rw [dec_t (show (16:Int)<((c::r).length:Int) by omega)]; cases decide (((c::r).length:Int)<(1:Int)) <;> rfl
   rw [e0,cond_true]
   simp only [namedB]
   rw [dec_f hl]
   rfl
theorem n22_IsName_eq (n:Edit):culpritref22_IsName (n.1,n.2)=some (okName n):=by
 unfold culpritref22_IsName okName
 simp only
 congr 1
 have e1:decide (n.1≤(3:Int))=decide (n.1<(4:Int)):=by rw [Bool.eq_iff_iff,decide_eq_true_eq,decide_eq_true_eq]; omega
 rw [e1]
 cases decide ((0:Int)≤n.1) <;> cases decide (n.1<(4:Int)) <;> cases decide ((0:Int)≤n.2) <;> cases decide (n.2≤(63:Int)) <;> rfl
theorem n22_Less_eq (a b:Edit):culpritref22_Less (a.1,a.2) (b.1,b.2)=some (lessB a b):=by
 unfold culpritref22_Less lessB
 simp only
 have e1:((a.1:Int)==b.1)=decide (a.1=b.1):=by rw [Bool.eq_iff_iff,beq_iff_eq,decide_eq_true_eq]
 rw [e1]
 cases decide (a.1<b.1) <;> cases decide (a.1=b.1) <;> cases decide (a.2<b.2) <;> rfl
theorem allI_rising (l:List Edit):allI (fun i x=>okName x&&(decide (i=0)||lessB (l.getD (i - 1) (0,0)) x)) 0 l=risingB l:=by
 have gen : ∀ (r pre:List Edit) (y:Edit),l=pre++y::r→allI (fun i x=>okName x&&(decide (i=0)||lessB (l.getD (i - 1) (0,0)) x)) (pre.length+1) r=risingFrom y r:=by
  intro r
  induction r with
  | nil=>intros; rfl
  | cons x r ih=>
   intro pre y hl
   simp only [allI,risingFrom]
   have e1:l.getD (pre.length+1 - 1) (0,0)=y:=by rw [hl]; simp [List.getD_eq_getElem?_getD]
   rw [e1,dec_f (show ¬ pre.length+1=0 by omega),Bool.false_or]
   have:=ih (pre++[y]) x (by rw [hl]; simp)
   rw [List.length_append] at this
   simp only [List.length_singleton] at this
   rw [this]
 cases l with
 | nil=>rfl
 | cons x r=>
  have:=gen r [] x rfl
  simp only [List.length_nil,Nat.zero_add] at this
  simp only [allI,risingB,decide_true,Bool.true_or,Bool.and_true,Nat.zero_add]
  rw [this]
theorem n37_rising_eq (l:List Edit) (hn:Small l):culpritref37_rising l=some (risingB l):=by
 have h:=it_all (f:=culpritref37_rising_loop1 l) (z:=false) l (fun i x=>okName x&&(decide (i=0)||lessB (l.getD (i - 1) (0,0)) x)) hn
  (fun i x hx=>by
   have hlt:=lt_of_at hx
   unfold culpritref37_rising_loop1
   rw [dec_t (show (i:Int)<(l.length:Int) by omega),cond_true,idx_nat hx]
   simp only [Option.bind_some]
   rw [n22_IsName_eq]
   simp only [Option.bind_some]
   cases hok:okName x with
   | false=>simp
   | true=>
    by_cases h0:i=0
    ·subst h0
     simp [show w64 1=1 from w64_id (by omega) (by omega)]
    ·have hp:l[i - 1]? = some (l.getD (i - 1) (0,0)):=by
      rw [List.getD_eq_getElem?_getD,List.getElem?_eq_getElem (by omega)]; rfl
     have hw:w64 ((i:Int) - 1)=((i - 1:Nat):Int):=by rw [w64_id (by omega) (by omega)]; omega
     have hm:(if (0:Int) > ((i - 1:Nat):Int) then (0:Int) else ((i - 1:Nat):Int))=((i - 1:Nat):Int):=if_neg (by omega)
     rw [hw,hm,idx_nat hp]
     have hpos:0<i:=by omega
     simp only [Bool.not_true,Bool.not_false,Bool.true_and,dec_t (show (0:Int)<(i:Int) by omega),cond_true,Option.bind_some,n22_Less_eq,cond_false,h0,decide_false,Bool.false_or]
     cases lessB (l.getD (i - 1) (0,0)) x <;> simp [succ64 hn hx])
  (by unfold culpritref37_rising_loop1; simp)
 unfold culpritref37_rising
 rw [h,allI_rising]
 simp only [Option.bind_some]
 cases risingB l <;> rfl
theorem n37_word_eq {l:List Int} (hn:Small l):culpritref37_word l=some (possB l):=by
 have h:=it_all (f:=culpritref37_word_loop1 l) (z:=false) l (fun _ n=>decide (0≤n)&&decide (n≤999)) hn
  (fun i x hx=>by
   have hlt:=lt_of_at hx
   unfold culpritref37_word_loop1
   rw [dec_t (show (i:Int)<(l.length:Int) by omega),cond_true,idx_nat hx]
   simp only [Option.bind_some]
   by_cases ha:x<0
   ·rw [dec_t ha,dec_f (show ¬ 0≤x by omega)]
    rfl
   ·rw [dec_f ha,dec_t (show 0≤x by omega)]
    simp only [Bool.not_false,cond_true,Option.bind_some,cond_false,Bool.true_and]
    by_cases hb:999<x
    ·rw [dec_t hb,dec_f (show ¬ x≤999 by omega)]
     rfl
    ·rw [dec_f hb,dec_t (show x≤999 by omega),succ64 hn hx]
     rfl)
  (by unfold culpritref37_word_loop1; simp)
 unfold culpritref37_word possB
 rw [h,allI_const]
 simp only [Option.bind_some]
 cases l.all fun n=>decide (0≤n)&&decide (n≤999)
 ·simp
 ·simp only [cond_true,Bool.and_true]
  by_cases hl:l.length≤160
  ·rw [dec_t (show (l.length:Int)≤160 by omega),dec_t hl]
   cases l with
   | nil=>rfl
   | cons x r=>
    have e0:(((x::r).length:Int)==0)=false:=by simp; omega
    have hw:w64 (((x::r).length:Int) - 1)=(((x::r).length - 1:Nat):Int):=by
     have:(x::r).length=r.length+1:=rfl
     rw [w64_id (by omega) (by omega)]; omega
    have hm:(if (0:Int) > (((x::r).length - 1:Nat):Int) then (0:Int) else (((x::r).length - 1:Nat):Int))=(((x::r).length - 1:Nat):Int):=if_neg (by omega)
    have hi:(x::r)[(x::r).length - 1]? = some ((x::r).getLast?.getD 0):=by
     rw [← List.getLast?_eq_getElem?]; simp [List.getLast?_cons]
    rw [e0,hw,hm,idx_nat hi]
    simp
  ·rw [dec_f (show ¬ (l.length:Int)≤160 by omega),dec_f hl]
   simp
theorem allI_sets (ss:List (List Edit)):allI (fun i x=>risingB x && !((ss.take i).any fun y=>decide (y=x))) 0 ss=setsB [] ss:=by
 have gen : ∀ (r pre:List (List Edit)),ss=pre++r→allI (fun i x=>risingB x && !((ss.take i).any fun y=>decide (y=x))) pre.length r=setsB pre r:=by
  intro r
  induction r with
  | nil=>intros; rfl
  | cons x r ih=>
   intro pre hl
   simp only [allI,setsB]
   have e1:ss.take pre.length=pre:=by rw [hl]; simp
   have:=ih (pre++[x]) (by rw [hl]; simp)
   rw [List.length_append,List.length_singleton] at this
   rw [e1,this]
 exact gen _ [] rfl
theorem n37_sets_loop {v:Vd} (hn:Small v.2.2.1) (hs : ∀ l∈v.2.2.1,Small l):Itr.it (culpritref37_Proper_loop1 v) (0:Int)=some (bif setsB [] v.2.2.1 then .inl () else .inr false):=by
 rw [it_all (f:=culpritref37_Proper_loop1 v) (z:=false) v.2.2.1 (fun i x=>risingB x && !((v.2.2.1.take i).any fun y=>decide (y=x))) hn
  (fun i x hx=>by
   have hlt:=lt_of_at hx
   have hm:=List.mem_of_getElem? hx
   unfold culpritref37_Proper_loop1
   rw [dec_t (show (i:Int)<(v.2.2.1.length:Int) by omega),cond_true,idx_nat hx]
   simp only [Option.bind_some,n37_rising_eq x (hs x hm)]
   cases hr:risingB x
   ·rfl
   ·have hl:(v.2.2.1.take i).length=i:=by rw [List.length_take]; omega
    have h2:=it_all (f:=culpritref37_Proper_loop2 v (i:Int)) (z:=(.inr (.inr false):Int⊕(Unit⊕Bool))) (v.2.2.1.take i) (fun _ y=>!decide (y=x)) (by show (v.2.2.1.take i).length<_; omega)
     (fun j y hy=>by
      have hj:j<i:=by have:=lt_of_at hy; omega
      have hy2:v.2.2.1[j]? = some y:=by rw [List.getElem?_take,if_pos hj] at hy; exact hy
      have hym:=List.mem_of_getElem? hy2
      unfold culpritref37_Proper_loop2
      rw [dec_t (show (j:Int)<(i:Int) by omega),cond_true,idx_nat hy2,idx_nat hx]
      simp only [Option.bind_some,sameNames_eq y x (hs y hym)]
      cases decide (y=x)
      ·simp only [cond_false,Bool.not_false,cond_true]
       rw [w64_id (by omega) (by omega)]
      ·rfl)
     (by unfold culpritref37_Proper_loop2; rw [hl,dec_f (show ¬ (i:Int)<(i:Int) by omega)]; rfl)
    rw [allI_const] at h2
    have e3:((v.2.2.1.take i).all fun y=>!decide (y=x)) = !((v.2.2.1.take i).any fun y=>decide (y=x)):=by rw [List.not_any_eq_all_not]
    rw [e3] at h2
    simp only [Bool.not_true,cond_false,h2,Option.bind_some,Bool.true_and]
    cases (v.2.2.1.take i).any fun y=>decide (y=x)
    ·simp [succ64 hn hx]
    ·rfl)
  (by unfold culpritref37_Proper_loop1; simp),allI_sets]
theorem kind_sets : ∀ k<6,(kindOf ((k:Nat):Int)).2.2.1=(bif ((k:Nat):Int)==(2:Int) then true else ((k:Nat):Int)==(4:Int)) ∧
  (kindOf ((k:Nat):Int)).2.2.2.1=(bif bif ((k:Nat):Int)==(2:Int) then true else ((k:Nat):Int)==(3:Int) then true else ((k:Nat):Int)==(5:Int)) ∧
  (kindOf ((k:Nat):Int)).2.2.2.2=(bif ((k:Nat):Int)==(2:Int) then true else ((k:Nat):Int)==(3:Int)):=by decide +kernel
theorem cmp_le (a b:Nat):decide ((0:Int)<cmp3 a b) = !decide (a≤b):=by
 unfold cmp3
 split
 ·rename_i h; rw [dec_t (show a≤b by omega)]; rfl
 ·split
  ·rename_i h; rw [dec_f (show ¬ a≤b by omega)]; rfl
  ·rw [dec_t (show a≤b by omega)]; rfl
theorem n37_Proper_eq {v:Vd} (hr:RatOk v.2.2.2.2.2) (hn:Small v.2.2.1) (hs : ∀ l∈v.2.2.1,Small l) (hw:Small v.2.2.2.1):culpritref37_Proper v=some (properB (leB v) v):=by
 unfold culpritref37_Proper
 rw [n20_Named_eq]
 simp only [Option.bind_some]
 unfold properB
 cases h1:namedB v.2.1
 ·rfl
 by_cases h2:v.1<0
 ·rw [dec_t h2,dec_f (show ¬ 0≤v.1 by omega)]
  rfl
 by_cases h3:5<v.1
 ·rw [dec_t h3,dec_f (show ¬ v.1<6 by omega),dec_f h2,dec_t (show 0≤v.1 by omega)]
  rfl
 rw [dec_f h2,dec_f h3,dec_t (show 0≤v.1 by omega),dec_t (show v.1<6 by omega)]
 simp only [Bool.not_true,cond_false,Bool.not_false,cond_true,Bool.true_and]
 rw [hr.valid5]
 simp only [Option.bind_some]
 rw [show ((0:Int) != 0)=false from rfl]
 simp only [cond_false]
 by_cases h4:v.2.2.2.2.1<0
 ·rw [dec_t h4,dec_f (show ¬ 0≤v.2.2.2.2.1 by omega)]
  simp
 by_cases h5:3<v.2.2.2.2.1
 ·rw [dec_t h5,dec_f (show ¬ v.2.2.2.2.1<4 by omega),dec_f h4]
  simp
 rw [dec_f h4,dec_f h5,dec_t (show 0≤v.2.2.2.2.1 by omega),dec_t (show v.2.2.2.2.1<4 by omega)]
 simp only [cond_false,Bool.not_false,cond_true,Bool.and_true]
 rw [n37_word_eq hw]
 simp only [Option.bind_some]
 cases h6:possB v.2.2.2.1
 ·simp
 by_cases h7:v.2.2.1.length≤1024
 ·rw [dec_f (show ¬ (1024:Int)<(v.2.2.1.length:Int) by omega),dec_t h7]
  simp only [Bool.not_true,cond_false,Bool.and_true]
  have ho:=f5_Order_eq (a:=v.2.2.2.2.2) (b:=(([1],[]):List Int×List Int)) hr.n hr.d (canon_one (n:=1) (by omega) (by omega)) ⟨by simp [limbs],by simp⟩ hr.ln hr.ld (by simp) (by simp)
  have e1:culpritref17_One=some (([1],[]):List Int×List Int):=rfl
  rw [e1]
  simp only [Option.bind_some]
  rw [ho]
  simp only [Option.bind_some]
  have e2:nat32 ([1]:List Int)=1:=rfl
  have e3:denN (nat32 ([]:List Int))=1:=rfl
  rw [e2,e3,Nat.mul_one,Nat.one_mul,cmp_le]
  show (bif !(leB v) then _ else _)=_
  cases h8:leB v
  ·simp
  simp only [Bool.not_true,cond_false,Bool.true_and]
  rw [n37_sets_loop hn hs]
  simp only [Option.bind_some]
  cases h9:setsB [] v.2.2.1
  ·simp
  simp only [cond_true,Bool.true_and]
  obtain ⟨k,hk⟩ : ∃ k:Nat,v.1=k:=⟨v.1.toNat,by omega⟩
  obtain ⟨k1,k2,k3⟩:=kind_sets k (by omega)
  rw [← hk] at k1 k2 k3
  rw [← k1,← k2,k3]
  have d1:decide ((0:Int)<(v.2.2.1.length:Int))=decide (0<v.2.2.1.length):=by rw [Bool.eq_iff_iff,decide_eq_true_eq,decide_eq_true_eq]; omega
  have d2:decide ((0:Int)<(v.2.2.2.2.2.1.length:Int))=decide (0<v.2.2.2.2.2.1.length):=by rw [Bool.eq_iff_iff,decide_eq_true_eq,decide_eq_true_eq]; omega
  have d3:((v.2.2.2.1.length:Int)==0)=decide (v.2.2.2.1.length=0):=by rw [Bool.eq_iff_iff,beq_iff_eq,decide_eq_true_eq]; omega
  have d4:((v.2.2.2.2.1:Int)==0)=decide (v.2.2.2.2.1=0):=by rw [Bool.eq_iff_iff,beq_iff_eq,decide_eq_true_eq]
  have d5:((v.1:Int)==5)=decide (v.1=5):=by rw [Bool.eq_iff_iff,beq_iff_eq,decide_eq_true_eq]
  rw [d1,d2,d3,d4,d5]
  generalize (kindOf v.1).2.2.1=a
  generalize (kindOf v.1).2.2.2.1=b
  generalize decide (0<v.2.2.1.length)=c
  generalize decide (0<v.2.2.2.2.2.1.length)=d
  generalize decide (v.2.2.2.1.length=0)=e
  generalize decide (v.2.2.2.2.1=0)=f
  generalize decide (v.1=5)=g
  generalize (v.1==(2:Int))=p
  generalize (v.1==(3:Int))=q
  revert a b c d e f g p q
  decide
 ·rw [dec_t (show (1024:Int)<(v.2.2.1.length:Int) by omega),dec_f h7]
  simp
end Go.Proofs.YtknnphhepnbaoaaGreatDoor
