/-
  Numbers of limbs of 32 bits: differences, shifts, leading noughts: what long division rests on. No program is walked here.
  Numbers of limbs of 32 bits: products and quotients by powers of two below 2 to the power of 32. No program is walked here.
  Numbers of limbs of 32 bits: a multiple taken away in place, and laid back; the estimate of a digit. No program is walked here.
  Numbers of limbs of 32 bits: long division. No program is walked here.
  Numbers of limbs of 32 bits: long division as a whole; the greatest common divisor of any two numbers. No program is walked here.
-/
import Derived.Test.YtknnphhepnbaoaaGreatDoorLawsB
namespace Go.Proofs.YtknnphhepnbaoaaGreatDoor
open Go.Sm
theorem wraps_u32 (n:Int) (h₀:0≤n) (h₁:n<2 ^ 32):IntKind.u32.wrap n=n:=by rw [IntKind.wrap_u32]; omega
theorem and32 {a b:Nat} (ha:a<4294967296) (hb:b<4294967296):bitI .and .u32 (a:Int) (b:Int)=((a &&& b:Nat):Int):=
 (bits_nat .u32 32 (by decide) wraps_u32 a b ha hb).1
theorem or32 {a b:Nat} (ha:a<4294967296) (hb:b<4294967296):bitI .or .u32 (a:Int) (b:Int)=((a ||| b:Nat):Int):=
 (bits_nat .u32 32 (by decide) wraps_u32 a b ha hb).2
theorem xor32 {a b:Nat} (ha:a<4294967296) (hb:b<4294967296):bitI .xor .u32 (a:Int) (b:Int)=((a ^^^ b:Nat):Int):=by
 show IntKind.u32.wrap ((BitVec.ofInt 32 (a:Int) ^^^ BitVec.ofInt 32 (b:Int)).toNat:Int)=_
 have ha' : a % 2 ^ 32=a:=Nat.mod_eq_of_lt ha
 have hb' : b % 2 ^ 32=b:=Nat.mod_eq_of_lt hb
 simp only [BitVec.ofInt_natCast,BitVec.toNat_xor,BitVec.toNat_ofNat,ha',hb']
 have hx:a ^^^ b<2 ^ 32:=Nat.xor_lt_two_pow ha hb
 exact wraps_u32 _ (Int.natCast_nonneg _) (by exact_mod_cast hx)
theorem tb31 {n:Nat} (h:n<4294967296):n.testBit 31=decide (2147483648≤n):=by
 rw [Nat.testBit_eq_decide_div_mod_eq,Bool.eq_iff_iff,decide_eq_true_eq,decide_eq_true_eq]
 have:(2:Nat) ^ 31=2147483648:=by decide
 rw [this]
 omega
theorem div31 {n:Nat} (h:n<4294967296):n / 2147483648=if n.testBit 31 then 1 else 0:=by
 rw [tb31 h]
 by_cases h2:2147483648≤n
 ·rw [decide_eq_true h2,if_pos rfl]; omega
 ·rw [decide_eq_false h2]; simp; omega
theorem shr31 (n:Nat):shrI .u32 (n:Int) (31:Int)=((n / 2147483648:Nat):Int):=by
 show Int.fdiv (n:Int) (2 ^ (min (31:Int).toNat 32))=_
 have:(2:Int) ^ (min (31:Int).toNat 32)=2147483648:=by decide
 rw [this,Int.fdiv_eq_ediv_of_nonneg _ (by omega)]
 omega
theorem sub32_eq {x y c:Nat} (hx:x<4294967296) (hy:y<4294967296) (hc:c≤1) :
  ∃ d b:Nat,math_bits_Sub32 (x:Int) (y:Int) (c:Int)=some ((d:Int),(b:Int))∧d<4294967296∧b≤1∧x+4294967296 * b=d+y+c:=by
 obtain ⟨d,hd,hd2⟩ : ∃ d:Nat,IntKind.u32.wrap ((IntKind.u32.wrap ((x:Int) - (y:Int))) - (c:Int))=(d:Int)∧(x+4294967296=d+y+c∨x=d+y+c):=by
  rw [IntKind.wrap_u32,IntKind.wrap_u32]
  by_cases h:y+c≤x
  ·exact ⟨x - y - c,by omega, .inr (by omega)⟩
  ·exact ⟨x+4294967296 - y - c,by omega, .inl (by omega)⟩
 have hdl:d<4294967296:=by
  have h:=IntKind.wrap_u32 ((IntKind.u32.wrap ((x:Int) - (y:Int))) - (c:Int))
  rw [hd] at h
  omega
 have hM:(if IntKind.signed .u32 then (-1:Int) else IntKind.max .u32)=((4294967295:Nat):Int):=rfl
 have hxy:x ^^^ y<4294967296:=Nat.xor_lt_two_pow (n:=32) hx hy
 have hmx:4294967295 ^^^ x<4294967296:=Nat.xor_lt_two_pow (n:=32) (by decide) hx
 have hmxy:4294967295 ^^^ (x ^^^ y)<4294967296:=Nat.xor_lt_two_pow (n:=32) (by decide) hxy
 have h1:(4294967295 ^^^ x) &&& y<4294967296:=Nat.and_lt_two_pow (n:=32) _ hy
 have h2:(4294967295 ^^^ (x ^^^ y)) &&& d<4294967296:=Nat.and_lt_two_pow (n:=32) _ hdl
 have h3:((4294967295 ^^^ x) &&& y) ||| ((4294967295 ^^^ (x ^^^ y)) &&& d)<4294967296:=Nat.or_lt_two_pow (n:=32) h1 h2
 have hm:(4294967295:Nat).testBit 31=true:=by decide
 refine ⟨d,(((4294967295 ^^^ x) &&& y) ||| ((4294967295 ^^^ (x ^^^ y)) &&& d)) / 2147483648,?_,hdl,by omega,?_⟩
 ·unfold math_bits_Sub32
  rw [chk_d (by omega),hd,hM,xor32 (by decide) hx,xor32 hx hy,xor32 (by decide) hxy,and32 hmx hy,and32 hmxy hdl,or32 h1 h2,shr31]
 ·rw [div31 h3]
  simp only [Nat.testBit_or,Nat.testBit_and,Nat.testBit_xor,hm,tb31 hx,tb31 hy,tb31 hdl]
  by_cases a1:2147483648≤x <;> by_cases a2:2147483648≤y <;> by_cases a3:2147483648≤d <;> simp only [a1,a2,a3,decide_true,decide_false,Bool.xor_true,Bool.xor_false,Bool.not_true,Bool.not_false,Bool.and_true,Bool.and_false,Bool.or_true,Bool.or_false,Bool.true_xor,Bool.false_xor,Bool.true_and,Bool.false_and,if_true,Bool.false_eq_true,if_false] <;> omega
theorem len8_all:((List.range 256).all fun k=>decide (k=0)||(match S__14a5[k]? with
  | some t=>decide (1≤t.toNat)&&decide (t.toNat≤8)&&decide (2 ^ (t.toNat - 1)≤k)&&decide (k<2 ^ t.toNat)
  | none=>false))=true:=by decide +kernel
theorem len8 {k:Nat} (h:k<256) (h1:1≤k) : ∃ t:UInt8,S__14a5[k]? = some t∧1≤t.toNat∧t.toNat≤8∧2 ^ (t.toNat - 1)≤k∧k<2 ^ t.toNat:=by
 have:=List.all_eq_true.1 len8_all k (List.mem_range.2 h)
 rw [decide_eq_false (show ¬ k=0 by omega),Bool.false_or] at this
 split at this
 ·rename_i t ht
  simp only [Bool.and_eq_true,decide_eq_true_eq] at this
  exact ⟨t,ht,this.1.1.1,this.1.1.2,this.1.2,this.2⟩
 ·cases this
theorem shrN {n s:Nat} (hs:s≤31):shrI .u32 (n:Int) (s:Int)=((n / 2 ^ s:Nat):Int):=by
 show Int.fdiv (n:Int) (2 ^ (min (s:Int).toNat 32))=_
 rw [Int.toNat_natCast,Nat.min_eq_left (by omega),Int.fdiv_eq_ediv_of_nonneg _ (Int.le_of_lt (Int.pow_pos (by decide)))]
 rw [Int.natCast_ediv,Int.natCast_pow]
 rfl
theorem lead_eq {v:Nat} (h1:1≤v) (hv:v<4294967296) : ∃ s:Nat,s≤31∧math_bits_LeadingZeros32 (v:Int)=some (s:Int)∧2147483648≤v * 2 ^ s∧v * 2 ^ s<4294967296:=by
 unfold math_bits_LeadingZeros32 math_bits_Len32
 have key : ∀ (k z:Nat),1≤k→k<256→(∀ t:Nat,1≤t→t≤8→2 ^ (t - 1)≤k→k<2 ^ t→z+t≤32∧2147483648≤v * 2 ^ (32 - (z+t))∧v * 2 ^ (32 - (z+t))<4294967296)→z≤24 →
   ∃ s:Nat,s≤31∧(((idx S__14a5 (IntKind.u8.wrap (k:Int))).bind fun v3=>some (w64 ((z:Int)+(w64 (v3.toNat:Int))))).bind fun r1=>some (w64 ((32:Int) - r1)))=some (s:Int)∧2147483648≤v * 2 ^ s∧v * 2 ^ s<4294967296:=by
  intro k z k1 k2 ht hz
  obtain ⟨t,e1,e2,e3,e4,e5⟩:=len8 k2 k1
  obtain ⟨q1,q2,q3⟩:=ht t.toNat e2 e3 e4 e5
  refine ⟨32 - (z+t.toNat),by omega,?_,q2,q3⟩
  rw [show IntKind.u8.wrap (k:Int)=(k:Int) by rw [IntKind.wrap_u8]; omega,idx_nat e1]
  simp only [Option.bind_some]
  rw [w64_id (x:=(t.toNat:Int)) (by omega) (by omega),w64_id (x:=(z:Int)+(t.toNat:Int)) (by omega) (by omega),w64_id (by omega) (by omega)]
  congr 1
  omega
 have pw : ∀ (z k rest t:Nat),v=k * 2 ^ z+rest→rest<2 ^ z→z≤24→1≤t→t≤8→2 ^ (t - 1)≤k→k<2 ^ t→z+t≤32∧2147483648≤v * 2 ^ (32 - (z+t))∧v * 2 ^ (32 - (z+t))<4294967296:=by
  intro z k rest t hvk hr hz t1 t2 a b
  refine ⟨by omega,?_,?_⟩
  ·have:2 ^ (z+(t - 1))≤v:=by
    rw [hvk,Nat.pow_add,Nat.mul_comm]
    exact Nat.le_trans (Nat.mul_le_mul_right _ a) (Nat.le_add_right _ _)
   have h:=Nat.mul_le_mul_right (2 ^ (32 - (z+t))) this
   rw [← Nat.pow_add,show z+(t - 1)+(32 - (z+t))=31 by omega] at h
   exact h
  ·have:v<2 ^ (z+t):=by
    rw [hvk,Nat.pow_add,Nat.mul_comm (2 ^ z)]
    have:(k+1) * 2 ^ z≤2 ^ t * 2 ^ z:=Nat.mul_le_mul_right _ b
    rw [Nat.add_mul,Nat.one_mul] at this
    omega
   have h:=Nat.mul_lt_mul_of_pos_right this (show 0<2 ^ (32 - (z+t)) from Nat.pow_pos (by decide))
   rw [← Nat.pow_add,show z+t+(32 - (z+t))=32 by omega] at h
   exact h
 by_cases c1:65536≤v
 ·rw [dec_t (show (65536:Int)≤(v:Int) by omega),cond_true,chk_d (by omega),show (16:Int)=((16:Nat):Int) from rfl,shrN (by omega)]
  simp only [Option.bind_some]
  rw [show (2:Nat) ^ 16=65536 by decide]
  by_cases c2:256≤v / 65536
  ·rw [dec_t (show (256:Int)≤((v / 65536:Nat):Int) by omega),cond_true,chk_d (by omega),show (8:Int)=((8:Nat):Int) from rfl,shrN (by omega)]
   simp only [Option.bind_some]
   rw [show (2:Nat) ^ 8=256 by decide,show w64 (((16:Nat):Int)+((8:Nat):Int))=((24:Nat):Int) by rw [w64_id (by omega) (by omega)]; rfl]
   exact key (v / 65536 / 256) 24 (by omega) (by omega) (fun t a b c d=>pw 24 _ (v % 16777216) t (by rw [show (2:Nat) ^ 24=16777216 by decide]; omega) (by rw [show (2:Nat) ^ 24=16777216 by decide]; omega) (by omega) a b c d) (by omega)
  ·rw [dec_f (show ¬ (256:Int)≤((v / 65536:Nat):Int) by omega),cond_false]
   simp only [Option.bind_some]
   exact key (v / 65536) 16 (by omega) (by omega) (fun t a b c d=>pw 16 _ (v % 65536) t (by rw [show (2:Nat) ^ 16=65536 by decide]; omega) (by rw [show (2:Nat) ^ 16=65536 by decide]; omega) (by omega) a b c d) (by omega)
 ·rw [dec_f (show ¬ (65536:Int)≤(v:Int) by omega),cond_false]
  simp only [Option.bind_some]
  by_cases c2:256≤v
  ·rw [dec_t (show (256:Int)≤(v:Int) by omega),cond_true,chk_d (by omega),show (8:Int)=((8:Nat):Int) from rfl,shrN (by omega)]
   simp only [Option.bind_some]
   rw [show (2:Nat) ^ 8=256 by decide,show w64 ((0:Int)+((8:Nat):Int))=((8:Nat):Int) by rw [w64_id (by omega) (by omega)]; rfl]
   exact key (v / 256) 8 (by omega) (by omega) (fun t a b c d=>pw 8 _ (v % 256) t (by rw [show (2:Nat) ^ 8=256 by decide]; omega) (by rw [show (2:Nat) ^ 8=256 by decide]; omega) (by omega) a b c d) (by omega)
  ·rw [dec_f (show ¬ (256:Int)≤(v:Int) by omega),cond_false]
   simp only [Option.bind_some]
   exact key v 0 (by omega) (by omega) (fun t a b c d=>pw 0 _ 0 t (by simp) (by simp) (by omega) a b c d) (by omega)
end Go.Proofs.YtknnphhepnbaoaaGreatDoor
namespace Go.Proofs.YtknnphhepnbaoaaGreatDoor
open Go.Sm
theorem nat32_zero : ∀ n,nat32 (List.replicate n (0:Int))=0:=fun n=>by
 induction n with
 | zero=>rfl
 | succ n ih=>rw [List.replicate_succ]; simp only [nat32,ih,Int.toNat_zero,Nat.mul_zero]
theorem shl64 {a s:Nat} (ha:a<4294967296) (hs:s≤31):shlI .u64 (IntKind.u64.wrap (a:Int)) (s:Int)=((a * 2 ^ s:Nat):Int)∧a * 2 ^ s<9223372036854775808:=by
 have h1:(2:Nat) ^ s≤2147483648:=by
  have:=Nat.pow_le_pow_right (n:=2) (by decide) hs
  exact this
 have h2:a * 2 ^ s<9223372036854775808:=by
  have:a * 2 ^ s≤4294967295 * 2147483648:=Nat.mul_le_mul (by omega) h1
  have e:(4294967295:Nat) * 2147483648=9223372034707292160:=by decide
  omega
 refine ⟨?_,h2⟩
 have e1:IntKind.u64.wrap (a:Int)=(a:Int):=by rw [IntKind.wrap_u64]; omega
 rw [e1]
 show IntKind.u64.wrap ((a:Int) * 2 ^ (min (s:Int).toNat 64))=_
 rw [Int.toNat_natCast,Nat.min_eq_left (by omega),show ((a:Int) * 2 ^ s)=((a * 2 ^ s:Nat):Int) by rw [Int.natCast_mul,Int.natCast_pow]; rfl]
 generalize a * 2 ^ s=p at *
 rw [IntKind.wrap_u64]; omega
theorem or_add {c m s:Nat} (hc:c<2 ^ s):c ||| (2 ^ s * m)=c+2 ^ s * m:=by
 have:=Nat.two_pow_add_eq_or_of_lt hc m
 rw [Nat.or_comm,← this,Nat.add_comm]
theorem pow32 {s:Nat} (hs:s≤31):2 ^ s * 2 ^ (32 - s)=4294967296:=by
 rw [← Nat.pow_add,show s+(32 - s)=32 by omega]
theorem ratio_shift_eq {x:List Int} {s:Nat} (hx:limbs x) (hn:x.length≤1000000) (hs:s≤31) :
  ∃ z,ratio_shift x (s:Int)=some z∧limbs z∧z.length=x.length+1∧nat32 z=nat32 x * 2 ^ s:=by
 obtain ⟨B,hB⟩ : ∃ B:Nat,B=4294967296:=⟨_,rfl⟩
 have hw:w64 ((x.length:Int)+1)=((x.length+1:Nat):Int):=by rw [w64_id (by omega) (by omega)]; omega
 obtain ⟨P,hP⟩ : ∃ P:Nat,P=2 ^ s:=⟨_,rfl⟩
 have hP0:1≤P:=by rw [hP]; exact Nat.pow_pos (by decide)
 have hPB:P * 2 ^ (32 - s)=B:=by rw [hP,hB]; exact pow32 hs
 have h:=it_inv (f:=ratio_shift_loop1 x (s:Int)) (fun st=>x.length - st.2.toNat)
  (fun st=>limbs st.1∧st.1.length=x.length+1∧∃ k c:Nat,st.2=(k:Int)∧k≤x.length∧st.1[k]? = some (c:Int)∧c<P∧nat32 st.1=nat32 (x.take k) * P∧∀ j,k<j→j<x.length+1→st.1[j]? = some 0)
  (fun z=>limbs z∧z.length=x.length+1∧nat32 z=nat32 x * P)
  (fun st hst=>by
   obtain ⟨o,kk⟩:=st
   obtain ⟨h1,h2,k,c,h3,h4,h5,h6,h7,h8⟩:=hst
   simp only at h1 h2 h3 h5 h7 h8
   subst h3
   unfold ratio_shift_loop1
   simp only
   by_cases hk:k<x.length
   ·right
    obtain ⟨a,ha,ha2⟩:=at_of_lt hx hk
    obtain ⟨m1,m2⟩:=shl64 ha2 hs
    have hw2:w64 ((k:Int)+1)=((k+1:Nat):Int):=by rw [w64_id (by omega) (by omega)]; omega
    have h0:=h8 (k+1) (by omega) (by omega)
    rw [dec_t (show (k:Int)<(x.length:Int) by omega),idx_nat ha]
    simp only [cond_true,Option.bind_some]
    rw [chk_d (by omega),idx_nat h5]
    simp only [Option.bind_some]
    rw [chk_d (by omega),hw2,m1,low32 (by omega),shr32]
    rw [← hP] at m2 ⊢
    have hmod:a * P % 4294967296=P * (a % 2 ^ (32 - s)):=by
     rw [← hB,← hPB,Nat.mul_comm a P,Nat.mul_mod_mul_left]
    have hor:bitI .or .u32 (c:Int) ((a * P % 4294967296:Nat):Int)=((c+a * P % 4294967296:Nat):Int):=by
     have hcB:c<4294967296:=by
      have:P≤B:=by rw [← hPB]; exact Nat.le_mul_of_pos_right _ (Nat.pow_pos (by decide))
      omega
     rw [or32 hcB (Nat.mod_lt _ (by decide)),hmod]
     congr 1
     rw [hP]
     exact or_add (by rw [← hP]; exact h6)
    have hlo:c+a * P % 4294967296<4294967296:=by
     rw [hmod,← hB,← hPB]
     have:a % 2 ^ (32 - s)+1≤2 ^ (32 - s):=Nat.mod_lt _ (Nat.pow_pos (by decide))
     have h9:=Nat.mul_le_mul_left P this
     rw [Nat.mul_add,Nat.mul_one] at h9
     omega
    have hhi:a * P / 4294967296<P:=by
     apply Nat.div_lt_of_lt_mul
     exact Nat.mul_lt_mul_of_pos_right ha2 (by omega)
    have hPlt:P≤4294967296:=by
     rw [← hB,← hPB]; exact Nat.le_mul_of_pos_right _ (Nat.pow_pos (by decide))
    rw [hor,show IntKind.u32.wrap ((a * P / 4294967296:Nat):Int)=((a * P / 4294967296:Nat):Int) by rw [IntKind.wrap_u32]; omega]
    simp only [Int.toNat_natCast]
    have h0' : (o.set k ((c+a * P % 4294967296:Nat):Int))[k+1]? = some 0:=by rw [List.getElem?_set_ne (by omega)]; exact h0
    rw [idx_nat h0']
    simp only [Option.bind_some]
    have hset:=nat32_set hB (v:=((c+a * P % 4294967296:Nat):Int)) h5
    have hset2:=nat32_set hB (v:=((a * P / 4294967296:Nat):Int)) h0'
    have hxk:=nat32_B hB ha
    have hl1:=limbs_set h1 (j:=k) (v:=((c+a * P % 4294967296:Nat):Int)) (by omega) (by omega)
    refine ⟨_,rfl,⟨limbs_set hl1 (by omega) (by omega),by simp [h2],k+1,a * P / 4294967296,rfl,by omega,?_,hhi,?_,fun j j1 j2=>?_⟩,by simp only [Int.toNat_natCast]; omega⟩
    ·simp only; rw [List.getElem?_set_self (by simp; omega)]
    ·simp only [Int.toNat_natCast,Int.toNat_zero,Nat.mul_zero,Nat.add_zero] at hset hset2 hxk ⊢
     rw [hset2,hxk,Nat.add_mul,← h7]
     have hdm:a * P % 4294967296+B * (a * P / 4294967296)=a * P:=by rw [hB]; omega
     have e1:B ^ (k+1) * (a * P / 4294967296)=B ^ k * (B * (a * P / 4294967296)):=by rw [Nat.pow_succ,Nat.mul_assoc]
     rw [e1,Nat.mul_assoc (B ^ k) a P]
     generalize a * P % 4294967296=lo at *
     generalize a * P / 4294967296=hi at *
     generalize a * P=T at *
     generalize B ^ k=D at *
     have e3:D * lo+D * (B * hi)=D * T:=by rw [← Nat.mul_add,hdm]
     rw [Nat.mul_add] at hset
     omega
    ·simp only
     rw [List.getElem?_set_ne (by omega),List.getElem?_set_ne (by omega)]
     exact h8 j (by omega) j2
   ·left
    have hk2:k=x.length:=by omega
    subst hk2
    rw [dec_f (show ¬ ((x.length:Int)<(x.length:Int)) by omega),cond_false]
    rw [List.take_length] at h7
    exact ⟨_,rfl,h1,h2,h7⟩)
  (s:=(List.replicate (x.length+1) 0,0)) ⟨fun z hz=>by rw [(List.mem_replicate.1 hz).2]; omega,by simp,0,0,rfl,by omega,by simp only; rw [List.getElem?_replicate,if_pos (by omega)]; rfl,by omega,by simp [nat32,nat32_zero],fun j _ hj=>by simp only; rw [List.getElem?_replicate,if_pos hj]⟩ (by simp only; omega)
 obtain ⟨z,h1,h2,h3,h4⟩:=h
 refine ⟨z,?_,h2,h3,by rw [h4,hP]⟩
 unfold ratio_shift
 rw [hw,chk_d ⟨by omega,by omega,by simp only [maxLen]; omega⟩,Int.toNat_natCast,h1]
 rfl
theorem shl32m {a s:Nat} (hs:s≤31) (hs1:1≤s):shlI .u32 (a:Int) ((32 - s:Nat):Int)=((2 ^ (32 - s) * (a % 2 ^ s):Nat):Int):=by
 show IntKind.u32.wrap ((a:Int) * 2 ^ (min ((32 - s:Nat):Int).toNat 32))=_
 rw [Int.toNat_natCast,Nat.min_eq_left (by omega),show ((a:Int) * 2 ^ (32 - s))=((a * 2 ^ (32 - s):Nat):Int) by rw [Int.natCast_mul,Int.natCast_pow]; rfl]
 rw [IntKind.wrap_u32]
 have h:a * 2 ^ (32 - s) % 4294967296=2 ^ (32 - s) * (a % 2 ^ s):=by
  rw [← pow32 hs,Nat.mul_comm (2 ^ s),Nat.mul_comm a,Nat.mul_mod_mul_left]
 rw [← h]
 omega
theorem ratio_back_eq {x:List Int} {s:Nat} (hx:limbs x) (hn:x.length≤1000000) (hs:s≤31) :
  ∃ z,ratio_back x (s:Int)=some z∧canon z∧z.length≤x.length∧nat32 z=nat32 x / 2 ^ s:=by
 obtain ⟨B,hB⟩ : ∃ B:Nat,B=4294967296:=⟨_,rfl⟩
 obtain ⟨P,hP⟩ : ∃ P:Nat,P=2 ^ s:=⟨_,rfl⟩
 obtain ⟨Q,hQ⟩ : ∃ Q:Nat,Q=2 ^ (32 - s):=⟨_,rfl⟩
 have hP0:1≤P:=by rw [hP]; exact Nat.pow_pos (by decide)
 have hPB:P * Q=B:=by rw [hP,hB,hQ]; exact pow32 hs
 have h:=it_inv (f:=ratio_back_loop1 x (s:Int)) (fun st=>x.length - st.2.toNat)
  (fun st=>limbs st.1∧st.1.length=x.length∧∃ k:Nat,st.2=(k:Int)∧k≤x.length∧P * nat32 st.1+limbAt x 0 % P=nat32 (x.take k)+B ^ k * (limbAt x k % P)∧∀ j,k≤j→j<x.length→st.1[j]? = some 0)
  (fun z=>limbs z∧z.length=x.length∧P * nat32 z+limbAt x 0 % P=nat32 x)
  (fun st hst=>by
   obtain ⟨o,kk⟩:=st
   obtain ⟨h1,h2,k,h3,h4,h5,h6⟩:=hst
   simp only at h1 h2 h3 h5 h6
   subst h3
   unfold ratio_back_loop1
   simp only
   by_cases hk:k<x.length
   ·right
    obtain ⟨a,ha,ha2⟩:=at_of_lt hx hk
    have hak:limbAt x k=a:=by unfold limbAt; rw [List.getD_eq_getElem?_getD,ha]; simp
    have hw2:w64 ((k:Int)+1)=((k+1:Nat):Int):=by rw [w64_id (by omega) (by omega)]; omega
    have h0:=h6 k (Nat.le_refl _) hk
    have hb2:=limbAt_lt hx (k+1)
    have hxk:=nat32_takeAt hB x k
    rw [hak] at hxk h5
    have haQ:a / P<Q:=by
     apply Nat.div_lt_of_lt_mul
     rw [hPB,hB]; exact ha2
    have hQB:Q≤B:=by rw [← hPB]; exact Nat.le_mul_of_pos_left _ (by omega)
    have hval:(((
      (idx x (k:Int)).bind fun _=>
      (idx x (k:Int)).bind fun v5=>
      chk (decide (0≤(s:Int))) (
       (idx o (k:Int)).bind fun _=>
       (idx o (k:Int)).bind fun _=>
       bif bif decide ((w64 ((k:Int)+(1:Int)))<(x.length:Int)) then decide ((0:Int)<(s:Int)) else false then
        (idx (o.set (k:Int).toNat (shrI .u32 v5 (s:Int))) (k:Int)).bind fun _=>
        (idx (o.set (k:Int).toNat (shrI .u32 v5 (s:Int))) (k:Int)).bind fun v9=>
        (idx x (w64 ((k:Int)+(1:Int)))).bind fun _=>
        (idx x (w64 ((k:Int)+(1:Int)))).bind fun v11=>
        chk (decide (0≤(w64 ((32:Int) - (s:Int))))) (
         (idx (o.set (k:Int).toNat (shrI .u32 v5 (s:Int))) (k:Int)).bind fun _=>
         (idx (o.set (k:Int).toNat (shrI .u32 v5 (s:Int))) (k:Int)).bind fun _=>
         some ((o.set (k:Int).toNat (shrI .u32 v5 (s:Int))).set (k:Int).toNat (bitI .or .u32 v9 (shlI .u32 v11 (w64 ((32:Int) - (s:Int)))))))
       else
        some (o.set (k:Int).toNat (shrI .u32 v5 (s:Int))))):Option (List Int)))=some (o.set k ((a / P+Q * (limbAt x (k+1) % P):Nat):Int)):=by
     rw [idx_nat ha]
     simp only [Option.bind_some]
     rw [chk_d (by omega),idx_nat h0]
     simp only [Option.bind_some]
     rw [hw2,shrN hs,← hP]
     by_cases hk1:k+1<x.length
     ·obtain ⟨b,hb,hb3⟩:=at_of_lt hx hk1
      have hbk:limbAt x (k+1)=b:=by unfold limbAt; rw [List.getD_eq_getElem?_getD,hb]; simp
      rw [dec_t (show ((k+1:Nat):Int)<(x.length:Int) by omega),cond_true,hbk]
      by_cases hs0:1≤s
      ·have hget:(o.set k ((a / P:Nat):Int))[k]? = some ((a / P:Nat):Int):=by rw [List.getElem?_set_self (by omega)]
       rw [dec_t (show (0:Int)<(s:Int) by omega),cond_true]
       simp only [Int.toNat_natCast]
       rw [idx_nat hget,idx_nat hb]
       simp only [Option.bind_some]
       have hw3:w64 ((32:Int) - (s:Int))=((32 - s:Nat):Int):=by rw [w64_id (by omega) (by omega)]; omega
       rw [hw3,chk_d (by omega),shl32m hs hs0,← hP,← hQ]
       have hbm:Q * (b % P)<4294967296:=by
        have:b % P+1≤P:=Nat.mod_lt _ (by omega)
        have:=Nat.mul_le_mul_left Q this
        rw [Nat.mul_comm Q P,hPB,hB,Nat.mul_add] at this
        have hQ0:1≤Q:=by rw [hQ]; exact Nat.pow_pos (by decide)
        omega
       rw [or32 (by omega) hbm,show a / P ||| Q * (b % P)=a / P+Q * (b % P) by rw [hQ]; exact or_add (by rw [← hQ]; exact haQ)]
       congr 1
       rw [List.set_set]
      ·have hs1:s=0:=by omega
       have hP1:P=1:=by rw [hP,hs1]
       rw [dec_f (show ¬ (0:Int)<(s:Int) by omega),cond_false,hP1,Nat.mod_one,Nat.mul_zero,Nat.add_zero]
       simp only [Int.toNat_natCast]
     ·have hbk:limbAt x (k+1)=0:=by unfold limbAt; rw [List.getD_eq_getElem?_getD,List.getElem?_eq_none (by omega)]; rfl
      rw [dec_f (show ¬ ((k+1:Nat):Int)<(x.length:Int) by omega),cond_false,cond_false,hbk,Nat.zero_mod,Nat.mul_zero,Nat.add_zero]
      simp only [Int.toNat_natCast]
    rw [dec_t (show (k:Int)<(x.length:Int) by omega),cond_true,hval]
    simp only [Option.bind_some]
    rw [hw2]
    have hset:=nat32_set hB (v:=((a / P+Q * (limbAt x (k+1) % P):Nat):Int)) h0
    have hlt:a / P+Q * (limbAt x (k+1) % P)<4294967296:=by
     have h7:limbAt x (k+1) % P+1≤P:=Nat.mod_lt _ (by omega)
     have:=Nat.mul_le_mul_left Q h7
     rw [Nat.mul_comm Q P,hPB,hB,Nat.mul_add,Nat.mul_one] at this
     omega
    refine ⟨_,rfl,⟨limbs_set h1 (Int.natCast_nonneg _) (Int.ofNat_lt.2 hlt),by rw [List.length_set]; exact h2,k+1,rfl,by omega,?_,fun j j1 j2=>?_⟩,by simp only [Int.toNat_natCast]; omega⟩
    ·simp only [Int.toNat_natCast,Int.toNat_zero,Nat.mul_zero,Nat.add_zero] at hset ⊢
     rw [hset,hxk,Nat.mul_add]
     have hda:P * (a / P)+a % P=a:=Nat.div_add_mod a P
     generalize limbAt x (k+1) % P=m at *
     generalize a / P=q at *
     generalize a % P=r at *
     have e1:P * (B ^ k * (q+Q * m))=B ^ k * (P * q)+B ^ k * (B * m):=by
      rw [← hPB,Nat.mul_add,Nat.mul_add,Nat.mul_left_comm P,Nat.mul_left_comm P,Nat.mul_assoc P Q m]
     have e2:B ^ (k+1) * m=B ^ k * (B * m):=by rw [Nat.pow_succ,Nat.mul_assoc]
     have e3:B ^ k * a=B ^ k * (P * q)+B ^ k * r:=by rw [← Nat.mul_add,hda]
     rw [e1,e2,e3]
     omega
    ·simp only
     rw [List.getElem?_set_ne (by omega)]
     exact h6 j (by omega) j2
   ·left
    have hk2:k=x.length:=by omega
    subst hk2
    rw [dec_f (show ¬ ((x.length:Int)<(x.length:Int)) by omega),cond_false]
    have hz:limbAt x x.length=0:=by unfold limbAt; rw [List.getD_eq_getElem?_getD,List.getElem?_eq_none (by omega)]; rfl
    rw [List.take_length,hz,Nat.zero_mod,Nat.mul_zero,Nat.add_zero] at h5
    exact ⟨_,rfl,h1,h2,h5⟩)
  (s:=(List.replicate x.length 0,0)) ⟨fun z hz=>by rw [(List.mem_replicate.1 hz).2]; omega,by simp,0,rfl,by omega,by simp [nat32,nat32_zero],fun j _ hj=>by simp only; rw [List.getElem?_replicate,if_pos hj]⟩ (by simp only; omega)
 obtain ⟨z,h1,h2,h3,h4⟩:=h
 have hl:=trimL_len z
 refine ⟨trimL z,?_,trimL_canon h2,by omega,?_⟩
 ·unfold ratio_back
  rw [chk_d ⟨by omega,by omega,by simp only [maxLen]; omega⟩,Int.toNat_natCast,h1]
  simp only [Option.bind_some]
  rw [ratio_trim_eq (by show z.length<_; omega)]
  rfl
 ·rw [trimL_nat,← h4,← hP]
  have hr:limbAt x 0 % P<P:=Nat.mod_lt _ (by omega)
  rw [Nat.mul_add_div (by omega),Nat.div_eq_of_lt hr,Nat.add_zero]
end Go.Proofs.YtknnphhepnbaoaaGreatDoor
namespace Go.Proofs.YtknnphhepnbaoaaGreatDoor
open Go.Sm
theorem limbAt_of {l:List Int} {k a:Nat} (h:l[k]? = some (a:Int)):limbAt l k=a:=by
 unfold limbAt; rw [List.getD_eq_getElem?_getD,h]; simp
theorem subtract_loop {B:Nat} (hB:B=4294967296) {u v:List Int} {k q:Nat} {hi:Int} (hu:limbs u) (hv:limbs v) (hq:q<4294967296) (hhi:hi=((k+v.length+1:Nat):Int)) (hlen:k+v.length+1≤u.length) (hs:u.length≤1000000) :
  ∃ r:Int×Int×List Int,Itr.it (ratio_subtract_loop1 (u,(k:Int),hi) v (q:Int)) (0,0,0,u)=some r∧limbs r.2.2∧r.2.2.length=u.length ∧
   (∃ c b:Nat,r.1=(c:Int)∧c<4294967296∧r.2.1=(b:Int)∧b≤1∧nat32 r.2.2+B ^ k * (q * nat32 v)=nat32 u+B ^ (k+v.length) * (c+b))∧∀ j,(j<k∨k+v.length≤j)→r.2.2[j]? = u[j]? := by
 refine it_inv (f:=ratio_subtract_loop1 (u,(k:Int),hi) v (q:Int)) (fun s=>v.length - s.2.2.1.toNat)
  (fun s=>limbs s.2.2.2∧s.2.2.2.length=u.length∧∃ i c b:Nat,s.2.2.1=(i:Int)∧i≤v.length∧s.1=(c:Int)∧c<4294967296∧s.2.1=(b:Int)∧b≤1 ∧
   nat32 s.2.2.2+B ^ k * (q * nat32 (v.take i))=nat32 u+B ^ (k+i) * (c+b)∧∀ j,(j<k∨k+i≤j)→s.2.2.2[j]? = u[j]?)
  _ (fun s hs' => ?_) (s:=(0,0,0,u)) ⟨hu,rfl,0,0,0,rfl,by omega,rfl,by omega,rfl,by omega,by simp [nat32],fun _ _=>rfl⟩ (by simp only; omega)
 obtain ⟨cr,bo,ii,w⟩:=s
 obtain ⟨h1,h2,i,c,b,h3,h4,h5,h6,h7,h8,h9,h10⟩:=hs'
 simp only at h1 h2 h3 h5 h7 h9 h10
 subst h3 h5 h7
 unfold ratio_subtract_loop1
 simp only
 by_cases hk:i<v.length
 ·right
  obtain ⟨a,ha,ha2⟩:=at_of_lt hv hk
  obtain ⟨x,hx,hx2⟩:=at_of_lt h1 (show k+i<w.length by omega)
  obtain ⟨m1,m2⟩:=mac hq ha2 (c:=0) (by omega) h6
  have hw2:w64 ((i:Int)+1)=((i+1:Nat):Int):=by rw [w64_id (by omega) (by omega)]; omega
  have hqa:IntKind.u64.wrap ((q:Int) * (IntKind.u64.wrap (a:Int)))=((q * a:Nat):Int)∧q * a+c<18446744073709551616:=by
   have hab:q * a≤4294967295 * 4294967295:=Nat.mul_le_mul (by omega) (by omega)
   have e0:(4294967295:Nat) * 4294967295=18446744065119617025:=by decide
   rw [e0] at hab
   refine ⟨?_,by omega⟩
   rw [show IntKind.u64.wrap (a:Int)=(a:Int) by rw [IntKind.wrap_u64]; omega,← Int.natCast_mul]
   generalize q * a=p at *
   rw [IntKind.wrap_u64]; omega
  rw [dec_t (show (i:Int)<(v.length:Int) by omega),idx_nat ha]
  simp only [cond_true,Option.bind_some]
  rw [chk_d (by omega),hqa.1,show IntKind.u64.wrap (((q * a:Nat):Int)+(c:Int))=((q * a+c:Nat):Int) by
   have:=hqa.2
   generalize q * a=p at *
   rw [IntKind.wrap_u64]; omega]
  rw [chk_d (by rw [hhi]; omega),show (k:Int)+(i:Int)=((k+i:Nat):Int) by omega,idx_nat hx]
  simp only [Option.bind_some]
  rw [low32 hqa.2,shr32]
  have hT:=hqa.2
  generalize hTe:q * a+c=T at *
  obtain ⟨d,b',e1,e2,e3,e4⟩:=sub32_eq (x:=x) (y:=T % 4294967296) (c:=b) hx2 (Nat.mod_lt _ (by decide)) h8
  rw [e1]
  simp only [Option.bind_some]
  rw [chk_d (by rw [hhi]; omega),hw2]
  simp only [Int.toNat_natCast]
  have hset:=nat32_set hB (v:=(d:Int)) hx
  have hva:=nat32_B hB ha
  have hTq:T / 4294967296<4294967296:=by omega
  refine ⟨_,rfl,⟨limbs_set h1 (by omega) (by omega),by rw [List.length_set]; exact h2,i+1,T / 4294967296,b',rfl,by omega,rfl,hTq,rfl,e3,?_,fun j hj=>?_⟩,by simp only [Int.toNat_natCast]; omega⟩
  ·simp only [Int.toNat_natCast] at hset hva ⊢
   rw [hva,Nat.mul_add q,Nat.mul_add (B ^ k)]
   have q1:B ^ k * (q * (B ^ i * a))=B ^ (k+i) * (q * a):=by
    rw [Nat.pow_add,Nat.mul_left_comm q,Nat.mul_assoc (B ^ k)]
   have q2:B ^ (k+(i+1)) * (T / 4294967296+b')=B ^ (k+i) * (B * (T / 4294967296)+B * b'):=by
    rw [← Nat.add_assoc,Nat.pow_succ,Nat.mul_assoc,Nat.mul_add B]
   rw [q1,q2]
   have hdm:T % 4294967296+B * (T / 4294967296)=T:=by rw [hB]; omega
   generalize T % 4294967296=lo at *
   generalize T / 4294967296=hi' at *
   generalize nat32 (w.set (k+i) (d:Int))=N' at *
   generalize B ^ k * (q * nat32 (v.take i))=M at *
   rw [Nat.mul_add] at h9
   have key:B ^ (k+i) * (d+q * a+b)+B ^ (k+i) * c=B ^ (k+i) * (x+B * hi' + B * b'):=by
    rw [← Nat.mul_add]
    congr 1
    have:B * b' = 4294967296 * b' := by rw [hB]
    omega
   simp only [Nat.mul_add] at key ⊢
   omega
  ·simp only
   rw [List.getElem?_set_ne (by omega)]
   exact h10 j (by omega)
 ·left
  have hk2:i=v.length:=by omega
  subst hk2
  rw [dec_f (show ¬ ((v.length:Int)<(v.length:Int)) by omega),cond_false]
  rw [List.take_length] at h9
  exact ⟨_,rfl,h1,h2,⟨c,b,rfl,h6,rfl,h8,h9⟩,h10⟩
theorem ratio_subtract_eq {B:Nat} (hB:B=4294967296) {u v:List Int} {k q:Nat} {hi:Int} (hu:limbs u) (hv:limbs v) (hq:q<4294967296) (hhi:hi=((k+v.length+1:Nat):Int)) (hlen:k+v.length+1≤u.length) (hs:u.length≤1000000) :
  ∃ (b:Nat) (w:List Int),ratio_subtract (u,(k:Int),hi) v (q:Int)=some (decide (b=0),w)∧b≤1∧limbs w∧w.length=u.length∧nat32 w+B ^ k * (q * nat32 v)=nat32 u+B ^ (k+v.length+1) * b ∧
   ∀ j,(j<k∨k+v.length+1≤j)→w[j]? = u[j]? := by
 obtain ⟨r,e1,e2,e3,⟨c,b,e4,e5,e6,e7,e8⟩,e9⟩:=subtract_loop hB hu hv hq hhi hlen hs
 obtain ⟨x,hx,hx2⟩:=at_of_lt e2 (show k+v.length<r.2.2.length by omega)
 obtain ⟨d,b',g1,g2,g3,g4⟩:=sub32_eq (x:=x) (y:=c) (c:=b) hx2 e5 e7
 have hset:=nat32_set hB (v:=(d:Int)) hx
 refine ⟨b',r.2.2.set (k+v.length) (d:Int),?_,g3,limbs_set e2 (by omega) (by omega),by rw [List.length_set]; exact e3,?_,fun j hj=>?_⟩
 ·unfold ratio_subtract
  simp only
  rw [e1]
  simp only [Option.bind_some]
  rw [chk_d (by rw [hhi]; omega),show (k:Int)+(v.length:Int)=((k+v.length:Nat):Int) by omega,idx_nat hx]
  simp only [Option.bind_some]
  rw [e4,e6,show IntKind.u32.wrap (c:Int)=(c:Int) by rw [IntKind.wrap_u32]; omega,g1]
  simp only [Option.bind_some]
  rw [chk_d (by rw [hhi]; omega)]
  simp only [Int.toNat_natCast]
  congr 2
  by_cases h0:b' = 0
  ·subst h0; rfl
  ·rw [decide_eq_false h0,beq_eq_false_iff_ne]; omega
 ·simp only [Int.toNat_natCast] at hset
  have q2:B ^ (k+v.length+1) * b' = B ^ (k+v.length) * (B * b'):=by rw [Nat.pow_succ,Nat.mul_assoc]
  rw [q2]
  generalize nat32 (r.2.2.set (k+v.length) (d:Int))=N' at *
  have key:B ^ (k+v.length) * d+B ^ (k+v.length) * (c+b)=B ^ (k+v.length) * x+B ^ (k+v.length) * (B * b'):=by
   rw [← Nat.mul_add,← Nat.mul_add]
   congr 1
   have:B * b' = 4294967296 * b' := by rw [hB]
   omega
  omega
 ·rw [List.getElem?_set_ne (by omega)]
  exact e9 j (by omega)
theorem addback_loop {B:Nat} (hB:B=4294967296) {u v o:List Int} {k:Nat} (w0:List Int) (hu:limbs u) (hv:limbs v) (hlen:k+v.length+1≤u.length) (hs:u.length≤1000000) :
  ∃ r:List Int×Int,Itr.it (ratio_divide_loop3 v (w0,o,(k:Int))) (u,0,0)=some r∧limbs r.1∧r.1.length=u.length ∧
   (∃ c:Nat,r.2=(c:Int)∧c≤1∧nat32 r.1+B ^ (k+v.length) * c=nat32 u+B ^ k * nat32 v)∧∀ j,(j<k∨k+v.length≤j)→r.1[j]? = u[j]? := by
 refine it_inv (f:=ratio_divide_loop3 v (w0,o,(k:Int))) (fun s=>v.length - s.2.2.toNat)
  (fun s=>limbs s.1∧s.1.length=u.length∧∃ i c:Nat,s.2.2=(i:Int)∧i≤v.length∧s.2.1=(c:Int)∧c≤1 ∧
   nat32 s.1+B ^ (k+i) * c=nat32 u+B ^ k * nat32 (v.take i)∧∀ j,(j<k∨k+i≤j)→s.1[j]? = u[j]?)
  _ (fun s hs' => ?_) (s:=(u,0,0)) ⟨hu,rfl,0,0,rfl,by omega,rfl,by omega,by simp [nat32],fun _ _=>rfl⟩ (by simp only; omega)
 obtain ⟨w,cr,ii⟩:=s
 obtain ⟨h1,h2,i,c,h3,h4,h5,h6,h9,h10⟩:=hs'
 simp only at h1 h2 h3 h5 h9 h10
 subst h3 h5
 unfold ratio_divide_loop3
 simp only
 by_cases hk:i<v.length
 ·right
  obtain ⟨a,ha,ha2⟩:=at_of_lt hv hk
  obtain ⟨x,hx,hx2⟩:=at_of_lt h1 (show k+i<w.length by omega)
  have hw2:w64 ((i:Int)+1)=((i+1:Nat):Int):=by rw [w64_id (by omega) (by omega)]; omega
  have hw3:w64 ((k:Int)+(i:Int))=((k+i:Nat):Int):=by rw [w64_id (by omega) (by omega)]; omega
  rw [dec_t (show (i:Int)<(v.length:Int) by omega),idx_nat ha,hw3,idx_nat hx]
  simp only [cond_true,Option.bind_some]
  rw [add32_eq hx2 ha2 h6]
  simp only [Option.bind_some]
  rw [hw2]
  simp only [Int.toNat_natCast]
  have hset:=nat32_set hB (v:=(((x+a+c) % 4294967296:Nat):Int)) hx
  have hva:=nat32_B hB ha
  generalize hT:x+a+c=T at *
  have hdm:T % 4294967296+B * (T / 4294967296)=T:=by rw [hB]; omega
  refine ⟨_,rfl,⟨limbs_set h1 (by omega) (by omega),by rw [List.length_set]; exact h2,i+1,T / 4294967296,rfl,by omega,rfl,by omega,?_,fun j hj=>?_⟩,by simp only [Int.toNat_natCast]; omega⟩
  ·simp only [Int.toNat_natCast] at hset hva ⊢
   rw [hva,Nat.mul_add]
   have q1:B ^ k * (B ^ i * a)=B ^ (k+i) * a:=by rw [Nat.pow_add,Nat.mul_assoc]
   have q2:B ^ (k+(i+1)) * (T / 4294967296)=B ^ (k+i) * (B * (T / 4294967296)):=by rw [← Nat.add_assoc,Nat.pow_succ,Nat.mul_assoc]
   rw [q1,q2]
   generalize T % 4294967296=lo at *
   generalize T / 4294967296=hi' at *
   generalize nat32 (w.set (k+i) (lo:Int))=N' at *
   have key:B ^ (k+i) * lo+B ^ (k+i) * (B * hi')=B ^ (k+i) * x+B ^ (k+i) * a+B ^ (k+i) * c:=by
    rw [← Nat.mul_add,hdm,← hT,Nat.mul_add,Nat.mul_add]
   omega
  ·simp only
   rw [List.getElem?_set_ne (by omega)]
   exact h10 j (by omega)
 ·left
  have hk2:i=v.length:=by omega
  subst hk2
  rw [dec_f (show ¬ ((v.length:Int)<(v.length:Int)) by omega),cond_false]
  rw [List.take_length] at h9
  exact ⟨_,rfl,h1,h2,⟨c,rfl,h6,h9⟩,h10⟩
theorem est_ge {q v1 top M Vd W:Nat} (h1:q * Vd≤W) (h2:W<(top+1) * M) (h3:v1 * M≤Vd):q * v1≤top:=by
 have h4:q * v1 * M≤q * Vd:=by rw [Nat.mul_assoc]; exact Nat.mul_le_mul_left _ h3
 have h5:q * v1 * M<(top+1) * M:=by omega
 have:=Nat.lt_of_mul_lt_mul_right h5
 omega
theorem est_dec {B F top u3 ru v1 v2 w W Vd z r q:Nat} (hW:W=top * (B * F)+u3 * F+ru) (hru:ru<F) (hV:Vd=v1 * (B * F)+v2 * F+w) (hz:z * v1+r=top) (hc:r * B+u3<z * v2) (hq:q * Vd≤W):q<z:=by
 by_cases h:q<z
 ·exact h
 ·exfalso
  have h1:z * Vd≤q * Vd:=Nat.mul_le_mul_right _ (by omega)
  have h2:z * Vd=z * v1 * (B * F)+z * v2 * F+z * w:=by rw [hV,Nat.mul_add,Nat.mul_add,Nat.mul_assoc,Nat.mul_assoc]
  have h3:(r * B+u3+1) * F≤z * v2 * F:=Nat.mul_le_mul_right _ hc
  have h4:(z * v1+r) * (B * F)=z * v1 * (B * F)+r * (B * F):=Nat.add_mul _ _ _
  have h5:(r * B+u3+1) * F=r * (B * F)+u3 * F+F:=by rw [Nat.add_mul,Nat.add_mul,Nat.one_mul,Nat.mul_assoc]
  rw [← hz,h4] at hW
  generalize z * v1 * (B * F)=a1 at *
  generalize r * (B * F)=a2 at *
  generalize u3 * F=a3 at *
  generalize z * v2 * F=a4 at *
  generalize z * w=a5 at *
  omega
theorem est_brk {B F top u3 ru v1 v2 w W Vd z r q:Nat} (hW:W=top * (B * F)+u3 * F+ru) (hV:Vd=v1 * (B * F)+v2 * F+w) (hw:w<F) (hv2:v2<B) (hz:z * v1+r=top) (hr:B≤r) (hzB:z≤B) (hq:W<(q+1) * Vd):z≤q:=by
 by_cases h:z≤q
 ·exact h
 ·exfalso
  have h1:(q+1) * Vd≤z * Vd:=Nat.mul_le_mul_right _ (by omega)
  have h2:z * Vd=z * v1 * (B * F)+z * (v2 * F+w):=by rw [hV,Nat.add_assoc,Nat.mul_add,Nat.mul_assoc]
  have h3:v2 * F+w≤B * F:=by
   have:(v2+1) * F≤B * F:=Nat.mul_le_mul_right _ hv2
   rw [Nat.add_mul,Nat.one_mul] at this
   omega
  have h4:z * (v2 * F+w)≤r * (B * F):=Nat.mul_le_mul (by omega) h3
  have h5:(z * v1+r) * (B * F)=z * v1 * (B * F)+r * (B * F):=Nat.add_mul _ _ _
  rw [← hz,h5] at hW
  generalize z * v1 * (B * F)=a1 at *
  generalize r * (B * F)=a2 at *
  generalize z * (v2 * F+w)=a3 at *
  generalize u3 * F=a4 at *
  omega
theorem est_end {B F top u3 ru v1 v2 w W Vd z r q:Nat} (hW:W=top * (B * F)+u3 * F+ru) (hV:Vd=v1 * (B * F)+v2 * F+w) (hw:w<F) (hv1:1≤v1) (hz:z * v1+r=top) (hc:z * v2≤r * B+u3) (hzB:z<B) (hq:W<(q+1) * Vd):z≤q+1:=by
 by_cases h:z≤q+1
 ·exact h
 ·exfalso
  have h1:(q+1+1) * Vd≤z * Vd:=Nat.mul_le_mul_right _ (by omega)
  have h2:z * Vd=z * v1 * (B * F)+z * v2 * F+z * w:=by rw [hV,Nat.mul_add,Nat.mul_add,Nat.mul_assoc,Nat.mul_assoc]
  have h3:z * v2 * F≤(r * B+u3) * F:=Nat.mul_le_mul_right _ hc
  have h4:(r * B+u3) * F=r * (B * F)+u3 * F:=by rw [Nat.add_mul,Nat.mul_assoc]
  have h5:(z * v1+r) * (B * F)=z * v1 * (B * F)+r * (B * F):=Nat.add_mul _ _ _
  have h6:z * w≤B * F:=Nat.mul_le_mul (by omega) (by omega)
  have h7:1 * (B * F)≤v1 * (B * F):=Nat.mul_le_mul_right _ hv1
  rw [Nat.one_mul] at h7
  rw [← hz,h5] at hW
  rw [Nat.add_mul (q+1) 1,Nat.one_mul] at h1
  generalize (q+1) * Vd=a0 at *
  generalize z * v1 * (B * F)=a1 at *
  generalize r * (B * F)=a2 at *
  generalize u3 * F=a3 at *
  generalize z * v2 * F=a4 at *
  generalize z * w=a5 at *
  generalize v1 * (B * F)=a6 at *
  generalize v2 * F=a7 at *
  omega
theorem est_top {B F top u3 ru v1 v2 w W Vd:Nat} (hW:W=top * (B * F)+u3 * F+ru) (hV:Vd=v1 * (B * F)+v2 * F+w) (hw:w<F) (hv2:v2<B) (hv1:B≤2 * v1) (hWV:W<Vd * B):top / v1≤B+1:=by
 have h3:v2 * F+w<B * F:=by
  have:(v2+1) * F≤B * F:=Nat.mul_le_mul_right _ hv2
  rw [Nat.add_mul,Nat.one_mul] at this
  omega
 have h4:Vd≤(v1+1) * (B * F):=by rw [Nat.add_mul,Nat.one_mul]; omega
 have h5:Vd * B≤(v1+1) * (B * F) * B:=Nat.mul_le_mul_right _ h4
 have h6:(v1+1) * (B * F) * B=(v1+1) * B * (B * F):=by rw [Nat.mul_assoc,Nat.mul_comm (B * F) B,← Nat.mul_assoc]
 have h7:top * (B * F)<(v1+1) * B * (B * F):=by omega
 have h8:=Nat.lt_of_mul_lt_mul_right h7
 have hv:0<v1∨v1=0:=by omega
 rcases hv with hv | hv
 ·have:top / v1<B+2:=by
   apply Nat.div_lt_of_lt_mul
   rw [Nat.add_mul,Nat.one_mul] at h8
   rw [Nat.mul_add,Nat.mul_comm v1 2]
   omega
  omega
 ·subst hv; simp
end Go.Proofs.YtknnphhepnbaoaaGreatDoor
namespace Go.Proofs.YtknnphhepnbaoaaGreatDoor
open Go.Sm
theorem bindS {α β:Type} (x:α) (f:α→Option β):(some x).bind f=f x:=id (Option.bind_some x f)
theorem quot_loop {B:Nat} (hB:B=4294967296) {u v out:List Int} {k q top u3 ru v1 v2 w W Vd F:Nat} (hn:2≤v.length) (hk:k+v.length<u.length) (hs:u.length≤1000000)
  (a1:v[v.length - 1]? = some (v1:Int)) (a2:v[v.length - 2]? = some (v2:Int)) (a3:u[k+v.length - 2]? = some (u3:Int)) (l1:v1<4294967296) (l2:v2<4294967296) (l3:u3<4294967296)
  (hW:W=top * (B * F)+u3 * F+ru) (hru:ru<F) (hV:Vd=v1 * (B * F)+v2 * F+w) (hw:w<F) (hv1:B≤2 * v1) (hq1:q * Vd≤W) (hq2:W<(q+1) * Vd) (hqB:q<B) (hWV:W<Vd * B) :
  ∃ z:Nat,Itr.it (ratio_divide_loop2 v (u,out,(k:Int))) (((top / v1:Nat):Int),((top % v1:Nat):Int))=some (z:Int)∧q≤z∧z≤q+1∧z<B:=by
 have hv0:1≤v1:=by omega
 have hqt:q≤top / v1:=by
  rw [Nat.le_div_iff_mul_le (by omega)]
  refine est_ge (M:=B * F) hq1 ?_ (by rw [hV]; omega)
  have h3:u3 * F+ru<B * F:=by
   have:(u3+1) * F≤B * F:=Nat.mul_le_mul_right _ (by omega)
   rw [Nat.add_mul,Nat.one_mul] at this
   omega
  rw [hW,Nat.add_mul,Nat.one_mul]
  omega
 have htop:=est_top hW hV hw (by omega) hv1 hWV
 have h:=it_inv (f:=ratio_divide_loop2 v (u,out,(k:Int))) (fun s=>s.1.toNat)
  (fun s=>∃ z r:Nat,s=((z:Int),(r:Int))∧z * v1+r=top∧q≤z∧z≤B+1∧r<4294967296)
  (fun x=>∃ z:Nat,x=(z:Int)∧q≤z∧z≤q+1∧z<B)
  (fun s hs' => by
   obtain ⟨z,r,rfl,h1,h2,h3,h4⟩:=hs'
   have hw1:w64 ((v.length:Int) - (1:Int))=((v.length - 1:Nat):Int):=by rw [w64_id (by omega) (by omega)]; omega
   have hw2:w64 ((v.length:Int) - (2:Int))=((v.length - 2:Nat):Int):=by rw [w64_id (by omega) (by omega)]; omega
   have hw3:w64 ((w64 ((k:Int)+(v.length:Int))) - (2:Int))=((k+v.length - 2:Nat):Int):=by
    rw [w64_id (x:=(k:Int)+(v.length:Int)) (by omega) (by omega),w64_id (by omega) (by omega)]; omega
   have hz64 : ∀ y:Nat,y<18446744073709551616→IntKind.u64.wrap (y:Int)=(y:Int):=fun y hy=>by rw [IntKind.wrap_u64]; omega
   have hdec:1≤z→q<z→(∃ r',((idx v (w64 ((v.length:Int) - (1:Int)))).bind fun _=>
     (idx v (w64 ((v.length:Int) - (1:Int)))).bind fun v31=>
     bif decide ((4294967295:Int)<(IntKind.u64.wrap ((r:Int)+(IntKind.u64.wrap v31)))) then
      some (Sum.inr (IntKind.u64.wrap ((z:Int) - (1:Int))))
     else
      some (Sum.inl (IntKind.u64.wrap ((z:Int) - (1:Int)),IntKind.u64.wrap ((r:Int)+(IntKind.u64.wrap v31)))):Option ((Int×Int)⊕Int))=some (.inr r')∧∃ z:Nat,r' = (z:Int)∧q≤z∧z≤q+1∧z<B) ∨
     ∃ s',((idx v (w64 ((v.length:Int) - (1:Int)))).bind fun _=>
     (idx v (w64 ((v.length:Int) - (1:Int)))).bind fun v31=>
     bif decide ((4294967295:Int)<(IntKind.u64.wrap ((r:Int)+(IntKind.u64.wrap v31)))) then
      some (Sum.inr (IntKind.u64.wrap ((z:Int) - (1:Int))))
     else
      some (Sum.inl (IntKind.u64.wrap ((z:Int) - (1:Int)),IntKind.u64.wrap ((r:Int)+(IntKind.u64.wrap v31)))):Option ((Int×Int)⊕Int))=some (.inl s')∧(∃ z r:Nat,s' = ((z:Int),(r:Int))∧z * v1+r=top∧q≤z∧z≤B+1∧r<4294967296)∧s'.1.toNat<((z:Int),(r:Int)).1.toNat:=by
    intro hz1 hqz
    have hzz:IntKind.u64.wrap ((z:Int) - (1:Int))=((z - 1:Nat):Int):=by rw [IntKind.wrap_u64]; omega
    have hr:IntKind.u64.wrap ((r:Int)+(IntKind.u64.wrap (v1:Int)))=((r+v1:Nat):Int):=by rw [hz64 v1 (by omega),IntKind.wrap_u64]; omega
    have hnew:(z - 1) * v1+(r+v1)=top:=by
     have:z * v1=(z - 1) * v1+v1:=by
      obtain ⟨y,rfl⟩ : ∃ y,z=y+1:=⟨z - 1,by omega⟩
      rw [Nat.add_mul,Nat.one_mul,Nat.add_sub_cancel]
     omega
    rw [hw1,idx_nat a1]
    simp only [Option.bind_some]
    rw [hr,hzz]
    by_cases hb:4294967295<r+v1
    ·left
     rw [dec_t (show (4294967295:Int)<((r+v1:Nat):Int) by omega),cond_true]
     have:=est_brk hW hV hw (show v2<B by omega) hnew (by omega) (by omega) hq2
     exact ⟨_,rfl,z - 1,rfl,by omega,by omega,by omega⟩
    ·right
     rw [dec_f (show ¬ (4294967295:Int)<((r+v1:Nat):Int) by omega),cond_false]
     exact ⟨_,rfl,⟨z - 1,r+v1,rfl,hnew,by omega,by omega,by omega⟩,by simp only [Int.toNat_natCast]; omega⟩
   unfold ratio_divide_loop2
   simp only
   rw [dec_t (show (r:Int)≤(4294967295:Int) by omega)]
   by_cases hbig:4294967295<z
   ·rw [dec_t (show (4294967295:Int)<(z:Int) by omega)]
    simp only [Bool.not_true,Bool.false_and,cond_false,Option.bind_some,Bool.not_false,Bool.true_or,cond_true]
    rw [chk_t rfl]
    exact hdec (by omega) (by omega)
   ·rw [dec_f (show ¬ (4294967295:Int)<(z:Int) by omega)]
    simp only [Bool.not_false,Bool.and_true,cond_true,cond_false,Bool.not_true,Bool.false_or]
    have hj:=join32 (hi:=r) (lo:=u3) h4 l3
    have hzv:IntKind.u64.wrap ((z:Int) * (IntKind.u64.wrap (v2:Int)))=((z * v2:Nat):Int):=by
     have hab:z * v2≤4294967295 * 4294967295:=Nat.mul_le_mul (by omega) (by omega)
     have e0:(4294967295:Nat) * 4294967295=18446744065119617025:=by decide
     rw [e0] at hab
     rw [hz64 v2 (by omega),← Int.natCast_mul]
     generalize z * v2=p at *
     exact hz64 p (by omega)
    rw [hz64 r (by omega),← hB] at hj
    rw [hw2,idx_nat a2,hw3,idx_nat a3]
    simp only [bindS]
    rw [chk_d (by omega),hj,hzv]
    by_cases hc:r * B+u3<z * v2
    ·rw [dec_t (show ((r * B+u3:Nat):Int)<((z * v2:Nat):Int) from Int.ofNat_lt.2 hc),cond_true]
     have:=est_dec (B:=B) hW hru hV h1 hc hq1
     exact hdec (by omega) this
    ·left
     rw [dec_f (show ¬ ((r * B+u3:Nat):Int)<((z * v2:Nat):Int) from fun h=>hc (Int.ofNat_lt.1 h)),cond_false]
     have:=est_end (B:=B) hW hV hw hv0 h1 (by omega) (by omega) hq2
     exact ⟨_,rfl,z,rfl,h2,this,by omega⟩)
  (s:=(((top / v1:Nat):Int),((top % v1:Nat):Int))) ⟨top / v1,top % v1,rfl,by rw [Nat.mul_comm]; exact Nat.div_add_mod top v1,hqt,htop,by have:=Nat.mod_lt top (show 0<v1 by omega); omega⟩ (by simp only [Int.toNat_natCast]; omega)
 obtain ⟨x,e1,z,rfl,e2,e3,e4⟩:=h
 exact ⟨z,e1,e2,e3,e4⟩
theorem nat32_split {B:Nat} (hB:B=4294967296) {l:List Int} {m:Nat} (hm:m≤l.length):nat32 l=nat32 (l.take m)+B ^ m * nat32 (l.drop m):=by
 have:=nat32_append (l.take m) (l.drop m)
 rw [List.take_append_drop,List.length_take,Nat.min_eq_left hm] at this
 rw [hB]; exact this
theorem nat32_takelt {B:Nat} (hB:B=4294967296) {l:List Int} {m:Nat} (hl:limbs l) (hm:m≤l.length):nat32 (l.take m)<B ^ m:=by
 have:=nat32_lt (limbs_take hl (k:=m))
 rw [List.length_take,Nat.min_eq_left hm] at this
 rw [hB]; exact this
theorem nat32_above {B:Nat} (hB:B=4294967296) {l:List Int} {m:Nat} (hm:m≤l.length) (h:nat32 l<B ^ m):nat32 (l.drop m)=0:=by
 have:=nat32_split hB hm
 by_cases h0:nat32 (l.drop m)=0
 ·exact h0
 ·have:B ^ m * 1≤B ^ m * nat32 (l.drop m):=Nat.mul_le_mul_left _ (by omega)
  omega
theorem drop_same {α:Type} {a b:List α} {m:Nat} (h : ∀ j,m≤j→a[j]? = b[j]?):a.drop m=b.drop m:=by
 apply List.ext_getElem?
 intro j
 rw [List.getElem?_drop,List.getElem?_drop]
 exact h _ (by omega)
theorem divide_step {B:Nat} (hB:B=4294967296) {u v out:List Int} {k m:Nat} (hu:limbs u) (hv:limbs v) (ho:limbs out) (hn:2≤v.length) (hlu:u.length=m+v.length) (hlo:out.length=m) (hk:k<m) (hs:u.length≤1000000)
  (htop : ∃ v1:Nat,v[v.length - 1]? = some (v1:Int)∧B≤2 * v1) (hW:nat32 u<nat32 v * B ^ (k+1)) (h0:out[k]? = some 0) :
  ∃ (q:Nat) (u' : List Int),ratio_divide_loop1 v (u,out,(k:Int))=some (.inl (u',out.set k (q:Int),(k:Int) - 1))∧q<B∧limbs u' ∧ u'.length=u.length∧nat32 u' < nat32 v * B ^ k∧nat32 u' + q * (nat32 v * B ^ k)=nat32 u:=by
 obtain ⟨v1,a1,hv1⟩:=htop
 obtain ⟨n,hnn⟩ : ∃ n,v.length=n+2:=⟨v.length - 2,by omega⟩
 have l1:v1<4294967296:=by have:=hv _ (List.mem_of_getElem? a1); omega
 obtain ⟨v2,a2,l2⟩:=at_of_lt hv (show v.length - 2<v.length by omega)
 obtain ⟨u1,b1,m1⟩:=at_of_lt hu (show k+v.length<u.length by omega)
 obtain ⟨u2,b2,m2⟩:=at_of_lt hu (show k+v.length - 1<u.length by omega)
 obtain ⟨u3,b3,m3⟩:=at_of_lt hu (show k+v.length - 2<u.length by omega)
 obtain ⟨F,hF⟩ : ∃ F,F=B ^ (k+n):=⟨_,rfl⟩
 have hB1:B ^ (k+n+1)=B * F:=by rw [Nat.pow_succ,Nat.mul_comm,← hF]
 have hB2:B ^ (k+n+2)=B * (B * F):=by rw [Nat.pow_succ,hB1,Nat.mul_comm]
 have hB3:B ^ (k+n+3)=B * (B * (B * F)):=by rw [Nat.pow_succ,hB2,Nat.mul_comm]
 have hVlt:nat32 v<B ^ (n+2):=by have:=nat32_lt hv; rw [hnn] at this; rw [hB]; exact this
 have hVd:nat32 v * B ^ k=v1 * (B * F)+v2 * F+nat32 (v.take n) * B ^ k:=by
  have e1:=nat32_takeAt hB v (n+1)
  have e2:=nat32_takeAt hB v n
  rw [List.take_of_length_le (by omega),limbAt_of (show v[n+1]? = some (v1:Int) by rw [← a1]; congr 1; omega)] at e1
  rw [limbAt_of (show v[n]? = some (v2:Int) by rw [← a2]; congr 1; omega)] at e2
  rw [e1,e2,Nat.add_mul,Nat.add_mul]
  have q1:B ^ n * v2 * B ^ k=v2 * F:=by rw [hF,Nat.pow_add,Nat.mul_comm (B ^ n) v2,Nat.mul_assoc,Nat.mul_comm (B ^ n)]
  have q2:B ^ (n+1) * v1 * B ^ k=v1 * (B * F):=by
   rw [← hB1,Nat.mul_comm (B ^ (n+1)) v1,Nat.mul_assoc,← Nat.pow_add]
   congr 2; omega
  rw [q1,q2]; omega
 have hw:nat32 (v.take n) * B ^ k<F:=by
  have:=nat32_takelt hB hv (m:=n) (by omega)
  rw [hF,Nat.add_comm k n,Nat.pow_add]
  exact Nat.mul_lt_mul_of_pos_right this (Nat.pow_pos (by omega))
 have hF0:0<F:=by rw [hF]; exact Nat.pow_pos (by omega)
 have hWV:nat32 u<nat32 v * B ^ k * B:=by rw [Nat.mul_assoc,← Nat.pow_succ]; exact hW
 have hVdlt:nat32 v * B ^ k<B ^ (k+n+2):=by
  rw [show k+n+2=(n+2)+k by omega,Nat.pow_add]
  exact Nat.mul_lt_mul_of_pos_right hVlt (Nat.pow_pos (by omega))
 have hWB:nat32 u<B ^ (k+n+3):=by
  have:nat32 v * B ^ k * B<B ^ (k+n+2) * B:=Nat.mul_lt_mul_of_pos_right hVdlt (by omega)
  rw [← Nat.pow_succ] at this
  exact Nat.lt_trans hWV this
 have habove:=nat32_above hB (l:=u) (m:=k+n+3) (by omega) hWB
 have hWe:nat32 u=(u1 * B+u2) * (B * F)+u3 * F+nat32 (u.take (k+n)):=by
  have e0:=nat32_split hB (l:=u) (m:=k+n+3) (by omega)
  rw [habove,Nat.mul_zero,Nat.add_zero] at e0
  have e1:=nat32_takeAt hB u (k+n+2)
  have e2:=nat32_takeAt hB u (k+n+1)
  have e3:=nat32_takeAt hB u (k+n)
  rw [limbAt_of (show u[k+n+2]? = some (u1:Int) by rw [← b1]; congr 1; omega)] at e1
  rw [limbAt_of (show u[k+n+1]? = some (u2:Int) by rw [← b2]; congr 1; omega)] at e2
  rw [limbAt_of (show u[k+n]? = some (u3:Int) by rw [← b3]; congr 1; omega)] at e3
  rw [e0,e1,e2,e3,hB1,hB2,← hF,Nat.add_mul,Nat.mul_comm F u3,Nat.mul_comm (B * F) u2,Nat.mul_comm (B * (B * F)) u1,Nat.mul_assoc u1 B]
  omega
 have hru:nat32 (u.take (k+n))<F:=by rw [hF]; exact nat32_takelt hB hu (by omega)
 obtain ⟨Vd,hVde⟩ : ∃ Vd,Vd=nat32 v * B ^ k:=⟨_,rfl⟩
 obtain ⟨W,hWeq⟩ : ∃ W,W=nat32 u:=⟨_,rfl⟩
 rw [← hVde] at hVd hWV hVdlt
 rw [← hWeq] at hWe hWV hWB
 have hVd0:0<Vd:=by
  rw [hVd]
  have:1 * (B * F)≤v1 * (B * F):=Nat.mul_le_mul_right _ (by omega)
  have hBF:0<B * F:=Nat.mul_pos (by omega) hF0
  omega
 have hq1:W / Vd * Vd≤W:=Nat.div_mul_le_self _ _
 have hq2:W<(W / Vd+1) * Vd:=by
  have:=Nat.lt_div_mul_add (a:=W) hVd0
  rw [Nat.add_mul,Nat.one_mul]; exact this
 have hqB:W / Vd<B:=Nat.div_lt_of_lt_mul hWV
 obtain ⟨q,hq⟩ : ∃ q,q=W / Vd:=⟨_,rfl⟩
 rw [← hq] at hq1 hq2 hqB
 obtain ⟨z,z1,z2,z3,z4⟩:=quot_loop hB (out:=out) hn (show k+v.length<u.length by omega) hs a1 a2 b3 l1 l2 m3 hWe hru hVd hw hv1 hq1 hq2 hqB hWV
 obtain ⟨b,w,s1,s2,s3,s4,s5,s6⟩:=ratio_subtract_eq hB (u:=u) (v:=v) (k:=k) (q:=z) (hi:=((k+v.length+1:Nat):Int)) hu hv (by omega) rfl (by omega) hs
 have hzV:B ^ k * (z * nat32 v)=z * Vd:=by rw [hVde,Nat.mul_left_comm,Nat.mul_comm (B ^ k)]
 rw [hzV,show k+v.length+1=k+n+3 by omega,← hWeq] at s5
 have hwabove:nat32 (w.drop (k+n+3))=0:=by
  rw [drop_same (b:=u) (fun j hj=>s6 j (.inr (by omega)))]; exact habove
 have hwlt:nat32 w<B ^ (k+n+3):=by
  have e:=nat32_split hB (l:=w) (m:=k+n+3) (by omega)
  rw [hwabove,Nat.mul_zero,Nat.add_zero] at e
  rw [e]; exact nat32_takelt hB s3 (by omega)
 have hc1:w64 ((k:Int)+(v.length:Int))=((k+v.length:Nat):Int):=by rw [w64_id (by omega) (by omega)]; omega
 have hc2:w64 ((w64 ((k:Int)+(v.length:Int))) - (1:Int))=((k+v.length - 1:Nat):Int):=by rw [hc1,w64_id (by omega) (by omega)]; omega
 have hc3:w64 ((v.length:Int) - (1:Int))=((v.length - 1:Nat):Int):=by rw [w64_id (by omega) (by omega)]; omega
 have hc4:w64 ((w64 ((k:Int)+(v.length:Int)))+(1:Int))=((k+v.length+1:Nat):Int):=by rw [hc1,w64_id (by omega) (by omega)]; omega
 have hc5:w64 ((k:Int) - 1)=(k:Int) - 1:=w64_id (by omega) (by omega)
 have hv64:IntKind.u64.wrap (v1:Int)=(v1:Int):=by rw [IntKind.wrap_u64]; omega
 have hj:=join32 (hi:=u1) (lo:=u2) m1 m2
 rw [← hB] at hj
 have htq:(u1 * B+u2) / v1≤B+1:=est_top hWe hVd hw (by omega) hv1 hWV
 have hzero:((v1:Int)==0)=false:=by rw [beq_eq_false_iff_ne]; omega
 have hfin : ∃ (u' : List Int),((bif !(decide (b=0)) then
    ((Itr.it (ratio_divide_loop3 v (u,out,(k:Int))) (w,0,0):Option ((List Int)×Int))).bind fun s34=>
    (idx s34.1 (((k+v.length:Nat):Int))).bind fun _=>
    (idx s34.1 (((k+v.length:Nat):Int))).bind fun v44=>
    (idx s34.1 (((k+v.length:Nat):Int))).bind fun _=>
    (idx s34.1 (((k+v.length:Nat):Int))).bind fun _=>
    some (s34.1.set (((k+v.length:Nat):Int)).toNat (IntKind.u32.wrap (v44+s34.2)),IntKind.u64.wrap ((z:Int) - (1:Int)))
   else some (w,(z:Int))):Option ((List Int)×Int))=some (u',(q:Int))∧limbs u' ∧ u'.length=u.length∧nat32 u' < Vd∧nat32 u' + q * Vd=W:=by
  by_cases hb0:b=0
  ·subst hb0
   rw [decide_eq_true rfl,Bool.not_true,cond_false]
   rw [Nat.mul_zero,Nat.add_zero] at s5
   have hzq:z=q:=by
    by_cases hzz:z=q
    ·exact hzz
    ·exfalso
     have:z=q+1:=by omega
     rw [this] at s5
     omega
   subst hzq
   refine ⟨w,rfl,s3,s4,?_,s5⟩
   rw [Nat.add_mul,Nat.one_mul] at hq2
   omega
  ·have hb1:b=1:=by omega
   subst hb1
   rw [decide_eq_false hb0,Bool.not_false,cond_true]
   rw [Nat.mul_one] at s5
   have hzq:z=q+1:=by
    by_cases hzz:z=q+1
    ·exact hzz
    ·exfalso
     have:z=q:=by omega
     rw [this] at s5
     omega
   subst hzq
   obtain ⟨r,t1,t2,t3,⟨c,t4,t5,t6⟩,t7⟩:=addback_loop hB (u:=w) (v:=v) (o:=out) (k:=k) u s3 hv (by omega) (by omega)
   rw [Nat.mul_comm (B ^ k),← hVde,show k+v.length=k+n+2 by omega] at t6
   rw [Nat.add_mul,Nat.one_mul] at s5 hq2
   obtain ⟨R,hR⟩ : ∃ R,W=q * Vd+R:=⟨W - q * Vd,by omega⟩
   have hRlt:R<Vd:=by omega
   have hrabove:nat32 (r.1.drop (k+n+3))=0:=by
    rw [drop_same (b:=w) (fun j hj=>t7 j (.inr (by omega)))]; exact hwabove
   have hre:=nat32_split hB (l:=r.1) (m:=k+n+3) (by omega)
   rw [hrabove,Nat.mul_zero,Nat.add_zero] at hre
   have hrlt:nat32 r.1<B ^ (k+n+3):=by rw [hre]; exact nat32_takelt hB t2 (by omega)
   obtain ⟨x,hx,hx2⟩:=at_of_lt t2 (show k+v.length<r.1.length by omega)
   have hx' : limbAt r.1 (k+n+2)=x:=limbAt_of (by rw [← hx]; congr 1; omega)
   have hrt:=nat32_takeAt hB r.1 (k+n+2)
   rw [hx',← hre] at hrt
   have hlow:=nat32_takelt hB t2 (l:=r.1) (m:=k+n+2) (by omega)
   have hBB:B ^ (k+n+3)=B * B ^ (k+n+2):=by rw [Nat.pow_succ,Nat.mul_comm]
   rw [hBB] at hrlt s5
   have htot:nat32 r.1+B ^ (k+n+2) * c=B * B ^ (k+n+2)+R:=by omega
   have hc:c=1:=by
    by_cases hc0:c=0
    ·exfalso; subst hc0; rw [Nat.mul_zero] at htot; omega
    ·omega
   subst hc
   rw [Nat.mul_one] at htot
   have hxB:x=B - 1:=by
    rw [Nat.mul_comm (B ^ (k+n+2)) x] at hrt
    generalize B ^ (k+n+2)=D at *
    rw [hrt] at htot
    have h1:x+1≤B:=by omega
    have h2:B≤x+1:=by
     by_cases h:B≤x+1
     ·exact h
     ·exfalso
      have:(x+1+1) * D≤B * D:=Nat.mul_le_mul_right _ (by omega)
      rw [Nat.add_mul,Nat.add_mul,Nat.one_mul] at this
      omega
    omega
   have hset:=nat32_set hB (v:=(0:Int)) hx
   have hfinal:nat32 (r.1.set (k+v.length) 0)=R:=by
    simp only [Int.toNat_natCast,Int.toNat_zero,Nat.mul_zero,Nat.add_zero] at hset
    rw [show k+v.length=k+n+2 by omega] at hset ⊢
    have hBm:B ^ (k+n+2) * x+B ^ (k+n+2)=B * B ^ (k+n+2):=by
     rw [hxB]
     obtain ⟨y,hy⟩ : ∃ y,B=y+1:=⟨B - 1,by omega⟩
     rw [show B - 1=y by omega]
     conv=>rhs; rw [show B * B ^ (k+n+2)=(y+1) * B ^ (k+n+2) by rw [← hy]]
     rw [Nat.add_mul,Nat.one_mul,Nat.mul_comm]
    generalize nat32 (r.1.set (k+n+2) 0)=S at *
    generalize B ^ (k+n+2) * x=X at *
    generalize B * B ^ (k+n+2)=Y at *
    generalize B ^ (k+n+2)=D at *
    generalize nat32 r.1=M at *
    clear hrt hrlt s5 t6 hre
    omega
   refine ⟨r.1.set (k+v.length) 0,?_,limbs_set t2 (by omega) (by omega),by rw [List.length_set]; omega,?_,?_⟩
   ·rw [t1]
    simp only [Option.bind_some]
    rw [idx_nat hx,t4]
    simp only [Option.bind_some,Int.toNat_natCast]
    rw [show IntKind.u32.wrap ((x:Int)+((1:Nat):Int))=0 by rw [IntKind.wrap_u32]; omega,show IntKind.u64.wrap (((q+1:Nat):Int) - (1:Int))=(q:Int) by rw [IntKind.wrap_u64]; omega]
   ·rw [hfinal]; exact hRlt
   ·rw [hfinal]; omega
 obtain ⟨u',f1,f2,f3,f4,f5⟩:=hfin
 refine ⟨q,u',?_,hqB,f2,f3,by rw [← hVde]; exact f4,by rw [← hVde,← hWeq]; exact f5⟩
 unfold ratio_divide_loop1
 simp only
 rw [dec_t (show (0:Int)≤(k:Int) by omega),hc2,hc4,hc1,idx_nat b1,idx_nat b2,hc3,idx_nat a1]
 simp only [cond_true,Option.bind_some]
 rw [chk_d (by omega),hv64,hzero,Bool.not_false,chk_t rfl,chk_t rfl,hj,← Int.ofNat_tdiv,← Int.ofNat_tmod]
 rw [show IntKind.u64.wrap (((u1 * B+u2) / v1:Nat):Int)=(((u1 * B+u2) / v1:Nat):Int) by
  generalize (u1 * B+u2) / v1=t at *
  rw [IntKind.wrap_u64]; omega]
 rw [z1]
 simp only [Option.bind_some]
 rw [chk_d (by omega),s1]
 simp only [Option.bind_some]
 rw [f1]
 simp only [Option.bind_some]
 rw [idx_nat h0,hc5]
 simp only [Option.bind_some,Int.toNat_natCast]
 rw [show IntKind.u32.wrap (q:Int)=(q:Int) by rw [IntKind.wrap_u32]; omega]
end Go.Proofs.YtknnphhepnbaoaaGreatDoor
namespace Go.Proofs.YtknnphhepnbaoaaGreatDoor
open Go.Sm
theorem top_of {B:Nat} (hB:B=4294967296) {y:List Int} (hy:canon y) (h0:y≠[]) : ∃ t:Nat,y[y.length - 1]? = some (t:Int)∧1≤t∧t<4294967296∧nat32 y=nat32 (y.take (y.length - 1))+B ^ (y.length - 1) * t:=by
 have hl:0<y.length:=List.length_pos_iff.2 h0
 obtain ⟨t,ht,ht2⟩:=at_of_lt hy.1 (show y.length - 1<y.length by omega)
 refine ⟨t,ht,?_,ht2,?_⟩
 ·by_cases h:1≤t
  ·exact h
  ·exfalso
   apply hy.2
   rw [List.getLast?_eq_getElem?,ht,show t=0 by omega]
   rfl
 ·have:=nat32_takeAt hB y (y.length - 1)
  rw [show y.length - 1+1=y.length by omega,List.take_length,limbAt_of ht] at this
  exact this
theorem norm_eq {B:Nat} (hB:B=4294967296) {y:List Int} (hy:canon y) (hn:2≤y.length) (hl:y.length≤100000) :
  ∃ (s t:Nat) (z:List Int),s≤31∧y[y.length - 1]? = some (t:Int)∧math_bits_LeadingZeros32 (t:Int)=some (s:Int)∧ratio_shift y (s:Int)=some z∧Small z∧canon (trimL z)∧(trimL z).length=y.length∧nat32 (trimL z)=nat32 y * 2 ^ s ∧
   ∃ v1:Nat,(trimL z)[(trimL z).length - 1]? = some (v1:Int)∧B≤2 * v1:=by
 have h0:y≠[]:=fun e=>by subst e; simp at hn
 obtain ⟨t,t1,t2,t3,t4⟩:=top_of hB hy h0
 obtain ⟨s,s1,s2,s3,s4⟩:=lead_eq t2 t3
 obtain ⟨z,z1,z2,z3,z4⟩:=ratio_shift_eq (s:=s) hy.1 (by omega) s1
 have hc:=trimL_canon z2
 have hv:=trimL_nat z
 rw [z4] at hv
 have hlow:=nat32_takelt hB hy.1 (m:=y.length - 1) (by omega)
 obtain ⟨P,hP⟩ : ∃ P,P=2 ^ s:=⟨_,rfl⟩
 have hPB:P * 2 ^ (32 - s)=B:=by rw [hP,hB]; exact pow32 s1
 obtain ⟨D,hD⟩ : ∃ D,D=B ^ (y.length - 1):=⟨_,rfl⟩
 have hDB:B ^ y.length=B * D:=by rw [hD,Nat.mul_comm,← Nat.pow_succ]; congr 1; omega
 have hD0:0<D:=by rw [hD]; exact Nat.pow_pos (by omega)
 rw [← hD] at t4 hlow
 rw [← hP] at hv s3 s4
 have hP0:0<P:=by rw [hP]; exact Nat.pow_pos (by decide)
 have hge:2147483648 * D≤nat32 (trimL z):=by
  rw [hv,t4,Nat.add_mul]
  have h1:2147483648 * D≤t * P * D:=Nat.mul_le_mul_right _ s3
  have h2:D * t * P=t * P * D:=by rw [Nat.mul_assoc,Nat.mul_comm]
  rw [h2]; omega
 have hlt:nat32 (trimL z)<B * D:=by
  rw [hv,t4]
  have h1:(nat32 (y.take (y.length - 1))+D * t) * P<(t+1) * P * D:=by
   have h3:nat32 (y.take (y.length - 1))+D * t<D * (t+1):=by rw [Nat.mul_add,Nat.mul_one]; omega
   have:=Nat.mul_lt_mul_of_pos_right h3 hP0
   rw [show D * (t+1) * P=(t+1) * P * D by rw [Nat.mul_assoc,Nat.mul_comm]] at this
   exact this
  have h2:(t+1) * P≤B:=by
   have h4:t<2 ^ (32 - s):=by
    have:t * P<2 ^ (32 - s) * P:=by rw [Nat.mul_comm (2 ^ (32 - s)),hPB,hB]; exact s4
    exact Nat.lt_of_mul_lt_mul_right this
   have:=Nat.mul_le_mul_right P h4
   rw [Nat.mul_comm (2 ^ (32 - s)),hPB] at this
   exact this
  have:=Nat.mul_le_mul_right D h2
  omega
 have hne:trimL z≠[]:=fun e=>by
  rw [e] at hge
  have:nat32 ([]:List Int)=0:=rfl
  rw [this] at hge
  have:0<2147483648 * D:=Nat.mul_pos (by decide) hD0
  omega
 have hlen:(trimL z).length=y.length:=by
  have g1:=nat32_ge hc hne
  have g2:=nat32_lt hc.1
  rw [← hB] at g1 g2
  have hpos:0<(trimL z).length:=List.length_pos_iff.2 hne
  rcases Nat.lt_trichotomy (trimL z).length y.length with h | h | h
  ·exfalso
   have:B ^ (trimL z).length≤B ^ (y.length - 1):=Nat.pow_le_pow_right (by omega) (by omega)
   rw [← hD] at this
   have h5:1 * D≤2147483648 * D:=Nat.mul_le_mul_right _ (by decide)
   omega
  ·exact h
  ·exfalso
   have:B ^ y.length≤B ^ ((trimL z).length - 1):=Nat.pow_le_pow_right (by omega) (by omega)
   rw [hDB] at this
   omega
 obtain ⟨v1,w1,w2,w3,w4⟩:=top_of hB hc hne
 refine ⟨s,t,z,s1,t1,s2,z1,by show z.length<_; omega,hc,hlen,by rw [← hP]; exact hv,v1,w1,?_⟩
 have hl2:=nat32_takelt hB hc.1 (m:=(trimL z).length - 1) (by omega)
 rw [hlen,← hD] at hl2 w4
 have h6:2147483648 * D<(v1+1) * D:=by
  rw [Nat.add_mul,Nat.one_mul,Nat.mul_comm v1 D]
  omega
 have:=Nat.lt_of_mul_lt_mul_right h6
 omega
theorem ratio_divide_eq {x y:List Int} (hx:canon x) (hy:canon y) (hxn:x.length≤100000) (hyn:y.length≤100000) (h0:y≠[]) :
  ∃ q r:List Int,ratio_divide x y=some (q,r)∧canon q∧canon r∧nat32 q=nat32 x / nat32 y∧nat32 r=nat32 x % nat32 y:=by
 obtain ⟨B,hB⟩ : ∃ B:Nat,B=4294967296:=⟨_,rfl⟩
 have hpos:0<y.length:=List.length_pos_iff.2 h0
 by_cases h1:y.length=1
 ·obtain ⟨t,t1,t2,t3,t4⟩:=top_of hB hy h0
  have hy1:y=[(t:Int)]:=by
   match y,h1,t1 with
   | [a],_,t1=>
    simp at t1
    rw [t1]
  subst hy1
  obtain ⟨q,e1,e2,e3⟩:=ratio_divide_one hx (by omega) t2 t3
  have hd:nat32 [(t:Int)]=t:=by simp [nat32]
  have hm:nat32 x % t<4294967296:=by have:=Nat.mod_lt (nat32 x) (show 0<t by omega); omega
  exact ⟨q,_,e1,e2,oneL_canon hm,by rw [hd]; exact e3,by rw [oneL_nat,hd]⟩
 ·have hn:2≤y.length:=by omega
  have hcmp:=ratio_compare_eq hx hy (by show x.length<_; omega)
  have hcl:slices_Clone_uint32_uint32 x=some x:=by
   unfold slices_Clone_uint32_uint32
   rw [cond_false,chk_t (appOk_le (by simp only [List.length_nil]; omega) (by omega))]
   rfl
  unfold ratio_divide
  rw [hcmp]
  simp only [bindS]
  by_cases hlt:nat32 x<nat32 y
  ·have hneg:decide (cmpN (nat32 x) (nat32 y)<0)=true:=by unfold cmpN; rw [if_pos hlt]; rfl
   rw [hneg,cond_true,hcl]
   exact ⟨[],x,rfl,⟨by simp [limbs],by simp⟩,hx,by rw [Nat.div_eq_of_lt hlt]; rfl,by rw [Nat.mod_eq_of_lt hlt]⟩
  ·have hneg:decide (cmpN (nat32 x) (nat32 y)<0)=false:=by
    unfold cmpN; rw [if_neg hlt]; split <;> decide
   have hxy:y.length≤x.length:=by
    by_cases h:y.length≤x.length
    ·exact h
    ·exact absurd (len_lt hx hy (by omega)) hlt
   have hne1:((y.length:Int)==(1:Int))=false:=by rw [beq_eq_false_iff_ne]; omega
   obtain ⟨s,t,z,s1,t1,s2,z1,z2,z3,z4,z5,v1,v2,v3⟩:=norm_eq hB hy hn hyn
   obtain ⟨u0,g1,g2,g3,g4⟩:=ratio_shift_eq (s:=s) hx.1 (by omega) s1
   obtain ⟨m,hm⟩ : ∃ m,x.length+1=m+y.length:=⟨x.length+1 - y.length,by omega⟩
   generalize hvv:trimL z=v at *
   have hw0:w64 ((y.length:Int) - (1:Int))=((y.length - 1:Nat):Int):=by rw [w64_id (by omega) (by omega)]; omega
   have hw1:w64 ((u0.length:Int) - (v.length:Int))=((m:Nat):Int):=by rw [g3,z4,w64_id (by omega) (by omega)]; omega
   have hw2:w64 ((w64 ((u0.length:Int) - (v.length:Int))) - (1:Int))=(m:Int) - 1:=by rw [hw1,w64_id (by omega) (by omega)]
   obtain ⟨P,hP⟩ : ∃ P,P=2 ^ s:=⟨_,rfl⟩
   have hP0:0<P:=by rw [hP]; exact Nat.pow_pos (by decide)
   rw [← hP] at z5 g4
   obtain ⟨V,hV⟩ : ∃ V,V=nat32 v:=⟨_,rfl⟩
   have hVge:2147483648 * B ^ (y.length - 1)≤V:=by
    obtain ⟨a,a1,a2,a3,a4⟩:=top_of hB z3 (fun e=>by rw [e] at z4; simp at z4; omega)
    have:a=v1:=by rw [v2] at a1; simp at a1; omega
    subst this
    rw [hV,a4,z4,Nat.mul_comm (B ^ (y.length - 1))]
    have:2147483648 * B ^ (y.length - 1)≤a * B ^ (y.length - 1):=Nat.mul_le_mul_right _ (by omega)
    omega
   have hstart:nat32 u0<V * B ^ m:=by
    have hxl:=nat32_lt hx.1
    rw [← hB] at hxl
    have hPle:P≤2147483648:=by
     rw [hP]
     have:=Nat.pow_le_pow_right (n:=2) (by decide) s1
     exact this
    have h5:nat32 x * P<B ^ x.length * 2147483648:=by
     have a1:nat32 x * P≤nat32 x * 2147483648:=Nat.mul_le_mul_left _ hPle
     have a2:nat32 x * 2147483648<B ^ x.length * 2147483648:=Nat.mul_lt_mul_of_pos_right hxl (by decide)
     omega
    have h6:2147483648 * B ^ (y.length - 1) * B ^ m≤V * B ^ m:=Nat.mul_le_mul_right _ hVge
    rw [Nat.mul_assoc,← Nat.pow_add,show y.length - 1+m=x.length by omega,Nat.mul_comm] at h6
    rw [g4]; omega
   have h:=it_inv (f:=ratio_divide_loop1 v) (fun st=>(st.2.2+1).toNat)
    (fun st=>limbs st.1∧limbs st.2.1∧st.1.length=m+v.length∧st.2.1.length=m∧∃ j:Nat,st.2.2=(j:Int) - 1∧j≤m∧nat32 st.1<V * B ^ j∧nat32 st.1+V * nat32 st.2.1=nat32 u0∧∀ i,i<j→st.2.1[i]? = some 0)
    (fun r=>limbs r.1∧limbs r.2∧r.1.length=m+v.length∧r.2.length=m∧nat32 r.1<V∧nat32 r.1+V * nat32 r.2=nat32 u0)
    (fun st hst=>by
     obtain ⟨u,o,kk⟩:=st
     obtain ⟨h1,h2,h3,h4,j,h5,h6,h7,h8,h9⟩:=hst
     simp only at h1 h2 h3 h4 h5 h7 h8 h9
     subst h5
     cases j with
     | zero=>
      left
      refine ⟨(u,o),?_,h1,h2,h3,h4,by simpa using h7,h8⟩
      unfold ratio_divide_loop1
      simp only
      rw [dec_f (show ¬ (0:Int)≤((0:Nat):Int) - 1 by omega),cond_false]
     | succ k=>
      right
      rw [hV] at h7
      obtain ⟨q,u',e1,e2,e3,e4,e5,e6⟩:=divide_step hB h1 z3.1 h2 (by rw [z4]; exact hn) h3 h4 (show k<m by omega) (by omega) ⟨v1,v2,v3⟩ h7 (h9 k (by omega))
      rw [← hV] at e5 e6
      rw [show (((k+1:Nat):Int) - 1)=(k:Int) by omega]
      refine ⟨_,e1,⟨e3,limbs_set h2 (by omega) (by omega),by rw [e4]; exact h3,by rw [List.length_set]; exact h4,k,rfl,by omega,e5,?_,fun i hi=>?_⟩,by simp only; omega⟩
      ·have hset:=nat32_set hB (v:=(q:Int)) (h9 k (by omega))
       simp only [Int.toNat_natCast,Int.toNat_zero,Nat.mul_zero,Nat.add_zero] at hset ⊢
       rw [hset,Nat.mul_add,← h8,← e6]
       have:V * (B ^ k * q)=q * (V * B ^ k):=by rw [← Nat.mul_assoc,Nat.mul_comm]
       rw [this]; omega
      ·simp only
       rw [List.getElem?_set_ne (by omega)]
       exact h9 i (by omega))
    (s:=(u0,List.replicate m 0,(m:Int) - 1)) ⟨g2,fun z hz=>by rw [(List.mem_replicate.1 hz).2]; omega,by simp only; omega,by simp,m,rfl,Nat.le_refl _,hstart,by simp [nat32_zero],fun i hi=>by simp only; rw [List.getElem?_replicate,if_pos hi]⟩ (by simp only; omega)
   obtain ⟨⟨u,o⟩,e1,e2,e3,e4,e5,e6,e7⟩:=h
   simp only at e2 e3 e4 e5 e6 e7
   obtain ⟨r,r1,r2,r3,r4⟩:=ratio_back_eq (x:=trimL u) (s:=s) (trimL_canon e2).1 (by have:=trimL_len u; omega) s1
   refine ⟨trimL o,r,?_,trimL_canon e3,r2,?_,?_⟩
   ·rw [hneg,cond_false,hne1,cond_false,hw0,idx_nat t1]
    simp only [bindS]
    rw [s2]
    simp only [bindS]
    rw [z1]
    simp only [bindS]
    rw [ratio_trim_eq z2,hvv]
    simp only [bindS]
    rw [g1]
    simp only [bindS]
    rw [hw2,hw1,chk_d ⟨by omega,by omega,by simp only [maxLen]; omega⟩,Int.toNat_natCast,e1]
    simp only [bindS]
    rw [ratio_trim_eq (by show o.length<_; omega),ratio_trim_eq (by show u.length<_; omega)]
    simp only [bindS]
    rw [r1]
    rfl
   ·rw [trimL_nat]
    rw [g4,hV,z5] at e7
    rw [hV,z5] at e6
    have hyo:nat32 y * P * nat32 o=nat32 y * nat32 o * P:=by rw [Nat.mul_assoc,Nat.mul_comm P,← Nat.mul_assoc]
    rw [hyo] at e7
    have hy0:0<nat32 y:=by
     by_cases h:nat32 y=0
     ·rw [h] at e6; simp at e6
     ·omega
    have hd:nat32 x * P / (nat32 y * P)=nat32 o:=by
     rw [← e7]
     apply Nat.div_eq_of_lt_le
     ·rw [Nat.mul_comm (nat32 o),hyo]; omega
     ·rw [Nat.add_mul,Nat.one_mul,Nat.mul_comm (nat32 o),hyo]; omega
    rw [← hd,Nat.mul_div_mul_right _ _ hP0]
   ·rw [r4,trimL_nat,← hP]
    rw [g4,hV,z5] at e7
    rw [hV,z5] at e6
    have hyo:nat32 y * P * nat32 o=nat32 y * nat32 o * P:=by rw [Nat.mul_assoc,Nat.mul_comm P,← Nat.mul_assoc]
    rw [hyo] at e7
    have hle:nat32 y * nat32 o≤nat32 x:=by
     have:nat32 y * nat32 o * P≤nat32 x * P:=by omega
     exact Nat.le_of_mul_le_mul_right this hP0
    obtain ⟨d,hd⟩ : ∃ d,nat32 x=nat32 y * nat32 o+d:=⟨nat32 x - nat32 y * nat32 o,by omega⟩
    have hu:nat32 u=d * P:=by rw [hd,Nat.add_mul] at e7; omega
    rw [hu,Nat.mul_div_cancel _ hP0,hd,Nat.mul_add_mod]
    rw [hu] at e6
    exact (Nat.mod_eq_of_lt (Nat.lt_of_mul_lt_mul_right e6)).symm
theorem half_mod {a b:Nat} (hb:0<b) (h:b≤a):2 * (a % b)<a:=by
 have h1:=Nat.mod_lt a hb
 have h2:=Nat.div_add_mod a b
 have h3:b * 1≤b * (a / b):=Nat.mul_le_mul_left _ (Nat.div_pos h hb)
 omega
def euclM (a b:Nat):Nat:=if b=0 then 0 else if a=0 then 1 else 2 * Nat.log2 (a * b)+(if a<b then 2 else 1)+1
theorem euclM_lt {a b:Nat} (hb:b≠0):euclM b (a % b)<euclM a b:=by
 unfold euclM
 rw [if_neg hb,if_neg hb]
 by_cases ha:a=0
 ·subst ha; rw [Nat.zero_mod,if_pos rfl]; simp
 ·rw [if_neg ha]
  by_cases hr:a % b=0
  ·rw [if_pos hr]; omega
  ·rw [if_neg hr]
   have hlt:=Nat.mod_lt a (show 0<b by omega)
   rw [if_neg (show ¬ b<a % b by omega)]
   by_cases hab:a<b
   ·rw [if_pos hab,Nat.mod_eq_of_lt hab,Nat.mul_comm b a]; omega
   ·rw [if_neg hab]
    have h2:=half_mod (show 0<b by omega) (show b≤a by omega)
    have hne:b * (a % b)≠0:=Nat.mul_ne_zero hb hr
    have hne2:a * b≠0:=Nat.mul_ne_zero ha hb
    have h3:2 ^ (Nat.log2 (b * (a % b))+1)≤a * b:=by
     have h4:2 ^ Nat.log2 (b * (a % b))≤b * (a % b):=(Nat.le_log2 hne).1 (Nat.le_refl _)
     have h5:b * (2 * (a % b))≤b * a:=Nat.mul_le_mul_left _ (Nat.le_of_lt h2)
     rw [Nat.pow_succ,Nat.mul_comm _ 2]
     have h6:b * (2 * (a % b))=2 * (b * (a % b)):=by rw [Nat.mul_left_comm]
     rw [Nat.mul_comm a b]
     omega
    have:=(Nat.le_log2 hne2).2 h3
    omega
theorem euclM_le {a b k:Nat} (h:a * b<2 ^ k):euclM a b≤2 * k+3:=by
 unfold euclM
 split
 ·omega
 ·split
  ·omega
  ·rename_i h1 h2
   have:=(Nat.log2_lt (Nat.mul_ne_zero h2 h1)).2 h
   split <;> omega
theorem gcdOk_any {x y:List Int} (hx:canon x) (hy:canon y) (hxn:x.length≤100000) (hyn:y.length≤100000):GcdOk x y:=by
 obtain ⟨L,hL⟩ : ∃ L:Nat,L=100000:=⟨_,rfl⟩
 have hb:nat32 x * nat32 y<2 ^ (32 * L+32 * L):=by
  have h1:=nat32_lt hx.1
  have h2:=nat32_lt hy.1
  have h3:(4294967296:Nat) ^ x.length≤4294967296 ^ L:=Nat.pow_le_pow_right (by decide) (by omega)
  have h4:(4294967296:Nat) ^ y.length≤4294967296 ^ L:=Nat.pow_le_pow_right (by decide) (by omega)
  have h5:nat32 x * nat32 y<4294967296 ^ L * 4294967296 ^ L:=Nat.mul_lt_mul'' (Nat.lt_of_lt_of_le h1 h3) (Nat.lt_of_lt_of_le h2 h4)
  rw [show (4294967296:Nat)=2 ^ 32 from by decide,← Nat.pow_mul,← Nat.pow_add] at h5
  exact h5
 have h:=it_inv (f:=ratio_common_loop1) (fun s=>euclM (nat32 s.1) (nat32 s.2)) (fun s=>canon s.1∧canon s.2∧s.1.length≤100000∧s.2.length≤100000∧Nat.gcd (nat32 s.1) (nat32 s.2)=Nat.gcd (nat32 x) (nat32 y))
  (fun g=>canon g∧nat32 g=Nat.gcd (nat32 x) (nat32 y))
  (fun s hs=>by
   obtain ⟨a,b⟩:=s
   obtain ⟨h1,h2,h3,h4,h5⟩:=hs
   simp only at h1 h2 h3 h4 h5
   unfold ratio_common_loop1
   simp only
   by_cases h0:b=[]
   ·left
    subst h0
    refine ⟨a,rfl,h1,?_⟩
    rw [← h5]
    exact (Nat.gcd_zero_right _).symm
   ·right
    have hl:0<b.length:=List.length_pos_iff.2 h0
    obtain ⟨q,r,e1,e2,e3,e4,e5⟩:=ratio_divide_eq h1 h2 h3 h4 h0
    have hb0:nat32 b≠0:=fun e=>h0 ((nat32_nil h2).1 e)
    have hlt:nat32 r<nat32 b:=by rw [e5]; exact Nat.mod_lt _ (by omega)
    rw [dec_t (show (0:Int)<(b.length:Int) by omega),cond_true,e1]
    refine ⟨(b,r),rfl,⟨h2,e3,h4,?_,?_⟩,?_⟩
    ·by_cases h:r.length≤100000
     ·exact h
     ·have:=len_lt h2 e3 (by omega)
      omega
    ·simp only
     rw [← h5,e5,Nat.gcd_comm (nat32 a) (nat32 b),Nat.gcd_rec (nat32 b) (nat32 a),Nat.gcd_comm (nat32 b) (nat32 a % nat32 b)]
    ·simp only
     rw [e5]
     exact euclM_lt hb0) (s:=(x,y)) ⟨hx,hy,hxn,hyn,rfl⟩ (by
   have:=euclM_le hb
   simp only
   omega)
 obtain ⟨g,h1,h2,h3⟩:=h
 refine ⟨g,?_,h2,h3⟩
 unfold ratio_common
 rw [h1]
 rfl
theorem gcdAll (m:Nat):GcdAll m:=fun n d hn hd ln ld _ _ _=>gcdOk_any hn hd (by omega) (by omega)
end Go.Proofs.YtknnphhepnbaoaaGreatDoor
