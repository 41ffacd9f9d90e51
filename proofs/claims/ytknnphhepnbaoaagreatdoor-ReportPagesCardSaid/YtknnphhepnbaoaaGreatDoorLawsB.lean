/-
  Numbers of limbs of 32 bits: what package ratio does with them, part 1: trim, compare, division by one limb. No program is walked here.
  Numbers of limbs of 32 bits, part 2: division by one limb, the greatest common divisor of single limbs. No program is walked here.
  Numbers of limbs of 32 bits, part 3: the rule of loops by an invariant, products, greatest common divisors. No program is walked here.
  Numbers of limbs of 32 bits, part 4: sums, rows of digits, numbers out of digits. No program is walked here.
  Numbers of limbs of 32 bits, part 5: their decimal digits. No program is walked here.
  Numbers of limbs of 32 bits, part 6: valid ratios, comparison with one, printing, parsing. No program is walked here.
  Numbers of limbs of 32 bits, part 7: parsing a ratio: what is read is what prints so. No program is walked here.
-/
import Derived.Test.YtknnphhepnbaoaaGreatDoorLawsA
import Derived.Laws.Bits64
import Derived.Laws.Bits64b
import Derived.Laws.BitsLemmas
namespace Go.Proofs.YtknnphhepnbaoaaGreatDoor
open Go.Sm
def nat32:List Int→Nat
 | []=>0
 | x::r=>x.toNat+4294967296 * nat32 r
def limbs (l:List Int):Prop:=∀ x∈l,0≤x∧x<4294967296
def canon (l:List Int):Prop:=limbs l∧l.getLast? ≠ some 0
theorem limbs_cons {x:Int} {l:List Int}:limbs (x::l)↔(0≤x∧x<4294967296)∧limbs l:=by
 simp [limbs]
theorem limbs_append {a b:List Int}:limbs (a++b)↔limbs a∧limbs b:=by
 constructor
 ·exact fun h=>⟨fun x hx=>h x (by simp [hx]),fun x hx=>h x (by simp [hx])⟩
 ·rintro ⟨h1,h2⟩ x hx
  rcases List.mem_append.1 hx with h | h
  ·exact h1 x h
  ·exact h2 x h
theorem limbs_take {l:List Int} {k:Nat} (h:limbs l):limbs (l.take k):=fun x hx=>h x (List.mem_of_mem_take hx)
theorem nat32_append : ∀ a b:List Int,nat32 (a++b)=nat32 a+4294967296 ^ a.length * nat32 b
 | [],b=>by simp [nat32]
 | x::a,b=>by
  simp only [List.cons_append,nat32,List.length_cons]
  rw [nat32_append a b,Nat.mul_add,← Nat.mul_assoc,Nat.pow_succ,Nat.mul_comm (4294967296 ^ a.length) 4294967296]
  omega
theorem nat32_lt : ∀ {l:List Int},limbs l→nat32 l<4294967296 ^ l.length
 | [],_=>by simp [nat32]
 | x::l,h=>by
  have h1:=(limbs_cons.1 h).1
  have h2:=nat32_lt (limbs_cons.1 h).2
  simp only [nat32,List.length_cons,Nat.pow_succ]
  omega
theorem nat32_ge {l:List Int} (h:canon l) (hn:l≠[]):4294967296 ^ (l.length - 1)≤nat32 l:=by
 obtain ⟨y,hy,hl⟩ : ∃ y,l.getLast? = some y∧l=l.dropLast++[y]:=⟨l.getLast hn,List.getLast?_eq_some_getLast hn,(List.dropLast_concat_getLast hn).symm⟩
 have h0:=h.1 y (List.mem_of_getLast? hy)
 have h1:y≠0:=fun e=>h.2 (by rw [hy,e])
 rw [hl,nat32_append]
 have hlen:(l.dropLast++[y]).length - 1=l.dropLast.length:=by simp
 rw [hlen]
 have:1≤nat32 [y]:=by simp only [nat32]; omega
 calc 4294967296 ^ l.dropLast.length=4294967296 ^ l.dropLast.length * 1:=(Nat.mul_one _).symm
  _≤4294967296 ^ l.dropLast.length * nat32 [y]:=Nat.mul_le_mul_left _ this
  _≤_:=Nat.le_add_left _ _
theorem nat32_inj : ∀ {a b:List Int},limbs a→limbs b→a.length=b.length→nat32 a=nat32 b→a=b
 | [],[],_,_,_,_=>rfl
 | [],_::_,_,_,h,_=>by simp at h
 | _::_,[],_,_,h,_=>by simp at h
 | x::a,y::b,ha,hb,hl,h=>by
  have h1:=limbs_cons.1 ha
  have h2:=limbs_cons.1 hb
  simp only [nat32] at h
  have e1:x=y:=by omega
  have e2:nat32 a=nat32 b:=by omega
  rw [e1,nat32_inj h1.2 h2.2 (by simpa using hl) e2]
theorem len_lt {a b:List Int} (ha:canon a) (hb:canon b) (h:a.length<b.length):nat32 a<nat32 b:=by
 have h1:=nat32_lt ha.1
 have h2:=nat32_ge hb (fun e=>by simp [e] at h)
 have h3:4294967296 ^ a.length≤4294967296 ^ (b.length - 1):=Nat.pow_le_pow_right (by omega) (by omega)
 omega
theorem canon_inj {a b:List Int} (ha:canon a) (hb:canon b) (h:nat32 a=nat32 b):a=b:=by
 refine nat32_inj ha.1 hb.1 ?_ h
 rcases Nat.lt_trichotomy a.length b.length with h1 | h1 | h1
 ·have:=len_lt ha hb h1; omega
 ·exact h1
 ·have:=len_lt hb ha h1; omega
def tlen (l:List Int):Nat→Nat
 | 0=>0
 | k+1=>if l[k]? = some 0 then tlen l k else k+1
def trimL (l:List Int):List Int:=l.take (tlen l l.length)
theorem tlen_le (l:List Int) : ∀ k,tlen l k≤k
 | 0=>Nat.le_refl _
 | k+1=>by
  simp only [tlen]
  split
  ·have:=tlen_le l k; omega
  ·omega
theorem ratio_trim_eq {l:List Int} (hn:Small l):ratio_trim l=some (trimL l):=by
 unfold ratio_trim
 have h:=it_meas (f:=ratio_trim_loop1 l) (fun s=>s.toNat) (fun s=>(tlen l s.toNat:Int)) (fun s=>0≤s∧s≤l.length)
  (fun s hs=>by
   unfold ratio_trim_loop1
   by_cases h0:0<s
   ·have hw:w64 (s - 1)=s - 1:=w64_id (by omega) (by omega)
    obtain ⟨v,h1,h2⟩:=idx_lt (a:=l) (i:=s - 1) (by omega) (by omega)
    obtain ⟨k,hk⟩ : ∃ k,s.toNat=k+1:=⟨s.toNat - 1,by omega⟩
    have e:(s - 1).toNat=k:=by omega
    rw [e] at h2
    rw [dec_t h0]
    simp only [cond_true,hw,h1,Option.bind_some]
    by_cases hv:v=0
    ·right
     refine ⟨s - 1,by simp [hv],⟨by omega,by omega⟩,by omega,?_⟩
     rw [e,hk]
     simp [tlen,h2,hv]
    ·left
     have:((v:Int)==0)=false:=by simpa using hv
     rw [this]
     simp only [cond_false,hk,tlen,h2]
     rw [if_neg (by simpa using hv)]
     congr 2
     omega
   ·left
    have:s=0:=by omega
    subst this
    rfl) (s:=(l.length:Int)) ⟨by omega,by omega⟩ (by simpa using hn)
 rw [h]
 simp only [Option.bind_some,Int.toNat_natCast]
 have:=tlen_le l l.length
 rw [chk_d ⟨by omega,by omega,by omega⟩]
 rfl
theorem tlen_nat (l:List Int) : ∀ k,nat32 (l.take (tlen l k))=nat32 (l.take k)
 | 0=>rfl
 | k+1=>by
  simp only [tlen]
  split
  ·rename_i h
   rw [tlen_nat l k,List.take_add_one,h,nat32_append]
   simp [nat32]
  ·rfl
theorem trimL_nat (l:List Int):nat32 (trimL l)=nat32 l:=by
 unfold trimL
 rw [tlen_nat,List.take_length]
theorem trimL_canon {l:List Int} (h:limbs l):canon (trimL l):=by
 refine ⟨limbs_take h,?_⟩
 unfold trimL
 have gen : ∀ k,k≤l.length→(l.take (tlen l k)).getLast? ≠ some 0:=by
  intro k
  induction k with
  | zero=>intro _; simp [tlen]
  | succ k ih=>
   intro hk
   simp only [tlen]
   split
   ·exact ih (by omega)
   ·rename_i h0
    rw [List.getLast?_eq_getElem?,List.getElem?_take]
    have:(l.take (k+1)).length=k+1:=by simp; omega
    rw [this]
    simpa using h0
 exact gen _ (Nat.le_refl _)
theorem trimL_len (l:List Int):(trimL l).length≤l.length:=by
 unfold trimL
 rw [List.length_take]; omega
theorem trimL_id {l:List Int} (h:canon l):trimL l=l:=
 canon_inj (trimL_canon h.1) h (trimL_nat l)
def cmpN (a b:Nat):Int:=if a<b then -1 else if a=b then 0 else 1
theorem nat32_take {l:List Int} {k:Nat} {x:Int} (h:l[k]? = some x):nat32 (l.take (k+1))=nat32 (l.take k)+4294967296 ^ k * x.toNat:=by
 have hk:=lt_of_at h
 rw [List.take_add_one,h,nat32_append,List.length_take,Nat.min_eq_left (by omega)]
 simp [nat32]
theorem ratio_compare_eq {a b:List Int} (ha:canon a) (hb:canon b) (hn:Small a):ratio_compare a b=some (cmpN (nat32 a) (nat32 b)):=by
 unfold ratio_compare cmpN
 by_cases hl:a.length=b.length
 ·have e0:((a.length:Int) != (b.length:Int))=false:=by simp [hl]
  have hw:w64 ((a.length:Int) - 1)=(a.length:Int) - 1:=w64_id (by omega) (by omega)
  rw [e0,cond_false,hw]
  have h:=it_meas (f:=ratio_compare_loop1 a b) (fun s=>(s+1).toNat) (fun s=>if nat32 (a.take (s+1).toNat)=nat32 (b.take (s+1).toNat) then (Sum.inl ():Unit⊕Int) else Sum.inr (cmpN (nat32 (a.take (s+1).toNat)) (nat32 (b.take (s+1).toNat))))
   (fun s=>-1≤s∧s<a.length)
   (fun s hs=>by
    unfold ratio_compare_loop1
    by_cases h0:0≤s
    ·obtain ⟨k,rfl⟩ : ∃ k:Nat,s=k:=⟨s.toNat,by omega⟩
     have hk:k<a.length:=by omega
     have ax:a[k]? = some a[k]:=List.getElem?_eq_getElem hk
     have bx:b[k]? = some b[k]:=List.getElem?_eq_getElem (by omega)
     have a0:=ha.1 a[k] (List.getElem_mem hk)
     have b0:=hb.1 b[k] (List.getElem_mem (by omega))
     have e1:((k:Int)+1).toNat=k+1:=by omega
     have ea:=nat32_take ax
     have eb:=nat32_take bx
     have la:=nat32_lt (limbs_take (k:=k) ha.1)
     have lb:=nat32_lt (limbs_take (k:=k) hb.1)
     rw [List.length_take,Nat.min_eq_left (by omega)] at la lb
     rw [dec_t h0,idx_nat ax,idx_nat bx]
     simp only [cond_true,Option.bind_some,e1]
     generalize a[k]=x at *
     generalize b[k]=y at *
     generalize hp:nat32 (a.take k)=p at *
     generalize hq:nat32 (b.take k)=q at *
     generalize hB:4294967296 ^ k=B at *
     by_cases hxy:x=y
     ·right
      subst hxy
      have hw1:w64 ((k:Int) - 1)=(k:Int) - 1:=w64_id (by omega) (by omega)
      refine ⟨(k:Int) - 1,?_,⟨by omega,by omega⟩,by omega,?_⟩
      ·simp [hw1]
      ·have e2:((k:Int) - 1+1).toNat=k:=by omega
       rw [e2,ea,eb,hp,hq]
       unfold cmpN
       by_cases hpq:p=q
       ·simp [hpq]
       ·simp [hpq]
     ·left
      have hne:((x:Int) != y)=true:=by simpa using hxy
      rw [hne,ea,eb]
      simp only [cond_true]
      unfold cmpN
      by_cases hlt:x<y
      ·have h1:B * (x.toNat+1)≤B * y.toNat:=Nat.mul_le_mul_left _ (by omega)
       rw [Nat.mul_add,Nat.mul_one] at h1
       rw [dec_t hlt,cond_true,if_neg (by omega),if_pos (by omega)]
      ·have h1:B * (y.toNat+1)≤B * x.toNat:=Nat.mul_le_mul_left _ (by omega)
       rw [Nat.mul_add,Nat.mul_one] at h1
       rw [dec_f hlt,cond_false,if_neg (by omega),if_neg (by omega),if_neg (by omega)]
    ·left
     have:s = -1:=by omega
     subst this
     rfl) (s:=(a.length:Int) - 1) ⟨by omega,by omega⟩ (by simp; omega)
  rw [h]
  have e3:((a.length:Int) - 1+1).toNat=a.length:=by omega
  simp only [e3,Option.bind_some,List.take_length]
  rw [show b.take a.length=b by rw [hl,List.take_length]]
  unfold cmpN
  by_cases he:nat32 a=nat32 b
  ·rw [if_pos he,if_neg (by omega),if_pos he]
  ·rw [if_neg he]
 ·have e0:((a.length:Int) != (b.length:Int))=true:=by simp; omega
  rw [e0,cond_true]
  by_cases h1:a.length<b.length
  ·have:=len_lt ha hb h1
   rw [dec_t (show (a.length:Int)<b.length by omega),cond_true,if_pos this]
  ·have:=len_lt hb ha (by omega)
   rw [dec_f (show ¬ (a.length:Int)<b.length by omega),cond_false,if_neg (by omega),if_neg (by omega)]
end Go.Proofs.YtknnphhepnbaoaaGreatDoor
namespace Go.Proofs.YtknnphhepnbaoaaGreatDoor
open Go.Sm
theorem join32 {hi lo:Nat} (h1:hi<4294967296) (h2:lo<4294967296):bitI .or .u64 (shlI .u64 (IntKind.u64.wrap (hi:Int)) (32:Int)) (IntKind.u64.wrap (lo:Int))=((hi * 4294967296+lo:Nat):Int):=by
 have e1:IntKind.u64.wrap (hi:Int)=(hi:Int):=by rw [IntKind.wrap_u64]; omega
 have e2:IntKind.u64.wrap (lo:Int)=(lo:Int):=by rw [IntKind.wrap_u64]; omega
 have e3:shlI .u64 (hi:Int) (32:Int)=((hi * 4294967296:Nat):Int):=by
  show IntKind.u64.wrap ((hi:Int) * 2 ^ (min (32:Int).toNat 64))=_
  have:(2:Int) ^ (min (32:Int).toNat 64)=4294967296:=by decide
  rw [this,IntKind.wrap_u64]; omega
 rw [e1,e2,e3]
 show bits .or .u64 ((hi * 4294967296:Nat):Int) (lo:Int)=_
 rw [bits_or_u64_nat _ _ (by omega) (by omega)]
 congr 1
 have:=Nat.two_pow_add_eq_or_of_lt (i:=32) (b:=lo) (by omega) hi
 rw [show (2:Nat) ^ 32=4294967296 by decide,Nat.mul_comm] at this
 exact this.symm
theorem div32_eq {B hi lo d:Nat} (hB:B=4294967296) (h1:hi<d) (hd:d<4294967296) (h2:lo<4294967296) :
  math_bits_Div32 (hi:Int) (lo:Int) (d:Int)=some ((((hi * B+lo) / d:Nat):Int),(((hi * B+lo) % d:Nat):Int)):=by
 rw [hB]
 unfold math_bits_Div32
 have ed:IntKind.u64.wrap (d:Int)=(d:Int):=by rw [IntKind.wrap_u64]; omega
 have hj:=join32 (hi:=hi) (lo:=lo) (by omega) h2
 have hq:(hi * 4294967296+lo) / d<4294967296:=Nat.div_lt_of_lt_mul (by
  have:(hi+1) * 4294967296≤d * 4294967296:=Nat.mul_le_mul_right _ h1
  rw [Nat.mul_comm d]; omega)
 have hr:(hi * 4294967296+lo) % d<d:=Nat.mod_lt _ (by omega)
 have hz:((d:Int)==0)=false:=by
  rw [beq_eq_false_iff_ne]; omega
 rw [hj,ed]
 have h0 : ¬ (d:Int)≤(hi:Int):=by omega
 rw [dec_f h0,hz,← Int.ofNat_tdiv,← Int.ofNat_tmod]
 generalize (hi * 4294967296+lo) / d=Q at *
 generalize (hi * 4294967296+lo) % d=R at *
 simp only [Bool.cond_false_right,Bool.and_false,cond_false,Option.bind_some,Bool.not_false]
 rw [chk_d (by omega),chk_t rfl,chk_t rfl]
 rw [show IntKind.u64.wrap (Q:Int)=(Q:Int) by rw [IntKind.wrap_u64]; omega,show IntKind.u32.wrap (Q:Int)=(Q:Int) by rw [IntKind.wrap_u32]; omega,show IntKind.u32.wrap (R:Int)=(R:Int) by rw [IntKind.wrap_u32]; omega]
def smallF (B:Nat) (x:List Int) (d:Nat):Nat→List Int→Nat→List Int×Nat
 | 0,out,r=>(out,r)
 | k+1,out,r=>smallF B x d k (out.set k (((r * B+(x.getD k 0).toNat) / d:Nat):Int)) ((r * B+(x.getD k 0).toNat) % d)
theorem nat32_B {l:List Int} {k B:Nat} {x:Int} (hB:B=4294967296) (h:l[k]? = some x):nat32 (l.take (k+1))=nat32 (l.take k)+B ^ k * x.toNat:=by rw [hB]; exact nat32_take h
theorem smallF_ok {B:Nat} {x:List Int} {d:Nat} (hB:B=4294967296) (hx:limbs x) (hd:1≤d) (k:Nat) : ∀ (out:List Int) (r:Nat),k≤x.length→out.length=x.length→r<d →
  ∃ q R,smallF B x d k out r=(q++out.drop k,R)∧q.length=k∧limbs q∧nat32 q * d+R=nat32 (x.take k)+B ^ k * r∧R<d:=by
 induction k with
 | zero=>exact fun out r _ _ hr=>⟨[],r,by simp [smallF],rfl,by simp [limbs],by simp [nat32],hr⟩
 | succ k ih=>
  intro out r hk ho hr
  have hkx:x[k]? = some (x.getD k 0):=by rw [List.getD_eq_getElem?_getD,List.getElem?_eq_getElem (by omega)]; rfl
  have hl:=hx _ (List.mem_of_getElem? hkx)
  have ht:=nat32_B hB hkx
  have hs:smallF B x d (k+1) out r=smallF B x d k (out.set k (((r * B+(x.getD k 0).toNat) / d:Nat):Int)) ((r * B+(x.getD k 0).toNat) % d):=by rw [smallF]
  rw [hs]
  clear hs hkx
  generalize x.getD k 0=v at *
  generalize hT:r * B+v.toNat=T
  have hlt:T % d<d:=Nat.mod_lt _ hd
  have hdm:=Nat.div_add_mod T d
  have hTd:T / d<4294967296:=Nat.div_lt_of_lt_mul (by
   have:(r+1) * B≤d * B:=Nat.mul_le_mul_right _ hr
   rw [Nat.add_mul,Nat.one_mul] at this
   rw [← hB]; omega)
  generalize T / d=a at *
  generalize T % d=b at *
  obtain ⟨q,R,e1,e2,e3,e4,e5⟩:=ih (out.set k (a:Int)) b (by omega) (by rw [List.length_set]; exact ho) hlt
  have hdrop:(out.set k (a:Int)).drop k=(a:Int)::out.drop (k+1):=by
   rw [List.drop_eq_getElem_cons (by rw [List.length_set]; omega),List.getElem_set_self,List.drop_set_of_lt (by omega)]
  refine ⟨q++[(a:Int)],R,by rw [e1,hdrop,List.append_assoc]; rfl,by rw [List.length_append,e2]; rfl,limbs_append.2 ⟨e3,limbs_cons.2 ⟨by omega,fun z hz=>by cases hz⟩⟩,?_,e5⟩
  rw [nat32_append,e2,ht,← hB]
  have e6:nat32 [(a:Int)]=a:=by simp only [nat32,Int.toNat_natCast]; omega
  rw [e6,Nat.add_mul,Nat.pow_succ]
  generalize hC:B ^ k=C at *
  have h1:C * (d * a+b)=C * (r * B+v.toNat):=by rw [hdm,hT]
  rw [Nat.mul_add,Nat.mul_add] at h1
  have h2:C * a * d=C * (d * a):=by rw [Nat.mul_assoc,Nat.mul_comm a d]
  have h3:C * B * r=C * (r * B):=by rw [Nat.mul_assoc,Nat.mul_comm B r]
  omega
theorem ratio_small_eq {x:List Int} {d:Nat} (hx:limbs x) (hn:x.length≤1000000) (h1:1≤d) (hd:d<4294967296) :
  ∃ q:List Int,ratio_small x (d:Int)=some (q,((nat32 x % d:Nat):Int))∧canon q∧nat32 q=nat32 x / d∧q.length≤x.length:=by
 obtain ⟨B,hB⟩ : ∃ B:Nat,B=4294967296:=⟨_,rfl⟩
 have h:=it_meas (f:=ratio_small_loop1 x (d:Int)) (fun s=>(s.2.2+1).toNat) (fun s=>((smallF B x d (s.2.2+1).toNat s.1 s.2.1.toNat).1,((smallF B x d (s.2.2+1).toNat s.1 s.2.1.toNat).2:Int)))
  (fun s=>s.1.length=x.length∧(0≤s.2.1∧s.2.1<d)∧-1≤s.2.2∧s.2.2<x.length)
  (fun s hs=>by
   obtain ⟨out,r,i⟩:=s
   obtain ⟨g1,⟨g2,g3⟩,g4,g5⟩:=hs
   simp only at g1 g2 g3 g4 g5
   unfold ratio_small_loop1
   simp only
   by_cases h0:0≤i
   ·obtain ⟨k,rfl⟩ : ∃ k:Nat,i=k:=⟨i.toNat,by omega⟩
    obtain ⟨rn,rfl⟩ : ∃ rn:Nat,r=rn:=⟨r.toNat,by omega⟩
    have hk:k<x.length:=by omega
    have ax:x[k]? = some x[k]:=List.getElem?_eq_getElem hk
    have ox:out[k]? = some out[k]:=List.getElem?_eq_getElem (by omega)
    have a0:=hx x[k] (List.getElem_mem hk)
    have hg:x.getD k 0=x[k]:=by rw [List.getD_eq_getElem?_getD,ax]; rfl
    obtain ⟨vn,hvn⟩ : ∃ vn:Nat,x[k]=(vn:Int):=⟨x[k].toNat,by omega⟩
    right
    rw [dec_t h0,idx_nat ax]
    simp only [cond_true,Option.bind_some]
    rw [hvn,div32_eq (B:=B) (hi:=rn) (lo:=vn) (d:=d) hB (by omega) hd (by omega)]
    simp only [Option.bind_some]
    rw [idx_nat ox]
    simp only [Option.bind_some]
    have hw:w64 ((k:Int) - 1)=(k:Int) - 1:=w64_id (by omega) (by omega)
    have hlt:(rn * B+vn) % d<d:=Nat.mod_lt _ (by omega)
    refine ⟨_,rfl,⟨by simpa using g1,⟨by simp only; omega,by simp only; omega⟩,by simp only; rw [hw]; omega,by simp only; rw [hw]; omega⟩,by simp only; rw [hw]; omega,?_⟩
    simp only
    rw [hw]
    have e1:((k:Int) - 1+1).toNat=k:=by omega
    have e2:((k:Int)+1).toNat=k+1:=by omega
    have e3:((k:Int)).toNat=k:=by omega
    rw [e1,e2,e3,Int.toNat_natCast,Int.toNat_natCast]
    have hs:smallF B x d (k+1) out rn=smallF B x d k (out.set k (((rn * B+vn) / d:Nat):Int)) ((rn * B+vn) % d):=by rw [smallF,hg,hvn,Int.toNat_natCast]
    rw [hs]
   ·left
    have:i = -1:=by omega
    subst this
    rw [dec_f h0,cond_false]
    obtain ⟨rn,rfl⟩ : ∃ rn:Nat,r=rn:=⟨r.toNat,by omega⟩
    have e1:((-1:Int)+1).toNat=0:=rfl
    rw [e1,Int.toNat_natCast,smallF]) (s:=(List.replicate (x.length:Int).toNat 0,0,(x.length:Int) - 1)) ⟨by simp,⟨by simp,by simp only; omega⟩,by simp only; omega,by simp only; omega⟩ (by simp only; omega)
 have e1:((x.length:Int) - 1+1).toNat=x.length:=by omega
 simp only [e1,Int.toNat_zero,Int.toNat_natCast] at h
 obtain ⟨q,R,f1,f2,f3,f4,f5⟩:=smallF_ok hB hx h1 x.length (List.replicate x.length 0) 0 (Nat.le_refl _) (by simp) (by omega)
 have hdrop:(List.replicate x.length (0:Int)).drop x.length=[]:=List.drop_eq_nil_of_le (by simp)
 rw [f1,hdrop,List.append_nil] at h
 rw [List.take_length,Nat.mul_zero,Nat.add_zero] at f4
 have hR:R=nat32 x % d:=by
  rw [← f4,Nat.add_comm,Nat.add_mul_mod_self_right,Nat.mod_eq_of_lt f5]
 have hQ:nat32 q=nat32 x / d:=by
  rw [← f4,Nat.add_comm,Nat.add_mul_div_right _ _ (by omega),Nat.div_eq_of_lt f5,Nat.zero_add]
 refine ⟨trimL q,?_,trimL_canon f3,by rw [trimL_nat,hQ],by have:=trimL_len q; omega⟩
 unfold ratio_small
 rw [chk_d ⟨by omega,by omega,by simp only [maxLen]; omega⟩,w64_id (by omega) (by omega)]
 rw [Int.toNat_natCast] at *
 rw [h]
 simp only [Option.bind_some]
 rw [ratio_trim_eq (by show q.length<_; omega)]
 simp only [Option.bind_some,hR]
theorem ratio_isOne_eq {x:List Int} (hx:canon x):ratio_isOne x=some (decide (nat32 x=1)):=by
 unfold ratio_isOne
 match x,hx with
 | [],_=>rfl
 | [v],hx=>
  have h0:=(limbs_cons.1 hx.1).1
  have hi:idx [v] (0:Int)=some v:=idx_nat (i:=0) rfl
  have e0:((([v]:List Int).length:Int)==1)=true:=rfl
  rw [e0,hi]
  simp only [cond_true,Option.bind_some]
  congr 1
  have e1:nat32 [v]=v.toNat:=by simp only [nat32]; omega
  rw [Bool.eq_iff_iff,beq_iff_eq,decide_eq_true_eq,e1]; omega
 | u::v::r,hx=>
  have e0:(((u::v::r).length:Int)==1)=false:=by simp; omega
  have h1:=nat32_ge hx (by simp)
  have h2:4294967296 ^ 1≤4294967296 ^ ((u::v::r).length - 1):=Nat.pow_le_pow_right (by omega) (by simp)
  have h3:nat32 (u::v::r)≠1:=by
   rw [Nat.pow_one] at h2; omega
  rw [e0,dec_f h3]
  rfl
theorem canon_one {n:Nat} (h1:1≤n) (h:n<4294967296):canon [(n:Int)]:=by
 refine ⟨limbs_cons.2 ⟨by omega,by simp [limbs]⟩,?_⟩
 simp only [List.getLast?_singleton,ne_eq,Option.some.injEq]
 omega
def oneL (n:Nat):List Int:=if n=0 then [] else [(n:Int)]
theorem oneL_canon {n:Nat} (h:n<4294967296):canon (oneL n):=by
 unfold oneL
 split
 ·exact ⟨by simp [limbs],by simp⟩
 ·exact canon_one (by omega) h
theorem oneL_nat (n:Nat):nat32 (oneL n)=n:=by
 unfold oneL
 split
 ·simp_all [nat32]
 ·simp [nat32]
theorem ratio_whole_eq {n:Nat} (h:n<4294967296):ratio_whole (n:Int)=some (oneL n):=by
 unfold ratio_whole
 have e1:IntKind.u32.wrap (n:Int)=(n:Int):=by rw [IntKind.wrap_u32]; omega
 have e2:IntKind.u32.wrap (shrI .u64 (n:Int) (32:Int))=0:=by
  have:shrI .u64 (n:Int) (32:Int)=0:=by
   show Int.fdiv (n:Int) (2 ^ (min (32:Int).toNat 64))=0
   have:(2:Int) ^ (min (32:Int).toNat 64)=4294967296:=by decide
   rw [this,Int.fdiv_eq_ediv_of_nonneg _ (by omega)]
   omega
  rw [this]; rfl
 rw [chk_d (by omega),e1,e2,ratio_trim_eq (by simp)]
 simp only [Option.bind_some]
 congr 1
 refine canon_inj (trimL_canon (limbs_cons.2 ⟨by omega,limbs_cons.2 ⟨by omega,by simp [limbs]⟩⟩)) (oneL_canon h) ?_
 rw [trimL_nat,oneL_nat]
 simp [nat32]
theorem ratio_divide_one {x:List Int} {d:Nat} (hx:canon x) (hn:x.length≤1000000) (h1:1≤d) (hd:d<4294967296) :
  ∃ q:List Int,ratio_divide x [(d:Int)]=some (q,oneL (nat32 x % d))∧canon q∧nat32 q=nat32 x / d:=by
 have hc:=canon_one h1 hd
 have hdn:nat32 [(d:Int)]=d:=by simp [nat32]
 have hcmp:=ratio_compare_eq hx hc (by show x.length<_; omega)
 rw [hdn] at hcmp
 unfold ratio_divide
 rw [hcmp]
 simp only [Option.bind_some,cmpN]
 by_cases hlt:nat32 x<d
 ·rw [if_pos hlt]
  have hx1:x=oneL (nat32 x):=canon_inj hx (oneL_canon (by omega)) (oneL_nat _).symm
  refine ⟨[],?_,⟨by simp [limbs],by simp⟩,by rw [Nat.div_eq_of_lt hlt]; rfl⟩
  have hcl:slices_Clone_uint32_uint32 x=some x:=by
   unfold slices_Clone_uint32_uint32
   rw [cond_false,chk_t (appOk_le (by simp only [List.length_nil]; omega) (by omega))]
   rfl
  rw [hcl,Nat.mod_eq_of_lt hlt,← hx1]
  rfl
 ·obtain ⟨q,e1,e2,e3,_⟩:=ratio_small_eq hx.1 hn h1 hd
  have hr:nat32 x % d<d:=Nat.mod_lt _ (by omega)
  refine ⟨q,?_,e2,e3⟩
  have hi:idx [(d:Int)] (0:Int)=some (d:Int):=idx_nat (i:=0) rfl
  have e0:((([(d:Int)]:List Int).length:Int)==1)=true:=rfl
  have hneg:decide ((if nat32 x<d then (-1:Int) else if nat32 x=d then 0 else 1)<0)=false:=by
   rw [if_neg hlt]; split <;> decide
  rw [hneg,cond_false,e0,cond_true,hi]
  simp only [Option.bind_some,e1]
  have ew:IntKind.u64.wrap ((nat32 x % d:Nat):Int)=((nat32 x % d:Nat):Int):=by rw [IntKind.wrap_u64]; omega
  rw [ew,ratio_whole_eq (by omega)]
  rfl
end Go.Proofs.YtknnphhepnbaoaaGreatDoor
namespace Go.Proofs.YtknnphhepnbaoaaGreatDoor
open Go.Sm
theorem it_inv {S R:Type} {f:S→Option (S⊕R)} (m:S→Nat) (inv:S→Prop) (Q:R→Prop)
  (hstep : ∀ s,inv s→(∃ r,f s=some (.inr r)∧Q r)∨∃ s',f s=some (.inl s')∧inv s' ∧ m s' < m s) {s:S} (hs:inv s) (hm:m s<9223372036854775808) : ∃ r,Itr.it f s=some r∧Q r:=by
 have gen : ∀ (k:Nat) (s:S),inv s→m s<k→∃ r,iter f k s=some r∧Q r:=by
  intro k
  induction k with
  | zero=>intro s _ h; omega
  | succ k ih=>
   intro s hs h
   rcases hstep s hs with ⟨r,h1,h2⟩ | ⟨s',h1,h2,h3⟩
   ·exact ⟨r,by simp only [iter,h1,Option.bind_some],h2⟩
   ·obtain ⟨r,e1,e2⟩:=ih s' h2 (by omega)
    exact ⟨r,by simp only [iter,h1,Option.bind_some]; exact e1,e2⟩
 exact gen FUEL s hs hm
theorem ratio_common_eq {x:List Int} {d:Nat} (hx:canon x) (hn:x.length≤1000000) (hd:d<4294967296) :
  ∃ g,ratio_common x (oneL d)=some g∧canon g∧nat32 g=Nat.gcd (nat32 x) d:=by
 have h:=it_inv (f:=ratio_common_loop1) (fun s=>nat32 s.2) (fun s=>canon s.1∧s.1.length≤1000000∧(∃ e,e<4294967296∧s.2=oneL e)∧Nat.gcd (nat32 s.1) (nat32 s.2)=Nat.gcd (nat32 x) d)
  (fun g=>canon g∧nat32 g=Nat.gcd (nat32 x) d)
  (fun s hs=>by
   obtain ⟨a,b⟩:=s
   obtain ⟨h1,h2,⟨e,he,rfl⟩,h4⟩:=hs
   simp only at h1 h2 h4
   unfold ratio_common_loop1
   rw [oneL_nat] at h4
   by_cases h0:e=0
   ·left
    subst h0
    refine ⟨a,rfl,h1,?_⟩
    rw [← h4,Nat.gcd_zero_right]
   ·right
    have ho:oneL e=[(e:Int)]:=by unfold oneL; rw [if_neg h0]
    obtain ⟨q,e1,_,_⟩:=ratio_divide_one h1 h2 (d:=e) (by omega) he
    have hr:nat32 a % e<e:=Nat.mod_lt _ (by omega)
    refine ⟨([(e:Int)],oneL (nat32 a % e)),?_,⟨canon_one (by omega) he,by simp,⟨_,by omega,rfl⟩,?_⟩,?_⟩
    ·simp only [ho]
     have hl:decide ((0:Int)<(([(e:Int)]:List Int).length:Int))=true:=rfl
     rw [hl,cond_true,e1]
     rfl
    ·simp only
     rw [← h4,oneL_nat,← ho,oneL_nat,Nat.gcd_comm (nat32 a) e,Nat.gcd_rec e (nat32 a),Nat.gcd_comm]
    ·simp only [oneL_nat]; omega) (s:=(x,oneL d)) ⟨hx,hn,⟨d,hd,rfl⟩,by simp only [oneL_nat]⟩ (by simp only [oneL_nat]; omega)
 obtain ⟨g,h1,h2,h3⟩:=h
 refine ⟨g,?_,h2,h3⟩
 unfold ratio_common
 rw [h1]
 rfl
theorem nat32_set {B:Nat} (hB:B=4294967296) : ∀ {l:List Int} {j:Nat} {u v:Int},l[j]? = some u→nat32 (l.set j v)+B ^ j * u.toNat=nat32 l+B ^ j * v.toNat
 | [],_,_,_,h=>by simp at h
 | x::l,0,u,v,h=>by
  simp only [List.getElem?_cons_zero,Option.some.injEq] at h
  subst h
  simp only [List.set_cons_zero,nat32,Nat.pow_zero,Nat.one_mul]
  omega
 | x::l,j+1,u,v,h=>by
  have:=nat32_set hB (l:=l) (j:=j) (u:=u) (v:=v) (by simpa using h)
  simp only [List.set_cons_succ,nat32,Nat.pow_succ]
  have e1:B ^ j * B * u.toNat=B * (B ^ j * u.toNat):=by rw [Nat.mul_comm (B ^ j) B,Nat.mul_assoc]
  have e2:B ^ j * B * v.toNat=B * (B ^ j * v.toNat):=by rw [Nat.mul_comm (B ^ j) B,Nat.mul_assoc]
  rw [e1,e2,← hB]
  have:B * (nat32 (l.set j v)+B ^ j * u.toNat)=B * (nat32 l+B ^ j * v.toNat):=by rw [this]
  rw [Nat.mul_add,Nat.mul_add] at this
  omega
theorem limbs_set {l:List Int} {j:Nat} {v:Int} (h:limbs l) (h0:0≤v) (h1:v<4294967296):limbs (l.set j v):=fun x hx=>by
 rcases List.mem_or_eq_of_mem_set hx with h2 | rfl
 ·exact h x h2
 ·exact ⟨h0,h1⟩
theorem at_of_lt {l:List Int} {j:Nat} (hl:limbs l) (h:j<l.length) : ∃ n:Nat,l[j]? = some (n:Int)∧n<4294967296:=by
 have h1:=hl l[j] (List.getElem_mem h)
 exact ⟨l[j].toNat,by rw [List.getElem?_eq_getElem h,Int.toNat_of_nonneg h1.1],by omega⟩
theorem mac {a b c r:Nat} (ha:a<4294967296) (hb:b<4294967296) (hc:c<4294967296) (hr:r<4294967296) :
  IntKind.u64.wrap ((IntKind.u64.wrap ((IntKind.u64.wrap ((IntKind.u64.wrap (a:Int)) * (IntKind.u64.wrap (b:Int))))+(IntKind.u64.wrap (c:Int))))+(r:Int))=((a * b+c+r:Nat):Int)∧a * b+c+r<18446744073709551616:=by
 have hab:a * b≤4294967295 * 4294967295:=Nat.mul_le_mul (by omega) (by omega)
 have e0:(4294967295:Nat) * 4294967295=18446744065119617025:=by decide
 rw [e0] at hab
 refine ⟨?_,by omega⟩
 have ea:IntKind.u64.wrap (a:Int)=(a:Int):=by rw [IntKind.wrap_u64]; omega
 have eb:IntKind.u64.wrap (b:Int)=(b:Int):=by rw [IntKind.wrap_u64]; omega
 have ec:IntKind.u64.wrap (c:Int)=(c:Int):=by rw [IntKind.wrap_u64]; omega
 rw [ea,eb,ec,← Int.natCast_mul]
 generalize a * b=p at *
 have ep:IntKind.u64.wrap (p:Int)=(p:Int):=by rw [IntKind.wrap_u64]; omega
 have eq:IntKind.u64.wrap ((p:Int)+(c:Int))=((p+c:Nat):Int):=by rw [IntKind.wrap_u64]; omega
 rw [ep,eq,IntKind.wrap_u64]; omega
theorem shr32 (n:Nat):shrI .u64 (n:Int) (32:Int)=((n / 4294967296:Nat):Int):=by
 show Int.fdiv (n:Int) (2 ^ (min (32:Int).toNat 64))=_
 have:(2:Int) ^ (min (32:Int).toNat 64)=4294967296:=by decide
 rw [this,Int.fdiv_eq_ediv_of_nonneg _ (by omega)]
 omega
theorem low32 {n:Nat} (h:n<18446744073709551616):IntKind.u32.wrap (n:Int)=((n % 4294967296:Nat):Int):=by
 rw [IntKind.wrap_u32]; omega
theorem times_inner {B:Nat} (hB:B=4294967296) {y out:List Int} {a i:Nat} (hy:limbs y) (ho:limbs out) (ha:a<4294967296) (hlen:i+y.length≤out.length) (hs:out.length≤1000000) :
  ∃ r:List Int×Int,Itr.it (ratio_times_loop2 y (out,(i:Int)) (a:Int)) (out,0,0)=some r∧limbs r.1∧r.1.length=out.length∧(∃ c:Nat,r.2=c∧c<4294967296∧nat32 r.1+B ^ (i+y.length) * c=nat32 out+B ^ i * (a * nat32 y)) ∧
   ∀ j,i+y.length≤j→r.1[j]? = out[j]? := by
 refine it_inv (f:=ratio_times_loop2 y (out,(i:Int)) (a:Int)) (fun s=>y.length - s.2.2.toNat)
  (fun s=>limbs s.1∧s.1.length=out.length∧(∃ k:Nat,s.2.2=(k:Int)∧k≤y.length∧(∃ c:Nat,s.2.1=c∧c<4294967296∧nat32 s.1+B ^ (i+k) * c=nat32 out+B ^ i * (a * nat32 (y.take k)))∧∀ j,i+k≤j→s.1[j]? = out[j]?))
  _ (fun s hs' => ?_) (s:=(out,0,0)) ⟨ho,rfl,0,rfl,by omega,⟨0,rfl,by omega,by simp [nat32]⟩,fun _ _=>rfl⟩ (by simp only; omega)
 obtain ⟨o,cr,kk⟩:=s
 obtain ⟨h1,h2,k,h3,h4,⟨c,h5,h6,h7⟩,h8⟩:=hs'
 simp only at h1 h2 h3 h5 h7 h8
 subst h3 h5
 unfold ratio_times_loop2
 simp only
 by_cases hk:k<y.length
 ·right
  obtain ⟨b,hb,hb2⟩:=at_of_lt hy hk
  obtain ⟨u,hu,hu2⟩:=at_of_lt h1 (show i+k<o.length by omega)
  have hw:w64 ((i:Int)+(k:Int))=((i+k:Nat):Int):=by rw [w64_id (by omega) (by omega)]; omega
  have hw2:w64 ((k:Int)+1)=((k+1:Nat):Int):=by rw [w64_id (by omega) (by omega)]; omega
  obtain ⟨m1,m2⟩:=mac ha hb2 hu2 h6
  rw [dec_t (show (k:Int)<(y.length:Int) by omega),idx_nat hb]
  simp only [cond_true,Option.bind_some]
  rw [hw,idx_nat hu]
  simp only [Option.bind_some]
  rw [chk_d (by omega),m1,low32 m2,shr32,hw2]
  have hyk:=nat32_B hB hb
  have hset:=nat32_set hB (v:=(((a * b+u+c) % 4294967296:Nat):Int)) hu
  generalize hT:a * b+u+c=T at *
  refine ⟨_,rfl,⟨limbs_set h1 (by omega) (by omega),by rw [List.length_set]; exact h2,k+1,rfl,by omega,⟨T / 4294967296,rfl,by omega,?_⟩,fun j hj=>?_⟩,by simp only [Int.toNat_natCast]; omega⟩
  ·simp only [Int.toNat_natCast] at hset hyk ⊢
   rw [hyk,Nat.mul_add,Nat.mul_add]
   have hdm:T % 4294967296+B * (T / 4294967296)=T:=by rw [hB]; omega
   generalize T % 4294967296=lo at *
   generalize T / 4294967296=hi at *
   have e1:B ^ (i+(k+1)) * hi=B ^ (i+k) * (B * hi):=by rw [← Nat.add_assoc,Nat.pow_succ,Nat.mul_assoc]
   have e2:B ^ i * (a * (B ^ k * b))=B ^ (i+k) * (a * b):=by
    rw [Nat.pow_add,Nat.mul_assoc (B ^ i) (B ^ k),← Nat.mul_assoc a,Nat.mul_comm a (B ^ k),Nat.mul_assoc (B ^ k)]
   rw [e1,e2]
   generalize B ^ (i+k)=D at *
   have e3:D * lo+D * (B * hi)=D * (a * b)+D * u+D * c:=by
    rw [← Nat.mul_add,hdm,← hT,Nat.mul_add,Nat.mul_add]
   omega
  ·have hij : ¬ ((i+k:Nat):Int).toNat=j:=by omega
   simp only
   rw [List.getElem?_set_ne (by omega)]
   exact h8 j (by omega)
 ·left
  have hk2:k=y.length:=by omega
  subst hk2
  rw [dec_f (show ¬ ((y.length:Int)<(y.length:Int)) by omega),cond_false]
  rw [List.take_length] at h7
  exact ⟨_,rfl,h1,h2,⟨c,rfl,h6,h7⟩,h8⟩
theorem ratio_times_eq {x y:List Int} (hx:limbs x) (hy:limbs y) (hn:x.length+y.length≤1000000) : ∃ z,ratio_times x y=some z∧canon z∧nat32 z=nat32 x * nat32 y∧z.length≤x.length+y.length:=by
 obtain ⟨B,hB⟩ : ∃ B:Nat,B=4294967296:=⟨_,rfl⟩
 have hw:w64 ((x.length:Int)+(y.length:Int))=((x.length+y.length:Nat):Int):=by rw [w64_id (by omega) (by omega)]; omega
 have hzero : ∀ n,nat32 (List.replicate n (0:Int))=0:=fun n=>by
  induction n with
  | zero=>rfl
  | succ n ih=>rw [List.replicate_succ]; simp only [nat32,ih,Int.toNat_zero,Nat.mul_zero]
 have h:=it_inv (f:=ratio_times_loop1 x y) (fun s=>x.length - s.2.toNat)
  (fun s=>limbs s.1∧s.1.length=x.length+y.length∧(∃ k:Nat,s.2=(k:Int)∧k≤x.length∧nat32 s.1=nat32 (x.take k) * nat32 y∧∀ j,k+y.length≤j→j<x.length+y.length→s.1[j]? = some 0))
  (fun r=>limbs r∧r.length=x.length+y.length∧nat32 r=nat32 x * nat32 y)
  (fun s hs' => by
   obtain ⟨o,kk⟩:=s
   obtain ⟨h1,h2,k,h3,h4,h5,h6⟩:=hs'
   simp only at h1 h2 h3 h5 h6
   subst h3
   unfold ratio_times_loop1
   simp only
   by_cases hk:k<x.length
   ·right
    obtain ⟨a,ha,ha2⟩:=at_of_lt hx hk
    obtain ⟨r,e1,e2,e3,⟨c,e4,e5,e6⟩,e7⟩:=times_inner hB hy h1 ha2 (i:=k) (by omega) (by omega)
    have hz:=h6 (k+y.length) (by omega) (by omega)
    have hr0:r.1[k+y.length]? = some 0:=by rw [e7 _ (Nat.le_refl _),hz]
    have hw1:w64 ((k:Int)+(y.length:Int))=((k+y.length:Nat):Int):=by rw [w64_id (by omega) (by omega)]; omega
    have hw2:w64 ((k:Int)+1)=((k+1:Nat):Int):=by rw [w64_id (by omega) (by omega)]; omega
    have hxk:=nat32_B hB ha
    have hset:=nat32_set hB (v:=(c:Int)) hr0
    rw [dec_t (show (k:Int)<(x.length:Int) by omega),idx_nat ha]
    simp only [cond_true,Option.bind_some,e1]
    rw [hw1,idx_nat hr0]
    simp only [Option.bind_some]
    rw [e4,show IntKind.u32.wrap (c:Int)=(c:Int) by rw [IntKind.wrap_u32]; omega,hw2]
    refine ⟨_,rfl,⟨limbs_set e2 (by omega) (by omega),by rw [List.length_set,e3]; exact h2,k+1,rfl,by omega,?_,fun j hj hj2=>?_⟩,by simp only [Int.toNat_natCast]; omega⟩
    ·simp only [Int.toNat_natCast,Int.toNat_zero,Nat.mul_zero,Nat.add_zero] at hset hxk ⊢
     rw [hset,e6,h5,hxk,Nat.add_mul,Nat.mul_assoc]
    ·simp only [Int.toNat_natCast]
     rw [List.getElem?_set_ne (by omega),e7 j (by omega)]
     exact h6 j (by omega) hj2
   ·left
    have hk2:k=x.length:=by omega
    subst hk2
    rw [dec_f (show ¬ ((x.length:Int)<(x.length:Int)) by omega),cond_false]
    rw [List.take_length] at h5
    exact ⟨_,rfl,h1,h2,h5⟩)
  (s:=(List.replicate (x.length+y.length) 0,0)) ⟨fun z hz=>by rw [(List.mem_replicate.1 hz).2]; omega,by simp,0,rfl,by omega,by simp [nat32,hzero],fun j _ hj=>by simp only; rw [List.getElem?_replicate,if_pos hj]⟩ (by simp only; omega)
 obtain ⟨r,h1,h2,h3,h4⟩:=h
 refine ⟨trimL r,?_,trimL_canon h2,by rw [trimL_nat,h4],by have:=trimL_len r; omega⟩
 unfold ratio_times
 rw [hw,chk_d ⟨by omega,by omega,by simp only [maxLen]; omega⟩,Int.toNat_natCast,h1]
 simp only [Option.bind_some]
 rw [ratio_trim_eq (by show r.length<_; omega)]
 rfl
end Go.Proofs.YtknnphhepnbaoaaGreatDoor
namespace Go.Proofs.YtknnphhepnbaoaaGreatDoor
open Go.Sm
theorem add32_eq {a b c:Nat} (ha:a<4294967296) (hb:b<4294967296) (hc:c≤1):math_bits_Add32 (a:Int) (b:Int) (c:Int)=some ((((a+b+c) % 4294967296:Nat):Int),(((a+b+c) / 4294967296:Nat):Int)):=by
 unfold math_bits_Add32
 have ea:IntKind.u64.wrap (a:Int)=(a:Int):=by rw [IntKind.wrap_u64]; omega
 have eb:IntKind.u64.wrap (b:Int)=(b:Int):=by rw [IntKind.wrap_u64]; omega
 have ec:IntKind.u64.wrap (c:Int)=(c:Int):=by rw [IntKind.wrap_u64]; omega
 have e1:IntKind.u64.wrap ((a:Int)+(b:Int))=((a+b:Nat):Int):=by rw [IntKind.wrap_u64]; omega
 have e2:IntKind.u64.wrap (((a+b:Nat):Int)+(c:Int))=((a+b+c:Nat):Int):=by rw [IntKind.wrap_u64]; omega
 rw [ea,eb,ec,e1,e2,chk_d (by omega),low32 (by omega),shr32,show IntKind.u32.wrap (((a+b+c) / 4294967296:Nat):Int)=(((a+b+c) / 4294967296:Nat):Int) by rw [IntKind.wrap_u32]; omega]
def limbAt (l:List Int) (k:Nat):Nat:=(l.getD k 0).toNat
theorem limbAt_lt {l:List Int} (h:limbs l) (k:Nat):limbAt l k<4294967296:=by
 unfold limbAt
 rw [List.getD_eq_getElem?_getD]
 by_cases hk:k<l.length
 ·rw [List.getElem?_eq_getElem hk]
  have:=h l[k] (List.getElem_mem hk)
  simp only [Option.getD_some]; omega
 ·rw [List.getElem?_eq_none (by omega)]; simp
theorem nat32_takeAt {B:Nat} (hB:B=4294967296) (l:List Int) (k:Nat):nat32 (l.take (k+1))=nat32 (l.take k)+B ^ k * limbAt l k:=by
 unfold limbAt
 rw [List.getD_eq_getElem?_getD]
 by_cases hk:k<l.length
 ·rw [nat32_B hB (List.getElem?_eq_getElem hk),List.getElem?_eq_getElem hk]; rfl
 ·rw [List.take_of_length_le (by omega),List.take_of_length_le (by omega),List.getElem?_eq_none (by omega)]
  simp
theorem plus_loop {x y:List Int} (hx:limbs x) (hy:limbs y) (hl:y.length≤x.length) (hn:x.length≤1000000) :
  ∃ z,(chk (decide (0≤(w64 ((x.length:Int)+(1:Int)))∧(w64 ((x.length:Int)+(1:Int))) * 4≤281474976710656∧(w64 ((x.length:Int)+(1:Int)))≤maxLen)) (
   ((Itr.it (ratio_plus_loop1 (x,y)) (List.replicate (w64 ((x.length:Int)+(1:Int))).toNat 0,0,0):Option ((List Int)×Int))).bind fun s2=>
   (idx s2.1 (x.length:Int)).bind fun _=>
   (idx s2.1 (x.length:Int)).bind fun _=>
   (ratio_trim (s2.1.set (x.length:Int).toNat s2.2)).bind fun r15=>
   some r15))=some z∧canon z∧nat32 z=nat32 x+nat32 y∧z.length≤x.length+1:=by
 obtain ⟨B,hB⟩ : ∃ B:Nat,B=4294967296:=⟨_,rfl⟩
 have hw:w64 ((x.length:Int)+1)=((x.length+1:Nat):Int):=by rw [w64_id (by omega) (by omega)]; omega
 have hzero : ∀ n,nat32 (List.replicate n (0:Int))=0:=fun n=>by
  induction n with
  | zero=>rfl
  | succ n ih=>rw [List.replicate_succ]; simp only [nat32,ih,Int.toNat_zero,Nat.mul_zero]
 have h:=it_inv (f:=ratio_plus_loop1 (x,y)) (fun s=>x.length - s.2.2.toNat)
  (fun s=>limbs s.1∧s.1.length=x.length+1∧(∃ k:Nat,s.2.2=(k:Int)∧k≤x.length∧(∃ c:Nat,s.2.1=c∧c≤1∧nat32 s.1+B ^ k * c=nat32 (x.take k)+nat32 (y.take k))∧∀ j,k≤j→j<x.length+1→s.1[j]? = some 0))
  (fun r=>limbs r.1∧r.1.length=x.length+1∧(∃ c:Nat,r.2=c∧c≤1∧nat32 r.1+B ^ x.length * c=nat32 x+nat32 y)∧r.1[x.length]? = some 0)
  (fun s hs' => by
   obtain ⟨o,cr,kk⟩:=s
   obtain ⟨h1,h2,k,h3,h4,⟨c,h5,h6,h7⟩,h8⟩:=hs'
   simp only at h1 h2 h3 h5 h7 h8
   subst h3 h5
   unfold ratio_plus_loop1
   simp only
   by_cases hk:k<x.length
   ·right
    obtain ⟨a,ha,ha2⟩:=at_of_lt hx hk
    have hax:limbAt x k=a:=by unfold limbAt; rw [List.getD_eq_getElem?_getD,ha]; simp
    have hb2:=limbAt_lt hy k
    have h0:=h8 k (Nat.le_refl _) (by omega)
    have hw2:w64 ((k:Int)+1)=((k+1:Nat):Int):=by rw [w64_id (by omega) (by omega)]; omega
    have hyv:(bif decide ((k:Int)<(y.length:Int)) then (idx y (k:Int)).bind fun _=>(idx y (k:Int)).bind fun v9=>some v9 else some 0:Option Int)=some ((limbAt y k:Nat):Int):=by
     by_cases hky:k<y.length
     ·obtain ⟨b,hb,hb3⟩:=at_of_lt hy hky
      rw [dec_t (show (k:Int)<(y.length:Int) by omega),idx_nat hb]
      simp only [cond_true,Option.bind_some]
      unfold limbAt
      rw [List.getD_eq_getElem?_getD,hb]; simp
     ·rw [dec_f (show ¬ (k:Int)<(y.length:Int) by omega),cond_false]
      unfold limbAt
      rw [List.getD_eq_getElem?_getD,List.getElem?_eq_none (by omega)]; rfl
    have ex:=nat32_takeAt hB x k
    have ey:=nat32_takeAt hB y k
    rw [hax] at ex
    rw [dec_t (show (k:Int)<(x.length:Int) by omega),idx_nat ha,hyv]
    simp only [cond_true,Option.bind_some]
    rw [add32_eq ha2 hb2 h6,idx_nat h0]
    simp only [Option.bind_some]
    rw [hw2]
    have hset:=nat32_set hB (v:=(((a+limbAt y k+c) % 4294967296:Nat):Int)) h0
    generalize limbAt y k=b at *
    generalize hT:a+b+c=T at *
    have hdm:T % 4294967296+B * (T / 4294967296)=T:=by rw [hB]; omega
    refine ⟨_,rfl,⟨limbs_set h1 (by omega) (by omega),by rw [List.length_set]; exact h2,k+1,rfl,by omega,⟨T / 4294967296,rfl,by omega,?_⟩,fun j hj hj2=>?_⟩,by simp only [Int.toNat_natCast]; omega⟩
    ·simp only [Int.toNat_natCast,Int.toNat_zero,Nat.mul_zero,Nat.add_zero] at hset ⊢
     rw [ex,ey,Nat.pow_succ,Nat.mul_assoc,hset]
     generalize T % 4294967296=lo at *
     generalize T / 4294967296=hi at *
     generalize B ^ k=D at *
     have e3:D * lo+D * (B * hi)=D * a+D * b+D * c:=by
      rw [← Nat.mul_add,hdm,← hT,Nat.mul_add,Nat.mul_add]
     omega
    ·simp only [Int.toNat_natCast]
     rw [List.getElem?_set_ne (by omega)]
     exact h8 j (by omega) hj2
   ·left
    have hk2:k=x.length:=by omega
    subst hk2
    rw [dec_f (show ¬ ((x.length:Int)<(x.length:Int)) by omega),cond_false]
    rw [List.take_length,List.take_of_length_le hl] at h7
    exact ⟨_,rfl,h1,h2,⟨c,rfl,h6,h7⟩,h8 _ (Nat.le_refl _) (by omega)⟩)
  (s:=(List.replicate (x.length+1) 0,0,0)) ⟨fun z hz=>by rw [(List.mem_replicate.1 hz).2]; omega,by simp,0,rfl,by omega,⟨0,rfl,by omega,by simp [nat32,hzero]⟩,fun j _ hj=>by simp only; rw [List.getElem?_replicate,if_pos hj]⟩ (by simp only; omega)
 obtain ⟨r,h1,h2,h3,⟨c,h4,h5,h6⟩,h7⟩:=h
 have hset:=nat32_set hB (v:=(c:Int)) h7
 have hlim:limbs (r.1.set x.length (c:Int)):=limbs_set h2 (by omega) (by omega)
 refine ⟨trimL (r.1.set x.length (c:Int)),?_,trimL_canon hlim,?_,?_⟩
 ·rw [hw,chk_d ⟨by omega,by omega,by simp only [maxLen]; omega⟩,Int.toNat_natCast,Int.toNat_natCast,h1]
  simp only [Option.bind_some]
  rw [idx_nat h7]
  simp only [Option.bind_some]
  rw [h4,ratio_trim_eq (by show (r.1.set x.length (c:Int)).length<_; rw [List.length_set]; omega)]
  rfl
 ·rw [trimL_nat]
  simp only [Int.toNat_natCast,Int.toNat_zero,Nat.mul_zero,Nat.add_zero] at hset
  rw [hset,h6]
 ·have:=trimL_len (r.1.set x.length (c:Int))
  rw [List.length_set] at this; omega
theorem ratio_plus_eq {x y:List Int} (hx:limbs x) (hy:limbs y) (hn:x.length≤1000000) (hm:y.length≤1000000) :
  ∃ z,ratio_plus x y=some z∧canon z∧nat32 z=nat32 x+nat32 y∧z.length≤max x.length y.length+1:=by
 unfold ratio_plus
 by_cases hl:x.length<y.length
 ·obtain ⟨z,h1,h2,h3,h4⟩:=plus_loop hy hx (by omega) hm
  refine ⟨z,?_,h2,by omega,by omega⟩
  rw [dec_t (show (x.length:Int)<(y.length:Int) by omega)]
  exact h1
 ·obtain ⟨z,h1,h2,h3,h4⟩:=plus_loop hx hy (by omega) hn
  refine ⟨z,?_,h2,by omega,by omega⟩
  rw [dec_f (show ¬ (x.length:Int)<(y.length:Int) by omega)]
  exact h1
def isDig (b:UInt8):Bool:=decide (48≤b.toNat)&&decide (b.toNat≤57)
def rowB:List UInt8→Bool
 | []=>false
 | c::r=>(r==[] || !(c.toNat==48))&&(c::r).all isDig
theorem allI_const {α:Type} (p:α→Bool) : ∀ (l:List α) (k:Nat),allI (fun _ x=>p x) k l=l.all p
 | [],_=>rfl
 | x::l,k=>by simp only [allI,List.all_cons,allI_const p l]
theorem ratio_row_eq {s:List UInt8} (hn:Small s):ratio_row s=some (rowB s):=by
 have h:=it_all (f:=ratio_row_loop1 s) (z:=false) s (fun _ x=>isDig x) hn
  (fun i x hx=>by
   have hlt:=lt_of_at hx
   unfold ratio_row_loop1 isDig
   rw [dec_t (show (i:Int)<(s.length:Int) by omega),cond_true,idx_nat hx]
   simp only [Option.bind_some]
   by_cases h1:(x.toNat:Int)<48
   ·rw [dec_t h1,dec_f (show ¬ 48≤x.toNat by omega)]
    simp
   ·rw [dec_f h1,dec_t (show 48≤x.toNat by omega)]
    by_cases h2:(57:Int)<x.toNat
    ·rw [dec_f (show ¬ x.toNat≤57 by omega)]
     simp [h2]
    ·rw [dec_t (show x.toNat≤57 by omega)]
     simp [h2,succ64 hn hx])
  (by unfold ratio_row_loop1; simp)
 rw [allI_const] at h
 unfold ratio_row
 match s,hn,h with
 | [],_,_=>rfl
 | [c],_,h=>
  rw [h]
  have e1:(([c]:List UInt8)==[])=false:=rfl
  have e2:decide ((1:Int)<(([c]:List UInt8).length:Int))=false:=rfl
  rw [e1,e2]
  simp only [rowB]
  cases hA:([c].all isDig) <;> simp_all
 | c::d::r,_,h=>
  rw [h]
  have e1:((c::d::r:List UInt8)==[])=false:=rfl
  have e2:decide ((1:Int)<((c::d::r:List UInt8).length:Int))=true:=decide_eq_true (by simp only [List.length_cons]; omega)
  have e3:idx (c::d::r) (0:Int)=some c:=idx_nat (i:=0) rfl
  have e4:((d::r:List UInt8)==[])=false:=rfl
  have e5:((c.toNat:Int)==48)=(c.toNat==48):=by rw [Bool.eq_iff_iff,beq_iff_eq,beq_iff_eq]; omega
  rw [e1,e2,e3]
  simp only [rowB,e4,e5,Bool.not_false,Bool.and_true,cond_true,Option.bind_some,cond_false,Bool.false_or]
  cases c.toNat==48
  ·simp only [cond_false,Bool.not_false,Bool.true_and]
   cases (c::d::r).all isDig <;> rfl
  ·rfl
def decV (l:List UInt8):Nat:=l.foldl (fun a b=>a * 10+(b.toNat - 48)) 0
theorem ratio_number_eq {s:List UInt8} (hd:s.all isDig=true) (hn:s.length≤617) : ∃ z,ratio_number s=some (z,decide (z.length≤64))∧canon z∧nat32 z=decV s:=by
 have h:=it_inv (f:=ratio_number_loop1 s) (fun t=>s.length - t.2.toNat)
  (fun t=>∃ k:Nat,t.2=(k:Int)∧k≤s.length∧canon t.1∧nat32 t.1=decV (s.take k)∧t.1.length≤2 * k)
  (fun z=>canon z∧nat32 z=decV s)
  (fun t ht=>by
   obtain ⟨o,kk⟩:=t
   obtain ⟨k,h1,h2,h3,h4,h5⟩:=ht
   simp only at h1 h3 h4 h5
   subst h1
   unfold ratio_number_loop1
   simp only
   by_cases hk:k<s.length
   ·right
    have hb:s[k]? = some s[k]:=List.getElem?_eq_getElem hk
    have hbd:=List.all_eq_true.1 hd s[k] (List.getElem_mem hk)
    simp only [isDig,Bool.and_eq_true,decide_eq_true_eq] at hbd
    generalize hbv:s[k]=b at *
    obtain ⟨z1,e1,e2,e3,e4⟩:=ratio_times_eq h3.1 (canon_one (n:=10) (by omega) (by omega)).1 (by simp only [List.length_singleton]; omega)
    have ew:IntKind.u64.wrap (IntKind.u8.wrap ((b.toNat:Int) - 48))=((b.toNat - 48:Nat):Int):=by
     have:IntKind.u8.wrap ((b.toNat:Int) - 48)=((b.toNat:Int) - 48) % 256:=by simp [IntKind.wrap,IntKind.bits,IntKind.signed]
     rw [this,IntKind.wrap_u64]; omega
    have hlt:b.toNat - 48<4294967296:=by omega
    have hol:(oneL (b.toNat - 48)).length≤1:=by unfold oneL; split <;> simp
    obtain ⟨z2,f1,f2,f3,f4⟩:=ratio_plus_eq e2.1 (oneL_canon hlt).1 (by simp only [List.length_singleton] at e4; omega) (by omega)
    have hw:w64 ((k:Int)+1)=((k+1:Nat):Int):=by rw [w64_id (by omega) (by omega)]; omega
    have e1' : ratio_times o [10]=some z1:=e1
    rw [dec_t (show (k:Int)<(s.length:Int) by omega),cond_true,e1']
    simp only [Option.bind_some]
    rw [idx_nat hb]
    simp only [Option.bind_some]
    rw [ew,ratio_whole_eq hlt]
    simp only [Option.bind_some,f1]
    refine ⟨_,rfl,⟨k+1,by simp only [hw],by omega,f2,?_,?_⟩,by simp only [hw,Int.toNat_natCast]; omega⟩
    ·rw [f3,e3,h4,oneL_nat,List.take_add_one,hb]
     unfold decV
     simp only [Option.toList_some,List.foldl_append,List.foldl_cons,List.foldl_nil]
     have:nat32 [((10:Nat):Int)]=10:=by simp [nat32]
     rw [this]
    ·simp only [List.length_singleton] at e4
     simp only
     omega
   ·left
    have hk2:k=s.length:=by omega
    subst hk2
    rw [dec_f (show ¬ ((s.length:Int)<(s.length:Int)) by omega),cond_false]
    rw [List.take_length] at h4
    exact ⟨_,rfl,h3,h4⟩)
  (s:=(([]:List Int),(0:Int))) ⟨0,rfl,by omega,⟨by simp [limbs],by simp⟩,by simp [nat32,decV],by simp⟩ (by simp only; omega)
 obtain ⟨z,h1,h2,h3⟩:=h
 refine ⟨z,?_,h2,h3⟩
 unfold ratio_number
 rw [dec_f (show ¬ (617:Int)<(s.length:Int) by omega),cond_false,h1]
 simp only [Option.bind_some]
 congr 2
 rw [Bool.eq_iff_iff,decide_eq_true_eq,decide_eq_true_eq]; omega
end Go.Proofs.YtknnphhepnbaoaaGreatDoor
namespace Go.Proofs.YtknnphhepnbaoaaGreatDoor
open Go.Sm
theorem decV_acc : ∀ (l:List UInt8) (a:Nat),l.foldl (fun a b=>a * 10+(b.toNat - 48)) a=10 ^ l.length * a+decV l
 | [],a=>by simp [decV]
 | c::l,a=>by
  have h1:=decV_acc l (a * 10+(c.toNat - 48))
  have h2:=decV_acc l (0 * 10+(c.toNat - 48))
  unfold decV
  simp only [List.foldl_cons,List.length_cons]
  rw [h1,h2,Nat.pow_succ,Nat.zero_mul,Nat.zero_add,Nat.mul_add,Nat.mul_assoc,Nat.mul_comm 10 a,Nat.add_assoc]
theorem decV_cons (c:UInt8) (l:List UInt8):decV (c::l)=10 ^ l.length * (c.toNat - 48)+decV l:=by
 have:=decV_acc l (0 * 10+(c.toNat - 48))
 rw [Nat.zero_mul,Nat.zero_add] at this
 rw [← this]
 unfold decV
 simp only [List.foldl_cons,Nat.zero_mul,Nat.zero_add]
theorem decV_lt : ∀ {l:List UInt8},l.all isDig=true→decV l<10 ^ l.length
 | [],_=>by simp [decV]
 | c::l,h=>by
  simp only [List.all_cons,Bool.and_eq_true] at h
  have h1:=decV_lt h.2
  have h2:=h.1
  simp only [isDig,Bool.and_eq_true,decide_eq_true_eq] at h2
  rw [decV_cons,List.length_cons,Nat.pow_succ]
  have h3:10 ^ l.length * (c.toNat - 48)≤10 ^ l.length * 9:=Nat.mul_le_mul_left _ (by omega)
  omega
theorem decV_inj : ∀ {a b:List UInt8},a.all isDig=true→b.all isDig=true→a.length=b.length→decV a=decV b→a=b
 | [],[],_,_,_,_=>rfl
 | [],_::_,_,_,h,_=>by simp at h
 | _::_,[],_,_,h,_=>by simp at h
 | x::a,y::b,ha,hb,hl,h=>by
  simp only [List.all_cons,Bool.and_eq_true] at ha hb
  have hl2:a.length=b.length:=by simpa using hl
  have h1:=decV_lt ha.2
  have h2:=decV_lt hb.2
  rw [decV_cons,decV_cons,hl2] at h
  rw [hl2] at h1
  have hx:=ha.1
  have hy:=hb.1
  simp only [isDig,Bool.and_eq_true,decide_eq_true_eq] at hx hy
  have e:x.toNat - 48=y.toNat - 48:=by
   have m1:(10 ^ b.length * (x.toNat - 48)+decV a) / 10 ^ b.length=(10 ^ b.length * (y.toNat - 48)+decV b) / 10 ^ b.length:=by rw [h]
   rwa [Nat.mul_add_div (Nat.pow_pos (by omega)),Nat.mul_add_div (Nat.pow_pos (by omega)),Nat.div_eq_of_lt h1,Nat.div_eq_of_lt h2,Nat.add_zero,Nat.add_zero] at m1
  have e2:x=y:=UInt8.toNat_inj.1 (by omega)
  rw [e] at h
  rw [e2,decV_inj ha.2 hb.2 hl2 (by omega)]
theorem rowB_ge {a:List UInt8} (h:rowB a=true) (hl:2≤a.length):10 ^ (a.length - 1)≤decV a:=by
 match a,h,hl with
 | c::d::r,h,_=>
  simp only [rowB,Bool.and_eq_true] at h
  have h1:=h.2
  simp only [List.all_cons,Bool.and_eq_true] at h1
  have h2:=h1.1
  simp only [isDig,Bool.and_eq_true,decide_eq_true_eq] at h2
  have h3:c.toNat≠48:=by
   have:=h.1
   have e:((d::r:List UInt8)==[])=false:=rfl
   rw [e] at this
   simpa using this
  rw [decV_cons]
  have e1:(c::d::r).length - 1=(d::r).length:=by simp
  rw [e1]
  have:10 ^ (d::r).length * 1≤10 ^ (d::r).length * (c.toNat - 48):=Nat.mul_le_mul_left _ (by omega)
  omega
theorem rowB_inj {a b:List UInt8} (ha:rowB a=true) (hb:rowB b=true) (h:decV a=decV b):a=b:=by
 have da:a.all isDig=true:=by cases a with | nil=>rfl | cons c r=>simp only [rowB,Bool.and_eq_true] at ha; exact ha.2
 have db:b.all isDig=true:=by cases b with | nil=>rfl | cons c r=>simp only [rowB,Bool.and_eq_true] at hb; exact hb.2
 have na:1≤a.length:=by cases a with | nil=>cases ha | cons c r=>simp
 have nb:1≤b.length:=by cases b with | nil=>cases hb | cons c r=>simp
 have key : ∀ {a b:List UInt8},rowB b=true→a.all isDig=true→1≤a.length→a.length<b.length→decV a<decV b:=fun {a b} hb da na hlt=>by
  have h1:=decV_lt da
  have h2:=rowB_ge hb (by omega)
  have h3:10 ^ a.length≤10 ^ (b.length - 1):=Nat.pow_le_pow_right (by omega) (by omega)
  omega
 refine decV_inj da db ?_ h
 rcases Nat.lt_trichotomy a.length b.length with h1 | h1 | h1
 ·have:=key hb da na h1; omega
 ·exact h1
 ·have:=key ha db nb h1; omega
def tx (k:Nat) (arr:List Int):List UInt8:=((padA 626 (0:Int) arr).drop k).map fun n=>UInt8.ofNat n.toNat
theorem padA_get {α:Type} (m:Nat) (d:α) (xs:List α) (j:Nat):(padA m d xs)[j]? = if j<m then some (xs.getD j d) else none:=by
 unfold padA
 rw [List.getElem?_map]
 by_cases h:j<m
 ·rw [List.getElem?_range h,if_pos h]; rfl
 ·rw [if_neg h,List.getElem?_eq_none (by simp; omega)]; rfl
theorem arrSet_get {α:Type} (n:Nat) (d:α) (xs:List α) (i:Nat) (x:α) (j:Nat) (h:j<n):(arrSet n d xs i x).getD j d=if j=i then x else xs.getD j d:=by
 unfold arrSet
 rw [List.getD_eq_getElem?_getD,List.getElem?_map,List.getElem?_range h]
 rfl
theorem tx_len (k:Nat) (arr:List Int):(tx k arr).length=626 - k:=by
 unfold tx padA
 simp
theorem tx_set {k:Nat} (hk:k<626) (arr:List Int) (v:Int):tx k (arrSet 626 0 arr k v)=UInt8.ofNat v.toNat::tx (k+1) arr:=by
 unfold tx
 apply List.ext_getElem?
 intro j
 rw [List.getElem?_map,List.getElem?_drop,padA_get]
 cases j with
 | zero=>
  rw [Nat.add_zero,if_pos hk,arrSet_get _ _ _ _ _ _ hk,if_pos rfl]
  rfl
 | succ j=>
  rw [List.getElem?_cons_succ,List.getElem?_map,List.getElem?_drop,padA_get]
  have e:k+(j+1)=k+1+j:=by omega
  rw [e]
  by_cases h:k+1+j<626
  ·rw [if_pos h,if_pos h,arrSet_get _ _ _ _ _ _ h,if_neg (by omega)]
  ·rw [if_neg h,if_neg h]
theorem dec_inner {q:List Int} {rr:Int} {k part:Nat} {arr:List Int} (h9:9≤k) (hk:k≤626) (hp:part<1000000000) (hd:(tx k arr).all isDig=true) :
  ∃ arr',Itr.it (ratio_decimal_loop2 (q,rr)) ((k:Int),(part:Int),0,arr)=some (.inl (q,((k - 9:Nat):Int),arr'))∧(tx (k - 9) arr').all isDig=true∧decV (tx (k - 9) arr')=decV (tx k arr)+10 ^ (626 - k) * part:=by
 have h:=it_inv (f:=ratio_decimal_loop2 (q,rr)) (fun s=>9 - s.2.2.1.toNat)
  (fun s=>∃ i p:Nat,s.2.2.1=(i:Int)∧i≤9∧s.1=((k - i:Nat):Int)∧s.2.1=(p:Int)∧10 ^ i * p≤part∧p≤part∧(tx (k - i) s.2.2.2).all isDig=true∧decV (tx (k - i) s.2.2.2)+10 ^ (626 - (k - i)) * p=decV (tx k arr)+10 ^ (626 - k) * part)
  (fun r=>∃ arr',r = .inl (q,((k - 9:Nat):Int),arr')∧(tx (k - 9) arr').all isDig=true∧decV (tx (k - 9) arr')=decV (tx k arr)+10 ^ (626 - k) * part)
  (fun s hs=>by
   obtain ⟨a,pp,ii,o⟩:=s
   obtain ⟨i,p,h1,h2,h3,h4,h5,h6,h7,h8⟩:=hs
   simp only at h1 h3 h4 h7 h8
   subst h1 h3 h4
   unfold ratio_decimal_loop2
   simp only
   by_cases hi:i<9
   ·right
    have hw:w64 (((k - i:Nat):Int) - 1)=((k - (i+1):Nat):Int):=by rw [w64_id (by omega) (by omega)]; omega
    have hw2:w64 ((i:Int)+1)=((i+1:Nat):Int):=by rw [w64_id (by omega) (by omega)]; omega
    have hz:((10:Int)==0)=false:=rfl
    have et:Int.tmod (p:Int) 10=((p % 10:Nat):Int):=(Int.ofNat_tmod p 10).symm
    have ed:Int.tdiv (p:Int) 10=((p / 10:Nat):Int):=(Int.ofNat_tdiv p 10).symm
    rw [dec_t (show (i:Int)<9 by omega),hw,hz,hw2,et,ed]
    simp only [Bool.not_false,cond_true]
    rw [chk_t rfl,chk_d ⟨by omega,by omega⟩,chk_d ⟨by omega,by omega⟩,chk_t rfl,Int.toNat_natCast]
    have e1:IntKind.u32.wrap ((p / 10:Nat):Int)=((p / 10:Nat):Int):=by rw [IntKind.wrap_u32]; omega
    have e2:IntKind.u8.wrap (IntKind.u32.wrap ((48:Int)+((p % 10:Nat):Int)))=((48+p % 10:Nat):Int):=by
     have : ∀ z,IntKind.u8.wrap z=z % 256:=fun z=>by simp [IntKind.wrap,IntKind.bits,IntKind.signed]
     rw [this,IntKind.wrap_u32]; omega
    rw [e1,e2]
    have hkk:k - (i+1)+1=k - i:=by omega
    have hset:=tx_set (k:=k - (i+1)) (by omega) o ((48+p % 10:Nat):Int)
    rw [hkk,Int.toNat_natCast] at hset
    have hch:(UInt8.ofNat (48+p % 10)).toNat=48+p % 10:=by
     rw [UInt8.toNat_ofNat']; omega
    refine ⟨_,rfl,⟨i+1,p / 10,rfl,by omega,rfl,rfl,?_,by omega,?_,?_⟩,by simp only [Int.toNat_natCast]; omega⟩
    ·rw [Nat.pow_succ,Nat.mul_assoc]
     exact Nat.le_trans (Nat.mul_le_mul_left _ (Nat.mul_div_le p 10)) h5
    ·simp only
     rw [hset,List.all_cons,h7,Bool.and_true]
     unfold isDig
     rw [hch,Bool.and_eq_true,decide_eq_true_eq,decide_eq_true_eq]
     omega
    ·simp only
     rw [hset,decV_cons,hch,tx_len]
     have e3:626 - (k - (i+1))=(626 - (k - i))+1:=by omega
     rw [e3,Nat.pow_succ]
     have e4:48+p % 10 - 48=p % 10:=by omega
     rw [e4,Nat.mul_assoc]
     have hdm:=Nat.div_add_mod p 10
     generalize 10 ^ (626 - (k - i))=D at *
     have e5:D * (p % 10)+D * (10 * (p / 10))=D * p:=by rw [← Nat.mul_add]; congr 1; omega
     omega
   ·left
    have hi9:i=9:=by omega
    subst hi9
    rw [dec_f (show ¬ ((9:Nat):Int)<9 by omega),cond_false]
    have hp0:p=0:=by
     have e:(10:Nat) ^ 9=1000000000:=by decide
     rw [e] at h5; omega
    subst hp0
    rw [Nat.mul_zero,Nat.add_zero] at h8
    exact ⟨_,rfl,o,rfl,h7,h8⟩)
  (s:=((k:Int),(part:Int),(0:Int),arr)) ⟨0,part,rfl,by omega,rfl,rfl,by simp,by omega,hd,rfl⟩ (by simp only; omega)
 obtain ⟨r,h1,arr',h2,h3,h4⟩:=h
 subst h2
 exact ⟨arr',h1,h3,h4⟩
theorem decV_drop0 : ∀ l:List UInt8,decV (l.dropWhile (· == 48))=decV l
 | []=>rfl
 | c::l=>by
  cases h:c==48
  ·simp [List.dropWhile,h]
  ·have hc:c=48:=by simpa using h
   rw [List.dropWhile_cons,h,if_pos rfl,decV_drop0 l,decV_cons,hc]
   simp
theorem drop0_row {l r:List UInt8} {c:UInt8} (hd:l.all isDig=true) (h:l.dropWhile (· == 48)=c::r):rowB (c::r)=true:=by
 have hsuf : ∀ z∈c::r,z∈l:=fun z hz=>by
  rw [← h] at hz
  exact (List.dropWhile_sublist _).subset hz
 have hc:(c==48)=false:=by
  have gen : ∀ (l:List UInt8),l.dropWhile (· == 48)=c::r→(c==48)=false:=by
   intro l
   induction l with
   | nil=>intro h; simp at h
   | cons y l ih=>
    intro h
    rw [List.dropWhile_cons] at h
    cases hy:y==48
    ·rw [hy,if_neg (by simp)] at h
     simp only [List.cons.injEq] at h
     rw [← h.1]; exact hy
    ·rw [hy,if_pos rfl] at h
     exact ih h
  exact gen l h
 have hc2:(c.toNat==48)=false:=by
  rw [beq_eq_false_iff_ne] at hc ⊢
  intro e
  exact hc (UInt8.toNat_inj.1 (by rw [e]; rfl))
 simp only [rowB,hc2,Bool.not_false,Bool.or_true,Bool.true_and]
 exact List.all_eq_true.2 fun z hz=>List.all_eq_true.1 hd z (hsuf z hz)
theorem big64:(4294967296:Nat) ^ 64<10 ^ 617:=by decide +kernel
theorem ratio_decimal_eq {x:List Int} (hx:canon x) (hn:x.length≤64) : ∃ r,ratio_decimal x=some r∧rowB r=true∧decV r=nat32 x∧r.length≤626:=by
 have hbig:nat32 x<10 ^ 617:=by
  have h1:=nat32_lt hx.1
  have h2:(4294967296:Nat) ^ x.length≤4294967296 ^ 64:=Nat.pow_le_pow_right (by omega) hn
  exact Nat.lt_trans (Nat.lt_of_lt_of_le h1 h2) big64
 generalize hM:nat32 x=M at *
 have h:=it_inv (f:=ratio_decimal_loop1) (fun s=>s.2.1.toNat)
  (fun s=>∃ k:Nat,s.2.1=(k:Int)∧k≤626∧canon s.1∧s.1.length≤64∧(tx k s.2.2).all isDig=true∧decV (tx k s.2.2)+10 ^ (626 - k) * nat32 s.1=M)
  (fun r=>∃ k:Nat,r.1=(k:Int)∧k≤626∧(tx k r.2).all isDig=true∧decV (tx k r.2)=M)
  (fun s hs=>by
   obtain ⟨y,a,o⟩:=s
   obtain ⟨k,h1,h2,h3,h4,h5,h6⟩:=hs
   simp only at h1 h3 h4 h5 h6
   subst h1
   unfold ratio_decimal_loop1
   simp only
   by_cases h0:y=[]
   ·left
    subst h0
    refine ⟨_,rfl,k,rfl,h2,h5,?_⟩
    rw [← h6]
    simp [nat32]
   ·right
    have hlen:0<y.length:=List.length_pos_iff.2 h0
    have hy1:1≤nat32 y:=by
     have:=nat32_ge h3 h0
     have h7:1≤(4294967296:Nat) ^ (y.length - 1):=Nat.pow_pos (by omega)
     omega
    have hk9:9<k:=by
     have h7:10 ^ (626 - k) * 1≤10 ^ (626 - k) * nat32 y:=Nat.mul_le_mul_left _ hy1
     have h8:(10:Nat) ^ (626 - k)<10 ^ 617:=by
      rw [Nat.mul_one] at h7
      exact Nat.lt_of_le_of_lt (Nat.le_trans h7 (by rw [← h6]; exact Nat.le_add_left _ _)) hbig
     have h9:=(Nat.pow_lt_pow_iff_right (a:=10) (by omega)).1 h8
     omega
    obtain ⟨q,e1,e2,e3,e4⟩:=ratio_small_eq (x:=y) (d:=1000000000) h3.1 (by omega) (by omega) (by omega)
    have hp:nat32 y % 1000000000<1000000000:=Nat.mod_lt _ (by omega)
    obtain ⟨arr',f1,f2,f3⟩:=dec_inner (q:=q) (rr:=((nat32 y % 1000000000:Nat):Int)) (k:=k) (arr:=o) (by omega) h2 hp h5
    have e1' : ratio_small y 1000000000=some (q,((nat32 y % 1000000000:Nat):Int)):=e1
    rw [dec_t (show (0:Int)<(y.length:Int) by omega),cond_true,e1']
    simp only [Option.bind_some]
    refine ⟨_,f1,⟨k - 9,rfl,by omega,e2,(by show q.length≤64; omega),f2,?_⟩,by simp only [Int.toNat_natCast]; omega⟩
    simp only
    rw [f3,e3,← h6]
    have hdm:=Nat.div_add_mod (nat32 y) 1000000000
    have e5:626 - (k - 9)=9+(626 - k):=by omega
    have e6:(10:Nat) ^ 9=1000000000:=by decide
    rw [e5,Nat.pow_add,e6]
    generalize nat32 y / 1000000000=Q at *
    generalize nat32 y % 1000000000=R at *
    rw [← hdm]
    generalize 10 ^ (626 - k)=D at *
    rw [Nat.mul_add D,Nat.mul_comm 1000000000 D,Nat.mul_assoc D]
    omega)
  (s:=(x,(626:Int),([]:List Int))) ⟨626,rfl,by omega,hx,hn,by
   show (tx 626 []).all isDig=true
   have ht:tx 626 []=[]:=List.eq_nil_of_length_eq_zero (by rw [tx_len])
   rw [ht]; rfl,by
   show decV (tx 626 [])+10 ^ (626 - 626) * nat32 x=M
   have ht:tx 626 []=[]:=List.eq_nil_of_length_eq_zero (by rw [tx_len])
   rw [ht,hM]
   simp [decV]⟩ (by simp only; omega)
 obtain ⟨⟨a,o⟩,h1,k,h2,h3,h4,h5⟩:=h
 simp only at h2 h4 h5
 subst h2
 unfold ratio_decimal
 rw [h1]
 simp only [Option.bind_some]
 rw [chk_d ⟨by omega,by omega,by omega⟩]
 have ht:List.map (fun n=>UInt8.ofNat n.toNat) (((padA 626 (0:Int) o).take (626:Int).toNat).drop ((k:Int)).toNat)=tx k o:=by
  unfold tx
  have hl:(padA 626 (0:Int) o).length=626:=by unfold padA; simp
  rw [List.take_of_length_le (by rw [hl]; exact Nat.le_refl _),Int.toNat_natCast]
 rw [ht]
 have htl:=tx_len k o
 have hx2:xTrimLeft (tx k o) S_0_5fec=some ((tx k o).dropWhile (· == 48)):=by
  show chk _ _=_
  refine chk_t ?_
  rw [Bool.and_eq_true,decide_eq_true_eq,decide_eq_true_eq]
  exact ⟨by decide,by omega⟩
 rw [hx2]
 simp only [Option.bind_some]
 have hdl:((tx k o).dropWhile (· == 48)).length≤(tx k o).length:=(List.dropWhile_sublist _).length_le
 have hdv:=decV_drop0 (tx k o)
 cases hr:(tx k o).dropWhile (· == 48) with
 | nil=>
  refine ⟨S_0_5fec,rfl,rfl,?_,by decide⟩
  rw [hr] at hdv
  rw [← h5,← hdv]
  rfl
 | cons c r=>
  rw [hr] at hdv hdl
  exact ⟨c::r,rfl,drop0_row h4 hr,by rw [hdv,h5],by omega⟩
end Go.Proofs.YtknnphhepnbaoaaGreatDoor
namespace Go.Proofs.YtknnphhepnbaoaaGreatDoor
open Go.Sm
def GcdOk (x y:List Int):Prop:=∃ g,ratio_common x y=some g∧canon g∧nat32 g=Nat.gcd (nat32 x) (nat32 y)
theorem gcdOk_one {x:List Int} {d:Nat} (hx:canon x) (hn:x.length≤1000000) (hd:d<4294967296):GcdOk x (oneL d):=by
 obtain ⟨g,h1,h2,h3⟩:=ratio_common_eq hx hn hd
 exact ⟨g,h1,h2,by rw [h3,oneL_nat]⟩
def validB (n d:Nat):Bool:=!(decide (d=1)) && !(decide (n=0) && !decide (d=0))&&(decide (d=0)||decide (Nat.gcd n d=1))
theorem nat32_nil {l:List Int} (h:canon l):(nat32 l=0)↔l=[]:=by
 constructor
 ·intro h0
  cases l with
  | nil=>rfl
  | cons x r=>
   have h1:=nat32_ge h (by simp)
   have h2:1≤(4294967296:Nat) ^ ((x::r).length - 1):=Nat.pow_pos (by omega)
   omega
 ·rintro rfl; rfl
theorem ratio_Valid_eq {n d:List Int} (hn:canon n) (hd:canon d) (ln:n.length≤64) (ld:d.length≤64) (hg:d≠[]→n≠[]→GcdOk n d) :
  ratio_Valid (n,d)=some (if validB (nat32 n) (nat32 d)=true then 0 else 1):=by
 unfold ratio_Valid
 simp only
 rw [dec_f (show ¬ (64:Int)<(n.length:Int) by omega),dec_f (show ¬ (64:Int)<(d.length:Int) by omega)]
 simp only [cond_false]
 rw [ratio_trim_eq (by show n.length<_; omega),trimL_id hn,ratio_trim_eq (by show d.length<_; omega),trimL_id hd]
 simp only [Option.bind_some]
 rw [dec_f (show ¬ (n.length:Int)<(n.length:Int) by omega),dec_f (show ¬ (d.length:Int)<(d.length:Int) by omega),ratio_isOne_eq hd]
 simp only [cond_false,Bool.not_false,cond_true,Option.bind_some]
 unfold validB
 by_cases h1:nat32 d=1
 ·rw [dec_t h1]
  simp
 rw [dec_f h1]
 simp only [cond_false,Bool.not_false,Bool.true_and]
 by_cases hdn:d=[]
 ·subst hdn
  have e0:nat32 ([]:List Int)=0:=rfl
  rw [e0]
  have e1:decide ((0:Int)<(([]:List Int).length:Int))=false:=rfl
  rw [e1]
  simp
 ·have hd0:nat32 d≠0:=fun e=>hdn ((nat32_nil hd).1 e)
  have hlen:0<d.length:=List.length_pos_iff.2 hdn
  rw [dec_f hd0,dec_t (show (0:Int)<(d.length:Int) by omega)]
  by_cases hnn:n=[]
  ·subst hnn
   have e0:nat32 ([]:List Int)=0:=rfl
   have e1:((([]:List Int).length:Int)==0)=true:=rfl
   rw [e0,e1]
   simp
  ·have hn0:nat32 n≠0:=fun e=>hnn ((nat32_nil hn).1 e)
   have hlen2:0<n.length:=List.length_pos_iff.2 hnn
   have e1:((n.length:Int)==0)=false:=by rw [beq_eq_false_iff_ne]; omega
   obtain ⟨g,g1,g2,g3⟩:=hg hdn hnn
   rw [e1,dec_f hn0]
   simp only [cond_false,cond_true,g1,Option.bind_some,ratio_isOne_eq g2,g3]
   by_cases h3:Nat.gcd (nat32 n) (nat32 d)=1
   ·simp [h3]
   ·simp [h3]
structure RatOk (r:List Int×List Int):Prop where
 n:canon r.1
 d:canon r.2
 ln:r.1.length≤64
 ld:r.2.length≤64
 g:r.2≠[]→r.1≠[]→GcdOk r.1 r.2
 v:validB (nat32 r.1) (nat32 r.2)=true
theorem RatOk.valid {r:List Int×List Int} (h:RatOk r):ratio_Valid (r.1,r.2)=some 0:=by
 rw [ratio_Valid_eq h.n h.d h.ln h.ld h.g,if_pos h.v]
def denN (d:Nat):Nat:=if d=0 then 1 else d
theorem ratio_den_eq {r:List Int×List Int} (h:RatOk r) : ∃ z,ratio_den (r.1,r.2)=some z∧canon z∧nat32 z=denN (nat32 r.2)∧z.length≤64:=by
 unfold ratio_den denN
 simp only
 by_cases h0:r.2=[]
 ·rw [h0]
  exact ⟨[1],rfl,canon_one (n:=1) (by omega) (by omega),by simp [nat32],by simp⟩
 ·have h1:nat32 r.2≠0:=fun e=>h0 ((nat32_nil h.d).1 e)
  have hlen:0<r.2.length:=List.length_pos_iff.2 h0
  have e1:((r.2.length:Int)==0)=false:=by rw [beq_eq_false_iff_ne]; omega
  rw [e1,cond_false,if_neg h1]
  exact ⟨_,rfl,h.d,rfl,h.ld⟩
theorem ratOk_one:RatOk (([1],[]):List Int×List Int):=
 ⟨canon_one (n:=1) (by omega) (by omega),⟨by simp [limbs],by simp⟩,by simp,by simp,fun h=>absurd rfl h,by simp [validB,nat32]⟩
theorem ratio_Cmp_eq {a b:List Int×List Int} (ha:RatOk a) (hb:RatOk b) :
  ratio_Cmp (a.1,a.2) (b.1,b.2)=some (cmpN (nat32 a.1 * denN (nat32 b.2)) (nat32 b.1 * denN (nat32 a.2)),0):=by
 have hv:ratio_valid [(a.1,a.2),(b.1,b.2)]=some 0:=by
  have h:=it_all (f:=ratio_valid_loop1 [(a.1,a.2),(b.1,b.2)]) (z:=(0:Int)) [(a.1,a.2),(b.1,b.2)] (fun _ _=>true) (by simp)
   (fun i x hx=>by
    have hlt:=lt_of_at hx
    have hx2:ratio_Valid (x.1,x.2)=some 0:=by
     have hm:=List.mem_of_getElem? hx
     simp only [List.mem_cons,List.not_mem_nil,or_false] at hm
     rcases hm with rfl | rfl
     ·exact ha.valid
     ·exact hb.valid
    unfold ratio_valid_loop1
    rw [dec_t (show (i:Int)<(([(a.1,a.2),(b.1,b.2)]:List (List Int×List Int)).length:Int) by omega),cond_true,idx_nat hx]
    simp only [Option.bind_some,hx2]
    have hw:w64 ((i:Int)+1)=(i:Int)+1:=w64_id (by omega) (by simp at hlt; omega)
    rw [hw]
    rfl)
   (by unfold ratio_valid_loop1; simp)
  rw [allI_const] at h
  unfold ratio_valid
  rw [h]
  simp
 unfold ratio_Cmp
 simp only
 rw [hv]
 simp only [Option.bind_some]
 have e0:((0:Int) != 0)=false:=rfl
 rw [e0,cond_false]
 unfold ratio_crossed
 simp only
 obtain ⟨da,a1,a2,a3,a4⟩:=ratio_den_eq ha
 obtain ⟨db,b1,b2,b3,b4⟩:=ratio_den_eq hb
 have hln:=ha.ln
 have hbn:=hb.ln
 obtain ⟨x,x1,x2,x3,x4⟩:=ratio_times_eq ha.n.1 b2.1 (by omega)
 obtain ⟨y,y1,y2,y3,y4⟩:=ratio_times_eq hb.n.1 a2.1 (by omega)
 obtain ⟨z,z1,_,_,_⟩:=ratio_times_eq a2.1 b2.1 (by omega)
 rw [b1,a1]
 simp only [Option.bind_some,x1,y1,z1]
 rw [ratio_compare_eq x2 y2 (by show x.length<_; omega),x3,y3,a3,b3]
 rfl
theorem report_within_eq {r:List Int×List Int} (h:RatOk r):report_within r=some (decide (nat32 r.1≤denN (nat32 r.2))):=by
 unfold report_within
 have:=ratio_Cmp_eq h ratOk_one
 simp only at this
 rw [this]
 simp only [Option.bind_some]
 have e1:nat32 ([1]:List Int)=1:=by simp [nat32]
 have e2:denN (nat32 ([]:List Int))=1:=rfl
 have e0:((0:Int)==0)=true:=rfl
 rw [e1,e2,Nat.mul_one,Nat.one_mul,e0,cond_true]
 congr 1
 unfold cmpN
 by_cases hlt:nat32 r.1<denN (nat32 r.2)
 ·rw [if_pos hlt,dec_t (show nat32 r.1≤denN (nat32 r.2) by omega)]; rfl
 ·rw [if_neg hlt]
  by_cases he:nat32 r.1=denN (nat32 r.2)
  ·rw [if_pos he,dec_t (show nat32 r.1≤denN (nat32 r.2) by omega)]; rfl
  ·rw [if_neg he,dec_f (show ¬ nat32 r.1≤denN (nat32 r.2) by omega)]; rfl
def RatText (r:List Int×List Int) (t:List UInt8):Prop:=
 ∃ a,rowB a=true∧decV a=nat32 r.1∧a.length≤617∧((r.2=[]∧t=a)∨(r.2≠[]∧∃ b,rowB b=true∧decV b=nat32 r.2∧b.length≤617∧t=a++S__8a5e++b))
theorem dec617 {x:List Int} (hx:canon x) (hn:x.length≤64) : ∃ r,ratio_decimal x=some r∧rowB r=true∧decV r=nat32 x∧r.length≤617:=by
 obtain ⟨r,h1,h2,h3,h4⟩:=ratio_decimal_eq hx hn
 refine ⟨r,h1,h2,h3,?_⟩
 by_cases hl:2≤r.length
 ·have h5:=rowB_ge h2 hl
  have h6:=nat32_lt hx.1
  have h7:(4294967296:Nat) ^ x.length≤4294967296 ^ 64:=Nat.pow_le_pow_right (by omega) hn
  have h8:(10:Nat) ^ (r.length - 1)<10 ^ 617:=Nat.lt_of_le_of_lt h5 (Nat.lt_trans (Nat.lt_of_lt_of_le (by rw [h3]; exact h6) h7) big64)
  have h9:=(Nat.pow_lt_pow_iff_right (a:=10) (by omega)).1 h8
  omega
 ·omega
theorem ratio_Print_eq {r:List Int×List Int} (h:RatOk r) : ∃ t,ratio_Print (r.1,r.2)=some (t,0)∧RatText r t∧t.length≤1235:=by
 unfold ratio_Print
 simp only
 rw [h.valid]
 simp only [Option.bind_some]
 have e0:((0:Int) != 0)=false:=rfl
 rw [e0,cond_false]
 obtain ⟨a,a1,a2,a3,a4⟩:=dec617 h.n h.ln
 obtain ⟨b,b1,b2,b3,b4⟩:=dec617 h.d h.ld
 have es:S__8a5e.length=1:=rfl
 by_cases hd:r.2=[]
 ·rw [hd]
  have e1:((([]:List Int).length:Int)==0)=true:=rfl
  rw [e1,cond_true,a1]
  exact ⟨a,rfl,⟨a,a2,a3,a4, .inl ⟨hd,rfl⟩⟩,by omega⟩
 ·have hlen:0<r.2.length:=List.length_pos_iff.2 hd
  have e1:((r.2.length:Int)==0)=false:=by rw [beq_eq_false_iff_ne]; omega
  rw [e1,cond_false,a1]
  simp only [Option.bind_some]
  rw [chk_d (by omega),b1]
  simp only [Option.bind_some]
  rw [chk_d (by simp only [List.length_append]; omega)]
  exact ⟨_,rfl,⟨a,a2,a3,a4, .inr ⟨hd,b,b2,b3,b4,rfl⟩⟩,by simp only [List.length_append]; omega⟩
theorem RatText.inj {r:List Int×List Int} {t u:List UInt8} (h:RatText r t) (k:RatText r u):t=u:=by
 obtain ⟨a,a1,a2,_,ha⟩:=h
 obtain ⟨b,b1,b2,_,hb⟩:=k
 have hab:=rowB_inj a1 b1 (by rw [a2,b2])
 rcases ha with ⟨h1,rfl⟩ | ⟨h1,c,c1,c2,_,rfl⟩ <;> rcases hb with ⟨h2,rfl⟩ | ⟨h2,d,d1,d2,_,rfl⟩
 ·exact hab
 ·exact absurd h1 h2
 ·exact absurd h2 h1
 ·rw [hab,rowB_inj c1 d1 (by rw [c2,d2])]
end Go.Proofs.YtknnphhepnbaoaaGreatDoor
namespace Go.Proofs.YtknnphhepnbaoaaGreatDoor
open Go.Sm
def GcdAll (m:Nat):Prop:=∀ n d,canon n→canon d→n.length≤64→d.length≤64→nat32 d<m→d≠[]→n≠[]→GcdOk n d
theorem cut_cases : ∀ s:List UInt8,(cutL S__8a5e s=(s,[],false)∧(47:UInt8)∉s)∨∃ a b,cutL S__8a5e s=(a,b,true)∧s=a++47::b∧(47:UInt8)∉a
 | []=>.inl ⟨rfl,by simp⟩
 | c::s=>by
  by_cases hc:c=47
  ·subst hc
   refine .inr ⟨[],s,?_,rfl,by simp⟩
   simp [cutL,S__8a5e,List.isPrefixOf]
  ·have hp:List.isPrefixOf S__8a5e (c::s)=false:=by
    simp [S__8a5e,List.isPrefixOf]
    exact fun e=>hc e.symm
   rcases cut_cases s with ⟨h1,h2⟩ | ⟨a,b,h1,h2,h3⟩
   ·left
    refine ⟨?_,by simp [h2,Ne.symm hc]⟩
    simp only [cutL,hp,h1]
    simp
   ·right
    refine ⟨c::a,b,?_,by rw [h2]; rfl,by simp [h3,Ne.symm hc]⟩
    simp only [cutL,hp,h1]
    simp
theorem dig_ne {a:List UInt8} (h:a.all isDig=true):(47:UInt8)∉a:=fun hm=>by
 have:=List.all_eq_true.1 h 47 hm
 revert this; decide
theorem rowB_dig {a:List UInt8} (h:rowB a=true):a.all isDig=true:=by
 cases a with
 | nil=>rfl
 | cons c r=>simp only [rowB,Bool.and_eq_true] at h; exact h.2
theorem slash_inj : ∀ {a a' b b' : List UInt8},(47:UInt8)∉a→(47:UInt8)∉a' → a++47::b=a' ++ 47::b' → a=a' ∧ b=b'
 | [],[],b,b',_,_,h=>by simpa using h
 | [],y::a',b,b',_,h2,h=>by simp at h; exact absurd h.1.symm (by intro e; exact h2 (by simp [e]))
 | x::a,[],b,b',h1,_,h=>by simp at h; exact absurd h.1 (by intro e; exact h1 (by simp [e]))
 | x::a,y::a',b,b',h1,h2,h=>by
  simp only [List.cons_append,List.cons.injEq] at h
  obtain ⟨e1,e2⟩:=slash_inj (fun hm=>h1 (List.mem_cons_of_mem _ hm)) (fun hm=>h2 (List.mem_cons_of_mem _ hm)) h.2
  exact ⟨by rw [h.1,e1],e2⟩
theorem RatText.det {r r' : List Int×List Int} {t:List UInt8} (h:RatOk r) (h' : RatOk r') (ht:RatText r t) (ht' : RatText r' t):r=r' := by
 obtain ⟨a,a1,a2,_,ha⟩:=ht
 obtain ⟨b,b1,b2,_,hb⟩:=ht'
 have n47a:=dig_ne (rowB_dig a1)
 have n47b:=dig_ne (rowB_dig b1)
 have es:S__8a5e=[47]:=rfl
 rcases ha with ⟨k1,rfl⟩ | ⟨k1,x,x1,x2,_,rfl⟩ <;> rcases hb with ⟨l1,l2⟩ | ⟨l1,y,y1,y2,_,l2⟩
 ·subst l2
  exact Prod.ext (canon_inj h.n h'.n (by rw [← a2,b2])) (by rw [k1,l1])
 ·rw [l2,es] at n47a
  exact absurd (by simp) n47a
 ·rw [← l2,es] at n47b
  exact absurd (by simp) n47b
 ·rw [es] at l2
  have l3:a++47::x=b++47::y:=by simpa using l2
  obtain ⟨rfl,rfl⟩:=slash_inj n47a n47b l3
  exact Prod.ext (canon_inj h.n h'.n (by rw [← a2,b2])) (canon_inj h.d h'.d (by rw [← x2,y2]))
theorem number_any {s:List UInt8} (hd:s.all isDig=true) : ∃ z f,ratio_number s=some (z,f)∧(f=true→canon z∧z.length≤64∧nat32 z=decV s∧s.length≤617)∧(f=false→∀ x:List Int,canon x→x.length≤64→s.length≤617→nat32 x≠decV s):=by
 by_cases hl:s.length≤617
 ·obtain ⟨z,h1,h2,h3⟩:=ratio_number_eq hd hl
  refine ⟨z,_,h1,fun hf=>⟨h2,of_decide_eq_true hf,h3,hl⟩,fun hf x hx hxl _ e=>?_⟩
  have:=canon_inj hx h2 (by rw [e,h3])
  rw [this] at hxl
  exact of_decide_eq_false hf hxl
 ·refine ⟨[],false,?_,(fun h=>by cases h),fun _ x _ _ h=>absurd h hl⟩
  unfold ratio_number
  rw [dec_t (show (617:Int)<(s.length:Int) by omega),cond_true]
theorem ratio_Parse_spec {t:List UInt8} {m:Nat} (ht:t.length≤2147483648) (hG:GcdAll m) (hm : ∀ b:List UInt8,b.all isDig=true→b.length<t.length→decV b<m) :
  ∃ r e,ratio_Parse t=some (r,e)∧(e=0→RatOk r∧RatText r t)∧(e≠0→∀ r',RatOk r' → ¬ RatText r' t):=by
 have hs:Small t:=by show t.length<_; omega
 have hcut:xCut t S__8a5e=some (cutL S__8a5e t):=by
  unfold xCut
  refine chk_t ?_
  rw [Bool.and_eq_true]
  exact ⟨by decide,Nat.ble_eq_true_of_le ht⟩
 have two:((2:Int)=0)=False:=by simp
 unfold ratio_Parse
 rw [hcut]
 simp only [Option.bind_some]
 rcases cut_cases t with ⟨h1,h2⟩ | ⟨a,b,h1,h2,h3⟩
 ·rw [h1]
  simp only [ratio_row_eq hs,Option.bind_some]
  have only : ∀ r',RatOk r' → RatText r' t→rowB t=true∧decV t=nat32 r'.1∧t.length≤617∧r'.2=[]:=fun r' _ hT=>by
   obtain ⟨a,a1,a2,a3,⟨e1,rfl⟩ | ⟨_,b,_,_,_,rfl⟩⟩:=hT
   ·exact ⟨a1,a2,a3,e1⟩
   ·exact absurd (by show (47:UInt8)∈a++[47]++b; simp) h2
  cases hr:rowB t
  ·refine ⟨_,2,rfl,(fun e=>absurd e (by decide)),fun _ r' ho hT=>?_⟩
   have:=(only r' ho hT).1
   rw [hr] at this; cases this
  ·obtain ⟨z,f,n1,n2,n3⟩:=number_any (rowB_dig hr)
   obtain ⟨z0,f0,k1,k2,k3⟩:=number_any (s:=[]) rfl
   have hf0:f0=true:=by
    cases f0
    ·exact absurd rfl (k3 rfl [] ⟨by simp [limbs],by simp⟩ (by simp) (by simp))
    ·rfl
   subst hf0
   have hz0:z0=[]:=(nat32_nil (k2 rfl).1).1 (by rw [(k2 rfl).2.2.1]; rfl)
   subst hz0
   simp only [Bool.not_true,Bool.not_false,Bool.true_and,cond_false,Option.bind_some,n1,k1]
   cases f
   ·refine ⟨_,4,rfl,(fun e=>absurd e (by decide)),fun _ r' ho hT=>?_⟩
    obtain ⟨_,q2,q3,_⟩:=only r' ho hT
    exact n3 rfl r'.1 ho.n ho.ln q3 q2.symm
   ·obtain ⟨c1,c2,c3,c4⟩:=n2 rfl
    have hv:validB (nat32 z) (nat32 ([]:List Int))=true:=by
     have:nat32 ([]:List Int)=0:=rfl
     rw [this]; simp [validB]
    have hval:=ratio_Valid_eq c1 (d:=[]) ⟨by simp [limbs],by simp⟩ c2 (by simp) (fun h=>absurd rfl h)
    rw [if_pos hv] at hval
    simp only [Bool.not_true,cond_false,hval,Option.bind_some]
    refine ⟨(z,[]),0,rfl,fun _=>⟨⟨c1,⟨by simp [limbs],by simp⟩,c2,by simp,fun h=>absurd rfl h,hv⟩,t,hr,c3.symm,c4, .inl ⟨rfl,rfl⟩⟩,fun e=>absurd rfl e⟩
 ·rw [h1]
  have hal:a.length<t.length:=by rw [h2]; simp
  have hbl:b.length<t.length:=by rw [h2]; simp; omega
  have hmem:(47:UInt8)∈t:=by rw [h2]; simp
  have only : ∀ r',RatOk r' → RatText r' t→rowB a=true∧decV a=nat32 r'.1∧a.length≤617∧r'.2≠[]∧rowB b=true∧decV b=nat32 r'.2∧b.length≤617:=fun r' _ hT=>by
   obtain ⟨a',a1,a2,a3,⟨e1,e2⟩ | ⟨e1,b',b1,b2,b3,e2⟩⟩:=hT
   ·rw [e2] at hmem
    exact absurd hmem (dig_ne (rowB_dig a1))
   ·have e3:a++47::b=a' ++ 47::b' := by
     rw [← h2,e2]
     show a' ++ [47]++b' = _
     simp
    obtain ⟨rfl,rfl⟩:=slash_inj h3 (dig_ne (rowB_dig a1)) e3
    exact ⟨a1,a2,a3,e1,b1,b2,b3⟩
  simp only
  rw [ratio_row_eq (s:=a) (by show a.length<_; omega)]
  simp only [Option.bind_some]
  cases ha:rowB a
  ·refine ⟨_,2,rfl,(fun e=>absurd e (by decide)),fun _ r' ho hT=>?_⟩
   have:=(only r' ho hT).1
   rw [ha] at this; cases this
  simp only [Bool.not_true,Bool.not_false,Bool.and_true,cond_true,ratio_row_eq (s:=b) (by show b.length<_; omega),Option.bind_some,cond_false]
  cases hb:rowB b
  ·refine ⟨_,2,rfl,(fun e=>absurd e (by decide)),fun _ r' ho hT=>?_⟩
   have:=(only r' ho hT).2.2.2.2.1
   rw [hb] at this; cases this
  obtain ⟨z,f,n1,n2,n3⟩:=number_any (rowB_dig ha)
  obtain ⟨y,g,k1,k2,k3⟩:=number_any (rowB_dig hb)
  simp only [Bool.not_true,cond_false,n1,k1,Option.bind_some]
  cases f
  ·refine ⟨_,4,rfl,(fun e=>absurd e (by decide)),fun _ r' ho hT=>?_⟩
   obtain ⟨_,q2,q3,_⟩:=only r' ho hT
   exact n3 rfl r'.1 ho.n ho.ln q3 q2.symm
  cases g
  ·refine ⟨_,4,rfl,(fun e=>absurd e (by decide)),fun _ r' ho hT=>?_⟩
   obtain ⟨_,_,_,_,_,q2,q3⟩:=only r' ho hT
   exact k3 rfl r'.2 ho.d ho.ld q3 q2.symm
  obtain ⟨c1,c2,c3,c4⟩:=n2 rfl
  obtain ⟨d1,d2,d3,d4⟩:=k2 rfl
  have hgc:y≠[]→z≠[]→GcdOk z y:=fun q1 q2=>hG z y c1 d1 c2 d2 (by rw [d3]; exact hm b (rowB_dig hb) hbl) q1 q2
  have hval:=ratio_Valid_eq c1 d1 c2 d2 hgc
  have same : ∀ r',RatOk r' → RatText r' t→r'.1=z∧r'.2=y:=fun r' ho hT=>by
   obtain ⟨_,q2,_,_,_,q6,_⟩:=only r' ho hT
   exact ⟨canon_inj ho.n c1 (by rw [← q2,c3]),canon_inj ho.d d1 (by rw [← q6,d3])⟩
  simp only [Bool.not_true,cond_false,hval,Option.bind_some]
  by_cases hv:validB (nat32 z) (nat32 y)=true
  ·rw [if_pos hv]
   by_cases hy:y=[]
   ·refine ⟨_,1,by rw [hy]; rfl,(fun e=>absurd e (by decide)),fun _ r' ho hT=>?_⟩
    have q:=only r' ho hT
    exact q.2.2.2.1 (by rw [(same r' ho hT).2,hy])
   ·have hlen:0<y.length:=List.length_pos_iff.2 hy
    have e1:((y.length:Int)==0)=false:=by rw [beq_eq_false_iff_ne]; omega
    refine ⟨(z,y),0,by rw [e1]; rfl,fun _=>⟨⟨c1,d1,c2,d2,hgc,hv⟩,a,ha,c3.symm,c4, .inr ⟨hy,b,hb,d3.symm,d4,?_⟩⟩,fun e=>absurd rfl e⟩
    rw [h2]
    show _=a++[47]++b
    simp
  ·rw [if_neg hv]
   refine ⟨_,1,rfl,(fun e=>absurd e (by decide)),fun _ r' ho hT=>?_⟩
   obtain ⟨q1,q2⟩:=same r' ho hT
   have:=ho.v
   rw [q1,q2] at this
   exact hv this
end Go.Proofs.YtknnphhepnbaoaaGreatDoor
