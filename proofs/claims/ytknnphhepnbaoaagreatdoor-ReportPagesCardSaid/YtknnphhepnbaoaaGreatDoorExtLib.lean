/-
  What the library's functions compute is what the plain functions of ExtFn say. No condition.
-/
import Derived.Test.YtknnphhepnbaoaaGreatDoorExtFn
import Derived.Lib.Join
import Derived.Lib.Replace
import Derived.Lib.Split
import Derived.Lib.IndexMore
namespace Go.Proofs.YtknnphhepnbaoaaGreatDoor
open Go.Sm
theorem joinL_eq (sep:List UInt8) : ∀ xs:List (List UInt8),joinL xs sep=Lib.join xs sep
 | []=>rfl
 | [x]=>by rw [Lib.join_one]; rfl
 | x::y::r=>by
  have h:=joinL_eq sep (y::r)
  rw [Lib.join_cons] at h ⊢
  simp only [joinL,h,Lib.joinTail,List.map_cons,List.flatten_cons,List.append_assoc]
theorem index_nil {sub:List UInt8} (h:sub≠[]):Lib.index [] sub = -1:=by
 unfold Lib.index
 cases sub with
 | nil=>exact absurd rfl h
 | cons _ _=>rfl
theorem index_cons (b:UInt8) (l sub:List UInt8):Lib.index (b::l) sub=if sub.isPrefixOf (b::l) then 0 else if Lib.index l sub == -1 then -1 else Lib.index l sub+1:=by
 rw [Lib.index]
theorem rep1_spec (c:UInt8) (new:List UInt8) : ∀ s:List UInt8,rep1 c new s=if Lib.index s [c] == -1 then s else s.take (Lib.index s [c]).toNat++new++s.drop ((Lib.index s [c]).toNat+1)
 | []=>by rw [index_nil (by simp)]; rfl
 | b::r=>by
  have hp:([c]:List UInt8).isPrefixOf (b::r)=(c==b):=by simp [List.isPrefixOf]
  rw [index_cons,hp,rep1,rep1_spec c new r]
  have hg:=Lib.index_ge r [c]
  cases h:(b==c)
  ·have h2:(c==b)=false:=by rw [beq_eq_false_iff_ne] at h ⊢; exact fun e=>h e.symm
   rw [h2]
   simp only [Bool.false_eq_true,if_false]
   cases hm:(Lib.index r [c] == -1)
   ·simp only [Bool.false_eq_true,if_false]
    have hne:Lib.index r [c]≠-1:=by simpa using hm
    have e1:(Lib.index r [c]+1 == -1)=false:=by rw [beq_eq_false_iff_ne]; omega
    rw [e1]
    simp only [Bool.false_eq_true,if_false]
    rw [show (Lib.index r [c]+1).toNat=(Lib.index r [c]).toNat+1 by omega]
    simp
   ·simp
  ·have h2:(c==b)=true:=by rw [beq_iff_eq] at h ⊢; exact h.symm
   rw [h2]
   simp
theorem replace_one (c:UInt8) (new s:List UInt8) (hn:(new==[c])=false):Lib.replace s [c] new 1=rep1 c new s:=by
 have h1:([c]==new)=false:=by rw [beq_eq_false_iff_ne] at hn ⊢; exact fun e=>hn e.symm
 rw [Lib.replace,h1,rep1_spec]
 simp only [Bool.false_eq_true,if_false,Lib.replaceNum]
 have hcnt:Lib.count s [c]=Lib.countFrom [c] (s.length+1) s:=rfl
 cases hm:(Lib.index s [c] == -1)
 ·have:1≤Lib.count s [c]:=by rw [hcnt,Lib.countFrom,hm]; simp
  rw [if_neg (by omega)]
  show Lib.replaceK [c] new 1 s=_
  rw [Lib.replaceK,hm]
  simp [Lib.replaceK]
 ·have:Lib.count s [c]=0:=by rw [hcnt,Lib.countFrom,hm]; rfl
  rw [if_pos (by omega),this]
  rfl
section
variable {old new:List UInt8}
theorem repA_fuel (ho:old≠[]) : ∀ (k k' : Nat) (s:List UInt8),s.length≤k→s.length≤k' → repA old new k s=repA old new k' s
 | 0,k',s,h,_=>by
  have:s=[]:=List.eq_nil_of_length_eq_zero (by omega)
  subst this
  cases k' <;> rfl
 | k+1,0,s,_,h=>by
  have:s=[]:=List.eq_nil_of_length_eq_zero (by omega)
  subst this
  rfl
 | k+1,k' + 1,[],_,_=>rfl
 | k+1,k' + 1,b::r,h,h' => by
  have hl:1≤old.length:=by cases old with | nil=>exact absurd rfl ho | cons _ _=>simp
  simp only [List.length_cons] at h h'
  simp only [repA]
  rw [repA_fuel ho k k' ((b::r).drop old.length) (by simp; omega) (by simp; omega),repA_fuel ho k k' r (by omega) (by omega)]
theorem repA_spec (ho:old≠[]) : ∀ (k:Nat) (s:List UInt8),s.length≤k →
  repA old new k s=if Lib.index s old == -1 then s else s.take (Lib.index s old).toNat++new++repA old new k (s.drop ((Lib.index s old).toNat+old.length))
 | k,[],_=>by rw [index_nil ho]; cases k <;> rfl
 | 0,b::r,h=>by simp at h
 | k+1,b::r,h=>by
  have hl:1≤old.length:=by cases old with | nil=>exact absurd rfl ho | cons _ _=>simp
  simp only [List.length_cons] at h
  have hg:=Lib.index_ge r old
  rw [index_cons,repA]
  cases hp:old.isPrefixOf (b::r)
  ·simp only [Bool.false_eq_true,if_false]
   rw [repA_spec ho k r (by omega)]
   cases hm:(Lib.index r old == -1)
   ·have hne:Lib.index r old≠-1:=by simpa using hm
    have e1:(Lib.index r old+1 == -1)=false:=by rw [beq_eq_false_iff_ne]; omega
    simp only [Bool.false_eq_true,if_false]
    rw [e1]
    simp only [Bool.false_eq_true,if_false]
    rw [show (Lib.index r old+1).toNat=(Lib.index r old).toNat+1 by omega]
    rw [repA_fuel ho k (k+1) (r.drop ((Lib.index r old).toNat+old.length)) (by simp; omega) (by simp; omega)]
    simp [show (Lib.index r old).toNat+1+old.length=((Lib.index r old).toNat+old.length)+1 by omega]
   ·simp
  ·simp only [if_true]
   rw [show ((0:Int) == -1)=false from rfl]
   simp only [Bool.false_eq_true,if_false,Int.toNat_zero,List.take_zero,List.nil_append,Nat.zero_add]
   rw [repA_fuel ho k (k+1) ((b::r).drop old.length) (by simp; omega) (by simp; omega)]
theorem repA_lib (ho:old≠[]) : ∀ (m f k:Nat) (s:List UInt8),s.length≤m→s.length<f→s.length≤k→Lib.replaceK old new (Lib.countFrom old f s) s=repA old new k s
 | m,0,_,_,_,h,_=>by omega
 | m,f+1,k,s,hm',hf,hk=>by
  have hl:1≤old.length:=by cases old with | nil=>exact absurd rfl ho | cons _ _=>simp
  rw [repA_spec ho k s hk,Lib.countFrom]
  cases hm:(Lib.index s old == -1)
  ·simp only [Bool.false_eq_true,if_false]
   have hg:=Lib.index_ge s old
   have hne:Lib.index s old≠-1:=by simpa using hm
   rw [Nat.add_comm 1,Lib.replaceK,hm]
   simp only [Bool.false_eq_true,if_false]
   have hs:s≠[]:=fun e=>by subst e; rw [index_nil ho] at hne; exact hne rfl
   have hs1:1≤s.length:=by cases s with | nil=>exact absurd rfl hs | cons _ _=>simp
   cases m with
   | zero=>omega
   | succ m=>
    rw [repA_lib ho m f k (s.drop ((Lib.index s old).toNat+old.length)) (by simp; omega) (by simp; omega) (by simp; omega)]
  ·rfl
theorem replaceAll_eq (ho:old≠[]) (hne:(old==new)=false) (s:List UInt8):Lib.replaceAll s old new=repA old new s.length s:=by
 rw [Lib.replaceAll,Lib.replace,hne]
 simp only [Bool.false_eq_true,if_false,Lib.replaceNum]
 rw [if_pos (.inl (by omega))]
 exact repA_lib ho s.length (s.length+1) s.length s (Nat.le_refl _) (by omega) (Nat.le_refl _)
end
section
variable {sep:List UInt8}
theorem splA_fuel (ho:sep≠[]) : ∀ (k k' : Nat) (s:List UInt8),s.length≤k→s.length≤k' → splA sep k s=splA sep k' s
 | 0,k',s,h,_=>by
  have:s=[]:=List.eq_nil_of_length_eq_zero (by omega)
  subst this
  cases k' <;> rfl
 | k+1,0,s,_,h=>by
  have:s=[]:=List.eq_nil_of_length_eq_zero (by omega)
  subst this
  rfl
 | k+1,k' + 1,[],_,_=>rfl
 | k+1,k' + 1,b::r,h,h' => by
  have hl:1≤sep.length:=by cases sep with | nil=>exact absurd rfl ho | cons _ _=>simp
  simp only [List.length_cons] at h h'
  simp only [splA]
  rw [splA_fuel ho k k' ((b::r).drop sep.length) (by simp; omega) (by simp; omega),splA_fuel ho k k' r (by omega) (by omega)]
theorem splA_spec (ho:sep≠[]) : ∀ (k:Nat) (s:List UInt8),s.length≤k →
  splA sep k s=if Lib.index s sep == -1 then [s] else s.take (Lib.index s sep).toNat::splA sep k (s.drop ((Lib.index s sep).toNat+sep.length))
 | k,[],_=>by rw [index_nil ho]; cases k <;> rfl
 | 0,b::r,h=>by simp at h
 | k+1,b::r,h=>by
  have hl:1≤sep.length:=by cases sep with | nil=>exact absurd rfl ho | cons _ _=>simp
  simp only [List.length_cons] at h
  have hg:=Lib.index_ge r sep
  rw [index_cons,splA]
  cases hp:sep.isPrefixOf (b::r)
  ·simp only [Bool.false_eq_true,if_false]
   rw [splA_spec ho k r (by omega)]
   cases hm:(Lib.index r sep == -1)
   ·have hne:Lib.index r sep≠-1:=by simpa using hm
    have e1:(Lib.index r sep+1 == -1)=false:=by rw [beq_eq_false_iff_ne]; omega
    simp only [Bool.false_eq_true,if_false]
    rw [e1]
    simp only [Bool.false_eq_true,if_false]
    rw [show (Lib.index r sep+1).toNat=(Lib.index r sep).toNat+1 by omega]
    rw [splA_fuel ho k (k+1) (r.drop ((Lib.index r sep).toNat+sep.length)) (by simp; omega) (by simp; omega)]
    simp [show (Lib.index r sep).toNat+1+sep.length=((Lib.index r sep).toNat+sep.length)+1 by omega]
   ·simp
  ·simp only [if_true]
   rw [show ((0:Int) == -1)=false from rfl]
   simp only [Bool.false_eq_true,if_false,Int.toNat_zero,List.take_zero,Nat.zero_add]
   rw [splA_fuel ho k (k+1) ((b::r).drop sep.length) (by simp; omega) (by simp; omega)]
theorem splA_lib (ho:sep≠[]) : ∀ (m f k:Nat) (s:List UInt8),s.length≤m→s.length<f→s.length≤k→Lib.splitK sep 0 (Lib.countFrom sep f s) s=splA sep k s
 | m,0,_,_,_,h,_=>by omega
 | m,f+1,k,s,hm',hf,hk=>by
  have hl:1≤sep.length:=by cases sep with | nil=>exact absurd rfl ho | cons _ _=>simp
  rw [splA_spec ho k s hk,Lib.countFrom]
  cases hm:(Lib.index s sep == -1)
  ·simp only [Bool.false_eq_true,if_false]
   have hg:=Lib.index_ge s sep
   have hne:Lib.index s sep≠-1:=by simpa using hm
   rw [Nat.add_comm 1,Lib.splitK,hm]
   simp only [Bool.false_eq_true,if_false,Nat.add_zero]
   have hs:s≠[]:=fun e=>by subst e; rw [index_nil ho] at hne; exact hne rfl
   have hs1:1≤s.length:=by cases s with | nil=>exact absurd rfl hs | cons _ _=>simp
   cases m with
   | zero=>omega
   | succ m=>
    rw [splA_lib ho m f k (s.drop ((Lib.index s sep).toNat+sep.length)) (by simp; omega) (by simp; omega) (by simp; omega)]
  ·rfl
theorem split_eq (ho:sep≠[]) (s:List UInt8):Lib.splitK sep 0 (Lib.count s sep) s=splA sep s.length s:=
 splA_lib ho s.length (s.length+1) s.length s (Nat.le_refl _) (by omega) (Nat.le_refl _)
theorem cutL_spec (ho:sep≠[]) : ∀ s:List UInt8,cutL sep s=if Lib.index s sep == -1 then (s,[],false) else (s.take (Lib.index s sep).toNat,s.drop ((Lib.index s sep).toNat+sep.length),true)
 | []=>by rw [index_nil ho]; rfl
 | b::r=>by
  have hg:=Lib.index_ge r sep
  rw [index_cons,cutL]
  cases hp:sep.isPrefixOf (b::r)
  ·simp only [Bool.false_eq_true,if_false]
   rw [cutL_spec ho r]
   cases hm:(Lib.index r sep == -1)
   ·have hne:Lib.index r sep≠-1:=by simpa using hm
    have e1:(Lib.index r sep+1 == -1)=false:=by rw [beq_eq_false_iff_ne]; omega
    simp only [Bool.false_eq_true,if_false]
    rw [e1]
    simp only [Bool.false_eq_true,if_false]
    rw [show (Lib.index r sep+1).toNat=(Lib.index r sep).toNat+1 by omega]
    simp [show (Lib.index r sep).toNat+1+sep.length=((Lib.index r sep).toNat+sep.length)+1 by omega]
   ·simp
  ·simp
theorem cut_eq (ho:sep≠[]) (s:List UInt8):Lib.cut s sep=cutL sep s:=by
 rw [cutL_spec ho s,Lib.cut]
 have hg:=Lib.index_ge s sep
 cases hm:(Lib.index s sep == -1)
 ·have hne:Lib.index s sep≠-1:=by simpa using hm
  rw [if_pos (by omega)]
  simp
 ·have:Lib.index s sep = -1:=by simpa using hm
  rw [if_neg (by omega)]
  simp
end
theorem decDigits_eq (u:Nat):Lib.decDigits u=if u<10 then [UInt8.ofNat (48+u)] else Lib.decDigits (u / 10)++[UInt8.ofNat (48+u % 10)]:=by
 rw [Lib.decDigits]
 split <;> rfl
theorem digs_eq : ∀ (k u:Nat),1≤k→u<10 ^ k→digs k u=Lib.decDigits u
 | 0,u,h,_=>by omega
 | k+1,u,_,h=>by
  rw [decDigits_eq,digs]
  split
  ·rfl
  ·rename_i hu
   rw [digs_eq k (u / 10) (by
    cases k with
    | zero=>simp at h; omega
    | succ k=>omega) (by rw [Nat.pow_succ] at h; omega)]
theorem itoaL_eq {n:Int} (h0 : -9223372036854775808≤n) (h1:n≤9223372036854775807):itoaL n=Lib.itoa n:=by
 unfold itoaL Lib.itoa
 split
 ·rw [digs_eq 20 _ (by omega) (by omega)]
 ·rw [digs_eq 20 _ (by omega) (by omega)]
end Go.Proofs.YtknnphhepnbaoaaGreatDoor
