/-
  The function that reads a number of at most three digits: what it computes, by the contracts of the library's functions that it calls. No condition.
-/
import Derived.Test.YtknnphhepnbaoaaGreatDoorExtLib
import Derived.Test.YtknnphhepnbaoaaGreatDoorShelf
import Derived.BigCall
import Derived.Deep.DeepFit
import Derived.Lib.AtoiErrMem
import Derived.Lib.AppendIntMem
import Derived.WalkSmall
namespace Go.Proofs.YtknnphhepnbaoaaGreatDoor
open Go.RowKit
abbrev B_ (l:List UInt8):ByteArray:=⟨l.toArray⟩
theorem B_l (l:List UInt8):(B_ l).data.toList=l:=rfl
theorem B_size (l:List UInt8):(B_ l).size=l.length:=rfl
theorem tab_below {w w' : World} (h:Lib.TabIs Tryz.prog w "internal/strconv.uint64pow10" .u64 Lib.pow10Tab) (hb:Below w.heap.size w w'):Lib.TabIs Tryz.prog w' "internal/strconv.uint64pow10" .u64 Lib.pow10Tab:=by
 unfold Lib.TabIs at h ⊢
 have hg:Tryz.prog.globalNamed "internal/strconv.uint64pow10" = some 1:=by kernel_rfl
 refine var?_below hb hg ?_ h
 unfold World.var? at h
 rw [hg] at h
 simp only [Option.bind_some] at h
 cases hh:w.heap[1]? with
 | none=>rw [hh] at h; cases h
 | some o=>exact (Array.getElem?_eq_some_iff.1 hh).1
set_option maxRecDepth 100000 in
theorem number_calls (s:List UInt8) (hs:s.length≤2147483648) (w:World) (htab:Lib.TabIs Tryz.prog w "internal/strconv.uint64pow10" .u64 Lib.pow10Tab) (t1:TypeId) (p1:Value) (hsyn:w.var? Tryz.prog "strconv.ErrSyntax" = some #[.iface t1 p1])
  (t2:TypeId) (p2:Value) (hrng:w.var? Tryz.prog "strconv.ErrRange" = some #[.iface t2 p2]) :
  Calls Tryz.prog 108 #[.string (B_ s)] w fun e w' => e = .returned (.tuple #[.int .i64 (numberL s).1, .bool (numberL s).2])∧Below w.heap.size w w' := by
 match hat:Lib.atoiAll s with
 | Lib.NumEnd.ok v=>
  have hb:=Lib.atoiAll_bounds hat
  have hr:numberL s=(v,decide (0≤v)&&decide (v≤999)&&(itoaL v==s)):=by simp only [numberL,hat]
  have cA:=Tryz.strconv_Atoi_ok (B_ s) (by rw [B_size]; omega) v hat w
  by_cases h0:0≤v
  ·by_cases h9:v≤999
   ·have hr2:numberL s=(v,itoaL v==s):=by rw [hr]; simp [h0,h9]
    rw [hr2]
    clear hr hr2
    have hit:(Lib.itoa v)=itoaL v:=(itoaL_eq hb.1 hb.2).symm
    go_enter Tryz.func108,Tryz.ntmps108
    go_wp2_with (go_at_call 151; go_fit cA; rintro e w1 ⟨rfl,hw⟩)
    have hb1:Below w.heap.size w w1:=by
     rcases hw with rfl | ⟨t,rfl⟩
     ·exact Below.refl _ _
     ·exact Lib.bytesWorld_below _ _ _
    clear hw
    have cI:=Tryz.strconv_Itoa v hb.1 hb.2 w1 (tab_below htab hb1)
    go_wp2_with (go_at_call 37; go_fit cI; rintro e w2 ⟨rfl,k,os,rfl⟩)
    go_ret2
    exact ⟨rfl,hb1.trans (Lib.below_grow _ _ hb1.size _ _)⟩
   ·have hr2:numberL s=(v,false):=by rw [hr]; simp [h9]
    rw [hr2]
    clear hr hr2
    go_enter Tryz.func108,Tryz.ntmps108
    go_wp2_with (go_at_call 151; go_fit cA; rintro e w1 ⟨rfl,hw⟩)
    go_ret2
    refine ⟨rfl,?_⟩
    rcases hw with rfl | ⟨t,rfl⟩
    ·exact Below.refl _ _
    ·exact Lib.bytesWorld_below _ _ _
  ·have hr2:numberL s=(v,false):=by rw [hr]; simp [h0]
   rw [hr2]
   clear hr hr2
   go_enter Tryz.func108,Tryz.ntmps108
   go_wp2_with (go_at_call 151; go_fit cA; rintro e w1 ⟨rfl,hw⟩)
   go_ret2
   refine ⟨rfl,?_⟩
   rcases hw with rfl | ⟨t,rfl⟩
   ·exact Below.refl _ _
   ·exact Lib.bytesWorld_below _ _ _
 | Lib.NumEnd.syntax=>
  have hr2:numberL s=(0,false):=by simp only [numberL,hat]
  rw [hr2]
  have cA:=Tryz.strconv_Atoi_syntax_var (B_ s) (by rw [B_size]; omega) hat t1 p1 w hsyn
  go_enter Tryz.func108,Tryz.ntmps108
  go_wp2_with (go_at_call 151; go_fit cA; rintro e w1 ⟨N,rfl,-,-,hw⟩)
  go_ret2
  exact ⟨rfl,hw⟩
 | Lib.NumEnd.range=>
  have hr2:numberL s=(Lib.atoiSat s,false):=by simp only [numberL,hat]
  rw [hr2]
  have cA:=Tryz.strconv_Atoi_range_var (B_ s) (by rw [B_size]; omega) hat t2 p2 w hrng
  go_enter Tryz.func108,Tryz.ntmps108
  go_wp2_with (go_at_call 151; go_fit cA; rintro e w1 ⟨N,rfl,-,-,hw⟩)
  go_ret2
  exact ⟨rfl,hw⟩
end Go.Proofs.YtknnphhepnbaoaaGreatDoor
