/-
  The library's functions that the program calls keep their contracts. No condition.
-/
import Derived.Test.YtknnphhepnbaoaaGreatDoorTab
import Derived.Test.YtknnphhepnbaoaaGreatDoorExtLib
import Derived.Test.YtknnphhepnbaoaaGreatDoorExtN
import Derived.Lib.AppendIntMem
import Derived.WalkSmall
import Derived.Lib.ReplaceLaws
import Derived.Lib.SplitLaws
namespace Go.Proofs.YtknnphhepnbaoaaGreatDoor
open Go.Sm Go.RowKit
variable [Vars]
set_option linter.unusedSectionVars false
abbrev S_:PC:=.d (.sc .str)
def ctJoin:Ctr:=⟨⟨[.d (.slice (.sc .str)),S_],[.sc .str],1,[],[]⟩,fun x=>xJoin x.1 x.2⟩
def ctReplace:Ctr:=⟨⟨[S_,S_,S_, .d (.sc (.int .i64))],[.sc .str],1,[],[]⟩,fun x=>xReplace x.1 x.2.1 x.2.2.1 x.2.2.2⟩
def ctReplaceAll:Ctr:=⟨⟨[S_,S_,S_],[.sc .str],1,[],[]⟩,fun x=>xReplaceAll x.1 x.2.1 x.2.2⟩
def ctSplit:Ctr:=⟨⟨[S_,S_],[.slice (.sc .str)],1,[],[⟨some 9,false,false⟩]⟩,fun x=>xSplit x.1 x.2⟩
def ctTrim:Ctr:=⟨⟨[S_,S_],[.sc .str],1,[],[]⟩,fun x=>xTrim x.1 x.2⟩
def ctTrimLeft:Ctr:=⟨⟨[S_,S_],[.sc .str],1,[],[]⟩,fun x=>xTrimLeft x.1 x.2⟩
def ctCut:Ctr:=⟨⟨[S_,S_],[.sc .str, .sc .str, .sc .bool],3,[],[]⟩,fun x=>xCut x.1 x.2⟩
def ctCutPrefix:Ctr:=⟨⟨[S_,S_],[.sc .str, .sc .bool],2,[],[]⟩,fun x=>xCutPrefix x.1 x.2⟩
def ctCutSuffix:Ctr:=⟨⟨[S_,S_],[.sc .str, .sc .bool],2,[],[]⟩,fun x=>xCutSuffix x.1 x.2⟩
def ctItoa:Ctr:=⟨⟨[.d (.sc (.int .i64))],[.sc .str],1,[],[]⟩,fun x=>xItoa x⟩
def ctNumber:Ctr:=⟨⟨[S_],[.sc (.int .i64), .sc .bool],2,[],[]⟩,fun x=>xNumber x⟩
theorem some_eq {α:Type} {a b:α} (h:some a=some b):a=b:=by cases h; rfl
theorem atc_below {f:FuncId} {C:Sig} {x:DenP C.ps} {r:DenL C.rs} (hf : ∃ fn cd,Tryz.prog.funcs[f]? = some fn∧fn.body=some cd∧(fn.name == "runtime.NumGoroutine")=false) (hn:nhL C.rs=0)
  (h0 : ∀ (y:List Hd) (bs:List ObH),(resL C.rs r C.ms 0).map (AF.ha (ηL y))++outF C.rs r y C.nr bs 130=[])
  (hc : ∀ l:List Hd,l.length=nhP C.ps→∀ w c0,Heap w c0 (factsP C.ps x l 2++GLH)→Calls Tryz.prog f (valsP C.ps x l).toArray w fun e w' => e = .returned (retV C.nr C.rs r [])∧Below w.heap.size w w'):AtC Tryz.prog f C x r:=by
 refine ⟨hf,fun l hl w c0 hH=>(hc l hl w c0 hH).mono fun e w' hh=>?_⟩
 obtain ⟨he,hb⟩:=hh
 refine ⟨⟨[],by rw [hn]; rfl⟩,fun b=>if b<w.heap.size then c0 b else 2,he,⟨hb.os,hb.tape,hb.output⟩,hb.size,fun b hlt _=>⟨hb.block b hlt,by simp [hlt]⟩,fun b hlt h2=>?_,?_⟩
 ·show 2≤if b<w.heap.size then c0 b else 2
  split
  ·rename_i h; exact h2 h
  ·omega
 ·have:=h0 [] (blks l C.bl)
  show Heap w' _ ((resL C.rs r C.ms 0).map (AF.ha (ηL []))++outF C.rs r [] C.nr (blks l C.bl) 130)
  rw [this]; exact Heap.nil _ _
theorem glh_at {w:World} {c:Col} {L:List HA} (hH:Heap w c (L++GLH)) {e:GEnt} (he:e∈GTab.gl) : ∃ ty fz,w.heap[e.g]? = some (.cells (cellsOf e.t.ty e.xs (List.replicate e.xs.length e.t.ref0)).toArray ty fz):=
 (hH _ (List.mem_append_right _ (List.mem_map.2 ⟨e,he,rfl⟩))).1
theorem maxLen_at {w:World} {c:Col} {L:List HA} (hH:Heap w c (L++GLH)):w.cell? ⟨2,0,none⟩=some (.int .i64 Vars.m):=by
 obtain ⟨ty,fz,h⟩:=glh_at hH (e:=⟨2, .sc (.int .i64),[Vars.m]⟩) (by simp [GTab.gl])
 simp only at h
 unfold World.cell?
 rw [h]
 rfl
theorem var_at {w:World} {g:Nat} {name:String} {cs:Array Value} {ty:TypeId} {fz:Nat×Nat} (hg:Tryz.prog.globalNamed name=some g) (h:w.heap[g]? = some (.cells cs ty fz)):w.var? Tryz.prog name=some cs:=by
 unfold World.var?
 rw [hg]
 simp [h]
theorem pow_at {w:World} {c:Col} {L:List HA} (hH:Heap w c (L++GLH)):Lib.TabIs Tryz.prog w "internal/strconv.uint64pow10" .u64 Lib.pow10Tab:=by
 obtain ⟨ty,fz,h⟩:=glh_at hH (e:=⟨1, .sc (.int .u64),Lib.pow10Tab⟩) (by simp [GTab.gl])
 have:=var_at (name := "internal/strconv.uint64pow10") (by kernel_rfl) h
 unfold Lib.TabIs
 rw [this]
 rfl
theorem syn_at {w:World} {c:Col} {L:List HA} (hH:Heap w c (L++GLH)):w.var? Tryz.prog "strconv.ErrSyntax" = some #[.iface Vars.e1.1 Vars.e1.2]:=by
 obtain ⟨ty,fz,h⟩:=glh_at hH (e:=⟨6, .ext 0,[Vars.e1]⟩) (by simp [GTab.gl])
 exact var_at (name := "strconv.ErrSyntax") (by kernel_rfl) h
theorem rng_at {w:World} {c:Col} {L:List HA} (hH:Heap w c (L++GLH)):w.var? Tryz.prog "strconv.ErrRange" = some #[.iface Vars.e2.1 Vars.e2.2]:=by
 obtain ⟨ty,fz,h⟩:=glh_at hH (e:=⟨7, .ext 0,[Vars.e2]⟩) (by simp [GTab.gl])
 exact var_at (name := "strconv.ErrRange") (by kernel_rfl) h
theorem fits_le {n:Nat} (h:fits n=true):n≤2147483648:=Nat.le_of_ble_eq_true h
theorem ctCutPrefix_ok:ctCutPrefix.sound Tryz.prog 146:=by
 rintro ⟨s,p⟩ r h
 have h:=some_eq (show some _=some r from h)
 subst h
 refine atc_below ⟨_,_,Tryz.func146,rfl,by kernel_rfl⟩ rfl (fun _ _=>rfl) fun l hl w c0 hH=>?_
 refine (Tryz.strings_CutPrefix (B_ s) (B_ p) w).mono fun e w' hh=>?_
 obtain ⟨rfl,rfl⟩:=hh
 exact ⟨rfl,Below.refl _ _⟩
theorem ctCutSuffix_ok:ctCutSuffix.sound Tryz.prog 98:=by
 rintro ⟨s,p⟩ r h
 obtain ⟨h1,h2⟩:=chk_some h
 have h3:=some_eq h2
 clear h h2
 replace h1:=of_decide_eq_true h1
 subst h3
 refine atc_below ⟨_,_,Tryz.func98,rfl,by kernel_rfl⟩ rfl (fun _ _=>rfl) fun l hl w c0 hH=>?_
 refine (Tryz.strings_CutSuffix (B_ s) (B_ p) w h1).mono fun e w' hh=>?_
 obtain ⟨rfl,rfl⟩:=hh
 exact ⟨rfl,Below.refl _ _⟩
theorem ctItoa_ok:ctItoa.sound Tryz.prog 37:=by
 rintro n r h
 obtain ⟨h1,h2⟩:=chk_some h
 have h3:=some_eq h2
 clear h h2
 simp only [Bool.and_eq_true,decide_eq_true_eq] at h1
 subst h3
 refine atc_below ⟨_,_,Tryz.func37,rfl,by kernel_rfl⟩ rfl (fun _ _=>rfl) fun l hl w c0 hH=>?_
 refine (Tryz.strconv_Itoa n h1.1 h1.2 w (pow_at hH)).mono fun e w' hh=>?_
 obtain ⟨rfl,k,os,rfl⟩:=hh
 rw [← itoaL_eq h1.1 h1.2]
 exact ⟨rfl,Lib.below_grow _ _ (Nat.le_refl _) _ _⟩
theorem ctCut_ok:ctCut.sound Tryz.prog 148:=by
 rintro ⟨s,p⟩ r h
 obtain ⟨h1,h2⟩:=chk_some h
 have h3:=some_eq h2
 clear h h2
 simp only [Bool.and_eq_true,decide_eq_true_eq] at h1
 obtain ⟨hp,hs⟩:=h1
 have hs:=fits_le hs
 subst h3
 refine atc_below ⟨_,_,Tryz.func148,rfl,by kernel_rfl⟩ rfl (fun _ _=>rfl) fun l hl w c0 hH=>?_
 refine (Tryz.strings_Cut (B_ s) (B_ p) _ w (by rw [B_size]; omega) (maxLen_at hH)).mono fun e w' hh=>?_
 obtain ⟨rfl,k,rfl⟩:=hh
 have hne:p≠[]:=fun e=>by rw [e] at hp; exact absurd hp (by decide)
 rw [B_l,B_l,cut_eq hne]
 exact ⟨rfl,below_drewN (Below.refl _ _) _⟩
theorem ctReplace_ok:ctReplace.sound Tryz.prog 94:=by
 rintro ⟨s,old,new,n⟩ r h
 change xReplace s old new n=some r at h
 unfold xReplace at h
 split at h
 ·rename_i c
  obtain ⟨h1,h2⟩:=chk_some h
  have h3:=some_eq h2
  clear h h2
  simp only [Bool.and_eq_true,beq_iff_eq,Bool.not_eq_true',decide_eq_true_eq] at h1
  obtain ⟨⟨⟨h1,hs⟩,hw⟩,hne⟩:=h1
  change n=1 at h1
  subst h1
  have hs:=fits_le hs
  subst h3
  refine atc_below ⟨_,_,Tryz.func94,rfl,by kernel_rfl⟩ rfl (fun _ _=>rfl) fun l hl w c0 hH=>?_
  have hcnt:=Lib.countB_le (B_ [c]) (by rw [B_size]; simp) s.length (B_ s) (by rw [B_size]; exact Nat.le_refl _)
  rw [B_size] at hcnt
  have hmul:Lib.countB (B_ s) (B_ [c]) * new.length≤2147483648 * 32:=Nat.mul_le_mul (by omega) hw
  refine (Tryz.strings_Replace (B_ s) (B_ [c]) (B_ new) 1 _ w (by rw [B_size]; omega) (maxLen_at hH) (by rw [B_size]; simp) (by rw [B_size,B_size]; omega)).mono fun e w' hh=>?_
  obtain ⟨rfl,hb⟩:=hh
  rw [B_l,B_l,B_l,replace_one c new s hne]
  exact ⟨rfl,hb⟩
 ·cases h
theorem ne_of_len {p:List UInt8} (h:1≤p.length):p≠[]:=fun e=>by rw [e] at h; exact absurd h (by decide)
theorem ctReplaceAll_ok:ctReplaceAll.sound Tryz.prog 191:=by
 rintro ⟨s,old,new⟩ r h
 change xReplaceAll s old new=some r at h
 obtain ⟨h1,h2⟩:=chk_some h
 have h3:=some_eq h2
 clear h h2
 simp only [Bool.and_eq_true,Bool.not_eq_true',decide_eq_true_eq] at h1
 obtain ⟨⟨⟨ho,hw⟩,hne⟩,hs⟩:=h1
 have hs:=fits_le hs
 subst h3
 refine atc_below ⟨_,_,Tryz.func191,rfl,by kernel_rfl⟩ rfl (fun _ _=>rfl) fun l hl w c0 hH=>?_
 have hcnt:=Lib.countB_mul_le (B_ old) (by rw [B_size]; exact ho) s.length (B_ s) (by rw [B_size]; exact Nat.le_refl _)
 rw [B_size,B_size] at hcnt
 have hmul:Lib.countB (B_ s) (B_ old) * new.length≤Lib.countB (B_ s) (B_ old) * old.length:=Nat.mul_le_mul_left _ hw
 refine (Tryz.strings_ReplaceAll (B_ s) (B_ old) (B_ new) _ w (by rw [B_size]; omega) (maxLen_at hH) (by rw [B_size]; exact ho) (by rw [B_size,B_size]; omega)).mono fun e w' hh=>?_
 obtain ⟨rfl,hb⟩:=hh
 rw [B_l,B_l,B_l,replaceAll_eq (ne_of_len ho) hne]
 exact ⟨rfl,hb⟩
theorem ctTrim_ok:ctTrim.sound Tryz.prog 130:=by
 rintro ⟨s,cs⟩ r h
 change xTrim s cs=some r at h
 obtain ⟨h1,h2⟩:=chk_some h
 have h3:=some_eq h2
 clear h h2
 simp only [Bool.and_eq_true] at h1
 obtain ⟨⟨hs,hcs⟩,ha⟩:=h1
 have hs:=fits_le hs
 have hcs:=fits_le hcs
 subst h3
 refine atc_below ⟨_,_,Tryz.func130,rfl,by kernel_rfl⟩ rfl (fun _ _=>rfl) fun l hl w c0 hH=>?_
 refine (Any.strings_Trim_laid Tryz.lays160 (by kernel_rfl) (B_ s) (B_ cs) w (by rw [B_size]; omega) (by rw [B_size]; omega) (fun j b hb=>of_decide_eq_true (List.all_eq_true.1 ha b (List.mem_of_getElem? hb)))).mono fun e w' hh=>?_
 obtain ⟨rfl,hb⟩:=hh
 exact ⟨rfl,hb⟩
theorem ctTrimLeft_ok:ctTrimLeft.sound Tryz.prog 144:=by
 rintro ⟨s,cs⟩ r h
 change xTrimLeft s cs=some r at h
 unfold xTrimLeft at h
 split at h
 ·rename_i c
  obtain ⟨h1,h2⟩:=chk_some h
  have h3:=some_eq h2
  clear h h2
  simp only [Bool.and_eq_true,decide_eq_true_eq] at h1
  subst h3
  refine atc_below ⟨_,_,Tryz.func144,rfl,by kernel_rfl⟩ rfl (fun _ _=>rfl) fun l hl w c0 hH=>?_
  refine (Tryz.strings_TrimLeft_one (B_ s) c h1.1 w).mono fun e w' hh=>?_
  obtain ⟨rfl,rfl⟩:=hh
  exact ⟨rfl,Below.refl _ _⟩
 ·cases h
theorem cells_str : ∀ {xs:List (List UInt8)} {ys:List Unit},xs.length=ys.length→cellsOf (TC.sc .str).ty xs ys=xs.map fun x=>Value.string (B_ x)
 | [],[],_=>rfl
 | x::xs,y::ys,h=>by
  have:=cells_str (xs:=xs) (ys:=ys) (by simpa using h)
  simp only [cellsOf,this,List.map_cons]
  rfl
 | [],_::_,h=>by simp at h
 | _::_,[],h=>by simp at h
theorem ctJoin_ok:ctJoin.sound Tryz.prog 49:=by
 rintro ⟨xs,sep⟩ r h
 change xJoin xs sep=some r at h
 obtain ⟨h1,h2⟩:=chk_some h
 have h3:=some_eq h2
 clear h h2
 simp only [Bool.and_eq_true,decide_eq_true_eq] at h1
 subst h3
 refine atc_below ⟨_,_,Tryz.func49,rfl,by kernel_rfl⟩ rfl (fun _ _=>rfl) fun l hl w c0 hH=>?_
 obtain ⟨hd,rfl⟩ : ∃ hd,l=[hd]:=by
  match l,hl with
  | [hd],_=>exact ⟨hd,rfl⟩
 have hrep:HA.holds w c0 (.rep (TC.sc .str).ty [1] xs hd):=hH _ (List.mem_append_left _ (List.mem_cons_self ..))
 obtain ⟨ys,hys,hn,hle,hm,hcs⟩:=hrep
 have hval:(valsP [.d (.slice (.sc .str)),S_] (xs,sep) [hd]).toArray = #[.slice hd.a xs.length hd.cap, .string (B_ sep)]:=by
  show ([.slice hd.a hd.n hd.cap, .string (B_ sep)]:List Value).toArray=_
  rw [hn]
 show Calls Tryz.prog 49 (valsP [.d (.slice (.sc .str)),S_] (xs,sep) [hd]).toArray w _
 rw [hval]
 rcases hcs with ⟨_,h0⟩ | ⟨b,off,arr,ty,fz,ha,_,hb,hfit,hcell⟩
 ·have e0:xs=[]:=List.eq_nil_of_length_eq_zero (by omega)
  subst e0
  refine (Tryz.strings_Join_none hd.a hd.cap (B_ sep) w).mono fun e w' hh=>?_
  obtain ⟨rfl,rfl⟩:=hh
  exact ⟨rfl,Below.refl _ _⟩
 ·rw [ha]
  have hlt:=(Array.getElem?_eq_some_iff.1 hb).1
  rw [cells_str hys.length] at hcell
  have hj:=joinL_eq sep xs
  have hmap:(xs.map B_).map (·.data.toList)=xs:=by
   rw [List.map_map]
   exact (List.map_congr_left (g:=id) fun _ _=>rfl).trans (List.map_id _)
  have hlen:(xs.map B_).length=xs.length:=by simp
  have hc:=Tryz.strings_Join b off hd.cap (xs.map B_) (B_ sep) w ?_ hlt (by rw [hlen]; exact h1.1) (by rw [hlen]; omega) (by rw [hmap,B_l,← hj]; exact h1.2)
  rotate_left
  ·intro j x hx
   have hx2:(xs.map fun x=>Value.string (B_ x))[j]? = some (.string x):=by
    rw [List.getElem?_map] at hx ⊢
    cases hxx:xs[j]? with
    | none=>rw [hxx] at hx; cases hx
    | some y=>rw [hxx] at hx; simp only [Option.map_some,Option.some.injEq] at hx ⊢; rw [hx]
   rw [← hcell,List.getElem?_take] at hx2
   split at hx2
   ·rw [List.getElem?_drop] at hx2
    unfold World.cell?
    rw [hb]
    simpa using hx2
   ·cases hx2
  rw [hlen] at hc
  refine hc.mono fun e w' hh=>?_
  obtain ⟨rfl,hbl⟩:=hh
  rw [hmap,B_l,← hj]
  exact ⟨rfl,hbl⟩
theorem ctSplit_ok:ctSplit.sound Tryz.prog 83:=by
 rintro ⟨s,p⟩ r h
 change xSplit s p=some r at h
 obtain ⟨h1,h2⟩:=chk_some h
 have h3:=some_eq h2
 clear h h2
 simp only [Bool.and_eq_true,decide_eq_true_eq] at h1
 have hs:=fits_le h1.2
 subst h3
 refine ⟨⟨_,_,Tryz.func83,rfl,by kernel_rfl⟩,fun l hl w c0 hH=>?_⟩
 refine (Tryz.strings_Split (B_ s) (B_ p) _ w (by rw [B_size]; omega) (maxLen_at hH) (by rw [B_size]; exact h1.1)).mono fun e w' hh=>?_
 obtain ⟨rfl,rfl⟩:=hh
 have hne:=ne_of_len h1.1
 have hdata:(Lib.splitB (B_ p) 0 (Lib.countB (B_ s) (B_ p)) (B_ s)).map (·.data.toList)=splA p s.length s:=by
  rw [Lib.splitB_data]; exact split_eq hne s
 have hlen:(Lib.splitB (B_ p) 0 (Lib.countB (B_ s) (B_ p)) (B_ s)).length=Lib.countB (B_ s) (B_ p)+1:=Lib.splitB_all (B_ p) (by rw [B_size]; exact h1.1) 0 _ (B_ s) rfl
 have hcnt:=Lib.countB_le (B_ p) (by rw [B_size]; exact h1.1) s.length (B_ s) (by rw [B_size]; exact Nat.le_refl _)
 rw [B_size] at hcnt
 have hl2:(splA p s.length s).length=Lib.countB (B_ s) (B_ p)+1:=by rw [← hdata,List.length_map,hlen]
 have hcells:(Lib.splitB (B_ p) 0 (Lib.countB (B_ s) (B_ p)) (B_ s)).map Value.string=cellsOf (TC.sc .str).ty (splA p s.length s) (List.replicate (splA p s.length s).length ()):=by
  rw [cells_str (by simp),← hdata,List.map_map]
  exact List.map_congr_left fun _ _=>rfl
 generalize Lib.splitB (B_ p) 0 (Lib.countB (B_ s) (B_ p)) (B_ s)=pieces at *
 generalize Lib.countB (B_ s) (B_ p)=n at *
 rw [hcells]
 refine ⟨⟨[⟨some ⟨w.heap.size,0,none⟩,n+1,n+1⟩],rfl⟩,fun b=>if b<w.heap.size then c0 b else 2,rfl,⟨rfl,rfl,rfl⟩,by simp,fun b hlt _=>⟨heap_alloc_old w _ hlt,by simp [hlt]⟩,fun b hlt hh=>?_,?_⟩
 ·show 2≤if b<w.heap.size then c0 b else 2
  split
  ·rename_i hb; exact hh hb
  ·omega
 ·intro A hA
  have hA:A = .own (TC.sc .str).ty 9 2 [] (splA p s.length s) ⟨some ⟨w.heap.size,0,none⟩,n+1,n+1⟩:=by simpa [ctSplit,resL,resT,AF.ha,ηL,outF,outH,RM.K,show Nat.ble 4194304 9=false from rfl] using hA
  subst hA
  refine ⟨List.replicate (splA p s.length s).length (),repAll_ref0 (t:=.sc .str) rfl _,⟨?_, .inr ⟨w.heap.size,n+1,_,9,(0,0),?_,heap_alloc_new w _, .inl ⟨rfl,rfl⟩,?_,?_,?_,?_⟩⟩,?_⟩
  ·rw [cellsOf_length _ (by simp)]
  ·rw [hl2]
  ·omega
  ·simp only [maxLen]; omega
  ·simp only [List.size_toArray]; rw [cellsOf_length _ (by simp),hl2]
  ·rw [List.take_of_length_le]
   rw [cellsOf_length _ (by simp)]
   exact Nat.le_refl _
  ·intro g hg
   simp [Hd.val,Value.ownBlock] at hg
   subst hg
   simp
theorem ctNumber_ok:ctNumber.sound Tryz.prog 108:=by
 rintro s r h
 change xNumber s=some r at h
 obtain ⟨h1,h2⟩:=chk_some h
 have h3:=some_eq h2
 clear h h2
 have hs:=fits_le h1
 subst h3
 refine atc_below ⟨_,_,Tryz.func108,rfl,by kernel_rfl⟩ rfl (fun _ _=>rfl) fun l hl w c0 hH=>?_
 exact number_calls s hs w (pow_at hH) _ _ (syn_at hH) _ _ (rng_at hH)
end Go.Proofs.YtknnphhepnbaoaaGreatDoor
