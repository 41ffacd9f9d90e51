/-
  MachineAccesses: the row and the tied card, proved. No condition.
-/
import Derived.Test.YtfhhiajfciblbaaGreatDoorJoinT2
import Derived.Test.YtfhhiajfciblbaaGreatDoorLawX7
import Derived.Test.YtfhhiajfciblbaaGreatDoorLawX4
import Derived.Test.YtfhhiajfciblbaaGreatDoorCtE
import Derived.Test.YtfhhiajfciblbaaGreatDoorCards
import Derived.Test.YtfhhiajfciblbaaGreatDoorTie
import Derived.OpenShut
import Derived.LaidMore
import Derived.Lay
import Derived.Stop.LaidErr
import Derived.Stop.Joined
import Derived.ChangeFn
namespace Go.Proofs.YtfhhiajfciblbaaGreatDoor
open Go.Sm Go.ChangeShapes Go.WideShapes Go.ChangeAt Go.RowKit
set_option maxRecDepth 100000
set_option linter.unusedSectionVars false
def tbG:List (TypeId×TInf):=[(3,ti3),(9,ti9),(253,SF),(254,S5)]
theorem ain:Tb.ok (FN tbG) Tryz.prog:=Kj ⟨UX,VL,Js,J1,trivial⟩
abbrev Cc:List (String×DataW Unit):=Rows.machineAccessesRow.laid
theorem ajw {W:World} (h:laidMet Tryz.prog Cc W):am W (qk wi) ov:=by
 obtain ⟨t0,z0,h0⟩:=V7 (t:=254) (k:=5) ain h (j:=0) rfl (g:=0) (by kernel_rfl) (by kernel_rfl) (cs:=cellsOf nz.ty sV (List.replicate sV.length nz.ref0)) (by kernel_rfl)
 have c1 : ∀ g,qk wi g≤1:=fun g=>by simp [qk]
 intro A hA
 obtain ⟨e,he,rfl⟩:=W6.1 hA
 simp only [GTab.gl,Xb,afD,aiC] at he
 subst he
 exact ⟨⟨t0,z0,h0⟩,c1 _,by simp [sV,maxLen]⟩
theorem Tryz.own:ownKnob Tryz.prog.godebug=none:=by kernel_rfl
theorem Tryz.laidOut:laidOutB Tryz.prog=true:=by kernel_rfl
theorem Ap {n:Int} (h:N1 (.int .i64) n):qi n:=by
 have h1:(Lit.int IntKind.i64 n).wf=true:=h
 simp only [Lit.wf,Wp,Z4] at h1
 exact ⟨h1.1,h1.2⟩
theorem BY {l:List Int} (h:yl (.slice (.sc (.int .i64))) l) : ∀ n∈l,qi n:=fun n hn=>Ap (h.2 n hn)
theorem Vf {w w' : World} {t:Tape} {may:MemPlace→Prop} (h:w.keptBut { w' with tape:=t } may):w.keptBut w' may:=h
attribute [local instance] instItr
abbrev Bk:List TC:=[.slice (.sc (.int .i64)), .slice (.sc (.int .i64)), .sc (.int .i64), .slice (.sc (.int .i64)), .sc (.int .i64), .sc (.int .i64)]
theorem DI {W:World} (x:lh (Bk.map PC.d)) (l:List Hd) (hl:l.length=rF (Bk.map PC.d))
  (hx:am W (qk wi) (pR (Bk.map PC.d) x l 2)) (hg:am W (qk wi) ov) (w:WfP Bk x) :
  Calls Tryz.prog 5 (nG (Bk.map PC.d) x l).toArray W fun e W' => e = .returned (.bool true)∧Below W.heap.size W { W' with tape:=W.tape }:=
 ((aji x true (FW x.1 x.2.1 x.2.2.1 x.2.2.2.1 x.2.2.2.2.1 x.2.2.2.2.2 (BY w.1) (BY w.2.1) (Ap w.2.2.1) (BY w.2.2.2.1) (Ap w.2.2.2.2.1) (Ap w.2.2.2.2.2))).2 l hl W _ (hx.append hg)).mono fun e W' h=>by
  obtain ⟨⟨y,he⟩,hB⟩:=ML h
  exact ⟨he,hB⟩
abbrev FU:Array Value:=#[.slice none 0 0, .slice none 0 0, .int .i64 0, .slice none 0 0, .int .i64 0, .int .i64 0]
theorem De (os:Os) (started:os.Started) (H:Type) (enc:TypeId×Value→H) :
  ReturnsInHanded {} Tryz.checked os 5 .any (fun w args=>(Rows.machineAccessesSpec.pre enc Tryz.prog Tryz.f5 Rows.machineAccessesRow.domain false w args∧laidMetH Tryz.prog Cc w)∧sizedMet enc Tryz.prog Tryz.f5 (OpenSpec.ofChange Rows.machineAccessesSpec) false w args)
   (Rows.machineAccessesSpec.post enc Tryz.prog Tryz.f5 false true false false):=by
 refine I6 (C:=Tryz.checked) (L:=fun w _=>laidMetH Tryz.prog Cc w) (fun _ _ _ hh h=>h.of_heap hh) Tryz.own started (by kernel_rfl) Tryz.func5
  (ChangeSpec.witness_shaped (enc:=enc) (C:=Tryz.checked) (os:=os) (X:=fun w _=>laidMetH Tryz.prog Cc w) false (World.laidAll Tryz.prog os Cc) FU 8 (World.laidAll_os _ _ _)
   (World.shaped_of_ZipB (by kernel_rfl) (by kernel_rfl)) (by kernel_rfl) (by kernel_rfl) (by kernel_rfl)
   (by rw [MakeChecks.laidMetH_plain _ _ _ (by kernel_rfl)]; exact laidMet_laidAll _ (by kernel_rfl) (by kernel_rfl))) ?_
 intro W base args ds gs before hval0 hW hL hsh _
 rw [MakeChecks.laidMetH_plain _ _ _ (by kernel_rfl)] at hL
 have hval : ∀ (j:Nat) t v,Tryz.f5.params[j]? = some t→args[j]? = some v→Value.okWide Tryz.prog W .any base t v:=hval0
 have hW' := hW
 obtain ⟨p,q,hA0,hV,rfl,hfz,hnd⟩:=hW
 have hA:DataW.TrodAll enc Tryz.prog W 0 (fun _=>true) true Tryz.f5.params.toList args.toList ds p:=hA0
 obtain ⟨rfl,rfl⟩:=trodVars_none hV
 have hlt : ∀ x∈p,x.block<W.heap.size:=fun x hx=>hW'.lt x (XP _ hx)
 have hG:=ajw hL
 obtain ⟨x,l,e1,e2,e3,e4⟩:=Jh (b0:=base) (r:=.any) (n:=9) (Θ:=FN tb) acp (ts:=Tryz.f5.params.toList) (tcs:=Bk) 2 (by kernel_rfl) (fun j t v ht hv=>hval j t v (by simpa using ht) (by simpa using hv)) hA
 have hargs:args=(nG (Bk.map PC.d) x l).toArray:=akY e2
 subst hargs
 refine (DI x l e1 e3 hG e4).mono fun e W' hP=>?_
 obtain ⟨rfl,hB⟩:=hP
 obtain ⟨d0,d1,d2,d3,d4,d5,rfl⟩ : ∃ d0 d1 d2 d3 d4 d5,ds=[d0,d1,d2,d3,d4,d5]:=by
  have hA2:=hA
  rw [show Tryz.f5.params.toList=[22,22,3,22,3,3] by kernel_rfl] at hA2
  obtain ⟨_,vs0,d0,ds0,_,_,_,rfl,_,_,hA2⟩:=trodAll_cons hA2
  obtain ⟨_,vs1,d1,ds1,_,_,_,rfl,_,_,hA2⟩:=trodAll_cons hA2
  obtain ⟨_,vs2,d2,ds2,_,_,_,rfl,_,_,hA2⟩:=trodAll_cons hA2
  obtain ⟨_,vs3,d3,ds3,_,_,_,rfl,_,_,hA2⟩:=trodAll_cons hA2
  obtain ⟨_,vs4,d4,ds4,_,_,_,rfl,_,_,hA2⟩:=trodAll_cons hA2
  obtain ⟨_,vs5,d5,ds5,_,_,_,rfl,_,_,hA2⟩:=trodAll_cons hA2
  cases vs5 <;> cases ds5 <;> simp only [DataW.TrodAll] at hA2
  exact ⟨d0,d1,d2,d3,d4,d5,rfl⟩
 refine ⟨_,rfl,_,_,_,[],p,[],hW',?_,?_,rfl,Vf (hB.frame _),fun h=>by cases h⟩
 ·exact trodAll_mk1 (shut_bool Tryz.underlying4 true)
 ·exact DataW.TrodAll.of_heap (w:={ W' with tape:=W.tape }) (w' := W') rfl (yb Tryz.laidOut hB (by kernel_rfl) hA hlt)
theorem Kw:Rows.MachineAccessesSaid:=
 OpenClaim.holds_of_wide 5 Tryz.f5 rfl rfl rfl rfl rfl rfl rfl ⟨rfl,rfl,rfl,rfl,rfl⟩ rfl rfl rfl rfl rfl (by kernel_rfl) Tryz.func5 (by kernel_rfl)
  (Yd (by kernel_rfl)) (by unfold Func.isWrapper; first | (rw [if_pos (by decide +kernel)]; kernel_rfl) | (rw [if_neg (by decide +kernel)]; exact ⟨rfl,rfl⟩))
  (fun os started H enc _=>De os started H enc)
theorem accesses_holds:Rows.MachineAccessesCardSaid:=
 Claim7.holds_tied_plain_at .later [] _ _ _ _ Kw (fun _ h=>by cases h) (by kernel_rfl) (fun _ h=>by cases h) machineAccesses_row_tie rfl ⟨rfl,rfl⟩ (by kernel_rfl) rfl
  (fun f fn hf hfn=>by
   obtain rfl:f=5:=afR ((show Tryz.prog.funcNamed "culprit/culpritlaw09.MachineAccesses" = some 5 by kernel_rfl).symm.trans hf) |>.symm
   obtain rfl:fn=Tryz.f5:=(afR (Tryz.func5.symm.trans hfn)).symm
   exact ⟨by kernel_rfl,fun j t ht=>by
    have hm:t∈Tryz.f5.params.toList:=by simpa using Array.mem_of_getElem? ht
    have hall:(Tryz.f5.params.toList.all fun u=>!Tryz.prog.wantsStandIn u)=true:=by kernel_rfl
    exact (show Tryz.prog.wantsStandIn t=false by simpa using W3.1 hall t hm)⟩)
  (by kernel_rfl)
#print axioms accesses_holds
end Go.Proofs.YtfhhiajfciblbaaGreatDoor
