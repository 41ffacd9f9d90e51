/-
  MachineSteps: the row and the tied card, proved. No condition.
-/
import Derived.Test.YtfhhiajfciblbaaGreatDoorJoinT2
import Derived.Test.YtfhhiajfciblbaaGreatDoorLawSteps
import Derived.Test.YtfhhiajfciblbaaGreatDoorCtE
import Derived.Test.YtfhhiajfciblbaaGreatDoorCards
import Derived.Test.YtfhhiajfciblbaaGreatDoorTie
import Derived.OpenShut
import Derived.LaidMore
import Derived.Lay
import Derived.Stop.LaidErr
import Derived.Stop.Joined
import Derived.ChangeFn
namespace Go.Proofs.YtfhhiajfciblbaaGreatDoor
open Go.Sm Go.ChangeShapes Go.WideShapes Go.ChangeAt Go.RowKit
set_option maxRecDepth 100000
set_option linter.unusedSectionVars false
def tbG:List (TypeId×TInf):=[(3,ti3),(9,ti9),(253,SJ),(254,P3)]
theorem ago:Tb.ok (D5 tbG) Tryz.prog:=Jj ⟨UJ,SX,IZ,Kf,trivial⟩
abbrev BP:List (String×DataW Unit):=Rows.machineStepsRow.laid
theorem agA {W:World} (h:laidMet Tryz.prog BP W):am W (pL vk) nR:=by
 obtain ⟨t0,z0,h0⟩:=Tu (t:=254) (k:=5) ago h (j:=0) rfl (g:=0) (by kernel_rfl) (by kernel_rfl) (cs:=cellsOf nq.ty sj (List.replicate sj.length nq.ref0)) (by kernel_rfl)
 have c1 : ∀ g,pL vk g≤1:=fun g=>by simp [pL]
 intro A hA
 obtain ⟨e,he,rfl⟩:=VO.1 hA
 simp only [GTab.gl,Wd,aeh,ah9] at he
 subst he
 exact ⟨⟨t0,z0,h0⟩,c1 _,by simp [sj,maxLen]⟩
theorem Tryz.own:ownKnob Tryz.prog.godebug=none:=by kernel_rfl
theorem Tryz.laidOut:laidOutB Tryz.prog=true:=by kernel_rfl
theorem N2 {n:Int} (h:Ml (.int .i64) n):rk n:=by
 have h1:(Lit.int IntKind.i64 n).wf=true:=h
 simp only [Lit.wf,Vf,YW] at h1
 exact ⟨h1.1,h1.2⟩
theorem Ay {l:List Int} (h:xk (.slice (.sc (.int .i64))) l) : ∀ n∈l,rk n:=fun n hn=>N2 (h.2 n hn)
theorem T7 {w w' : World} {t:Tape} {may:MemPlace→Prop} (h:w.keptBut { w' with tape:=t } may):w.keptBut w' may:=h
attribute [local instance] instItr
abbrev AL:List TC:=[.slice (.sc (.int .i64)), .slice (.sc (.int .i64)), .sc (.int .i64), .slice (.sc (.int .i64)), .sc (.int .i64)]
theorem LX {W:World} (x:kA (AL.map PC.d)) (l:List Hd) (hl:l.length=rc (AL.map PC.d))
  (hx:am W (pL vk) (pj (AL.map PC.d) x l 2)) (hg:am W (pL vk) nR) (w:WfP AL x) :
  Calls Tryz.prog 4 (l7 (AL.map PC.d) x l).toArray W fun e W' => e = .returned (.bool true)∧Below W.heap.size W { W' with tape:=W.tape }:=
 ((aiw x true (Pu x.1 x.2.1 x.2.2.1 x.2.2.2.1 x.2.2.2.2 (Ay w.1) (Ay w.2.1) (N2 w.2.2.1) (Ay w.2.2.2.1))).2 l hl W _ (hx.append hg)).mono fun e W' h=>by
  obtain ⟨⟨y,he⟩,hB⟩:=L1 h
  exact ⟨he,hB⟩
abbrev OR:Array Value:=#[.slice none 0 0, .slice none 0 0, .int .i64 0, .slice none 0 0, .int .i64 0]
theorem Je (os:Os) (started:os.Started) (H:Type) (enc:TypeId×Value→H) :
  ReturnsInHanded {} Tryz.checked os 4 .any (fun w args=>(Rows.machineStepsSpec.pre enc Tryz.prog Tryz.f4 Rows.machineStepsRow.domain false w args∧laidMetH Tryz.prog BP w)∧sizedMet enc Tryz.prog Tryz.f4 (OpenSpec.ofChange Rows.machineStepsSpec) false w args)
   (Rows.machineStepsSpec.post enc Tryz.prog Tryz.f4 false true false false):=by
 refine IK (C:=Tryz.checked) (L:=fun w _=>laidMetH Tryz.prog BP w) (fun _ _ _ hh h=>h.of_heap hh) Tryz.own started (by kernel_rfl) Tryz.func4
  (ChangeSpec.witness_shaped (enc:=enc) (C:=Tryz.checked) (os:=os) (X:=fun w _=>laidMetH Tryz.prog BP w) false (World.laidAll Tryz.prog os BP) OR 8 (World.laidAll_os _ _ _)
   (World.shaped_of_ZipB (by kernel_rfl) (by kernel_rfl)) (by kernel_rfl) (by kernel_rfl) (by kernel_rfl)
   (by rw [MakeChecks.laidMetH_plain _ _ _ (by kernel_rfl)]; exact laidMet_laidAll _ (by kernel_rfl) (by kernel_rfl))) ?_
 intro W base args ds gs before hval0 hW hL hsh _
 rw [MakeChecks.laidMetH_plain _ _ _ (by kernel_rfl)] at hL
 have hval : ∀ (j:Nat) t v,Tryz.f4.params[j]? = some t→args[j]? = some v→Value.okWide Tryz.prog W .any base t v:=hval0
 have hW' := hW
 obtain ⟨p,q,hA0,hV,rfl,hfz,hnd⟩:=hW
 have hA:DataW.TrodAll enc Tryz.prog W 0 (fun _=>true) true Tryz.f4.params.toList args.toList ds p:=hA0
 obtain ⟨rfl,rfl⟩:=trodVars_none hV
 have hlt : ∀ x∈p,x.block<W.heap.size:=fun x hx=>hW'.lt x (Ww _ hx)
 have hG:=agA hL
 obtain ⟨x,l,e1,e2,e3,e4⟩:=KW (b0:=base) (r:=.any) (n:=9) (Θ:=D5 tb) abh (ts:=Tryz.f4.params.toList) (tcs:=AL) 2 (by kernel_rfl) (fun j t v ht hv=>hval j t v (by simpa using ht) (by simpa using hv)) hA
 have hargs:args=(l7 (AL.map PC.d) x l).toArray:=aev e2
 subst hargs
 refine (LX x l e1 e3 hG e4).mono fun e W' hP=>?_
 obtain ⟨rfl,hB⟩:=hP
 obtain ⟨d0,d1,d2,d3,d4,rfl⟩ : ∃ d0 d1 d2 d3 d4,ds=[d0,d1,d2,d3,d4]:=by
  have hA2:=hA
  rw [show Tryz.f4.params.toList=[22,22,3,22,3] by kernel_rfl] at hA2
  obtain ⟨_,vs0,d0,ds0,_,_,_,rfl,_,_,hA2⟩:=trodAll_cons hA2
  obtain ⟨_,vs1,d1,ds1,_,_,_,rfl,_,_,hA2⟩:=trodAll_cons hA2
  obtain ⟨_,vs2,d2,ds2,_,_,_,rfl,_,_,hA2⟩:=trodAll_cons hA2
  obtain ⟨_,vs3,d3,ds3,_,_,_,rfl,_,_,hA2⟩:=trodAll_cons hA2
  obtain ⟨_,vs4,d4,ds4,_,_,_,rfl,_,_,hA2⟩:=trodAll_cons hA2
  cases vs4 <;> cases ds4 <;> simp only [DataW.TrodAll] at hA2
  exact ⟨d0,d1,d2,d3,d4,rfl⟩
 refine ⟨_,rfl,_,_,_,[],p,[],hW',?_,?_,rfl,T7 (hB.frame _),fun h=>by cases h⟩
 ·exact trodAll_mk1 (shut_bool Tryz.underlying4 true)
 ·exact DataW.TrodAll.of_heap (w:={ W' with tape:=W.tape }) (w' := W') rfl (xw Tryz.laidOut hB (by kernel_rfl) hA hlt)
theorem To:Rows.MachineStepsSaid:=
 OpenClaim.holds_of_wide 4 Tryz.f4 rfl rfl rfl rfl rfl rfl rfl ⟨rfl,rfl,rfl,rfl,rfl⟩ rfl rfl rfl rfl rfl (by kernel_rfl) Tryz.func4 (by kernel_rfl)
  (Xg (by kernel_rfl)) (by unfold Func.isWrapper; first | (rw [if_pos (by decide +kernel)]; kernel_rfl) | (rw [if_neg (by decide +kernel)]; exact ⟨rfl,rfl⟩))
  (fun os started H enc _=>Je os started H enc)
theorem steps_holds:Rows.MachineStepsCardSaid:=
 Claim7.holds_tied_plain_at .later [] _ _ _ _ To (fun _ h=>by cases h) (by kernel_rfl) (fun _ h=>by cases h) machineSteps_row_tie rfl ⟨rfl,rfl⟩ (by kernel_rfl) rfl
  (fun f fn hf hfn=>by
   obtain rfl:f=4:=aez ((show Tryz.prog.funcNamed "culprit/culpritlaw09.MachineSteps" = some 4 by kernel_rfl).symm.trans hf) |>.symm
   obtain rfl:fn=Tryz.f4:=(aez (Tryz.func4.symm.trans hfn)).symm
   exact ⟨by kernel_rfl,fun j t ht=>by
    have hm:t∈Tryz.f4.params.toList:=by simpa using Array.mem_of_getElem? ht
    have hall:(Tryz.f4.params.toList.all fun u=>!Tryz.prog.wantsStandIn u)=true:=by kernel_rfl
    exact (show Tryz.prog.wantsStandIn t=false by simpa using Vx.1 hall t hm)⟩)
  (by kernel_rfl)
#print axioms steps_holds
end Go.Proofs.YtfhhiajfciblbaaGreatDoor
