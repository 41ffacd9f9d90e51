/-
  MachineStarts: the row and the tied card, proved. No condition.
-/
import Derived.Test.YtfhhiajfciblbaaGreatDoorJoinT2
import Derived.Test.YtfhhiajfciblbaaGreatDoorLawStarts
import Derived.Test.YtfhhiajfciblbaaGreatDoorLawSort2
import Derived.Test.YtfhhiajfciblbaaGreatDoorCtD
import Derived.Test.YtfhhiajfciblbaaGreatDoorCards
import Derived.Test.YtfhhiajfciblbaaGreatDoorTie
import Derived.OpenShut
import Derived.LaidMore
import Derived.Lay
import Derived.Stop.LaidErr
import Derived.Stop.Joined
import Derived.ChangeFn
namespace Go.Proofs.YtfhhiajfciblbaaGreatDoor
open Go.Sm Go.ChangeShapes Go.WideShapes Go.ChangeAt Go.RowKit
set_option maxRecDepth 100000
set_option linter.unusedSectionVars false
def tbG:List (TypeId×TInf):=[(3,ti3),(9,ti9),(253,Nl),(254,Lg)]
theorem ab6:Tb.ok (Ch tbG) Tryz.prog:=Gl ⟨PD,Pk,EZ,HP,trivial⟩
abbrev zF:List (String×DataW Unit):=Rows.machineStartsRow.laid
theorem acE {W:World} (h:laidMet Tryz.prog zF W):ai W (nq ti) lJ:=by
 obtain ⟨t0,z0,h0⟩:=OT (t:=254) (k:=5) ab6 h (j:=0) rfl (g:=0) (by kernel_rfl) (by kernel_rfl) (cs:=cellsOf kT.ty pB (List.replicate pB.length kT.ref0)) (by kernel_rfl)
 have c1 : ∀ g,nq ti g≤1:=fun g=>by simp [nq]
 intro A hA
 obtain ⟨e,he,rfl⟩:=List.mem_map.1 hA
 simp only [GTab.gl,List.mem_cons,List.not_mem_nil,or_false] at he
 subst he
 exact ⟨⟨t0,z0,h0⟩,c1 _,by simp [pB,maxLen]⟩
theorem Tryz.own:ownKnob Tryz.prog.godebug=none:=by kernel_rfl
theorem Tryz.laidOut:laidOutB Tryz.prog=true:=by kernel_rfl
theorem wT {n:Int} (h:Ks (.int .i64) n):lw n:=by
 have h1:(Lit.int IntKind.i64 n).wf=true:=h
 simp only [Lit.wf,Bool.and_eq_true,decide_eq_true_eq] at h1
 exact ⟨h1.1,h1.2⟩
theorem GP {l:List Int} (h:u5 (.slice (.sc (.int .i64))) l) : ∀ n∈l,lw n:=fun n hn=>wT (h.2 n hn)
theorem Qi {w w' : World} {t:Tape} {may:MemPlace→Prop} (h:w.keptBut { w' with tape:=t } may):w.keptBut w' may:=h
attribute [local instance] instItr
abbrev yi:List TC:=[.slice (.sc (.int .i64)), .slice (.sc (.int .i64)), .sc (.int .i64), .sc (.int .i64), .sc (.int .i64),eR]
theorem Id {W:World} (x:iS (yi.map PC.d)) (l:List Hd) (hl:l.length=oM (yi.map PC.d))
  (hx:ai W (nq ti) (mJ (yi.map PC.d) x l 2)) (hg:ai W (nq ti) lJ) (w:WfP yi x) :
  Calls Tryz.prog 3 (ka (yi.map PC.d) x l).toArray W fun e W' => e = .returned (.bool true)∧Below W.heap.size W { W' with tape:=W.tape }:=
 ((ac1 x true (Iq x.1 x.2.1 x.2.2.1 x.2.2.2.1 x.2.2.2.2.1 x.2.2.2.2.2 (GP w.1) (GP w.2.1) (wT w.2.2.1) (wT w.2.2.2.1) (wT w.2.2.2.2.1))).2 l hl W _ (hx.append hg)).mono fun e W' h=>by
  obtain ⟨⟨y,he⟩,hB⟩:=Il h
  exact ⟨he,hB⟩
abbrev IR:Array Value:=#[.slice none 0 0, .slice none 0 0, .int .i64 0, .int .i64 0, .int .i64 0, .agg #[.int .i64 0, .int .i64 0, .int .i64 0]]
theorem Cl (os:Os) (started:os.Started) (H:Type) (enc:TypeId×Value→H) :
  ReturnsInHanded {} Tryz.checked os 3 .any (fun w args=>(Rows.machineStartsSpec.pre enc Tryz.prog Tryz.f3 Rows.machineStartsRow.domain false w args∧laidMetH Tryz.prog zF w)∧sizedMet enc Tryz.prog Tryz.f3 (OpenSpec.ofChange Rows.machineStartsSpec) false w args)
   (Rows.machineStartsSpec.post enc Tryz.prog Tryz.f3 false true false false):=by
 refine GN (C:=Tryz.checked) (L:=fun w _=>laidMetH Tryz.prog zF w) (fun _ _ _ hh h=>h.of_heap hh) Tryz.own started (by kernel_rfl) Tryz.func3
  (ChangeSpec.witness_shaped (enc:=enc) (C:=Tryz.checked) (os:=os) (X:=fun w _=>laidMetH Tryz.prog zF w) false (World.laidAll Tryz.prog os zF) IR 8 (World.laidAll_os _ _ _)
   (World.shaped_of_ZipB (by kernel_rfl) (by kernel_rfl)) (by kernel_rfl) (by kernel_rfl) (by kernel_rfl)
   (by rw [MakeChecks.laidMetH_plain _ _ _ (by kernel_rfl)]; exact laidMet_laidAll _ (by kernel_rfl) (by kernel_rfl))) ?_
 intro W base args ds gs before hval0 hW hL hsh _
 rw [MakeChecks.laidMetH_plain _ _ _ (by kernel_rfl)] at hL
 have hval : ∀ (j:Nat) t v,Tryz.f3.params[j]? = some t→args[j]? = some v→Value.okWide Tryz.prog W .any base t v:=hval0
 have hW' := hW
 obtain ⟨p,q,hA0,hV,rfl,hfz,hnd⟩:=hW
 have hA:DataW.TrodAll enc Tryz.prog W 0 (fun _=>true) true Tryz.f3.params.toList args.toList ds p:=hA0
 obtain ⟨rfl,rfl⟩:=trodVars_none hV
 have hlt : ∀ x∈p,x.block<W.heap.size:=fun x hx=>hW'.lt x (List.mem_append_left _ hx)
 have hG:=acE hL
 obtain ⟨x,l,e1,e2,e3,e4⟩:=Ey (b0:=base) (r:=.any) (n:=9) (Θ:=Ch tb) Ws (ts:=Tryz.f3.params.toList) (tcs:=yi) 2 (by kernel_rfl) (fun j t v ht hv=>hval j t v (by simpa using ht) (by simpa using hv)) hA
 have hargs:args=(ka (yi.map PC.d) x l).toArray:=Array.ext' e2
 subst hargs
 refine (Id x l e1 e3 hG e4).mono fun e W' hP=>?_
 obtain ⟨rfl,hB⟩:=hP
 obtain ⟨d0,d1,d2,d3,d4,d5,rfl⟩ : ∃ d0 d1 d2 d3 d4 d5,ds=[d0,d1,d2,d3,d4,d5]:=by
  have hA2:=hA
  rw [show Tryz.f3.params.toList=[22,22,3,3,3,24] by kernel_rfl] at hA2
  obtain ⟨_,vs0,d0,ds0,_,_,_,rfl,_,_,hA2⟩:=trodAll_cons hA2
  obtain ⟨_,vs1,d1,ds1,_,_,_,rfl,_,_,hA2⟩:=trodAll_cons hA2
  obtain ⟨_,vs2,d2,ds2,_,_,_,rfl,_,_,hA2⟩:=trodAll_cons hA2
  obtain ⟨_,vs3,d3,ds3,_,_,_,rfl,_,_,hA2⟩:=trodAll_cons hA2
  obtain ⟨_,vs4,d4,ds4,_,_,_,rfl,_,_,hA2⟩:=trodAll_cons hA2
  obtain ⟨_,vs5,d5,ds5,_,_,_,rfl,_,_,hA2⟩:=trodAll_cons hA2
  cases vs5 <;> cases ds5 <;> simp only [DataW.TrodAll] at hA2
  exact ⟨d0,d1,d2,d3,d4,d5,rfl⟩
 refine ⟨_,rfl,_,_,_,[],p,[],hW',?_,?_,rfl,Qi (hB.frame _),fun h=>by cases h⟩
 ·exact trodAll_mk1 (shut_bool Tryz.underlying4 true)
 ·exact DataW.TrodAll.of_heap (w:={ W' with tape:=W.tape }) (w' := W') rfl (vb Tryz.laidOut hB (by kernel_rfl) hA hlt)
theorem MQ:Rows.MachineStartsSaid:=
 OpenClaim.holds_of_wide 3 Tryz.f3 rfl rfl rfl rfl rfl rfl rfl ⟨rfl,rfl,rfl,rfl,rfl⟩ rfl rfl rfl rfl rfl (by kernel_rfl) Tryz.func3 (by kernel_rfl)
  (of_decide_eq_true (by kernel_rfl)) (by unfold Func.isWrapper; first | (rw [if_pos (by decide +kernel)]; kernel_rfl) | (rw [if_neg (by decide +kernel)]; exact ⟨rfl,rfl⟩))
  (fun os started H enc _=>Cl os started H enc)
theorem starts_holds:Rows.MachineStartsCardSaid:=
 Claim7.holds_tied_plain_at .later [] _ _ _ _ MQ (fun _ h=>by cases h) (by kernel_rfl) (fun _ h=>by cases h) machineStarts_row_tie rfl ⟨rfl,rfl⟩ (by kernel_rfl) rfl
  (fun f fn hf hfn=>by
   obtain rfl:f=3:=Option.some.inj ((show Tryz.prog.funcNamed "culprit/culpritlaw09.MachineStarts" = some 3 by kernel_rfl).symm.trans hf) |>.symm
   obtain rfl:fn=Tryz.f3:=(Option.some.inj (Tryz.func3.symm.trans hfn)).symm
   exact ⟨by kernel_rfl,fun j t ht=>by
    have hm:t∈Tryz.f3.params.toList:=by simpa using Array.mem_of_getElem? ht
    have hall:(Tryz.f3.params.toList.all fun u=>!Tryz.prog.wantsStandIn u)=true:=by kernel_rfl
    exact (show Tryz.prog.wantsStandIn t=false by simpa using List.all_eq_true.1 hall t hm)⟩)
  (by kernel_rfl)
#print axioms starts_holds
end Go.Proofs.YtfhhiajfciblbaaGreatDoor
