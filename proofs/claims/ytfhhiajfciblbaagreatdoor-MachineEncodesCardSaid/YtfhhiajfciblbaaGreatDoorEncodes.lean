/-
  MachineEncodes: the row and the tied card, proved. No condition.
-/
import Derived.Test.YtfhhiajfciblbaaGreatDoorJoinT2
import Derived.Test.YtfhhiajfciblbaaGreatDoorLawEC
import Derived.Test.YtfhhiajfciblbaaGreatDoorLawE1
import Derived.Test.YtfhhiajfciblbaaGreatDoorCtE
import Derived.Test.YtfhhiajfciblbaaGreatDoorCards
import Derived.Test.YtfhhiajfciblbaaGreatDoorTie
import Derived.OpenShut
import Derived.LaidMore
import Derived.Lay
import Derived.Stop.LaidErr
import Derived.Stop.Joined
import Derived.ChangeFn
namespace Go.Proofs.YtfhhiajfciblbaaGreatDoor
open Go.Sm Go.ChangeShapes Go.WideShapes Go.ChangeAt Go.RowKit
set_option maxRecDepth 100000
set_option linter.unusedSectionVars false
def tbG:List (TypeId×TInf):=[(3,ti3),(9,ti9),(217,Vd),(253,Wa),(254,T6),(297,W0)]
theorem ON:Tb.ok (G8 tbG) Tryz.prog:=Lc ⟨ZT,YG,OC,KV,MA,OA,trivial⟩
abbrev Fh:List (String×DataW Unit):=Rows.machineEncodesRow.laid
theorem aqB{W:World}(h:laidMet Tryz.prog Fh W):aq W (qG xp) oL:=by
 obtain⟨t0,z0,h0⟩:=Br (t:=254) (k:=5) ON h (j:=2) rfl (g:=0) (by kernel_rfl) (by kernel_rfl) (cs:=cellsOf nZ.ty ym (List.replicate ym.length nZ.ref0)) (by kernel_rfl);obtain⟨t1,z1,h1⟩:=Br (t:=297) (k:=5) ON h (j:=1) rfl (g:=1) (by kernel_rfl) (by kernel_rfl) (cs:=cellsOf (TC.sc (.int .u32)).ty sJ (List.replicate sJ.length (TC.sc (.int .u32)).ref0)) (by kernel_rfl);obtain⟨t2,z2,h2⟩:=Br (t:=297) (k:=5) ON h (j:=0) rfl (g:=2) (by kernel_rfl) (by kernel_rfl) (cs:=cellsOf (TC.sc (.int .u32)).ty oU (List.replicate oU.length (TC.sc (.int .u32)).ref0)) (by kernel_rfl);have c1:∀g,qG xp g<=1:=λg=>by simp[qG]
 intro A hA;obtain⟨e,he,rfl⟩:=aaG.1 hA;simp only[GTab.gl,aaK,afu,akQ]at he;rcases he with rfl|rfl|rfl
 ·exact⟨⟨t0,z0,h0⟩,c1 _,by simp[ym,maxLen]⟩
 ·exact⟨⟨t1,z1,h1⟩,c1 _,by simp[sJ,maxLen]⟩
 ·exact⟨⟨t2,z2,h2⟩,c1 _,by simp[oU,maxLen]⟩
theorem Tryz.own:ownKnob Tryz.prog.godebug=none:=by kernel_rfl
theorem Tryz.laidOut:laidOutB Tryz.prog=true:=by kernel_rfl
theorem yb{n:Int}(h:RW (.int .i64) n):aY n:=by have h1:(Lit.int IntKind.i64 n).wf=true:=h;simp only[Lit.wf,aas,aeM]at h1;exact⟨h1.1,h1.2⟩
theorem OM{l:List Int}(h:zR (.slice (.sc (.int .i64))) l):∀n∈l,aY n:=λn hn=>yb (h.2 n hn)
theorem Yq{w w':World}{t:Tape}{may:MemPlace->Prop}(h:w.keptBut { w' with tape:=t} may):w.keptBut w' may:=h
attribute [local instance] instItr
abbrev DT:List TC:=[.slice (.sc (.int .i64)),.sc (.int .i64),.slice (.sc (.int .i64)),.sc (.int .i64),.sc (.int .i64),.sc (.int .i64)]
theorem H2{W:World}(x:lx (DT.map PC.d))(l:List Hd)(hl:l.length=sC (DT.map PC.d))
  (hx:aq W (qG xp) (qt (DT.map PC.d) x l 2)) (hg:aq W (qG xp) oL) (w:WfP DT x) :
  Calls Tryz.prog 6 (nT (DT.map PC.d) x l).toArray W λe W'=>e=.returned (.bool true)/\Below W.heap.size W { W' with tape:=W.tape}:=
 ((an4 x true (OL x.1 x.2.1 x.2.2.1 x.2.2.2.1 x.2.2.2.2.1 x.2.2.2.2.2 (OM w.1) (yb w.2.1) (OM w.2.2.1) (yb w.2.2.2.1) (yb w.2.2.2.2.1) (yb w.2.2.2.2.2))).2 l hl W _ (hx.append hg)).mono λe W' h=>by
  obtain⟨⟨y,he⟩,hB⟩:=PO h;exact⟨he,hB⟩
abbrev O1:Array Value:=#[.slice none 0 0,.int .i64 0,.slice none 0 0,.int .i64 0,.int .i64 0,.int .i64 0]
theorem Gt(os:Os)(started:os.Started)(H:Type)(enc:TypeId×Value->H) :
  ReturnsInHanded {} Tryz.checked os 6 .any (λw args=>(Rows.machineEncodesSpec.pre enc Tryz.prog Tryz.f6 Rows.machineEncodesRow.domain false w args/\laidMetH Tryz.prog Fh w)/\sizedMet enc Tryz.prog Tryz.f6 (OpenSpec.ofChange Rows.machineEncodesSpec) false w args)
   (Rows.machineEncodesSpec.post enc Tryz.prog Tryz.f6 false true false false):=by
 refine NL (C:=Tryz.checked) (L:=λw _=>laidMetH Tryz.prog Fh w) (λ_ _ _ hh h=>h.of_heap hh) Tryz.own started (by kernel_rfl) Tryz.func6
  (ChangeSpec.witness_shaped (enc:=enc) (C:=Tryz.checked) (os:=os) (X:=λw _=>laidMetH Tryz.prog Fh w) false (World.laidAll Tryz.prog os Fh) O1 8 (World.laidAll_os _ _ _)
   (World.shaped_of_ZipB (by kernel_rfl) (by kernel_rfl)) (by kernel_rfl) (by kernel_rfl) (by kernel_rfl)
   (by rw[MakeChecks.laidMetH_plain _ _ _ (by kernel_rfl)];exact laidMet_laidAll _ (by kernel_rfl) (by kernel_rfl))) ?_
 intro W base args ds gs before hval0 hW hL hsh _;rw[MakeChecks.laidMetH_plain _ _ _ (by kernel_rfl)]at hL;have hval:∀(j:Nat) t v,Tryz.f6.params[j]?=some t->args[j]?=some v->Value.okWide Tryz.prog W .any base t v:=hval0;have hW':=hW;obtain⟨p,q,hA0,hV,rfl,hfz,hnd⟩:=hW;have hA:DataW.TrodAll enc Tryz.prog W 0 (λ_=>true) true Tryz.f6.params.toList args.toList ds p:=hA0;obtain⟨rfl,rfl⟩:=trodVars_none hV;have hlt:∀x∈p,x.block<W.heap.size:=λx hx=>hW'.lt x (abm _ hx);have hG:=aqB hL;obtain⟨x,l,e1,e2,e3,e4⟩:=Pd (b0:=base) (r:=.any) (n:=9) (Θ:=G8 tb) aju (ts:=Tryz.f6.params.toList) (tcs:=DT) 2 (by kernel_rfl) (λj t v ht hv=>hval j t v (by simpa using ht) (by simpa using hv)) hA;have hargs:args=(nT (DT.map PC.d) x l).toArray:=alh e2;subst hargs;refine(H2 x l e1 e3 hG e4).mono λe W' hP=>?_;obtain⟨rfl,hB⟩:=hP;obtain⟨d0,d1,d2,d3,d4,d5,rfl⟩:∃d0 d1 d2 d3 d4 d5,ds=[d0,d1,d2,d3,d4,d5]:=by have hA2:=hA;rw[show Tryz.f6.params.toList=[22,3,22,3,3,3]by kernel_rfl]at hA2;obtain⟨_,vs0,d0,ds0,_,_,_,rfl,_,_,hA2⟩:=trodAll_cons hA2;obtain⟨_,vs1,d1,ds1,_,_,_,rfl,_,_,hA2⟩:=trodAll_cons hA2;obtain⟨_,vs2,d2,ds2,_,_,_,rfl,_,_,hA2⟩:=trodAll_cons hA2;obtain⟨_,vs3,d3,ds3,_,_,_,rfl,_,_,hA2⟩:=trodAll_cons hA2;obtain⟨_,vs4,d4,ds4,_,_,_,rfl,_,_,hA2⟩:=trodAll_cons hA2;obtain⟨_,vs5,d5,ds5,_,_,_,rfl,_,_,hA2⟩:=trodAll_cons hA2;cases vs5<;>cases ds5<;>simp only[DataW.TrodAll]at hA2;exact⟨d0,d1,d2,d3,d4,d5,rfl⟩
 refine⟨_,rfl,_,_,_,[],p,[],hW',?_,?_,rfl,Yq (hB.frame _),λh=>by cases h⟩
 ·exact trodAll_mk1 (shut_bool Tryz.underlying4 true)
 ·exact DataW.TrodAll.of_heap (w:={ W' with tape:=W.tape}) (w':=W') rfl (zM Tryz.laidOut hB (by kernel_rfl) hA hlt)
theorem PD:Rows.MachineEncodesSaid:=
 OpenClaim.holds_of_wide 6 Tryz.f6 rfl rfl rfl rfl rfl rfl rfl ⟨rfl,rfl,rfl,rfl,rfl⟩ rfl rfl rfl rfl rfl (by kernel_rfl) Tryz.func6 (by kernel_rfl)
  (abh (by kernel_rfl)) (by unfold Func.isWrapper;first|(rw[if_pos (by decide +kernel)];kernel_rfl)|(rw[if_neg (by decide +kernel)];exact⟨rfl,rfl⟩))
  (λos started H enc _=>Gt os started H enc)
theorem encodes_holds:Rows.MachineEncodesCardSaid:=
 Claim7.holds_tied_plain_at .later [] _ _ _ _ PD (λ_ h=>by cases h) (by kernel_rfl) (λ_ h=>by cases h) machineEncodes_row_tie rfl ⟨rfl,rfl⟩ (by kernel_rfl) rfl
  (λf fn hf hfn=>by
   obtain rfl:f=6:=aig ((show Tryz.prog.funcNamed "culprit/culpritlaw09.MachineEncodes" = some 6 by kernel_rfl).symm.trans hf) |>.symm;obtain rfl:fn=Tryz.f6:=(aig (Tryz.func6.symm.trans hfn)).symm;exact⟨by kernel_rfl,λj t ht=>by
    have hm:t∈Tryz.f6.params.toList:=by simpa using Array.mem_of_getElem? ht
    have hall:(Tryz.f6.params.toList.all λu=>!Tryz.prog.wantsStandIn u)=true:=by kernel_rfl
    exact(show Tryz.prog.wantsStandIn t=false by simpa using aaB.1 hall t hm)⟩)
  (by kernel_rfl)
#print axioms encodes_holds
end Go.Proofs.YtfhhiajfciblbaaGreatDoor
