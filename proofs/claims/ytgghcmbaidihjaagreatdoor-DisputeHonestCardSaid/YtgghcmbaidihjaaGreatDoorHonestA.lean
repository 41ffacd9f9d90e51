/- Laws for the row. No condition. -/
import Derived.Test.YtgghcmbaidihjaaGreatDoorRfX
import Derived.Test.YtgghcmbaidihjaaGreatDoorLawHC
import Derived.Test.YtgghcmbaidihjaaGreatDoorLawE4
import Derived.Test.YtgghcmbaidihjaaGreatDoorCtE
import Derived.Test.YtgghcmbaidihjaaGreatDoorCards
import Derived.Test.YtgghcmbaidihjaaGreatDoorTie
import Derived.OpenShut
import Derived.LaidMore
import Derived.Lay
import Derived.Stop.LaidErr
import Derived.Stop.Joined
import Derived.ChangeFn
namespace Go.Proofs.YtgghcmbaidihjaaGreatDoor
open Go.Sm Go.ChangeShapes Go.WideShapes Go.ChangeAt Go.RowKit
set_option maxRecDepth 100000
set_option linter.unusedSectionVars false
def agy:TInf:=⟨.arr 20 194,20,160,[.ar 20 (.int .u64) ([]:List Int)],(.arr 20 (.int .u64))⟩
theorem Z8:agy.ok Tryz.prog 487:=⟨by unfold TI;kernel_rfl,Tryz.underlying487,rfl,λ_=>rfl⟩
def tbG:List (TypeId×TInf):=[(3,ti3),(9,ti9),(191,TL),(194,Va),(400,UT),(411,U6),(412,TT),(487,agy)]
theorem NC:Tb.ok (GU tbG) Tryz.prog:=KV ⟨XX,Yl,LB,J4,KR,Lu,LD,Z8,trivial⟩
abbrev Dt:List (String×DataW Unit):=Rows.disputeHonestRow.laid
theorem apv{W:World}(h:laidMet Tryz.prog Dt W):aj W (ph wL) eV:=by
 obtain⟨t0,z0,h0⟩:=Bg (t:=400) (k:=5) NC h (j:=2) rfl (g:=0) (by kernel_rfl) (by kernel_rfl) (cs:=cellsOf (TC.sc (.int .u32)).ty rC (List.replicate rC.length (TC.sc (.int .u32)).ref0)) (by kernel_rfl);obtain⟨t1,z1,h1⟩:=Bg (t:=412) (k:=5) NC h (j:=4) rfl (g:=2) (by kernel_rfl) (by kernel_rfl) (cs:=cellsOf mc.ty su (List.replicate su.length mc.ref0)) (by kernel_rfl);obtain⟨t2,z2,h2⟩:=Bg (t:=487) (k:=5) NC h (j:=3) rfl (g:=4) (by kernel_rfl) (by kernel_rfl) (cs:=cellsOf (TC.sc (.int .u64)).ty Lib.pow10Tab (List.replicate Lib.pow10Tab.length (TC.sc (.int .u64)).ref0)) (by kernel_rfl);have c1:∀g,ph wL g<=1:=λg=>by simp[ph]
 intro A hA;rcases aad.1 hA with hA|hA;rotate_left
 ·cases hA
 obtain⟨e,he,rfl⟩:=ZA.1 hA;simp only[GTab.gl,aaa,ai3,amw]at he;rcases he with rfl|rfl|rfl
 ·exact⟨⟨t0,z0,h0⟩,c1 _,by simp[rC,maxLen]⟩
 ·exact⟨⟨t1,z1,h1⟩,c1 _,by simp[su,maxLen]⟩
 ·exact⟨⟨t2,z2,h2⟩,c1 _,by simp[Lib.pow10Tab,maxLen]⟩
theorem Tryz.own:ownKnob Tryz.prog.godebug=none:=by kernel_rfl
theorem Tryz.laidOut:laidOutB Tryz.prog=true:=by kernel_rfl
theorem xe{n:Int}(h:QB (.int .i64) n):br n:=by have h1:(Lit.int IntKind.i64 n).wf=true:=h;simp only[Lit.wf,Y5,acK]at h1;exact⟨h1.1,h1.2⟩
theorem X8{w w':World}{t:Tape}{may:MemPlace->Prop}(h:w.keptBut { w' with tape:=t} may):w.keptBut w' may:=h
attribute [local instance] instItr
abbrev Ck:List TC:=[.sc (.int .i64),.sc (.int .i64),.sc (.int .i64),.sc (.int .i64),.sc (.int .i64)]
theorem JX{W:World}(x:ja (Ck.map PC.d))(l:List Hd)(hl:l.length=qE (Ck.map PC.d))
  (hx:aj W (ph wL) (nA (Ck.map PC.d) x l 2)) (hg:aj W (ph wL) eV) (w:WfP Ck x) :
  Calls Tryz.prog 4 (kX (Ck.map PC.d) x l).toArray W λe W'=>e=.returned (.bool true)/\Below W.heap.size W { W' with tape:=W.tape}:=
 ((aoq x true (OS (xe w.1) (xe w.2.1) (xe w.2.2.1) (xe w.2.2.2.1) (xe w.2.2.2.2))).2 l hl W _ (hx.append hg)).mono λe W' h=>by
  obtain⟨⟨y,he⟩,hB⟩:=OU h;exact⟨he,hB⟩
abbrev O0:Array Value:=#[.int .i64 0,.int .i64 0,.int .i64 0,.int .i64 0,.int .i64 0]
theorem Hh(os:Os)(started:os.Started)(H:Type)(enc:TypeId×Value->H) :
  ReturnsInHanded {} Tryz.checked os 4 .any (λw args=>(Rows.disputeHonestSpec.pre enc Tryz.prog Tryz.f4 Rows.disputeHonestRow.domain false w args/\laidMetH Tryz.prog Dt w)/\sizedMet enc Tryz.prog Tryz.f4 (OpenSpec.ofChange Rows.disputeHonestSpec) false w args)
   (Rows.disputeHonestSpec.post enc Tryz.prog Tryz.f4 false true false false):=by
 refine K8 (C:=Tryz.checked) (L:=λw _=>laidMetH Tryz.prog Dt w) (λ_ _ _ hh h=>h.of_heap hh) Tryz.own started (by kernel_rfl) Tryz.func4
  (ChangeSpec.witness_shaped (enc:=enc) (C:=Tryz.checked) (os:=os) (X:=λw _=>laidMetH Tryz.prog Dt w) false (World.laidAll Tryz.prog os Dt) O0 8 (World.laidAll_os _ _ _)
   (World.shaped_of_ZipB (by kernel_rfl) (by kernel_rfl)) (by kernel_rfl) (by kernel_rfl) (by kernel_rfl)
   (by rw[MakeChecks.laidMetH_plain _ _ _ (by kernel_rfl)];exact laidMet_laidAll _ (by kernel_rfl) (by kernel_rfl))) ?_
 intro W base args ds gs before hval0 hW hL hsh _;rw[MakeChecks.laidMetH_plain _ _ _ (by kernel_rfl)]at hL;have hval:∀(j:Nat) t v,Tryz.f4.params[j]?=some t->args[j]?=some v->Value.okWide Tryz.prog W .any base t v:=hval0;have hW':=hW;obtain⟨p,q,hA0,hV,rfl,hfz,hnd⟩:=hW;have hA:DataW.TrodAll enc Tryz.prog W 0 (λ_=>true) true Tryz.f4.params.toList args.toList ds p:=hA0;obtain⟨rfl,rfl⟩:=trodVars_none hV;have hlt:∀x∈p,x.block<W.heap.size:=λx hx=>hW'.lt x (ZW _ hx);have hG:=apv hL;obtain⟨x,l,e1,e2,e3,e4⟩:=LT (b0:=base) (r:=.any) (n:=9) (Θ:=GU tb) aib (ts:=Tryz.f4.params.toList) (tcs:=Ck) 2 (by kernel_rfl) (λj t v ht hv=>hval j t v (by simpa using ht) (by simpa using hv)) hA;have hargs:args=(kX (Ck.map PC.d) x l).toArray:=aj9 e2;subst hargs;refine(JX x l e1 e3 hG e4).mono λe W' hP=>?_;obtain⟨rfl,hB⟩:=hP;obtain⟨d0,d1,d2,d3,d4,rfl⟩:∃d0 d1 d2 d3 d4,ds=[d0,d1,d2,d3,d4]:=by have hA2:=hA;rw[show Tryz.f4.params.toList=[3,3,3,3,3]by kernel_rfl]at hA2;obtain⟨_,vs0,d0,ds0,_,_,_,rfl,_,_,hA2⟩:=trodAll_cons hA2;obtain⟨_,vs1,d1,ds1,_,_,_,rfl,_,_,hA2⟩:=trodAll_cons hA2;obtain⟨_,vs2,d2,ds2,_,_,_,rfl,_,_,hA2⟩:=trodAll_cons hA2;obtain⟨_,vs3,d3,ds3,_,_,_,rfl,_,_,hA2⟩:=trodAll_cons hA2;obtain⟨_,vs4,d4,ds4,_,_,_,rfl,_,_,hA2⟩:=trodAll_cons hA2;cases vs4<;>cases ds4<;>simp only[DataW.TrodAll]at hA2;exact⟨d0,d1,d2,d3,d4,rfl⟩
 refine⟨_,rfl,_,_,_,[],p,[],hW',?_,?_,rfl,X8 (hB.frame _),λh=>by cases h⟩
 ·exact trodAll_mk1 (shut_bool Tryz.underlying4 true)
 ·exact DataW.TrodAll.of_heap (w:={ W' with tape:=W.tape}) (w':=W') rfl (za Tryz.laidOut hB (by kernel_rfl) hA hlt)
end Go.Proofs.YtgghcmbaidihjaaGreatDoor
