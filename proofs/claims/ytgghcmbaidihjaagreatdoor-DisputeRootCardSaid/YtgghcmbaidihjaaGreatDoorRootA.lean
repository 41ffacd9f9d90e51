/- Laws for the row. No condition. -/
import Derived.Test.YtgghcmbaidihjaaGreatDoorRfX
import Derived.Test.YtgghcmbaidihjaaGreatDoorLawRD
import Derived.Test.YtgghcmbaidihjaaGreatDoorLawE3
import Derived.Test.YtgghcmbaidihjaaGreatDoorCtE
import Derived.Test.YtgghcmbaidihjaaGreatDoorCards
import Derived.Test.YtgghcmbaidihjaaGreatDoorTie
import Derived.OpenShut
import Derived.LaidMore
import Derived.Lay
import Derived.Stop.LaidErr
import Derived.Stop.Joined
import Derived.ChangeFn
namespace Go.Proofs.YtgghcmbaidihjaaGreatDoor
open Go.Sm Go.ChangeShapes Go.WideShapes Go.ChangeAt Go.RowKit
set_option maxRecDepth 100000
set_option linter.unusedSectionVars false
def amy:TInf:=⟨.arr 20 194,20,160,[.ar 20 (.int .u64) ([]:List Int)],(.arr 20 (.int .u64))⟩
theorem ahO:amy.ok Tryz.prog 487:=⟨by unfold TI;kernel_rfl,Tryz.underlying487,rfl,λ_=>rfl⟩
def tbG:List (TypeId×TInf):=[(3,ti3),(9,ti9),(191,aap),(194,aab),(400,ZA),(411,aad),(412,Wn),(487,amy)]
theorem FU:Tb.ok (IC tbG) Tryz.prog:=PN ⟨adE,adQ,Sx,Pv,RT,Ry,QW,ahO,trivial⟩
abbrev GZ:List (String×DataW Unit):=Rows.disputeRootRow.laid
theorem awf{W:World}(h:laidMet Tryz.prog GZ W):ao W (qS yX) fH:=by
 obtain⟨t0,p,d⟩:=yv (t:=400) (k:=6) FU h (j:=3) rfl (g:=0) (by kernel_rfl) (by kernel_rfl) (cs:=cellsOf (TC.sc (.int .u32)).ty tW (List.replicate tW.length (TC.sc (.int .u32)).ref0)) (by kernel_rfl);obtain⟨m,q,f⟩:=yv (t:=400) (k:=6) FU h (j:=0) rfl (g:=1) (by kernel_rfl) (by kernel_rfl) (cs:=cellsOf (TC.sc (.int .u32)).ty pN (List.replicate pN.length (TC.sc (.int .u32)).ref0)) (by kernel_rfl);obtain⟨n,r,i⟩:=yv (t:=412) (k:=6) FU h (j:=5) rfl (g:=2) (by kernel_rfl) (by kernel_rfl) (cs:=cellsOf na.ty uL (List.replicate uL.length na.ref0)) (by kernel_rfl);obtain⟨o,s,l⟩:=yv (t:=487) (k:=6) FU h (j:=4) rfl (g:=4) (by kernel_rfl) (by kernel_rfl) (cs:=cellsOf (TC.sc (.int .u64)).ty Lib.pow10Tab (List.replicate Lib.pow10Tab.length (TC.sc (.int .u64)).ref0)) (by kernel_rfl);have b:∀g,qS yX g<=1:=λg=>by simp[qS]
 intro A a;rcases aef.1 a with a|a;rotate_left
 ·cases a
 obtain⟨e,c,rfl⟩:=acG.1 a;simp only[GTab.gl,aen,ajK,aq0]at c;rcases c with rfl|rfl|rfl|rfl
 ·exact⟨⟨t0,p,d⟩,b _,by simp[tW,maxLen]⟩
 ·exact⟨⟨m,q,f⟩,b _,by simp[pN,maxLen]⟩
 ·exact⟨⟨n,r,i⟩,b _,by simp[uL,maxLen]⟩
 ·exact⟨⟨o,s,l⟩,b _,by simp[Lib.pow10Tab,maxLen]⟩
theorem Tryz.own:ownKnob Tryz.prog.godebug=none:=by kernel_rfl
theorem Tryz.laidOut:laidOutB Tryz.prog=true:=by kernel_rfl
theorem zB{n:Int}(h:VY (.int .i64) n):bk n:=by have a:(Lit.int IntKind.i64 n).wf=true:=h;simp only[Lit.wf,abF,agD]at a;exact⟨a.1,a.2⟩
theorem acP{w w':World}{t:Tape}{a:MemPlace->Prop}(h:w.keptBut { w' with tape:=t} a):w.keptBut w' a:=h
attribute [local instance] instItr
abbrev EA:List TC:=[.sc (.int .i64),.sc (.int .i64),.sc (.int .i64),.sc (.int .i64),.sc (.int .i64)]
theorem Zj{W:World}(x:j7 (EA.map PC.d))(l:List Hd)(hl:l.length=rU (EA.map PC.d))
  (g:ao W (qS yX) (pe (EA.map PC.d) x l 2)) (f:ao W (qS yX) fH) (w:WfP EA x) :
  Calls Tryz.prog 7 (mF (EA.map PC.d) x l).toArray W λe a=>e=.returned (.bool true)/\Below W.heap.size W { a with tape:=W.tape}:=
 ((atU x true (ado (zB w.1) (zB w.2.1) (zB w.2.2.1) (zB w.2.2.2.1) (zB w.2.2.2.2))).2 l hl W _ (g.append f)).mono λe a h=>by
  obtain⟨⟨y,d⟩,c⟩:=Tw h;exact⟨d,c⟩
abbrev acd:Array Value:=#[.int .i64 0,.int .i64 0,.int .i64 0,.int .i64 0,.int .i64 0]
theorem SY(os:Os)(b:os.Started)(H:Type)(enc:TypeId×Value->H) :
  ReturnsInHanded {} Tryz.checked os 7 .any (λw args=>(Rows.disputeRootSpec.pre enc Tryz.prog Tryz.f7 Rows.disputeRootRow.domain false w args/\laidMetH Tryz.prog GZ w)/\sizedMet enc Tryz.prog Tryz.f7 (OpenSpec.ofChange Rows.disputeRootSpec) false w args)
   (Rows.disputeRootSpec.post enc Tryz.prog Tryz.f7 false true false false):=by
 refine RL (C:=Tryz.checked) (L:=λw _=>laidMetH Tryz.prog GZ w) (λ_ _ _ Y h=>h.of_heap Y) Tryz.own b (by kernel_rfl) Tryz.func7
  (ChangeSpec.witness_shaped (enc:=enc) (C:=Tryz.checked) (os:=os) (X:=λw _=>laidMetH Tryz.prog GZ w) false (World.laidAll Tryz.prog os GZ) acd 8 (World.laidAll_os _ _ _)
   (World.shaped_of_ZipB (by kernel_rfl) (by kernel_rfl)) (by kernel_rfl) (by kernel_rfl) (by kernel_rfl)
   (by rw[MakeChecks.laidMetH_plain _ _ _ (by kernel_rfl)];exact laidMet_laidAll _ (by kernel_rfl) (by kernel_rfl))) ?_
 intro W base args ds gs i d G F vQ _;rw[MakeChecks.laidMetH_plain _ _ _ (by kernel_rfl)]at F;have g:∀(j:Nat) t v,Tryz.f7.params[j]?=some t->args[j]?=some v->Value.okWide Tryz.prog W .any base t v:=d;have f:=G;obtain⟨p,q,z,U,rfl,V,Z⟩:=G;have y:DataW.TrodAll enc Tryz.prog W 0 (λ_=>true) true Tryz.f7.params.toList args.toList ds p:=z;obtain⟨rfl,rfl⟩:=trodVars_none U;have A:∀x∈p,x.block<W.heap.size:=λx hx=>f.lt x (ad2 _ hx);have S:=awf F;obtain⟨x,l,O,P,Q,R⟩:=Ps (b0:=base) (r:=.any) (n:=9) (Θ:=IC tb) aoS (ts:=Tryz.f7.params.toList) (tcs:=EA) 2 (by kernel_rfl) (λj t v ht hv=>g j t v (by simpa using ht) (by simpa using hv)) y;have c:args=(mF (EA.map PC.d) x l).toArray:=akd P;subst c;refine(Zj x l O Q S R).mono λe D T=>?_;obtain⟨rfl,E⟩:=T;obtain⟨d0,k,m,o,s,rfl⟩:∃d0 k m o s,ds=[d0,k,m,o,s]:=by have a:=y;rw[show Tryz.f7.params.toList=[3,3,3,3,3]by kernel_rfl]at a;obtain⟨_,vs0,d0,J,_,_,_,rfl,_,_,a⟩:=trodAll_cons a;obtain⟨_,vs1,k,K,_,_,_,rfl,_,_,a⟩:=trodAll_cons a;obtain⟨_,vs2,m,M,_,_,_,rfl,_,_,a⟩:=trodAll_cons a;obtain⟨_,vs3,o,N,_,_,_,rfl,_,_,a⟩:=trodAll_cons a;obtain⟨_,B,s,u,_,_,_,rfl,_,_,a⟩:=trodAll_cons a;cases B<;>cases u<;>simp only[DataW.TrodAll]at a;exact⟨d0,k,m,o,s,rfl⟩
 refine⟨_,rfl,_,_,_,[],p,[],f,?_,?_,rfl,acP (E.frame _),λh=>by cases h⟩
 ·exact trodAll_mk1 (shut_bool Tryz.underlying4 true)
 ·exact DataW.TrodAll.of_heap (w:={ D with tape:=W.tape}) (w':=D) rfl (Bc Tryz.laidOut E (by kernel_rfl) y A)
end Go.Proofs.YtgghcmbaidihjaaGreatDoor
