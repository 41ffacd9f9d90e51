/-
  ReportPages: the row and the tied card, proved. No condition.
-/
import Derived.Test.YtknnphhepnbaoaaGreatDoorJoinT2
import Derived.Test.YtknnphhepnbaoaaGreatDoorLawPages
import Derived.Test.YtknnphhepnbaoaaGreatDoorCtA
import Derived.Test.YtknnphhepnbaoaaGreatDoorCtB
import Derived.Test.YtknnphhepnbaoaaGreatDoorCards
import Derived.Test.YtknnphhepnbaoaaGreatDoorTie
import Derived.OpenShut
import Derived.LaidMore
import Derived.Lay
import Derived.Stop.LaidErr
import Derived.Stop.Joined
import Derived.Shelf.Vars
namespace Go.Proofs.YtknnphhepnbaoaaGreatDoor
open Go.Sm Go.ChangeShapes Go.WideShapes Go.ChangeAt Go.RowKit
set_option maxRecDepth 100000
set_option linter.unusedSectionVars false
section
variable [Vars]
def ti216:TInf:=⟨.arr 20 188,20,160,[.ar 20 (.int .u64) ([]:List Int)],(.arr 20 (.int .u64))⟩
theorem ti216_ok:ti216.ok Tryz.prog 216:=⟨by unfold TI; kernel_rfl,Tryz.underlying216,rfl,fun _=>rfl⟩
def tbG:List (TypeId×TInf):=[(4,ti4),(9,ti9),(84,ti84),(85,ti85),(188,ti188),(216,ti216)]
theorem tbG_ok:Tb.ok (tbl tbG) Tryz.prog:=tbl_ok ⟨ti4_ok,ti9_ok,ti84_ok,ti85_ok,ti188_ok,ti216_ok,trivial⟩
end
theorem star : "*" ++ "errors.errorString" = "*errors.errorString" := by decide
theorem row246 (u:TypeId) (h:Tryz.prog.typeName? 3 u=some "*errors.errorString"):u=246:=
 typeName_ptr_named (nm := "errors.errorString") (by rw [star]; kernel_rfl) (by kernel_rfl) (by decide) u (by rw [star]; exact h)
abbrev laidL:List (String×DataW Unit):=Rows.reportPagesRow.laid
theorem glh_of {W:World} (h:laidMet Tryz.prog laidL W) (hs:W.ShapedOpen Tryz.prog) : ∃ V:Vars,Heap W (oldc allS) (@GLH _ (@instGTab V)):=by
 letI V0:Vars:=⟨0,(0, .bool true),(0, .bool true)⟩
 obtain ⟨t0,z0,h0⟩:=laid_back (t:=85) (k:=5) tbG_ok h (j:=6) rfl (g:=0) (by kernel_rfl) (by kernel_rfl) (cs:=cellsOf T_s84.ty kindsTab (List.replicate kindsTab.length T_s84.ref0)) (by kernel_rfl)
 obtain ⟨t1,z1,h1⟩:=laid_back (t:=216) (k:=5) tbG_ok h (j:=2) rfl (g:=1) (by kernel_rfl) (by kernel_rfl) (cs:=cellsOf (TC.sc (.int .u64)).ty Lib.pow10Tab (List.replicate Lib.pow10Tab.length (TC.sc (.int .u64)).ref0)) (by kernel_rfl)
 obtain ⟨a2,s2,v2,_,_,_⟩:=laid_sentinel (n := "strconv.ErrRange") (g:=7) (ti:=120) (tp:=246) (te:=248) (ts:=9) h.tail.tail.tail.tail (by kernel_rfl) (by kernel_rfl) Tryz.underlying120 row246 Tryz.underlying246 Tryz.underlying248 rfl rfl Tryz.underlying9 (by kernel_rfl) (by kernel_rfl)
 obtain ⟨a1,s1,v1,_,_,_⟩:=laid_sentinel (n := "strconv.ErrSyntax") (g:=6) (ti:=120) (tp:=246) (te:=248) (ts:=9) h.tail.tail.tail.tail.tail (by kernel_rfl) (by kernel_rfl) Tryz.underlying120 row246 Tryz.underlying246 Tryz.underlying248 rfl rfl Tryz.underlying9 (by kernel_rfl) (by kernel_rfl)
 obtain ⟨cs,h2,hz,_⟩:=hs.1 2 #[.int .i64 0] 3 (of_decide_eq_true (by kernel_rfl)) (by kernel_rfl)
 obtain ⟨m,hm⟩:=cell_of_shapedOpen_int (g:=2) (t:=3) (zero:=#[.int .i64 0]) (k:=.i64) hs (of_decide_eq_true (by kernel_rfl)) (by kernel_rfl) rfl (by kernel_rfl) (by kernel_rfl) Tryz.underlying3
 have e2:cs = #[.int .i64 m]:=by
  unfold World.cell? at hm
  rw [h2] at hm
  simp only at hm
  apply Array.ext'
  match hl:cs.toList,hz,hm with
  | [],hz,_=>have:=congrArg List.length hl; simp at this; simp [this] at hz
  | [x],_,hm=>
   have:cs[0]? = some x:=by rw [← Array.getElem?_toList,hl]; rfl
   rw [if_neg (by simp),this] at hm
   cases hm; rfl
  | x::y::r,hz,_=>have:=congrArg List.length hl; simp at this; simp [this] at hz
 subst e2
 obtain ⟨t6,z6,h6⟩:=var_block (g:=6) (by kernel_rfl) v1
 obtain ⟨t7,z7,h7⟩:=var_block (g:=7) (by kernel_rfl) v2
 refine ⟨⟨m,(246, .pointer (some a1)),(246, .pointer (some a2))⟩,?_⟩
 have c1 : ∀ g,oldc allS g≤1:=fun g=>by simp [oldc]
 intro A hA
 obtain ⟨e,he,rfl⟩:=List.mem_map.1 hA
 simp only [GTab.gl,List.mem_cons,List.not_mem_nil,or_false] at he
 rcases he with rfl | rfl | rfl | rfl | rfl
 ·exact ⟨⟨t0,z0,h0⟩,c1 _,by simp [kindsTab,maxLen]⟩
 ·exact ⟨⟨t1,z1,h1⟩,c1 _,by simp [Lib.pow10Tab,maxLen]⟩
 ·exact ⟨⟨_,_,h2⟩,c1 _,by simp [maxLen]⟩
 ·exact ⟨⟨t6,z6,h6⟩,c1 _,by simp [maxLen]⟩
 ·exact ⟨⟨t7,z7,h7⟩,c1 _,by simp [maxLen]⟩
theorem Tryz.own:ownKnob Tryz.prog.godebug=none:=by kernel_rfl
theorem Tryz.laidOut:laidOutB Tryz.prog=true:=by kernel_rfl
attribute [local instance] instItr
theorem int_i64 {n:Int} (h:WfS (.int .i64) n):i64 n:=by
 have h1:(Lit.int IntKind.i64 n).wf=true:=h
 simp only [Lit.wf,Bool.and_eq_true,decide_eq_true_eq] at h1
 exact ⟨h1.1,h1.2⟩
theorem ints_i64 {l:List Int} (h:WfD (.slice (.sc (.int .i64))) l) : ∀ n∈l,i64 n:=fun n hn=>int_i64 (h.2 n hn)
theorem pages_calls [Vars] {W:World} (x:DenP ([.slice (.sc (.int .i64)), .sc (.int .i64), .sc (.int .i64), .sc (.int .i64), .sc (.int .i64), .sc .str].map PC.d)) (l:List Hd) (hl:l.length=nhP ([.slice (.sc (.int .i64)), .sc (.int .i64), .sc (.int .i64), .sc (.int .i64), .sc (.int .i64), .sc .str].map PC.d))
  (hx:Heap W (oldc allS) (factsP ([.slice (.sc (.int .i64)), .sc (.int .i64), .sc (.int .i64), .sc (.int .i64), .sc (.int .i64), .sc .str].map PC.d) x l 2)) (hg:Heap W (oldc allS) GLH) (w:WfP [.slice (.sc (.int .i64)), .sc (.int .i64), .sc (.int .i64), .sc (.int .i64), .sc (.int .i64), .sc .str] x) :
  Calls Tryz.prog 8 (valsP ([.slice (.sc (.int .i64)), .sc (.int .i64), .sc (.int .i64), .sc (.int .i64), .sc (.int .i64), .sc .str].map PC.d) x l).toArray W fun e W' => e = .returned (.bool true)∧Below W.heap.size W W' :=
 ((ct8_ok x true (pages_true (ints_i64 w.1) (int_i64 w.2.1) (int_i64 w.2.2.1) (int_i64 w.2.2.2.1) (int_i64 w.2.2.2.2.1))).2 l hl W _ (hx.append hg)).mono fun e W' h=>by
  obtain ⟨⟨y,he⟩,hB⟩:=postC_below h
  exact ⟨he,hB⟩
theorem pages_lifted (os:Os) (started:os.Started) (H:Type) (enc:TypeId×Value→H) :
  ReturnsInHanded {} Tryz.checked os 8 .any (fun w args=>(Rows.reportPagesSpec.pre enc Tryz.prog Tryz.f8 Rows.reportPagesRow.domain false w args∧laidMetH Tryz.prog laidL w)∧sizedMet enc Tryz.prog Tryz.f8 (OpenSpec.ofChange Rows.reportPagesSpec) false w args)
   (Rows.reportPagesSpec.post enc Tryz.prog Tryz.f8 false true false false):=by
 refine returns_laid (C:=Tryz.checked) (L:=fun w _=>laidMetH Tryz.prog laidL w) (fun _ _ _ hh h=>h.of_heap hh) Tryz.own started (by kernel_rfl) Tryz.func8
  (ChangeSpec.witness_shaped (enc:=enc) (C:=Tryz.checked) (os:=os) (X:=fun w _=>laidMetH Tryz.prog laidL w) false (World.laidAll Tryz.prog os laidL) #[.slice none 0 0, .int .i64 0, .int .i64 0, .int .i64 0, .int .i64 0, .string ⟨#[]⟩] 8 (World.laidAll_os _ _ _)
   (World.shaped_of_ZipB (by kernel_rfl) (by kernel_rfl)) (by kernel_rfl) (by kernel_rfl) (by kernel_rfl)
   (by rw [MakeChecks.laidMetH_plain _ _ _ (by kernel_rfl)]; exact laidMet_laidAll _ (by kernel_rfl) (by kernel_rfl))) ?_
 intro W base args ds gs before hval0 hW hL hsh _
 rw [MakeChecks.laidMetH_plain _ _ _ (by kernel_rfl)] at hL
 have hval : ∀ (j:Nat) t v,Tryz.f8.params[j]? = some t→args[j]? = some v→Value.okWide Tryz.prog W .any base t v:=hval0
 have hW' := hW
 obtain ⟨p,q,hA0,hV,rfl,hfz,hnd⟩:=hW
 have hA:DataW.TrodAll enc Tryz.prog W 0 (fun _=>true) true Tryz.f8.params.toList args.toList ds p:=hA0
 obtain ⟨rfl,rfl⟩:=trodVars_none hV
 have hlt : ∀ x∈p,x.block<W.heap.size:=fun x hx=>hW'.lt x (List.mem_append_left _ hx)
 obtain ⟨V,hG⟩:=glh_of hL hsh
 obtain ⟨x,l,e1,e2,e3,e4⟩:=came_all (b0:=base) (r:=.any) (n:=9) (Θ:=tbl tb) (@tb_ok V) (ts:=Tryz.f8.params.toList) (tcs:=[.slice (.sc (.int .i64)), .sc (.int .i64), .sc (.int .i64), .sc (.int .i64), .sc (.int .i64), .sc .str]) 2 (by kernel_rfl) (fun j t v ht hv=>hval j t v (by simpa using ht) (by simpa using hv)) hA
 have hargs:args=(valsP ([.slice (.sc (.int .i64)), .sc (.int .i64), .sc (.int .i64), .sc (.int .i64), .sc (.int .i64), .sc .str].map PC.d) x l).toArray:=Array.ext' e2
 subst hargs
 refine (@pages_calls V W x l e1 e3 hG e4).mono fun e W' hP=>?_
 obtain ⟨rfl,hB⟩:=hP
 obtain ⟨d0,d1,d2,d3,d4,d5,rfl⟩ : ∃ d0 d1 d2 d3 d4 d5,ds=[d0,d1,d2,d3,d4,d5]:=by
  have hA2:=hA
  rw [show Tryz.f8.params.toList=[38,3,3,3,3,9] by kernel_rfl] at hA2
  obtain ⟨_,vs0,d0,ds0,_,_,_,rfl,_,_,hA2⟩:=trodAll_cons hA2
  obtain ⟨_,vs1,d1,ds1,_,_,_,rfl,_,_,hA2⟩:=trodAll_cons hA2
  obtain ⟨_,vs2,d2,ds2,_,_,_,rfl,_,_,hA2⟩:=trodAll_cons hA2
  obtain ⟨_,vs3,d3,ds3,_,_,_,rfl,_,_,hA2⟩:=trodAll_cons hA2
  obtain ⟨_,vs4,d4,ds4,_,_,_,rfl,_,_,hA2⟩:=trodAll_cons hA2
  obtain ⟨_,vs5,d5,ds5,_,_,_,rfl,_,_,hA2⟩:=trodAll_cons hA2
  cases vs5 <;> cases ds5 <;> simp only [DataW.TrodAll] at hA2
  exact ⟨d0,d1,d2,d3,d4,d5,rfl⟩
 refine ⟨_,rfl,_,_,_,[],p,[],hW',?_,?_,rfl,hB.frame _,fun h=>by cases h⟩
 ·exact trodAll_mk1 (shut_bool Tryz.underlying4 true)
 ·exact trodAll_below Tryz.laidOut hB (by kernel_rfl) hA hlt
theorem pages_row:Rows.ReportPagesSaid:=
 OpenClaim.holds_of_wide 8 Tryz.f8 rfl rfl rfl rfl rfl rfl rfl ⟨rfl,rfl,rfl,rfl,rfl⟩ rfl rfl rfl rfl rfl (by kernel_rfl) Tryz.func8 (by kernel_rfl)
  (of_decide_eq_true (by kernel_rfl)) (by unfold Func.isWrapper; first | (rw [if_pos (by decide +kernel)]; kernel_rfl) | (rw [if_neg (by decide +kernel)]; exact ⟨rfl,rfl⟩))
  (fun os started H enc _=>pages_lifted os started H enc)
theorem pages_holds:Rows.ReportPagesCardSaid:=
 Claim7.holds_tied_plain_at .later [] [.data, .data, .data, .data, .sentinel, .sentinel, .data, .pinned] true (true, "0ba9f8dbb36c297bb965faa3b2c77cac639321f30f76f48811ad2efbdebaedfa") true pages_row (fun _ h=>by cases h) (by kernel_rfl) (fun _ h=>by cases h) reportPages_row_tie rfl ⟨rfl,rfl⟩ (by kernel_rfl) rfl
  (fun f fn hf hfn=>by
   obtain rfl:f=8:=Option.some.inj ((show Tryz.prog.funcNamed "culprit/culpritlaw37.ReportPages" = some 8 by kernel_rfl).symm.trans hf) |>.symm
   obtain rfl:fn=Tryz.f8:=(Option.some.inj (Tryz.func8.symm.trans hfn)).symm
   exact ⟨by kernel_rfl,fun j t ht=>by
    have hm:t∈Tryz.f8.params.toList:=by simpa using Array.mem_of_getElem? ht
    have hall:(Tryz.f8.params.toList.all fun u=>!Tryz.prog.wantsStandIn u)=true:=by kernel_rfl
    exact (show Tryz.prog.wantsStandIn t=false by simpa using List.all_eq_true.1 hall t hm)⟩)
  (by kernel_rfl)
#print axioms pages_holds
end Go.Proofs.YtknnphhepnbaoaaGreatDoor
