/-
  The symbolic evaluator: calls by contract; all operations. Nothing of a program is named here; no condition.
-/
import Derived.Test.YtknnphhepnbaoaaGreatDoorRfG
namespace Go.Sm
set_option linter.unusedSectionVars false
section
variable [X:XTab] [G:GTab]
abbrev DenL:List TC→Type
 | []=>Unit
 | [t]=>t.den
 | t::r=>t.den×DenL r
def nhL:List TC→Nat
 | []=>0
 | t::r=>t.nh+nhL r
def valOf (t:TC) (x:t.den) (y:t.ty.Refs):Value:=match t,x,y with
 | .sc s,x,_=>s.val x
 | .arr n s,x,_=>.agg ((TC.arr n s).ty.fill x ()).toArray
 | .unit,_,_=>.agg #[]
 | .pair a b,x,y=>.agg ((TC.pair a b).ty.fill x y).toArray
 | .st a,x,y=>.agg (a.ty.fill x y).toArray
 | .slice _,_,h=>Hd.val h
 | .ext k,x,_=>X.val k x
def valsOf:(ts:List TC)→DenL ts→List Hd→List Value
 | [],_,_=>[]
 | [t],x,l=>[valOf t x (refsOf t l)]
 | t::t' :: r,x,l=>valOf t x.1 (refsOf t l)::valsOf (t' :: r) x.2 (l.drop t.nh)
structure RM where
 own:Option TypeId
 one:Bool
 new:Bool
def RM.K (m:RM) (c:Nat):List Nat:=(bif m.one then [1] else [])++(bif m.new then [c] else [])
def resT:(t:TC)→t.den→List RM→Nat→List AF
 | .pair a b,x,ms,j=>resT a x.1 ms j++resT b x.2 (ms.drop a.nh) (j+a.nh)
 | .slice t,xs,m::_,j=>match m.own with
  | some e=>bif Nat.ble 4194304 e then [] else [.own t e (2+2 * j) (m.K 129) xs j]
  | none=>[.rep t (m.K 129) xs j]
 | .st a,x,ms,j=>resT a x ms j
 | _,_,_,_=>[]
def resL:(ts:List TC)→DenL ts→List RM→Nat→List AF
 | [],_,_,_=>[]
 | [t],x,ms,j=>resT t x ms j
 | t::t' :: r,x,ms,j=>resT t x.1 ms j++resL (t' :: r) x.2 (ms.drop t.nh) (j+t.nh)
inductive PC
 | d (t:TC)
 | own (t:TC) (e:TypeId)
 | box (m:Bool) (t:TC) (os:List (Option TypeId))
 | fn (f:FuncId)
 | clo (f:FuncId) (t:TC)
 | prt (t:TC) (e:TypeId)
abbrev PC.den:PC→Type
 | .d t=>t.den
 | .own t _=>List t.den
 | .box _ t _=>t.den
 | .fn _=>Unit
 | .clo _ t=>t.den
 | .prt t _=>List t.den×Int×Int
abbrev DenP:List PC→Type
 | []=>Unit
 | [p]=>p.den
 | p::q::r=>p.den×DenP (q::r)
def PC.nh:PC→Nat
 | .d t=>t.nh
 | .own _ _=>1
 | .box _ t _=>1+t.nh
 | .fn _=>0
 | .clo _ t=>1+t.nh
 | .prt _ _=>2
def nhP:List PC→Nat
 | []=>0
 | p::r=>p.nh+nhP r
def PC.nc:PC→Nat
 | .own _ _=>1
 | .box _ t _=>1+t.nh
 | .prt _ _=>1
 | _=>0
def Hd.blk (h:Hd):Nat:=match h.a with
 | some ⟨b,_,_⟩=>b
 | none=>0
def PC.val:(p:PC)→p.den→List Hd→Value
 | .d t,x,l=>valOf t x (refsOf t l)
 | .own _ _,_,l=>(l.headD nilHd).val
 | .box _ _ _,_,l=>.pointer (some ⟨(l.headD nilHd).blk,0,none⟩)
 | .fn f,_,_=>.func (.func f) #[] #[]
 | .clo f _,_,l=>.func (.func f) #[] #[.pointer (some ⟨(l.headD nilHd).blk,0,none⟩)]
 | .prt _ _,_,l=>(l.tail.headD nilHd).val
def valsP:(ps:List PC)→DenP ps→List Hd→List Value
 | [],_,_=>[]
 | [p],x,l=>[p.val x l]
 | p::p' :: r,x,l=>p.val x.1 l::valsP (p' :: r) x.2 (l.drop p.nh)
def factsM:(t:TC)→t.den→t.ty.Refs→List (Option TypeId)→Nat→List HA
 | .pair a b,x,y,os,q=>factsM a x.1 y.1 os q++factsM b x.2 y.2 (os.drop a.nh) (q+a.nh)
 | .slice t,xs,h,os,q=>match os with
  | some e::_=>[.own t.ty e q [1] xs h]
  | _=>[.rep t.ty [1] xs h]
 | .st a,x,y,os,q=>factsM a x y os q
 | .sc _,_,_,_,_=>[]
 | .arr _ _,_,_,_,_=>[]
 | .unit,_,_,_,_=>[]
 | .ext _,_,_,_,_=>[]
def PC.facts:(p:PC)→p.den→List Hd→Nat→List HA
 | .d t,x,l,_=>Go.Sm.facts t.ty [1] x (refsOf t l)
 | .own t e,xs,l,q=>[.own t.ty e q [1] xs (l.headD nilHd)]
 | .box m t os,x,l,q=>.box (bif m then q else 1) (l.headD nilHd).blk (t.ty.fill x (refsOf t (l.drop 1)))::factsM t x (refsOf t (l.drop 1)) (bif m then os else []) (q+1)
 | .fn _,_,_,_=>[]
 | .clo _ t,x,l,q=>.box 1 (l.headD nilHd).blk (t.ty.fill x (refsOf t (l.drop 1)))::factsM t x (refsOf t (l.drop 1)) [] (q+1)
 | .prt t e,x,l,q=>[.own t.ty e q [1] x.1 (l.headD nilHd), .pure (PrtOf (l.tail.headD nilHd) (l.headD nilHd) t.ty.sz x.2.1 x.2.2)]
def factsP:(ps:List PC)→DenP ps→List Hd→Nat→List HA
 | [],_,_,_=>[]
 | [p],x,l,q=>p.facts x l q
 | p::p' :: r,x,l,q=>p.facts x.1 l q++factsP (p' :: r) x.2 (l.drop p.nh) (q+p.nc)
def retV (nr:Nat) (ts:List TC) (x:DenL ts) (l:List Hd):Value:=match (valsOf ts x l).take nr with
 | [v]=>v
 | vs=>.tuple vs.toArray
def nx {α:Type} (s:Nat) (a b:α):α:=match s with
 | 0=>a
 | _=>b
def rowH:(t:TC)→t.den→Hd→TypeId→Nat→List HA
 | .slice t,xs,h,e,c=>bif t.ty.pureB then [.own t.ty e c [] xs h] else []
 | _,_,_,_,_=>[]
inductive ObH
 | b (n:Nat)
 | r (h:Hd) (e:TypeId)
def outH (t:TC) (x:t.den) (l:List Hd) (s:Nat) (bs:List ObH) (c:Nat):List HA:=match s,bs with
 | 0, .b b::_=>[.box c b (t.ty.fill x (refsOf t l))]
 | 0, .r h e::_=>rowH t x h e c
 | _,_=>[]
def outF:(ts:List TC)→DenL ts→List Hd→Nat→List ObH→Nat→List HA
 | [],_,_,_,_,_=>[]
 | [t],x,l,s,bs,c=>outH t x l s bs c
 | t::t' :: r,x,l,s,bs,c=>outH t x.1 l s bs c++outF (t' :: r) x.2 (l.drop t.nh) (s - 1) (nx s bs.tail bs) (nx s (c+1) c)
structure Sig where
 ps:List PC
 rs:List TC
 nr:Nat
 bl:List Nat
 ms:List RM
def ηL (l:List Hd):Vn:=⟨fun m=>l.getD m nilHd,fun m=>(l.getD m nilHd).blk⟩
def PostC (w0:World) (c0:Col) {Y:Type} (val:Y→Value) (facts:Y→List HA) (e:Ending) (w' : World):Prop:=
 ∃ y c',e = .returned (val y)∧Same3 w0 w' ∧ w0.heap.size≤w'.heap.size∧(∀ b,b<w0.heap.size→c0 b≤1→w'.heap[b]? = w0.heap[b]? ∧ c' b=c0 b) ∧
  (∀ b,b<w'.heap.size→(b<w0.heap.size→2≤c0 b)→2≤c' b)∧Heap w' c' (facts y)
def obH (l:List Hd) (k:Nat):ObH:=bif Nat.blt k 64 then .b (l.getD k nilHd).blk else .r (l.getD (k % 64) nilHd) (k / 64 - 1)
def blks (l:List Hd) (bl:List Nat):List ObH:=bl.map (obH l)
def AtC (P:Program) (f:FuncId) (C:Sig) (x:DenP C.ps) (r:DenL C.rs):Prop:=
 (∃ fn cd,P.funcs[f]? = some fn∧fn.body=some cd∧(fn.name == "runtime.NumGoroutine")=false) ∧
 ∀ (l:List Hd),l.length=nhP C.ps→∀ (w:World) (c0:Col),Heap w c0 (factsP C.ps x l 2++GLH) →
  Calls P f (valsP C.ps x l).toArray w (PostC w c0 (fun y : { y:List Hd // y.length=nhL C.rs }=>retV C.nr C.rs r y.1)
   (fun y=>(resL C.rs r C.ms 0).map (AF.ha (ηL y.1))++outF C.rs r y.1 C.nr (blks l C.bl) 130))
structure Ctr extends Sig where
 fn:DenP ps→Option (DenL rs)
structure DCtr extends Sig where
 fn:Nat→DenP ps→Option (DenL rs)
def Ctr.sound (P:Program) (f:FuncId) (C:Ctr):Prop:=∀ x r,C.fn x=some r→AtC P f C.toSig x r
def DCtr.sound (P:Program) (C:DCtr):Prop:=∀ f x r,C.fn f x=some r→AtC P f C.toSig x r
abbrev Ct:=FuncId→List Ctr
def Ct.ok (Γ:Ct) (P:Program):Prop:=∀ f,∀ C∈Γ f,C.sound P f
def mu (μ:List (Nat×Nat)) (Ka:List Nat) (k:Nat):Nat:=match μ with
 | []=>bif mem k Ka then 1 else 0
 | (i,q)::r=>bif Nat.beq k i then q else mu r Ka k
theorem mu_out {Ka:List Nat} {k:Nat} : ∀ {μ:List (Nat×Nat)},k∉μ.map (·.1)→mu μ Ka k≤1∧(mu μ Ka k=1→k∈Ka)
 | [],_=>by
  simp only [mu]
  cases hm:mem k Ka
  ·simp
  ·simp [mem_iff.1 hm]
 | (i,q)::r,h=>by
  simp only [List.map_cons,List.mem_cons,not_or] at h
  have:Nat.beq k i=false:=by
   cases hb:Nat.beq k i
   ·rfl
   ·exact absurd (Nat.eq_of_beq_eq_true hb) h.1
  simp only [mu,this,cond_false]
  exact mu_out h.2
theorem mu_in {Ka:List Nat} {k:Nat} : ∀ {μ:List (Nat×Nat)},μ.all (fun p=>Nat.ble 2 p.2)=true→k∈μ.map (·.1)→2≤mu μ Ka k
 | [],_,h=>by simp at h
 | (i,q)::r,hq,h=>by
  simp only [List.all_cons,Bool.and_eq_true] at hq
  simp only [mu]
  cases hb:Nat.beq k i
  ·simp only [List.map_cons,List.mem_cons] at h
   rcases h with h | h
   ·rw [h] at hb; simp at hb
   ·exact mu_in hq.2 h
  ·exact Nat.le_of_ble_eq_true hq.1
def colC (w:World) (c:Col) (κ:List Nat) (N:Nat) (c' : Col):Col:=open Classical in fun b=>if b<w.heap.size∧c b∉κ then c b else N+(c' b - 2)
theorem instC_holds {N:Nat} {w w' : World} {c c' : Col} {Ka κ:List Nat} (hold : ∀ b,b<w.heap.size→c b∉κ→c' b≤1∧(c' b=1→c b∈Ka)) (hnew : ∀ b,b<w'.heap.size→(b<w.heap.size→c b∈κ)→2≤c' b) :
  (A:HA)→A.leaves=true→A.holds w' c' → (A.inst N Ka).holds w' (colC w c κ N c'):=by
 have hK : ∀ K:List Nat,K.all (fun k=>Nat.ble 1 k)=true→Keeps w' w' (fun b=>c' b∈K) (fun b=>colC w c κ N c' b∈instK N Ka K):=by
  intro K hK b hb hc
  refine ⟨?_,rfl⟩
  show colC w c κ N c' b∈_
  unfold colC
  split
  ·rename_i hlt
   have h1:1≤c' b:=Nat.le_of_ble_eq_true (List.all_eq_true.1 hK _ hc)
   obtain ⟨ho,hS⟩:=hold b hlt.1 hlt.2
   have:c' b=1:=by omega
   exact instK_one (this ▸ hc) (hS this)
  ·rename_i hge
   have h2:=hnew b hb (fun hlt=>Classical.byContradiction fun hn=>hge ⟨hlt,hn⟩)
   have:c' b=(c' b - 2)+2:=by omega
   exact instK_mem (this ▸ hc)
 have hi : ∀ i b,2≤i→c' b=i→colC w c κ N c' b=N+(i - 2):=by
  intro i b h2 hc
  unfold colC
  split
  ·rename_i hlt
   have:=(hold b hlt.1 hlt.2).1
   omega
  ·rw [hc]
 intro A hl hA
 cases A with
 | rep t K xs v=>exact RepR.keep (hK K hl) (.slice t) xs v hA
 | own t e i K xs v=>
  simp only [HA.leaves,Bool.and_eq_true] at hl
  obtain ⟨ys,h1,h2,h3⟩:=hA
  exact ⟨ys,h1.mono (RepR.keep (hK K hl.2) t),h2,fun g hg=>hi i g (Nat.le_of_ble_eq_true hl.1) (h3 g hg)⟩
 | box i b cs=>
  obtain ⟨⟨ty,hb⟩,hc⟩:=hA
  exact ⟨⟨ty,hb⟩,hi i b (Nat.le_of_ble_eq_true hl) hc⟩
 | elem t K x p=>
  obtain ⟨y,b,off,arr,ty,fz,hp,hc,hb,h1,h2,h3⟩:=hA
  exact ⟨y,b,off,arr,ty,fz,hp,(hK K hl b (Array.getElem?_eq_some_iff.1 hb).1 hc).1,hb,h1,h2,RepR.keep (hK K hl) t x y h3⟩
 | old w0 S=>simp [HA.leaves] at hl
 | pure p=>exact hA
 | gl g n cs=>simp [HA.leaves] at hl
theorem ok_callC {P:Program} {ρ:Env} {L:List HA} {o:Oper} {x:Operand} {xs:Array Operand} {ts:Array TypeId} {f:FuncId} {fn:Func} {args cap:List Value} {Y:Type} {val:Y→Value} {fcts:Y→List HA} {pre:List HA} {cd:Code}
  (hc : ∀ w c0,Heap w c0 pre→Calls P f args.toArray w (PostC w c0 val fcts))
  (ho:o.op = .call { callee:=.value x,args:=xs,argTypes:=ts }) (hx:evo ρ x = .func (.func f) #[] cap.toArray) (hargs:xs.toList.map (evo ρ)++cap=args)
  (hf:P.funcs[f]? = some fn) (hb:fn.body=some cd) (hname:(fn.name == "runtime.NumGoroutine")=false) (Ka:List Nat) (μ:List (Nat×Nat)) (hq:μ.all (fun p=>Nat.ble 2 p.2)=true)
  (hpre : ∀ w c,Heap w c L→Heap w (fun b=>mu μ Ka (c b)) pre)
  (hl : ∀ y,(fcts y).all HA.leaves=true) {N:Nat} {Φ:Y→List HA} (hΦ : ∀ y,(fcts y).map (HA.inst N Ka)=Φ y) (hN:Nat.ble 2 N=true) :
  OpOk P ρ o L (μ.map (·.1)) val Φ:=by
 intro a ev w c next Q ha hL hk
 have h2:2≤N:=Nat.le_of_ble_eq_true hN
 have hn' : ¬ fn.name = "runtime.NumGoroutine" := by simpa using hname
 have hargs' : xs.map (evo ρ)++cap.toArray=args.toArray:=by rw [← hargs]; exact Array.ext' (by simp)
 have hrun:(execOp ev o).run P w = .ok (.enter f args.toArray) w:=by
  simp [execOp,ho,resolve,ha,hx,Deferred.ofValue,invoke,callFunc,hf,hb,hn',hargs',Result.andThen]
 rw [hrun,Oper.upon_enter]
 refine (hc w (fun b=>mu μ Ka (c b)) (hpre w c hL)).mono ?_
 rintro e w' ⟨y,c',rfl,henv,h1,hold,hnew,hF⟩
 refine hk y w' (colC w c (μ.map (·.1)) N c') ⟨h1,fun b hb hn=>by simp only [colC]; rw [if_pos ⟨hb,hn⟩],fun b hb hn=>(hold b hb (mu_out hn).1).1,fun b hb hb' => ?_,henv⟩ ?_
 ·simp only [colC]
  rw [if_neg (fun h=>h.2 (hb' h.1).1)]; omega
 ·rw [← hΦ y]
  intro A hA
  obtain ⟨B,hB,rfl⟩:=List.mem_map.1 hA
  refine instC_holds (fun b hb hn=>?_) (fun b hb hn=>hnew b hb fun hlt=>mu_in hq (hn hlt)) B (List.all_eq_true.1 (hl y) B hB) (hF B hB)
  have:=(hold b hb (mu_out hn).1).2
  rw [this]; exact mu_out hn
def AF.inst (n N:Nat) (Ka:List Nat):AF→AF
 | .rep t K xs h=>.rep t (instK N Ka K) xs (n+h)
 | .own t e i K xs h=>.own t e (N+(i - 2)) (instK N Ka K) xs (n+h)
 | .box i b cs=>.box i b cs
 | .isn h b=>.isn h b
 | .prt a b s l h=>.prt a b s l h
def AF.isBox:AF→Bool
 | .box _ _ _=>true
 | .isn _ _=>true
 | .prt _ _ _ _ _=>true
 | _=>false
theorem resT_leaves {η:Vn} : ∀ (t:TC) (x:t.den) (ms:List RM) (j:Nat),∀ f∈resT t x ms j,(f.ha η).leaves=true∧f.isBox=false
 | .pair a b,x,ms,j,f,h=>by
  simp only [resT,List.mem_append] at h
  rcases h with h | h
  ·exact resT_leaves a _ _ _ f h
  ·exact resT_leaves b _ _ _ f h
 | .slice t,xs,[],j,f,h=>by simp [resT] at h
 | .slice t,xs,m::r,j,f,h=>by
  have hK : ∀ c,1≤c→(m.K c).all (fun k=>Nat.ble 1 k)=true:=by
   intro c hc
   refine List.all_eq_true.2 fun k hk=>Nat.ble_eq_true_of_le ?_
   simp only [RM.K,List.mem_append] at hk
   rcases hk with hk | hk
   ·cases ho:m.one
    ·rw [ho] at hk; cases hk
    ·rw [ho] at hk; simp at hk; omega
   ·cases ho:m.new
    ·rw [ho] at hk; cases hk
    ·rw [ho] at hk; simp at hk; omega
  simp only [resT] at h
  split at h
  ·rename_i e _
   cases he:Nat.ble 4194304 e
   ·rw [he] at h
    simp only [cond_false,List.mem_singleton] at h
    subst h
    refine ⟨?_,rfl⟩
    simp only [AF.ha,HA.leaves,Bool.and_eq_true]
    exact ⟨Nat.ble_eq_true_of_le (by omega),hK _ (by omega)⟩
   ·rw [he] at h
    simp at h
  ·simp only [List.mem_singleton] at h
   subst h
   exact ⟨hK _ (by omega),rfl⟩
 | .st a,x,ms,j,f,h=>resT_leaves a x ms j f h
 | .sc _,_,_,_,_,h=>by simp [resT] at h
 | .arr _ _,_,_,_,_,h=>by simp [resT] at h
 | .unit,_,_,_,_,h=>by simp [resT] at h
 | .ext _,_,_,_,_,h=>by simp [resT] at h
theorem resL_leaves {η:Vn} : ∀ (ts:List TC) (x:DenL ts) (ms:List RM) (j:Nat),∀ f∈resL ts x ms j,(f.ha η).leaves=true∧f.isBox=false
 | [],_,_,_,_,h=>by simp [resL] at h
 | [t],x,ms,j,f,h=>resT_leaves t x ms j f h
 | t::t' :: r,x,ms,j,f,h=>by
  simp only [resL,List.mem_append] at h
  rcases h with h | h
  ·exact resT_leaves t _ _ _ f h
  ·exact resL_leaves (t' :: r) _ _ _ f h
def AF.hdN:AF→Nat
 | .rep _ _ _ h=>h
 | .own _ _ _ _ _ h=>h
 | .box _ _ _=>0
 | .isn _ _=>0
 | .prt _ _ _ _ _=>0
theorem inst_ha {n N:Nat} {Ka:List Nat} {l:List Hd} {η:Vn}:(f:AF)→η.h (n+f.hdN)=(ηL l).h f.hdN→f.isBox=false→HA.inst N Ka (f.ha (ηL l))=(f.inst n N Ka).ha η
 | .rep t K xs h,hη,_=>by
  simp only [AF.hdN] at hη
  simp only [AF.ha,HA.inst,AF.inst,hη]
 | .own t e i K xs h,hη,_=>by
  simp only [AF.hdN] at hη
  simp only [AF.ha,HA.inst,AF.inst,hη]
 | .box _ _ _,_,h=>by cases h
 | .isn _ _,_,h=>by cases h
 | .prt _ _ _ _ _,_,h=>by cases h
theorem resT_hd : ∀ (t:TC) (x:t.den) (ms:List RM) (j:Nat),∀ f∈resT t x ms j,f.hdN<j+t.nh
 | .pair a b,x,ms,j,f,h=>by
  simp only [resT,List.mem_append] at h
  simp only [TC.nh]
  rcases h with h | h
  ·have:=resT_hd a _ _ _ f h; omega
  ·have:=resT_hd b _ _ _ f h; omega
 | .slice t,xs,[],j,f,h=>by simp [resT] at h
 | .slice t,xs,m::r,j,f,h=>by
  simp only [resT] at h
  split at h
  ·rename_i e _
   cases he:Nat.ble 4194304 e
   ·rw [he] at h
    simp only [cond_false,List.mem_singleton] at h; subst h; simp [AF.hdN,TC.nh]
   ·rw [he] at h
    simp at h
  ·simp only [List.mem_singleton] at h; subst h; simp [AF.hdN,TC.nh]
 | .st a,x,ms,j,f,h=>resT_hd a x ms j f h
 | .sc _,_,_,_,_,h=>by simp [resT] at h
 | .arr _ _,_,_,_,_,h=>by simp [resT] at h
 | .unit,_,_,_,_,h=>by simp [resT] at h
 | .ext _,_,_,_,_,h=>by simp [resT] at h
theorem resL_hd : ∀ (ts:List TC) (x:DenL ts) (ms:List RM) (j:Nat),∀ f∈resL ts x ms j,f.hdN<j+nhL ts
 | [],_,_,_,_,h=>by simp [resL] at h
 | [t],x,ms,j,f,h=>by have:=resT_hd t x ms j f h; simp only [nhL]; omega
 | t::t' :: r,x,ms,j,f,h=>by
  simp only [resL,List.mem_append] at h
  have e:nhL (t::t' :: r)=t.nh+nhL (t' :: r):=rfl
  rcases h with h | h
  ·have:=resT_hd t _ _ _ f h; omega
  ·have:=resL_hd (t' :: r) _ _ _ f h; omega
def mkVs:(ts:List TC)→DenL ts→Nat→List AV
 | [],_,_=>[]
 | [t],x,n=>[mkV t x n]
 | t::t' :: r,x,n=>mkV t x.1 n::mkVs (t' :: r) x.2 (n+t.nh)
def retAV (nr:Nat) (ts:List TC) (x:DenL ts) (n:Nat):AV:=match (mkVs ts x n).take nr with
 | [v]=>v
 | vs=>.tu vs
def rowA:(t:TC)→t.den→Nat→TypeId→Nat→List AF
 | .slice t,xs,h,e,c=>bif t.ty.pureB then [.own t e c [] xs h] else []
 | _,_,_,_,_=>[]
inductive ObA
 | b (n:Nat)
 | r (h:Nat) (e:TypeId)
def ObA.v (η:Vn):ObA→ObH
 | .b n=>.b (η.b n)
 | .r h e=>.r (η.h h) e
def ObA.free (n:Nat):ObA→Bool
 | .b _=>true
 | .r h _=>out n h
def outAH (t:TC) (x:t.den) (n:Nat) (s:Nat) (bs:List ObA) (c:Nat):List AF:=match s,bs with
 | 0, .b b::_=>[.box c b (mkL t x n)]
 | 0, .r h e::_=>rowA t x h e c
 | _,_=>[]
theorem rowA_ha {η:Vn} : ∀ (t:TC) (x:t.den) (h:Nat) (e:TypeId) (c:Nat),(rowA t x h e c).map (AF.ha η)=rowH t x (η.h h) e c
 | .slice t,xs,h,e,c=>by
  simp only [rowA,rowH]
  cases t.ty.pureB <;> rfl
 | .sc _,_,_,_,_=>rfl
 | .arr _ _,_,_,_,_=>rfl
 | .unit,_,_,_,_=>rfl
 | .pair _ _,_,_,_,_=>rfl
 | .st _,_,_,_,_=>rfl
 | .ext _,_,_,_,_=>rfl
theorem rowH_leaves : ∀ (t:TC) (x:t.den) (h:Hd) (e:TypeId) (c:Nat),2≤c→(rowH t x h e c).all HA.leaves=true
 | .slice t,xs,h,e,c,hc=>by
  simp only [rowH]
  cases t.ty.pureB <;> simp [HA.leaves,hc]
 | .sc _,_,_,_,_,_=>rfl
 | .arr _ _,_,_,_,_,_=>rfl
 | .unit,_,_,_,_,_=>rfl
 | .pair _ _,_,_,_,_,_=>rfl
 | .st _,_,_,_,_,_=>rfl
 | .ext _,_,_,_,_,_=>rfl
theorem rowH_inst {N:Nat} {Ka:List Nat} : ∀ (t:TC) (x:t.den) (h:Hd) (e:TypeId) (c:Nat),(rowH t x h e (c+2)).map (HA.inst N Ka)=rowH t x h e (N+c)
 | .slice t,xs,h,e,c=>by
  simp only [rowH]
  cases t.ty.pureB <;> simp [HA.inst,instK]
 | .sc _,_,_,_,_=>rfl
 | .arr _ _,_,_,_,_=>rfl
 | .unit,_,_,_,_=>rfl
 | .pair _ _,_,_,_,_=>rfl
 | .st _,_,_,_,_=>rfl
 | .ext _,_,_,_,_=>rfl
def outA:(ts:List TC)→DenL ts→Nat→Nat→List ObA→Nat→List AF
 | [],_,_,_,_,_=>[]
 | [t],x,n,s,bs,c=>outAH t x n s bs c
 | t::t' :: r,x,n,s,bs,c=>outAH t x.1 n s bs c++outA (t' :: r) x.2 (n+t.nh) (s - 1) (nx s bs.tail bs) (nx s (c+1) c)
def NamedL (η:Vn) (n:Nat) (l:List Hd):Prop:=∀ j h,l[j]? = some h→η.h (n+j)=h
theorem mkL_cells' {η:Vn}:(t:TC)→(x:t.den)→(l:List Hd)→(n:Nat)→NamedL η n l→t.nh≤l.length→cellsL η (mkL t x n)=t.ty.fill x (refsOf t l)
 | .sc _,_,_,_,_,_=>rfl
 | .arr _ _,_,_,_,_,_=>by simp [mkL,cellsL,Lf.cells,Ty.fill]
 | .unit,_,_,_,_,_=>rfl
 | .pair a b,x,l,n,h,hl=>by
  simp only [TC.nh] at hl
  simp only [mkL,cellsL_append,Ty.fill,refsOf]
  rw [mkL_cells' a x.1 l n h (by omega),mkL_cells' b x.2 (l.drop a.nh) (n+a.nh) (fun j hh hj=>by
   rw [List.getElem?_drop] at hj
   have:=h _ hh hj
   rwa [show n+a.nh+j=n+(a.nh+j) by omega]) (by simp; omega)]
 | .slice _,x,l,n,h,hl=>by
  simp only [TC.nh] at hl
  cases l with
  | nil=>simp at hl
  | cons hd r=>
   have:=h 0 hd rfl
   simp only [Nat.add_zero] at this
   simp [mkL,cellsL,Lf.cells,Ty.fill,refsOf,this]
 | .st a,x,l,n,h,hl=>mkL_cells' a x l n h hl
 | .ext _,_,_,_,_,_=>rfl
theorem mkV_valOf {η:Vn} (t:TC) (x:t.den) (l:List Hd) (n:Nat) (h:NamedL η n l) (hl:t.nh≤l.length):(mkV t x n).val η=valOf t x (refsOf t l):=by
 cases t with
 | sc s=>rfl
 | arr m s=>rfl
 | unit=>rfl
 | pair a b=>simp only [mkV,AV.val,valOf]; rw [mkL_cells' _ x l n h hl]
 | st a=>simp only [mkV,AV.val,valOf,refsOf]; rw [mkL_cells' a x l n h hl]
 | slice t=>
  simp only [TC.nh] at hl
  cases l with
  | nil=>simp at hl
  | cons hd r=>
   have:=h 0 hd rfl
   simp only [Nat.add_zero] at this
   simp [mkV,AV.val,Lf.val,valOf,refsOf,this]
 | ext k=>rfl
theorem mkVs_vals {η:Vn} : ∀ (ts:List TC) (x:DenL ts) (l:List Hd) (n:Nat),NamedL η n l→nhL ts≤l.length→AV.vals η (mkVs ts x n)=valsOf ts x l
 | [],_,_,_,_,_=>rfl
 | [t],x,l,n,h,hl=>by
  simp only [nhL] at hl
  simp only [mkVs,AV.vals,valsOf]
  rw [mkV_valOf t x l n h (by omega)]
 | t::t' :: r,x,l,n,h,hl=>by
  simp only [nhL] at hl
  simp only [mkVs,AV.vals,valsOf]
  rw [mkV_valOf t x.1 l n h (by omega),mkVs_vals (t' :: r) x.2 (l.drop t.nh) (n+t.nh) (fun j hh hj=>by
   rw [List.getElem?_drop] at hj
   have:=h _ hh hj
   rwa [show n+t.nh+j=n+(t.nh+j) by omega]) (by simp only [nhL,List.length_drop]; omega)]
theorem vals_take {η:Vn} : ∀ (vs:List AV) (k:Nat),AV.vals η (vs.take k)=(AV.vals η vs).take k
 | [],k=>by cases k <;> rfl
 | v::r,0=>rfl
 | v::r,k+1=>by simp only [List.take_succ_cons,AV.vals,vals_take r k]
theorem retAV_val {η:Vn} {nr:Nat} (ts:List TC) (x:DenL ts) (l:List Hd) (n:Nat) (h:NamedL η n l) (hl:nhL ts≤l.length):(retAV nr ts x n).val η=retV nr ts x l:=by
 have e:=mkVs_vals ts x l n h hl
 have e2:=vals_take (η:=η) (mkVs ts x n) nr
 rw [e] at e2
 unfold retAV retV
 rw [← e2]
 generalize (mkVs ts x n).take nr=vs
 cases vs with
 | nil=>rfl
 | cons v r=>cases r <;> rfl
theorem outA_ha {η:Vn} : ∀ (ts:List TC) (x:DenL ts) (l:List Hd) (n s:Nat) (bs:List ObA) (c:Nat),NamedL η n l→nhL ts≤l.length→(outA ts x n s bs c).map (AF.ha η)=outF ts x l s (bs.map (ObA.v η)) c:=by
 have one : ∀ (t:TC) (x:t.den) (l:List Hd) (n s:Nat) (bs:List ObA) (c:Nat),NamedL η n l→t.nh≤l.length→(outAH t x n s bs c).map (AF.ha η)=outH t x l s (bs.map (ObA.v η)) c:=by
  intro t x l n s bs c h hl
  cases s with
  | succ s=>rfl
  | zero=>
   cases bs with
   | nil=>rfl
   | cons b bs=>
    cases b with
    | b b=>simp only [outAH,outH,List.map_cons,List.map_nil,AF.ha,ObA.v,mkL_cells' t x l n h hl]
    | r hh e=>simp only [outAH,outH,List.map_cons,ObA.v,rowA_ha]
 intro ts
 induction ts with
 | nil=>intros; rfl
 | cons t ts ih=>
  intro x l n s bs c h hl
  cases ts with
  | nil=>exact one t x l n s bs c h (by simp only [nhL] at hl; omega)
  | cons t' ts=>
   have e:nhL (t::t' :: ts)=t.nh+nhL (t' :: ts):=rfl
   simp only [outA,outF,List.map_append]
   rw [one t x.1 l n s bs c h (by omega),ih x.2 (l.drop t.nh) (n+t.nh) (s - 1) (nx s bs.tail bs) (nx s (c+1) c) (fun j hh hj=>by
    rw [List.getElem?_drop] at hj
    have:=h _ hh hj
    rwa [show n+t.nh+j=n+(t.nh+j) by omega]) (by simp only [List.length_drop]; omega)]
   congr 2
   cases s <;> simp [nx]
theorem outF_leaves : ∀ (ts:List TC) (x:DenL ts) (l:List Hd) (s:Nat) (bs:List ObH) (c:Nat),2≤c→(outF ts x l s bs c).all HA.leaves=true:=by
 have one : ∀ (t:TC) (x:t.den) (l:List Hd) (s:Nat) (bs:List ObH) (c:Nat),2≤c→(outH t x l s bs c).all HA.leaves=true:=by
  intro t x l s bs c hc
  cases s with
  | succ s=>rfl
  | zero=>
   cases bs with
   | nil=>rfl
   | cons b bs=>
    cases b with
    | b b=>simp [outH,HA.leaves,hc]
    | r hh e=>exact rowH_leaves t x hh e c hc
 intro ts
 induction ts with
 | nil=>intros; rfl
 | cons t ts ih=>
  intro x l s bs c hc
  cases ts with
  | nil=>exact one t x l s bs c hc
  | cons t' ts=>
   simp only [outF,List.all_append,Bool.and_eq_true]
   exact ⟨one t x.1 l s bs c hc,ih x.2 _ _ _ _ (by cases s <;> simp [nx] <;> omega)⟩
theorem outF_inst {N:Nat} {Ka:List Nat} : ∀ (ts:List TC) (x:DenL ts) (l:List Hd) (s:Nat) (bs:List ObH) (c:Nat),(outF ts x l s bs (c+2)).map (HA.inst N Ka)=outF ts x l s bs (N+c):=by
 have one : ∀ (t:TC) (x:t.den) (l:List Hd) (s:Nat) (bs:List ObH) (c:Nat),(outH t x l s bs (c+2)).map (HA.inst N Ka)=outH t x l s bs (N+c):=by
  intro t x l s bs c
  cases s with
  | succ s=>rfl
  | zero=>
   cases bs with
   | nil=>rfl
   | cons b bs=>
    cases b with
    | b b=>simp [outH,HA.inst]
    | r hh e=>exact rowH_inst t x hh e c
 intro ts
 induction ts with
 | nil=>intros; rfl
 | cons t ts ih=>
  intro x l s bs c
  cases ts with
  | nil=>exact one t x l s bs c
  | cons t' ts=>
   simp only [outF,List.map_append,one]
   congr 1
   cases s with
   | zero=>simp only [nx]; exact ih x.2 _ _ _ (c+1)
   | succ s=>simp only [nx]; exact ih x.2 _ _ _ c
def Lf.isAr:Lf→Bool
 | .ar _ _ _=>true
 | .ars _ _=>true
 | _=>false
def datA (F:List AF) (t:TC) (v:AV):Option (t.den×List Lf×List Nat):=match v with
 | .ag ls=>bif t.aggT then match datL F t ls with | some (x,l,K,[])=>some (x,l,K) | _=>none else none
 | .lf l=>bif t.aggT==l.isAr then match datL F t [l] with | some (x,l,K,[])=>some (x,l,K) | _=>none else none
 | .tu _=>none
theorem datA_ok {F:List AF} {η:Vn} {t:TC} {v:AV} {x:t.den} {l:List Lf} {K:List Nat} (h:datA F t v=some (x,l,K)) :
  v.val η=valOf t x (refsOf t (hdsL η l))∧l.length=t.nh ∧
  ∀ (w:World) (c:Col) (K' : List Nat),Heap w c (F.map (AF.ha η))→(∀ k∈K,k∈K')→RepR w (fun b=>c b∈K') t.ty x (refsOf t (hdsL η l)):=by
 cases v with
 | tu _=>cases h
 | ag ls=>
  simp only [datA] at h
  cases ha:t.aggT
  ·rw [ha] at h; cases h
  ·rw [ha] at h
   simp only [cond_true] at h
   split at h
   ·rename_i x' l' K' hd
    simp only [Option.some.injEq,Prod.mk.injEq] at h
    obtain ⟨rfl,rfl,rfl⟩:=h
    obtain ⟨h1,h2⟩:=datL_ok (η:=η) t hd
    simp only [cellsL,List.append_nil] at h1
    refine ⟨?_,datL_nh t hd,h2⟩
    simp only [AV.val,h1]
    cases t <;> first | rfl | cases ha
   ·cases h
 | lf lf=>
  simp only [datA] at h
  cases ha:(t.aggT==lf.isAr)
  ·rw [ha] at h; cases h
  ·rw [ha] at h
   simp only [cond_true] at h
   split at h
   ·rename_i x' l' K' hd
    simp only [Option.some.injEq,Prod.mk.injEq] at h
    obtain ⟨rfl,rfl,rfl⟩:=h
    obtain ⟨h1,h2⟩:=datL_ok (η:=η) t hd
    refine ⟨?_,datL_nh t hd,h2⟩
    simp only [cellsL,List.append_nil] at h1
    cases lf with
    | ar m s y=>
     have ht:t.aggT=true:=by simpa [Lf.isAr] using ha
     simp only [AV.val,Lf.val]
     simp only [Lf.cells] at h1
     rw [h1]
     cases t <;> first | rfl | cases ht
    | ars t' y=>
     have ht:t.aggT=true:=by simpa [Lf.isAr] using ha
     simp only [AV.val,Lf.val]
     simp only [Lf.cells] at h1
     rw [h1]
     cases t <;> first | rfl | cases ht
    | _=>
     have ht:t.aggT=false:=by simpa [Lf.isAr] using ha
     simp only [AV.val]
     cases t <;> first | cases ht | skip
     all_goals simp only [Lf.cells,Ty.fill,List.cons.injEq,and_true] at h1
     all_goals exact h1
   ·cases h
def liftD {α:Type}:Option (α×List Lf×List Nat×List Lf)→Option (α×List Lf×List Nat×List (Nat×Nat)×List Lf)
 | some (x,l,K,r)=>some (x,l,K,[],r)
 | none=>none
theorem liftD_some {α:Type} {m:Option (α×List Lf×List Nat×List Lf)} {x:α} {l:List Lf} {K:List Nat} {μ:List (Nat×Nat)} {r:List Lf} (h:liftD m=some (x,l,K,μ,r)):m=some (x,l,K,r):=by
 unfold liftD at h
 split at h
 ·simp only [Option.some.injEq,Prod.mk.injEq] at h
  obtain ⟨rfl,rfl,rfl,_,rfl⟩:=h
  rfl
 ·cases h
def datM (F:List AF):(t:TC)→List Lf→List (Option TypeId)→Nat→Option (t.den×List Lf×List Nat×List (Nat×Nat)×List Lf)
 | .pair a b,r,os,q=>match datM F a r os q with
  | some (x,l1,K1,μ1,r1)=>match datM F b r1 (os.drop a.nh) (q+a.nh) with
   | some (y,l2,K2,μ2,r2)=>some ((x,y),l1++l2,K1++K2,μ1++μ2,r2)
   | none=>none
  | none=>none
 | .slice t,r,os,q=>match os,r with
  | some e::_, .sl h::r=>match ownI t e 0 F (.sl h) with
   | some (i,K,xs)=>some (xs,[.sl h],K,[(i,q)],r)
   | none=>none
  | some _::_, .nl::r=>some ([],[.nl],[],[],r)
  | some _::_,_=>none
  | _,r=>liftD (datL F (.slice t) r)
 | .st a,r,os,q=>datM F a r os q
 | .sc s,r,_,_=>liftD (datL F (.sc s) r)
 | .arr n s,r,_,_=>liftD (datL F (.arr n s) r)
 | .unit,r,_,_=>liftD (datL F .unit r)
 | .ext n,r,_,_=>liftD (datL F (.ext n) r)
theorem own_mu {w:World} {c:Col} {m:Nat→Nat} {t:Ty} {e:TypeId} {i q:Nat} {K:List Nat} {xs:List t.den} {v:Hd} (h:HA.holds w c (.own t e i K xs v)) (hK : ∀ k∈K,m k=1) (hi:m i=q):HA.holds w (fun b=>m (c b)) (.own t e q [1] xs v):=by
 obtain ⟨ys,h1,h2,h3⟩:=h
 exact ⟨ys,h1.mono (RepR.keep (S:=fun b=>c b∈K) (fun b _ hb=>⟨by show m (c b)∈[1]; rw [hK _ hb]; simp,rfl⟩) t),h2,fun g hg=>by show m (c g)=q; rw [h3 g hg,hi]⟩
theorem rep_mu {w:World} {c:Col} {m:Nat→Nat} {K:List Nat} {t:Ty} {x:t.den} {y:t.Refs} (h : ∀ K' : List Nat,(∀ k∈K,k∈K')→RepR w (fun b=>c b∈K') t x y) (hK : ∀ k∈K,m k=1):RepR w (fun b=>m (c b)∈([1]:List Nat)) t x y:=
 RepR.keep (S:=fun b=>c b∈K) (fun b _ hb=>⟨by show m (c b)∈([1]:List Nat); rw [hK _ hb]; simp,rfl⟩) t x y (h K fun _ hk=>hk)
theorem datM_ok {F:List AF} {η:Vn} : ∀ (t:TC) {ls:List Lf} {os:List (Option TypeId)} {q:Nat} {x:t.den} {l:List Lf} {K:List Nat} {μ:List (Nat×Nat)} {r:List Lf},datM F t ls os q=some (x,l,K,μ,r) →
  cellsL η ls=t.ty.fill x (refsOf t (hdsL η l))++cellsL η r∧l.length=t.nh ∧
  ∀ (w:World) (c:Col) (m:Nat→Nat),Heap w c (F.map (AF.ha η))→(∀ k∈K,m k=1)→(∀ p∈μ,m p.1=p.2)→Heap w (fun b=>m (c b)) (factsM t x (refsOf t (hdsL η l)) os q):=by
 intro t
 induction t with
 | sc s=>
  intro ls os q x l K μ r h
  simp only [datM] at h
  exact ⟨(datL_ok _ (liftD_some h)).1,datL_nh _ (liftD_some h),fun _ _ _ _ _ _=>Heap.nil _ _⟩
 | arr n s=>
  intro ls os q x l K μ r h
  simp only [datM] at h
  exact ⟨(datL_ok _ (liftD_some h)).1,datL_nh _ (liftD_some h),fun _ _ _ _ _ _=>Heap.nil _ _⟩
 | unit=>
  intro ls os q x l K μ r h
  simp only [datM] at h
  exact ⟨(datL_ok _ (liftD_some h)).1,datL_nh _ (liftD_some h),fun _ _ _ _ _ _=>Heap.nil _ _⟩
 | ext n=>
  intro ls os q x l K μ r h
  simp only [datM] at h
  exact ⟨(datL_ok _ (liftD_some h)).1,datL_nh _ (liftD_some h),fun _ _ _ _ _ _=>Heap.nil _ _⟩
 | st a ih=>exact fun h=>ih h
 | pair a b iha ihb=>
  intro ls os q x l K μ r h
  simp only [datM] at h
  split at h
  ·rename_i x1 l1 K1 μ1 r1 h1
   split at h
   ·rename_i x2 l2 K2 μ2 r2 h2
    simp only [Option.some.injEq,Prod.mk.injEq] at h
    obtain ⟨rfl,rfl,rfl,rfl,rfl⟩:=h
    obtain ⟨c1,n1,f1⟩:=iha h1
    obtain ⟨c2,n2,f2⟩:=ihb h2
    have hn:(hdsL η l1).length=a.nh:=by simp [hdsL,n1]
    have e1:refsOf a (hdsL η (l1++l2))=refsOf a (hdsL η l1):=by
     rw [show hdsL η (l1++l2)=hdsL η l1++hdsL η l2 by simp [hdsL],refsOf_left a _ _ hn]
    have e2:refsOf b ((hdsL η (l1++l2)).drop a.nh)=refsOf b (hdsL η l2):=by
     rw [show hdsL η (l1++l2)=hdsL η l1++hdsL η l2 by simp [hdsL],List.drop_append,List.drop_eq_nil_of_le (by omega),show a.nh - (hdsL η l1).length=0 by omega]
     rfl
    refine ⟨?_,by simp only [TC.nh,List.length_append]; omega,fun w c m hF hK hμ=>?_⟩
    ·simp only [refsOf,Ty.fill]
     rw [e1,e2,c1,c2,List.append_assoc]
    ·simp only [factsM,refsOf]
     rw [e1,e2]
     exact (f1 w c m hF (fun k hk=>hK k (List.mem_append_left _ hk)) fun p hp=>hμ p (List.mem_append_left _ hp)).append
      (f2 w c m hF (fun k hk=>hK k (List.mem_append_right _ hk)) fun p hp=>hμ p (List.mem_append_right _ hp))
   ·cases h
  ·cases h
 | slice t _=>
  intro ls os q x l K μ r h
  have rep:(match os with | some _::_=>False | _=>True)→datL F (.slice t) ls=some (x,l,K,r)→cellsL η ls=(TC.slice t).ty.fill x (refsOf (.slice t) (hdsL η l))++cellsL η r∧l.length=(TC.slice t).nh ∧
    ∀ (w:World) (c:Col) (m:Nat→Nat),Heap w c (F.map (AF.ha η))→(∀ k∈K,m k=1)→(∀ p∈μ,m p.1=p.2)→Heap w (fun b=>m (c b)) (factsM (.slice t) x (refsOf (.slice t) (hdsL η l)) os q):=by
   intro ho hd
   obtain ⟨c1,f1⟩:=datL_ok (η:=η) (.slice t) hd
   refine ⟨c1,datL_nh _ hd,fun w c m hF hK _=>?_⟩
   have hr:=rep_mu (m:=m) (fun K' hK' => f1 w c K' hF hK') hK
   simp only [factsM]
   split
   ·simp at ho
   ·exact Heap.cons hr (Heap.nil _ _)
  match os,ls,h,rep with
  | some e::os', .sl hh::r',h,_=>
   simp only [datM] at h
   split at h
   ·rename_i i K' xs ho
    simp only [Option.some.injEq,Prod.mk.injEq] at h
    obtain ⟨rfl,rfl,rfl,rfl,rfl⟩:=h
    exact ⟨rfl,rfl,fun w c m hF hK hμ=>Heap.cons (own_mu (ownI_own ho hF) hK (hμ _ List.mem_cons_self)) (Heap.nil _ _)⟩
   ·cases h
  | some e::os', .nl::r',h,_=>
   simp only [datM,Option.some.injEq,Prod.mk.injEq] at h
   obtain ⟨rfl,rfl,rfl,rfl,rfl⟩:=h
   exact ⟨rfl,rfl,fun w c m hF hK hμ=>Heap.cons (free_own _ _) (Heap.nil _ _)⟩
  | none::_,_,h,rep=>exact rep trivial (liftD_some h)
  | [],_,h,rep=>exact rep trivial (liftD_some h)
  | some _::_,[],h,_=>simp [datM] at h
  | some _::_, .c _ _::_,h,_=>simp [datM] at h
  | some _::_, .ar _ _ _::_,h,_=>simp [datM] at h
  | some _::_, .bp _ _::_,h,_=>simp [datM] at h
  | some _::_, .bq _ _ _ _ _::_,h,_=>simp [datM] at h
  | some _::_, .rp _ _ _ _ _::_,h,_=>simp [datM] at h
  | some _::_, .xt _ _::_,h,_=>simp [datM] at h
  | some _::_, .fn _::_,h,_=>simp [datM] at h
  | some _::_, .clo _ _::_,h,_=>simp [datM] at h
  | some _::_, .gp _ _ _ _ _::_,h,_=>simp [datM] at h
  | some _::_, .ars _ _::_,h,_=>simp [datM] at h
  | some _::_, .v _::_,h,_=>simp [datM] at h
def datP (F:List AF) (p:PC) (v:AV) (q:Nat):Option (p.den×List Lf×List Nat×List (Nat×Nat)):=match p,v with
 | .d t,v=>match datA F t v with
  | some (x,l,K)=>some (x,l,K,[])
  | none=>none
 | .own t e, .lf (.sl h)=>match ownI t e 0 F (.sl h) with
  | some (i,K,xs)=>some (xs,[.sl h],K,[(i,q)])
  | none=>none
 | .own _ _, .lf .nl=>some ([],[.nl],[],[])
 | .box m t os, .lf (.bp b 0)=>match boxI b F with
  | some (i,cs)=>match datM F t cs (bif m then os else []) (q+1) with
   | some (x,l,K,μ,[])=>some (x, .bp b 0::l,(bif m then K else i::K),(bif m then (i,q)::μ else μ))
   | _=>none
  | none=>none
 | .fn f, .lf (.fn g)=>bif Nat.beq f g then some ((),[],[],[]) else none
 | .clo f t, .lf (.clo g b)=>bif Nat.beq f g then match boxI b F with
  | some (i,cs)=>match datM F t cs [] (q+1) with
   | some (x,l,K,μ,[])=>some (x, .clo g b::l,i::K,μ)
   | _=>none
  | none=>none else none
 | .prt t e, .lf (.sl h')=>match prtI h' F with
  | some (h,sz,lo,hi)=>match ownI t e 0 F (.sl h) with
   | some (i,K,xs)=>bif Nat.beq sz t.ty.sz then some ((xs,lo,hi),[.sl h, .sl h'],K,[(i,q)]) else none
   | none=>none
  | none=>none
 | _,_=>none
theorem boxI_holds {F:List AF} {b i:Nat} {cs:List Lf} (h:boxI b F=some (i,cs)) {η:Vn} {w:World} {c:Col} (hF:Heap w c (F.map (AF.ha η))):HA.holds w c (.box i (η.b b) (cellsL η cs)):=
 hF _ (List.mem_map.2 ⟨_,boxI_mem h,rfl⟩)
theorem datP_ok {F:List AF} {η:Vn} {p:PC} {v:AV} {q:Nat} {x:p.den} {l:List Lf} {K:List Nat} {μ:List (Nat×Nat)} (h:datP F p v q=some (x,l,K,μ)) :
  v.val η=p.val x (hdsL η l)∧l.length=p.nh ∧
  ∀ (w:World) (c:Col) (m:Nat→Nat),Heap w c (F.map (AF.ha η))→(∀ k∈K,m k=1)→(∀ p∈μ,m p.1=p.2)→Heap w (fun b=>m (c b)) (p.facts x (hdsL η l) q):=by
 have box : ∀ {i b q' : Nat} {cs:List Lf} {w:World} {c:Col} {m:Nat→Nat} {vs:List Value},boxI b F=some (i,cs)→Heap w c (F.map (AF.ha η))→m i=q' → cellsL η cs=vs→HA.holds w (fun b=>m (c b)) (.box q' (η.b b) vs):=by
  intro i b q' cs w c m vs hb hF hm hv
  obtain ⟨h1,h2⟩:=boxI_holds hb hF
  subst hv
  exact ⟨h1,by show m (c _)=q'; rw [h2,hm]⟩
 cases p with
 | d t=>
  simp only [datP] at h
  split at h
  ·rename_i hd
   simp only [Option.some.injEq,Prod.mk.injEq] at h
   obtain ⟨rfl,rfl,rfl,rfl⟩:=h
   obtain ⟨h1,h2,h3⟩:=datA_ok (η:=η) hd
   refine ⟨h1,h2,fun w c m hF hK _=>?_⟩
   exact facts_of _ _ _ (rep_mu (m:=m) (fun K' hK' => h3 w c K' hF hK') hK)
  ·cases h
 | own t e=>
  cases v with
  | lf lf=>
   cases lf with
   | sl hh=>
    simp only [datP] at h
    split at h
    ·rename_i ho
     simp only [Option.some.injEq,Prod.mk.injEq] at h
     obtain ⟨rfl,rfl,rfl,rfl⟩:=h
     exact ⟨rfl,rfl,fun w c m hF hK hμ=>Heap.cons (own_mu (ownI_own ho hF) hK (hμ _ List.mem_cons_self)) (Heap.nil _ _)⟩
    ·cases h
   | nl=>
    simp only [datP,Option.some.injEq,Prod.mk.injEq] at h
    obtain ⟨rfl,rfl,rfl,rfl⟩:=h
    exact ⟨rfl,rfl,fun w c m hF hK hμ=>Heap.cons (free_own _ _) (Heap.nil _ _)⟩
   | _=>cases h
  | _=>cases h
 | box m t os=>
  cases v with
  | lf lf=>
   cases lf with
   | bp b off=>
    cases off with
    | succ _=>cases h
    | zero=>
     simp only [datP] at h
     split at h
     ·rename_i i cs hb
      split at h
      ·rename_i x' l' K' μ' hd
       simp only [Option.some.injEq,Prod.mk.injEq] at h
       obtain ⟨rfl,rfl,rfl,rfl⟩:=h
       obtain ⟨c1,n1,f1⟩:=datM_ok (η:=η) t hd
       refine ⟨rfl,by simp only [PC.nh,List.length_cons,n1]; omega,fun w c mm hF hK hμ=>?_⟩
       simp only [cellsL,List.append_nil] at c1
       cases m with
       | true=>exact Heap.cons (box hb hF (hμ (i,q) List.mem_cons_self) c1) (f1 w c mm hF hK fun p hp=>hμ p (List.mem_cons_of_mem _ hp))
       | false=>exact Heap.cons (box hb hF (hK i List.mem_cons_self) c1) (f1 w c mm hF (fun k hk=>hK k (List.mem_cons_of_mem _ hk)) hμ)
      ·cases h
     ·cases h
   | _=>cases h
  | _=>cases h
 | fn f=>
  cases v with
  | lf lf=>
   cases lf with
   | fn g=>
    simp only [datP] at h
    cases hb:Nat.beq f g
    ·rw [hb] at h; cases h
    ·rw [hb] at h
     simp only [cond_true,Option.some.injEq,Prod.mk.injEq] at h
     obtain ⟨_,rfl,rfl,rfl⟩:=h
     obtain rfl:=Nat.eq_of_beq_eq_true hb
     exact ⟨rfl,rfl,fun _ _ _ _ _ _=>Heap.nil _ _⟩
   | _=>cases h
  | _=>cases h
 | clo f t=>
  cases v with
  | lf lf=>
   cases lf with
   | clo g b=>
    simp only [datP] at h
    cases hfg:Nat.beq f g
    ·rw [hfg] at h; cases h
    ·rw [hfg] at h
     obtain rfl:=Nat.eq_of_beq_eq_true hfg
     simp only [cond_true] at h
     split at h
     ·rename_i i cs hb
      split at h
      ·rename_i x' l' K' μ' hd
       simp only [Option.some.injEq,Prod.mk.injEq] at h
       obtain ⟨rfl,rfl,rfl,rfl⟩:=h
       obtain ⟨c1,n1,f1⟩:=datM_ok (η:=η) t hd
       simp only [cellsL,List.append_nil] at c1
       refine ⟨rfl,by simp only [PC.nh,List.length_cons,n1]; omega,fun w c mm hF hK hμ=>?_⟩
       exact Heap.cons (box hb hF (hK i List.mem_cons_self) c1) (f1 w c mm hF (fun k hk=>hK k (List.mem_cons_of_mem _ hk)) hμ)
      ·cases h
     ·cases h
   | _=>cases h
  | _=>cases h
 | prt t e=>
  cases v with
  | lf lf=>
   cases lf with
   | sl hh=>
    simp only [datP] at h
    split at h
    ·rename_i h0 sz lo hi hp
     split at h
     ·rename_i ho
      cases hsz:Nat.beq sz t.ty.sz
      ·rw [hsz] at h; cases h
      ·rw [hsz] at h
       simp only [cond_true,Option.some.injEq,Prod.mk.injEq] at h
       obtain ⟨rfl,rfl,rfl,rfl⟩:=h
       refine ⟨rfl,rfl,fun w c m hF hK hμ=>Heap.cons (own_mu (ownI_own ho hF) hK (hμ _ List.mem_cons_self)) (Heap.cons ?_ (Heap.nil _ _))⟩
       have hpt:PrtOf (η.h hh) (η.h h0) sz lo hi:=hF _ (List.mem_map.2 ⟨_,prtI_mem hp,rfl⟩)
       rw [Nat.eq_of_beq_eq_true hsz] at hpt
       exact hpt
     ·cases h
    ·cases h
   | _=>cases h
  | _=>cases h
def datPs (F:List AF):(ps:List PC)→List AV→Nat→Option (DenP ps×List Lf×List Nat×List (Nat×Nat))
 | [],[],_=>some ((),[],[],[])
 | [p],[v],q=>datP F p v q
 | p::p' :: r,v::vs,q=>match datP F p v q,datPs F (p' :: r) vs (q+p.nc) with
  | some (x,l,K,μ),some (y,l',K',μ')=>some ((x,y),l++l',K++K',μ++μ')
  | _,_=>none
 | _,_,_=>none
theorem PC.val_left:(p:PC)→(x:p.den)→(l1 l2:List Hd)→l1.length=p.nh→p.val x (l1++l2)=p.val x l1
 | .d t,x,l1,l2,h=>by simp only [PC.val]; rw [refsOf_left t l1 l2 h]
 | .own _ _,_,[],_,h=>by simp [PC.nh] at h
 | .own _ _,_,_::_,_,_=>rfl
 | .box _ _ _,_,[],_,h=>by simp [PC.nh] at h; omega
 | .box _ _ _,_,_::_,_,_=>rfl
 | .fn _,_,_,_,_=>rfl
 | .clo _ _,_,[],_,h=>by simp [PC.nh] at h; omega
 | .clo _ _,_,_::_,_,_=>rfl
 | .prt _ _,_,[],_,h=>by simp [PC.nh] at h
 | .prt _ _,_,[_],_,h=>by simp [PC.nh] at h
 | .prt _ _,_,_::_::_,_,_=>rfl
theorem PC.facts_left:(p:PC)→(x:p.den)→(l1 l2:List Hd)→(q:Nat)→l1.length=p.nh→p.facts x (l1++l2) q=p.facts x l1 q
 | .d t,x,l1,l2,_,h=>by simp only [PC.facts]; rw [refsOf_left t l1 l2 h]
 | .own _ _,_,[],_,_,h=>by simp [PC.nh] at h
 | .own _ _,_,_::_,_,_,_=>rfl
 | .box _ _ _,_,[],_,_,h=>by simp [PC.nh] at h; omega
 | .box _ t _,_,a::l1,l2,_,h=>by
  have:l1.length=t.nh:=by simp [PC.nh] at h; omega
  simp only [PC.facts,List.cons_append,List.drop_succ_cons,List.drop_zero,List.headD_cons]
  rw [refsOf_left t l1 l2 this]
 | .fn _,_,_,_,_,_=>rfl
 | .clo _ _,_,[],_,_,h=>by simp [PC.nh] at h; omega
 | .clo _ t,_,a::l1,l2,_,h=>by
  have:l1.length=t.nh:=by simp [PC.nh] at h; omega
  simp only [PC.facts,List.cons_append,List.drop_succ_cons,List.drop_zero,List.headD_cons]
  rw [refsOf_left t l1 l2 this]
 | .prt _ _,_,[],_,_,h=>by simp [PC.nh] at h
 | .prt _ _,_,[_],_,_,h=>by simp [PC.nh] at h
 | .prt _ _,_,_::_::_,_,_,_=>rfl
theorem datPs_ok {F:List AF} {η:Vn} : ∀ {ps:List PC} {vs:List AV} {q:Nat} {x:DenP ps} {l:List Lf} {K:List Nat} {μ:List (Nat×Nat)},datPs F ps vs q=some (x,l,K,μ) →
  AV.vals η vs=valsP ps x (hdsL η l)∧l.length=nhP ps ∧
  ∀ (w:World) (c:Col) (m:Nat→Nat),Heap w c (F.map (AF.ha η))→(∀ k∈K,m k=1)→(∀ p∈μ,m p.1=p.2)→Heap w (fun b=>m (c b)) (factsP ps x (hdsL η l) q)
 | [],[],_,_,l,K,μ,h=>by
  simp only [datPs,Option.some.injEq,Prod.mk.injEq] at h
  obtain ⟨_,rfl,rfl,rfl⟩:=h
  exact ⟨rfl,rfl,fun _ _ _ _ _ _=>Heap.nil _ _⟩
 | [p],[v],q,x,l,K,μ,h=>by
  obtain ⟨h1,h2,h3⟩:=datP_ok (η:=η) (p:=p) h
  exact ⟨by simp only [AV.vals,valsP,h1],by simp only [nhP,h2]; omega,h3⟩
 | p::p' :: r,v::vs,q,x,l,K,μ,h=>by
  simp only [datPs] at h
  split at h
  ·rename_i x1 l1 K1 μ1 x2 l2 K2 μ2 ha hb
   simp only [Option.some.injEq,Prod.mk.injEq] at h
   obtain ⟨rfl,rfl,rfl,rfl⟩:=h
   obtain ⟨h1,h2,h3⟩:=datP_ok (η:=η) ha
   obtain ⟨g1,g2,g3⟩:=datPs_ok (η:=η) hb
   have e0:hdsL η (l1++l2)=hdsL η l1++hdsL η l2:=by simp [hdsL]
   have hl:(hdsL η l1).length=p.nh:=by simp [hdsL,h2]
   have e2:(hdsL η (l1++l2)).drop p.nh=hdsL η l2:=by
    rw [e0,List.drop_append,List.drop_eq_nil_of_le (by omega),show p.nh - (hdsL η l1).length=0 by omega]
    rfl
   refine ⟨?_,by simp only [nhP] at g2 ⊢; simp [h2,g2],fun w c m hF hK hμ=>?_⟩
   ·simp only [AV.vals,valsP,e2,h1,g1]
    rw [e0,PC.val_left p x1 _ _ hl]
   ·simp only [factsP,e2]
    rw [e0,PC.facts_left p x1 _ _ _ hl]
    exact (h3 w c m hF (fun k hk=>hK k (List.mem_append_left _ hk)) fun p hp=>hμ p (List.mem_append_left _ hp)).append
     (g3 w c m hF (fun k hk=>hK k (List.mem_append_right _ hk)) fun p hp=>hμ p (List.mem_append_right _ hp))
  ·cases h
 | [],_::_,_,_,_,_,_,h=>by simp [datPs] at h
 | [_],[],_,_,_,_,_,h=>by simp [datPs] at h
 | [_],_::_::_,_,_,_,_,_,h=>by simp [datPs] at h
 | _::_::_,[],_,_,_,_,_,h=>by simp [datPs] at h
def evs (E:SE):List Operand→Option (List AV)
 | []=>some []
 | x::r=>match ev E x,evs E r with
  | some v,some vs=>some (v::vs)
  | _,_=>none
theorem evs_ok {E:SE} {η:Vn} {ρ:Env} (hE:EnvOk η ρ E) : ∀ {xs:List Operand} {vs:List AV},evs E xs=some vs→xs.map (evo ρ)=AV.vals η vs
 | [],vs,h=>by simp only [evs,Option.some.injEq] at h; subst h; rfl
 | x::r,vs,h=>by
  simp only [evs] at h
  split at h
  ·rename_i v vs' hv hvs
   simp only [Option.some.injEq] at h
   subst h
   simp only [List.map_cons,AV.vals,ev_ok hE hv,evs_ok hE hvs]
  ·cases h
abbrev dftL:(ts:List TC)→DenL ts
 | []=>()
 | [t]=>t.dft
 | t::t' :: r=>(t.dft,dftL (t' :: r))
section
variable {R:Type} {P:Program} {o:Oper} {E:SE} {F:List AF} {n:Nat} {Θ:Tb} {ex:Option Bool}
def calleeV:AV→Option (FuncId×List AV)
 | .lf (.fn f)=>some (f,[])
 | .lf (.clo f b)=>some (f,[.lf (.bp b 0)])
 | .lf (.c .fnc f)=>some (f,[])
 | _=>none
def okMu (Ka:List Nat) (μ:List (Nat×Nat)):Bool:=Ka.all (fun k=>Nat.beq (mu μ Ka k) 1)&&μ.all (fun p=>Nat.beq (mu μ Ka p.1) p.2)&&μ.all (fun p=>Nat.ble 2 p.2)&&μ.all (fun p=>Nat.ble 2 p.1)
def bnm (l:List Lf) (k:Nat):Option ObA:=bif Nat.blt k 64 then (match l[k]? with
 | some (.bp b _)=>some (.b b)
 | _=>none) else match l[k % 64]? with
 | some (.sl h)=>some (.r h (k / 64 - 1))
 | _=>none
def bnms (l:List Lf):List Nat→Option (List ObA)
 | []=>some []
 | k::r=>match bnm l k,bnms l r with
  | some b,some bs=>some (b::bs)
  | _,_=>none
theorem bnms_ok {η:Vn} {l:List Lf} : ∀ {bl:List Nat} {bs:List ObA},bnms l bl=some bs→blks (hdsL η l) bl=bs.map (ObA.v η)
 | [],bs,h=>by simp only [bnms,Option.some.injEq] at h; subst h; rfl
 | k::r,bs,h=>by
  simp only [bnms] at h
  split at h
  ·rename_i b bs' h1 h2
   simp only [Option.some.injEq] at h
   subst h
   have ih:=bnms_ok (η:=η) h2
   simp only [blks,List.map_cons,List.cons.injEq] at ih ⊢
   refine ⟨?_,ih⟩
   unfold bnm at h1
   unfold obH
   cases hk64:Nat.blt k 64
   ·rw [hk64] at h1
    simp only [cond_false] at h1 ⊢
    split at h1
    ·rename_i h' hk
     simp only [Option.some.injEq] at h1
     subst h1
     have:(hdsL η l)[k % 64]? = some ((Lf.sl h').hd η):=by rw [hdsL,List.getElem?_map,hk]; rfl
     rw [List.getD_eq_getElem?_getD,this]
     rfl
    ·cases h1
   ·rw [hk64] at h1
    simp only [cond_true] at h1 ⊢
    split at h1
    ·rename_i b' off hk
     simp only [Option.some.injEq] at h1
     subst h1
     have:(hdsL η l)[k]? = some ((Lf.bp b' off).hd η):=by rw [hdsL,List.getElem?_map,hk]; rfl
     rw [List.getD_eq_getElem?_getD,this]
     rfl
    ·cases h1
  ·cases h
theorem glh_mu {w:World} {c:Col} {μ:List (Nat×Nat)} {Ka:List Nat} (hq:μ.all (fun p=>Nat.ble 2 p.1)=true) (h:Heap w c GLH):Heap w (fun b=>mu μ Ka (c b)) GLH:=by
 intro A hA
 have hh:=h A hA
 obtain ⟨e,_,rfl⟩:=List.mem_map.1 hA
 obtain ⟨h1,hb',h3⟩:=hh
 have hn:c e.g∉μ.map (·.1):=by
  intro hm
  obtain ⟨p,hp,he⟩:=List.mem_map.1 hm
  have:=Nat.le_of_ble_eq_true (List.all_eq_true.1 hq p hp)
  omega
 exact ⟨h1,(mu_out (Ka:=Ka) hn).1,h3⟩
def sSig (C:Sig) (fx:DenP C.ps→Option (DenL C.rs)) (vs:List AV) (ex:Option Bool) (n N:Nat) (F:List AF) (k:Out→Option R) (alt:Option R):Option R:=match datPs F C.ps vs 2 with
 | some (x,l,Ka,μ)=>match bnms l C.bl with
  | some bs=>bif Nat.ble 2 N&&Nat.ble (nhL C.rs) 64&&okMu Ka μ&&bs.all (ObA.free n) then gbind ex (dftL C.rs) (fx x) fun r=>k ⟨retAV C.nr C.rs r n,(resL C.rs r C.ms 0).map (AF.inst n N Ka)++outA C.rs r n C.nr bs (N+128),μ.map (·.1)⟩ else none
  | none=>none
 | none=>alt
theorem sSig_ok {C:Sig} {f:FuncId} {fx:DenP C.ps→Option (DenL C.rs)} (hC : ∀ x r,fx x=some r→AtC P f C x r) {N:Nat} {x0:Operand} {v0:AV} {xs:Array Operand} {ts:Array TypeId} {vs cap:List AV} (ho:o.op = .call { callee:=.value x0,args:=xs,argTypes:=ts })
  (h0:ev E x0=some v0) (hv0:calleeV v0=some (f,cap)) (hvs:evs E xs.toList=some vs) (k:Out→Option R) {alt:Option R} (halt:Snd ex P o E F n alt k) :
  Snd ex P o E F n (sSig C fx (vs++cap) ex n N F k alt) k:=by
 unfold sSig
 split
 ·rename_i x l Ka μ hd
  split
  ·rename_i bs hbs
   refine Snd.bif fun hc=>Snd.gbind fun r hr=>Snd.ofG fun hx η ρ hE=>?_
   simp only [Bool.and_eq_true,okMu] at hc
   obtain ⟨⟨⟨hN,h64⟩,⟨⟨hKa,hμ⟩,hq⟩,hq1⟩,hfree⟩:=hc
   obtain ⟨⟨fn,cd,hf,hb,hnm⟩,hs⟩:=hC x r (hr hx)
   obtain ⟨d1,d2,d3⟩:=datPs_ok (η:=η) hd
   have h64:=Nat.le_of_ble_eq_true h64
   have happ : ∀ (a b:List AV),AV.vals η (a++b)=AV.vals η a++AV.vals η b:=by
    intro a b
    induction a with
    | nil=>rfl
    | cons v r ih=>simp only [List.cons_append,AV.vals,ih]
   have hargs:xs.toList.map (evo ρ)++AV.vals η cap=valsP C.ps x (hdsL η l):=by rw [evs_ok hE hvs,← happ,d1]
   have hcv:evo ρ x0 = .func (.func f) #[] (AV.vals η cap).toArray:=by
    rw [ev_ok hE h0]
    unfold calleeV at hv0
    split at hv0
    all_goals first | (simp only [Option.some.injEq,Prod.mk.injEq] at hv0; rw [← hv0.1,← hv0.2]; rfl) | cases hv0
   let ηy : { y:List Hd // y.length=nhL C.rs }→Vn:=fun y=>⟨fun m=>bif Nat.ble n m&&Nat.blt m (n+64) then (ηL y.1).h (m - n) else η.h m,η.b⟩
   have hat : ∀ (y : { y:List Hd // y.length=nhL C.rs }) (j:Nat),j<64→(ηy y).h (n+j)=(ηL y.1).h j:=by
    intro y j hlt
    have:(Nat.ble n (n+j)&&Nat.blt (n+j) (n+64))=true:=by
     rw [Bool.and_eq_true]; exact ⟨Nat.ble_eq_true_of_le (by omega),Nat.ble_eq_true_of_le (by omega)⟩
    simp only [ηy,this,cond_true,show n+j - n=j by omega]
   have hnamed : ∀ y : { y:List Hd // y.length=nhL C.rs },NamedL (ηy y) n y.1:=by
    intro y j h hj
    have hlt:=(List.getElem?_eq_some_iff.1 hj).1
    rw [hat y j (by have:=y.2; omega)]
    simp [ηL,hj]
   have hagr : ∀ y : { y:List Hd // y.length=nhL C.rs },η.agr n (ηy y):=by
    intro y m hm
    refine ⟨?_,rfl⟩
    have:(Nat.ble n m&&Nat.blt m (n+64))=false:=by
     cases hbb:(Nat.ble n m&&Nat.blt m (n+64))
     ·rfl
     ·simp only [Bool.and_eq_true] at hbb
      have h1:=Nat.le_of_ble_eq_true hbb.1
      have h2:m+1≤n+64:=Nat.le_of_ble_eq_true hbb.2
      simp only [out,Bool.or_eq_true] at hm
      rcases hm with hm | hm
      ·have:m+1≤n:=Nat.le_of_ble_eq_true hm; omega
      ·have:=Nat.le_of_ble_eq_true hm; omega
    simp only [ηy,this,cond_false]
   refine (ok_callC (Y:={ y:List Hd // y.length=nhL C.rs }) (val:=fun y=>retV C.nr C.rs r y.1) (fcts:=fun y=>(resL C.rs r C.ms 0).map (AF.ha (ηL y.1))++outF C.rs r y.1 C.nr (blks (hdsL η l) C.bl) 130)
    (Φ:=fun y=>((resL C.rs r C.ms 0).map (AF.inst n N Ka)++outA C.rs r n C.nr bs (N+128)).map (AF.ha (ηy y)))
    (fun w c0 hH=>hs (hdsL η l) (by simp [hdsL,d2]) w c0 hH) ho hcv hargs hf hb hnm Ka μ hq
    (fun w c hH=>(d3 w c (mu μ Ka) (fun A hA=>hH A (List.mem_append_left _ hA)) (fun kk hk=>Nat.eq_of_beq_eq_true (List.all_eq_true.1 hKa kk hk)) fun p hp=>Nat.eq_of_beq_eq_true (List.all_eq_true.1 hμ p hp)).append
     (glh_mu hq1 fun A hA=>hH A (List.mem_append_right _ hA))) ?_ ?_ hN).map
    (fun y=>⟨ηy y,?_⟩) (fun y=>?_) fun y=>rfl
   ·intro y
    rw [List.all_append,Bool.and_eq_true]
    refine ⟨List.all_eq_true.2 fun A hA=>?_,outF_leaves _ _ _ _ _ _ (by omega)⟩
    obtain ⟨B,hB,rfl⟩:=List.mem_map.1 hA
    exact (resL_leaves _ _ _ _ B hB).1
   ·intro y
    simp only [List.map_append]
    congr 1
    ·rw [List.map_map,List.map_map]
     refine List.map_congr_left fun f hf=>?_
     refine inst_ha f ?_ (resL_leaves (η:=η) _ _ _ _ f hf).2
     have hlt:=resL_hd _ _ _ _ f hf
     exact hat y _ (by omega)
    ·rw [outF_inst,outA_ha C.rs r y.1 n C.nr bs (N+128) (hnamed y) (by rw [y.2]; exact Nat.le_refl _),bnms_ok (η:=η) hbs]
     congr 1
     refine List.map_congr_left fun b hb=>?_
     have hbf:=List.all_eq_true.1 hfree b hb
     cases b with
     | b _=>rfl
     | r hh e=>simp only [ObA.v,(hagr y hh hbf).1]
   ·exact hagr y
   ·exact (retAV_val C.rs r y.1 n (hnamed y) (by rw [y.2]; exact Nat.le_refl _)).symm
  ·exact Snd.none
 ·exact halt
def sCtrs (f:FuncId) (vs:List AV) (ex:Option Bool) (n N:Nat) (F:List AF) (k:Out→Option R):List Ctr→Option R
 | []=>none
 | C::r=>sSig C.toSig C.fn vs ex n N F k (sCtrs f vs ex n N F k r)
def sDyn (f:Nat) (vs:List AV) (ex:Option Bool) (n N:Nat) (F:List AF) (k:Out→Option R):List DCtr→Option R
 | []=>none
 | C::r=>sSig C.toSig (C.fn f) vs ex n N F k (sDyn f vs ex n N F k r)
def sCall (Γ:Ct) (D:List DCtr) (E:SE) (ex:Option Bool) (n N:Nat) (v0:AV) (xs:List Operand) (F:List AF) (k:Out→Option R):Option R:=match evs E xs with
 | some vs=>match v0 with
  | .lf (.fn f)=>sCtrs f (vs++[]) ex n N F k (Γ f)
  | .lf (.clo f b)=>sCtrs f (vs++[.lf (.bp b 0)]) ex n N F k (Γ f)
  | .lf (.c .fnc f)=>sDyn f (vs++[]) ex n N F k D
  | _=>none
 | none=>none
theorem sCall_ok {Γ:Ct} (hΓ:Γ.ok P) {D:List DCtr} (hD : ∀ C∈D,DCtr.sound P C) {N:Nat} {v0:AV} {x0:Operand} {xs:Array Operand} {ts:Array TypeId} (ho:o.op = .call { callee:=.value x0,args:=xs,argTypes:=ts }) (h0:ev E x0=some v0) (k:Out→Option R) :
  Snd ex P o E F n (sCall Γ D E ex n N v0 xs.toList F k) k:=by
 have all : ∀ {f:FuncId} {vs cap:List AV} {l:List Ctr},calleeV v0=some (f,cap)→evs E xs.toList=some vs→(∀ C∈l,Ctr.sound P f C)→Snd ex P o E F n (sCtrs f (vs++cap) ex n N F k l) k:=by
  intro f vs cap l hv hvs hl
  induction l with
  | nil=>exact Snd.none
  | cons C r ih=>exact sSig_ok (hl C List.mem_cons_self) ho h0 hv hvs k (ih fun C hC=>hl C (List.mem_cons_of_mem _ hC))
 have dyn : ∀ {f:FuncId} {vs cap:List AV} {l:List DCtr},calleeV v0=some (f,cap)→evs E xs.toList=some vs→(∀ C∈l,DCtr.sound P C)→Snd ex P o E F n (sDyn f (vs++cap) ex n N F k l) k:=by
  intro f vs cap l hv hvs hl
  induction l with
  | nil=>exact Snd.none
  | cons C r ih=>exact sSig_ok (hl C List.mem_cons_self f) ho h0 hv hvs k (ih fun C hC=>hl C (List.mem_cons_of_mem _ hC))
 unfold sCall
 split
 ·rename_i vs hvs
  split
  ·exact all rfl hvs (hΓ _)
  ·exact all rfl hvs (hΓ _)
  ·exact dyn rfl hvs hD
  ·exact Snd.none
 ·exact Snd.none
end
end
end Go.Sm
