/- Laws for the row. No condition. -/
import Derived.Test.YtfhhiajfciblbaaGreatDoorRfT
namespace Go.Sm
set_option linter.unusedSectionVars false
variable {N:Nat} {w:World} {Ka:List Nat} {xs:Array Operand} {ts:Array TypeId} {μ:List (Nat×Nat)}
section
variable [X:XTab] [G:GTab]
abbrev eL:List TC→Type
 | []=>Unit
 | [t]=>t.den
 | t::r=>t.den×eL r
def jC:List TC→Nat
 | []=>0
 | t::r=>t.nh+jC r
def mK (t:TC) (x:t.den) (y:t.ty.Refs):Value:=match t,x,y with
 | .sc s,x,_=>s.val x
 | .arr n s,x,_=>.agg ((TC.arr n s).ty.fill x ()).toArray
 | .unit,_,_=>.agg #[]
 | .pair a b,x,y=>.agg ((TC.pair a b).ty.fill x y).toArray
 | .st a,x,y=>.agg (a.ty.fill x y).toArray
 | .slice _,_,h=>Hd.val h
 | .ext k,x,_=>X.val k x
 | .node,x,h=>.agg (Ty.node.fill x h).toArray
 | .mp _ _,_,h=>.map (some (Hd.blk h))
def li:(ts:List TC)→eL ts→List Hd→List Value
 | [],_,_=>[]
 | [t],x,l=>[mK t x (aO t l)]
 | t::t' :: r,x,l=>mK t x.1 (aO t l)::li (t' :: r) x.2 (l.drop t.nh)
structure RM where
 own:Option TypeId
 one:Bool
 new:Bool
def RM.K (m:RM) (c:Nat):List Nat:=(bif m.one then [1] else [])++(bif m.new then [c] else [])
def gI:(t:TC)→t.den→List RM→Nat→List AF
 | .pair a b,x,ms,j=>gI a x.1 ms j++gI b x.2 (ms.drop a.nh) (j+a.nh)
 | .slice t,xs,m::_,j=>match m.own with
  | some e=>bif Nat.ble 4194304 e && !(fG e) then [] else [.own t e (2+2 * j) (m.K 129) xs j]
  | none=>[.rep t (m.K 129) xs j]
 | .st a,x,ms,j=>gI a x ms j
 | .mp k v,xs,m::_,j=>match m.own with
  | some _=>[.mp k v (2+2 * j) xs j]
  | none=>[]
 | _,_,_,_=>[]
def pI:(ts:List TC)→eL ts→List RM→Nat→List AF
 | [],_,_,_=>[]
 | [t],x,ms,j=>gI t x ms j
 | t::t' :: r,x,ms,j=>gI t x.1 ms j++pI (t' :: r) x.2 (ms.drop t.nh) (j+t.nh)
inductive PC
 | d (t:TC)
 | own (t:TC) (e:TypeId)
 | box (m:Bool) (t:TC) (os:List (Option TypeId))
 | fn (f:FuncId)
 | clo (f:FuncId) (t:TC)
 | prt (t:TC) (e:TypeId)
abbrev PC.den:PC→Type
 | .d t=>t.den
 | .own t _=>List t.den
 | .box _ t _=>t.den
 | .fn _=>Unit
 | .clo _ t=>t.den
 | .prt t _=>List t.den×Int×Int
abbrev lh:List PC→Type
 | []=>Unit
 | [p]=>p.den
 | p::q::r=>p.den×lh (q::r)
def PC.nh:PC→Nat
 | .d t=>t.nh
 | .own _ _=>1
 | .box _ t _=>1+t.nh
 | .fn _=>0
 | .clo _ t=>1+t.nh
 | .prt _ _=>2
def rF:List PC→Nat
 | []=>0
 | p::r=>p.nh+rF r
def PC.nc:PC→Nat
 | .own _ _=>1
 | .box _ t _=>1+t.nh
 | .prt _ _=>1
 | _=>0
def PC.val:(p:PC)→p.den→List Hd→Value
 | .d t,x,l=>mK t x (aO t l)
 | .own _ _,_,l=>(l.headD eR).val
 | .box _ _ _,_,l=>.pointer (some ⟨(l.headD eR).blk,0,none⟩)
 | .fn f,_,_=>.func (.func f) #[] #[]
 | .clo f _,_,l=>.func (.func f) #[] #[.pointer (some ⟨(l.headD eR).blk,0,none⟩)]
 | .prt _ _,_,l=>(l.tail.headD eR).val
def nG:(ps:List PC)→lh ps→List Hd→List Value
 | [],_,_=>[]
 | [p],x,l=>[p.val x l]
 | p::p' :: r,x,l=>p.val x.1 l::nG (p' :: r) x.2 (l.drop p.nh)
def jy:(t:TC)→t.den→t.ty.Refs→List (Option TypeId)→Nat→List HA
 | .pair a b,x,y,os,q=>jy a x.1 y.1 os q++jy b x.2 y.2 (os.drop a.nh) (q+a.nh)
 | .slice t,xs,h,os,q=>match os with
  | some e::_=>[eh t.ty e q [1] xs h]
  | _=>[.rep t.ty [1] xs h]
 | .st a,x,y,os,q=>jy a x y os q
 | .sc _,_,_,_,_=>[]
 | .arr _ _,_,_,_,_=>[]
 | .unit,_,_,_,_=>[]
 | .ext _,_,_,_,_=>[]
 | .node,x,h,_,_=>[.rep .node [1] x.tup.2.2.2 h]
 | .mp k v,xs,h,os,q=>match os with
  | some _::_=>[.mp q (Hd.blk h) (yI k v xs)]
  | _=>[]
def PC.facts:(p:PC)→p.den→List Hd→Nat→List HA
 | .d t,x,l,_=>Go.Sm.facts t.ty [1] x (aO t l)
 | .own t e,xs,l,q=>[eh t.ty e q [1] xs (l.headD eR)]
 | .box m t os,x,l,q=>.box (bif m then q else 1) (l.headD eR).blk (t.ty.fill x (aO t (l.drop 1)))::jy t x (aO t (l.drop 1)) (bif m then os else []) (q+1)
 | .fn _,_,_,_=>[]
 | .clo _ t,x,l,q=>.box 1 (l.headD eR).blk (t.ty.fill x (aO t (l.drop 1)))::jy t x (aO t (l.drop 1)) [] (q+1)
 | .prt t e,x,l,q=>[eh t.ty e q [1] x.1 (l.headD eR), .pure (pX (l.tail.headD eR) (l.headD eR) t.ty.sz x.2.1 x.2.2)]
def pR:(ps:List PC)→lh ps→List Hd→Nat→List HA
 | [],_,_,_=>[]
 | [p],x,l,q=>p.facts x l q
 | p::p' :: r,x,l,q=>p.facts x.1 l q++pR (p' :: r) x.2 (l.drop p.nh) (q+p.nc)
def BS (nr:Nat) (ts:List TC) (x:eL ts) (l:List Hd):Value:=match (li ts x l).take nr with
 | [v]=>v
 | vs=>.tuple vs.toArray
def nx {α:Type} (s:Nat) (a b:α):α:=match s with
 | 0=>a
 | _=>b
def xl:(t:TC)→t.den→Hd→TypeId→Nat→List HA
 | .slice t,xs,h,e,c=>bif t.ty.pureB||fG e then [eh t.ty e c [] xs h] else []
 | _,_,_,_,_=>[]
inductive ObH
 | b (n:Nat)
 | r (h:Hd) (e:TypeId)
def rQ (t:TC) (x:t.den) (l:List Hd) (s:Nat) (bs:List ObH) (c:Nat):List HA:=match s,bs with
 | 0, .b b::_=>[.box c b (t.ty.fill x (aO t l))]
 | 0, .r h e::_=>xl t x h e c
 | _,_=>[]
def qh:(ts:List TC)→eL ts→List Hd→Nat→List ObH→Nat→List HA
 | [],_,_,_,_,_=>[]
 | [t],x,l,s,bs,c=>rQ t x l s bs c
 | t::t' :: r,x,l,s,bs,c=>rQ t x.1 l s bs c++qh (t' :: r) x.2 (l.drop t.nh) (s - 1) (nx s bs.tail bs) (nx s (c+1) c)
structure Sig where
 ps:List PC
 rs:List TC
 nr:Nat
 bl:List Nat
 ms:List RM
def ηL (l:List Hd):Vn:=⟨fun m=>l.getD m eR,fun m=>(l.getD m eR).blk⟩
def xJ (w0:World) (c0:bD) {Y:Type} (val:Y→Value) (facts:Y→List HA) (e:Ending) (w' : World):Prop:=
 ∃ y c',e = .returned (val y)∧nP w0 w' ∧ w0.heap.size≤w'.heap.size∧(∀ b,b<w0.heap.size→c0 b≤1→w'.heap[b]? = w0.heap[b]? ∧ c' b=c0 b) ∧
  (∀ b,b<w'.heap.size→(b<w0.heap.size→2≤c0 b)→2≤c' b)∧am w' c' (facts y)
def obH (l:List Hd) (k:Nat):ObH:=bif Nat.blt k 64 then .b (l.getD k eR).blk else .r (l.getD (k % 64) eR) (k / 64 - 1)
def DE (l:List Hd) (bl:List Nat):List ObH:=bl.map (obH l)
def Ur (P:Program) (f:FuncId) (C:Sig) (x:lh C.ps) (r:eL C.rs):Prop:=
 (∃ fn cd,P.funcs[f]? = some fn∧fn.body=some cd∧(fn.name == "runtime.NumGoroutine")=false) ∧
 ∀ (l:List Hd),l.length=rF C.ps→∀ (w:World) (c0:bD),am w c0 (pR C.ps x l 2++ov) →
  Calls P f (nG C.ps x l).toArray w (xJ w c0 (fun y : { y:List Hd // y.length=jC C.rs }=>BS C.nr C.rs r y.1)
   (fun y=>(pI C.rs r C.ms 0).map (AF.ha (ηL y.1))++qh C.rs r y.1 C.nr (DE l C.bl) 130))
structure Ctr extends Sig where
 fn:lh ps→Option (eL rs)
structure DCtr extends Sig where
 fn:Nat→lh ps→Option (eL rs)
def Ctr.sound (P:Program) (f:FuncId) (C:Ctr):Prop:=∀ x r,C.fn x=some r→Ur P f C.toSig x r
def DCtr.sound (P:Program) (C:DCtr):Prop:=∀ f x r,C.fn f x=some r→Ur P f C.toSig x r
abbrev Ct:=FuncId→List Ctr
def Ct.ok (Γ:Ct) (P:Program):Prop:=∀ f,∀ C∈Γ f,C.sound P f
def mu (μ:List (Nat×Nat)) (Ka:List Nat) (k:Nat):Nat:=match μ with
 | []=>bif cf k Ka then 1 else 0
 | (i,q)::r=>bif Nat.beq k i then q else mu r Ka k
theorem sQ {Ka:List Nat} {k:Nat} : ∀ {μ:List (Nat×Nat)},k∉μ.map (·.1)→mu μ Ka k≤1∧(mu μ Ka k=1→k∈Ka)
 | [],_=>by
  simp only [mu]
  cases hm:cf k Ka
  ·simp
  ·simp [mem_iff.1 hm]
 | (i,q)::r,h=>by
  simp only [XH,Xb,not_or] at h
  have:Nat.beq k i=false:=by
   cases hb:Nat.beq k i
   ·rfl
   simp_all
  simp only [mu,this,no]
  exact sQ h.2
theorem P2 {Ka:List Nat} {k:Nat} : ∀ {μ:List (Nat×Nat)},μ.all (fun p=>Nat.ble 2 p.2)=true→k∈μ.map (·.1)→2≤mu μ Ka k
 | [],_,h=>by simp at h
 | (i,q)::r,hq,h=>by
  simp only [aas,Wp] at hq
  simp only [mu]
  cases hb:Nat.beq k i
  ·simp only [XH,Xb] at h
   rcases h with h | h
   ·simp_all
   ·exact P2 hq.2 h
  simp_all
def ta (w:World) (c:bD) (κ:List Nat) (N:Nat) (c' : bD):bD:=open Classical in fun b=>if b<w.heap.size∧c b∉κ then c b else N+(c' b - 2)
theorem instC_holds {w':World} {c c' : bD} {κ:List Nat} (hold : ∀ b,b<w.heap.size→c b∉κ→c' b≤1∧(c' b=1→c b∈Ka)) (hnew : ∀ b,b<w'.heap.size→(b<w.heap.size→c b∈κ)→2≤c' b) :
  (A:HA)→A.leaves=true→A.holds w' c' → (A.inst N Ka).holds w' (ta w c κ N c'):=by
 have hK : ∀ K:List Nat,K.all (fun k=>Nat.ble 1 k)=true→jG w' w' (fun b=>c' b∈K) (fun b=>ta w c κ N c' b∈instK N Ka K):=by
  intro K hK b hb hc
  refine ⟨?_,rfl⟩
  show ta w c κ N c' b∈_
  unfold ta
  split
  ·rename_i hlt
   have h1:1≤c' b:=Wt (W3.1 hK _ hc)
   obtain ⟨ho,hS⟩:=hold b hlt.1 hlt.2
   have:c' b=1:=by omega
   exact instK_one (this ▸ hc) (hS this)
  ·rename_i hge
   have h2:=hnew b hb (fun hlt=>Classical.byContradiction fun hn=>hge ⟨hlt,hn⟩)
   have:c' b=(c' b - 2)+2:=by omega
   exact instK_mem (this ▸ hc)
 have hi : ∀ i b,2≤i→c' b=i→ta w c κ N c' b=N+(i - 2):=by
  intro i b h2 hc
  unfold ta
  grind
 intro A hl hA
 cases A with
 | tr t e i K xs v=>
  simp only [HA.leaves,Wp] at hl
  exact cM.keep (fun b hb hc=>⟨hi i b (Wt hl.1) hc,rfl⟩) hA
 | hol t e i xs v k cs=>exact kG.keep (fun b hb hc=>⟨hi i b (Wt hl) hc,rfl⟩) hA
 | rep t K xs v=>exact bT.keep (hK K hl) (.slice t) xs v hA
 | own t e i K xs v=>
  simp only [HA.leaves,Wp] at hl
  obtain ⟨ys,h1,h2,h3⟩:=hA
  exact ⟨ys,h1.mono (bT.keep (hK K hl.2) t),h2,fun g hg=>hi i g (Wt hl.1) (h3 g hg)⟩
 | box i b cs=>
  obtain ⟨⟨ty,hb⟩,hc⟩:=hA
  exact ⟨⟨ty,hb⟩,hi i b (Wt hl) hc⟩
 | elem t K x p=>
  obtain ⟨y,b,off,arr,ty,fz,hp,hc,hb,h1,h2,h3⟩:=hA
  exact ⟨y,b,off,arr,ty,fz,hp,(hK K hl b (YD.1 hb).1 hc).1,hb,h1,h2,bT.keep (hK K hl) t x y h3⟩
 | old w0 S=>simp [HA.leaves] at hl
 | pure p=>exact hA
 | gl g n cs=>simp [HA.leaves] at hl
 | pt t e i K xs v m=>
  simp only [HA.leaves,Wp] at hl
  exact wy.keep (fun b _ hc=>⟨hi i b (Wt hl.1) hc,rfl⟩) (hK K hl.2) hA
 | mp i b es=>
  exact tj.keep (S:=fun b=>c' b=i) (fun b _ hc=>⟨hi i b (Wt hl) hc,rfl⟩) hA
theorem abe {P:Program} {ρ:dm} {L:List HA} {o:Oper} {x:Operand} {f:FuncId} {fn:Func} {args cap:List Value} {Y:Type} {val:Y→Value} {fcts:Y→List HA} {pre:List HA} {cd:Code}
  (hc : ∀ w c0,am w c0 pre→Calls P f args.toArray w (xJ w c0 val fcts))
  (ho:o.op = .call { callee:=.value x,args:=xs,argTypes:=ts }) (hx:aR ρ x = .func (.func f) #[] cap.toArray) (hargs:xs.toList.map (aR ρ)++cap=args)
  (hf:P.funcs[f]? = some fn) (hb:fn.body=some cd) (hname:(fn.name == "runtime.NumGoroutine")=false) (Ka:List Nat) (μ:List (Nat×Nat)) (hq:μ.all (fun p=>Nat.ble 2 p.2)=true)
  (hpre : ∀ w c,am w c L→am w (fun b=>mu μ Ka (c b)) pre)
  (hl : ∀ y,(fcts y).all HA.leaves=true)  {Φ:Y→List HA} (hΦ : ∀ y,(fcts y).map (HA.inst N Ka)=Φ y) (hN:Nat.ble 2 N=true) :
  c9 P ρ o L (μ.map (·.1)) val Φ:=by
 intro a ev w c next Q ha hL hk
 have h2:2≤N:=Wt hN
 have hn' : ¬ fn.name = "runtime.NumGoroutine" := by grind
 have hargs' : xs.map (aR ρ)++cap.toArray=args.toArray:=by grind
 have hrun:(execOp ev o).run P w = .ok (.enter f args.toArray) w:=by
  simp [execOp,ho,resolve,ha,hx,Deferred.ofValue,invoke,callFunc,hf,hb,hn',hargs',Result.andThen]
 rw [hrun,Oper.upon_enter]
 refine (hc w (fun b=>mu μ Ka (c b)) (hpre w c hL)).mono ?_
 rintro e w' ⟨y,c',rfl,henv,h1,hold,hnew,hF⟩
 refine hk y w' (ta w c (μ.map (·.1)) N c') ⟨h1,fun b hb hn=>by simp only [ta]; grind,fun b hb hn=>(hold b hb (sQ hn).1).1,fun b hb hb' => ?_,henv⟩ ?_
 ·simp only [ta]
  grind
 ·rw [← hΦ y]
  intro A hA
  obtain ⟨B,hB,rfl⟩:=W6.1 hA
  refine instC_holds (fun b hb hn=>?_) (fun b hb hn=>hnew b hb fun hlt=>P2 hq (hn hlt)) B (W3.1 (hl y) B hB) (hF B hB)
  have:=(hold b hb (sQ hn).1).2
  rw [this]; exact sQ hn
def AF.inst (n N:Nat) (Ka:List Nat):AF→AF
 | .rep t K xs h=>.rep t (instK N Ka K) xs (n+h)
 | .own t e i K xs h=>.own t e (N+(i - 2)) (instK N Ka K) xs (n+h)
 | .box i b cs=>.box i b cs
 | .isn h b=>.isn h b
 | .prt a b s l h=>.prt a b s l h
 | .hol t e i xs h k cs=>.hol t e i xs h k cs
 | .mp k v i xs h=>.mp k v (N+(i - 2)) xs (n+h)
 | .pt t e i K xs h m=>.pt t e (N+(i - 2)) (instK N Ka K) xs (n+h) m
def AF.isBox:AF→Bool
 | .box _ _ _=>true
 | .isn _ _=>true
 | .prt _ _ _ _ _=>true
 | .hol _ _ _ _ _ _ _=>true
 | _=>false
theorem pP {η:Vn} : ∀ (t:TC) (x:t.den) (ms:List RM) (j:Nat),∀ f∈gI t x ms j,(f.ha η).leaves=true∧f.isBox=false
 | .pair a b,x,ms,j,f,h=>by
  simp only [gI,Xd] at h
  rcases h with h | h
  ·exact pP a _ _ _ f h
  ·exact pP b _ _ _ f h
 | .slice t,xs,[],j,f,h=>by simp [gI] at h
 | .slice t,xs,m::r,j,f,h=>by
  have hK : ∀ c,1≤c→(m.K c).all (fun k=>Nat.ble 1 k)=true:=by
   intro c hc
   refine W3.2 fun k hk=>Yb ?_
   simp only [RM.K,Xd] at hk
   grind
  simp only [gI] at h
  split at h
  ·rename_i e _
   cases he:(Nat.ble 4194304 e && !(fG e))
   ·rw [he] at h
    simp only [no,Wz] at h
    subst h
    refine ⟨?_,rfl⟩
    simp only [AF.ha,vP,Wp]
    exact ⟨Yb (by omega),hK _ (by omega)⟩
   grind
  ·simp only [Wz] at h
   subst h
   exact ⟨hK _ (by omega),rfl⟩
 | .st a,x,ms,j,f,h=>pP a x ms j f h
 | .sc _,_,_,_,_,h=>by simp [gI] at h
 | .arr _ _,_,_,_,_,h=>by simp [gI] at h
 | .unit,_,_,_,_,h=>by simp [gI] at h
 | .ext _,_,_,_,_,h=>by simp [gI] at h
 | .node,_,_,_,_,h=>by simp [gI] at h
 | .mp _ _,_,[],_,_,h=>by simp [gI] at h
 | .mp _ _,_,m::_,_,_,h=>by
  simp only [gI] at h
  split at h
  ·simp only [Wz] at h
   subst h
   exact ⟨Yb (by omega),rfl⟩
  ·cases h
theorem vO {η:Vn} : ∀ (ts:List TC) (x:eL ts) (ms:List RM) (j:Nat),∀ f∈pI ts x ms j,(f.ha η).leaves=true∧f.isBox=false
 | [],_,_,_,_,h=>by simp [pI] at h
 | [t],x,ms,j,f,h=>pP t x ms j f h
 | t::t' :: r,x,ms,j,f,h=>by
  simp only [pI,Xd] at h
  rcases h with h | h
  ·exact pP t _ _ _ f h
  ·exact vO (t' :: r) _ _ _ f h
def AF.hdN:AF→Nat
 | .rep _ _ _ h=>h
 | .own _ _ _ _ _ h=>h
 | .box _ _ _=>0
 | .isn _ _=>0
 | .prt _ _ _ _ _=>0
 | .hol _ _ _ _ _ _ _=>0
 | .mp _ _ _ _ h=>h
 | .pt _ _ _ _ _ h _=>h
theorem inst_ha {n:Nat} {l:List Hd} {η:Vn}:(f:AF)→η.h (n+f.hdN)=(ηL l).h f.hdN→f.isBox=false→HA.inst N Ka (f.ha (ηL l))=(f.inst n N Ka).ha η
 | .rep t K xs h,hη,_=>by
  simp only [AF.hdN] at hη
  simp only [AF.ha,HA.inst,AF.inst,hη]
 | .own t e i K xs h,hη,_=>by
  simp only [AF.hdN] at hη
  simp only [AF.ha,yY,AF.inst,hη]
 | .box _ _ _,_,h=>by cases h
 | .isn _ _,_,h=>by cases h
 | .prt _ _ _ _ _,_,h=>by cases h
 | .hol _ _ _ _ _ _ _,_,h=>by cases h
 | .mp k v i xs h,hη,_=>by
  simp only [AF.hdN] at hη
  simp only [AF.ha,HA.inst,AF.inst,hη]
 | .pt t e i K xs h m,hη,_=>by
  simp only [AF.hdN] at hη
  simp only [AF.ha,HA.inst,AF.inst,hη]
theorem wB : ∀ (t:TC) (x:t.den) (ms:List RM) (j:Nat),∀ f∈gI t x ms j,f.hdN<j+t.nh
 | .pair a b,x,ms,j,f,h=>by
  simp only [gI,Xd] at h
  simp only [TC.nh]
  rcases h with h | h
  ·have:=wB a _ _ _ f h; omega
  ·have:=wB b _ _ _ f h; omega
 | .slice t,xs,[],j,f,h=>by simp [gI] at h
 | .slice t,xs,m::r,j,f,h=>by
  simp only [gI] at h
  split at h
  ·rename_i e _
   cases he:(Nat.ble 4194304 e && !(fG e))
   ·rw [he] at h
    simp only [no,Wz] at h; subst h; simp [AF.hdN,TC.nh]
   grind
  ·simp only [Wz] at h; subst h; simp [AF.hdN,TC.nh]
 | .st a,x,ms,j,f,h=>wB a x ms j f h
 | .sc _,_,_,_,_,h=>by simp [gI] at h
 | .arr _ _,_,_,_,_,h=>by simp [gI] at h
 | .unit,_,_,_,_,h=>by simp [gI] at h
 | .ext _,_,_,_,_,h=>by simp [gI] at h
 | .node,_,_,_,_,h=>by simp [gI] at h
 | .mp _ _,_,[],_,_,h=>by simp [gI] at h
 | .mp _ _,_,m::_,_,_,h=>by
  simp only [gI] at h
  split at h
  ·simp only [Wz] at h
   subst h
   simp [AF.hdN,TC.nh]
  ·cases h
theorem Nu : ∀ (ts:List TC) (x:eL ts) (ms:List RM) (j:Nat),∀ f∈pI ts x ms j,f.hdN<j+jC ts
 | [],_,_,_,_,h=>by simp [pI] at h
 | [t],x,ms,j,f,h=>by have:=wB t x ms j f h; simp only [jC]; omega
 | t::t' :: r,x,ms,j,f,h=>by
  simp only [pI,Xd] at h
  have e:jC (t::t' :: r)=t.nh+jC (t' :: r):=rfl
  rcases h with h | h
  ·have:=wB t _ _ _ f h; omega
  ·have:=Nu (t' :: r) _ _ _ f h; omega
def Bi:(ts:List TC)→eL ts→Nat→List AV
 | [],_,_=>[]
 | [t],x,n=>[ra t x n]
 | t::t' :: r,x,n=>ra t x.1 n::Bi (t' :: r) x.2 (n+t.nh)
def xT (nr:Nat) (ts:List TC) (x:eL ts) (n:Nat):AV:=match (Bi ts x n).take nr with
 | [v]=>v
 | vs=>.tu vs
def Xu:(t:TC)→t.den→Nat→TypeId→Nat→List AF
 | .slice t,xs,h,e,c=>bif t.ty.pureB||fG e then [.own t e c [] xs h] else []
 | _,_,_,_,_=>[]
inductive ObA
 | b (n:Nat)
 | r (h:Nat) (e:TypeId)
def ObA.v (η:Vn):ObA→ObH
 | .b n=>.b (η.b n)
 | .r h e=>.r (η.h h) e
def ObA.free (n:Nat):ObA→Bool
 | .b _=>true
 | .r h _=>bw n h
def Cn (t:TC) (x:t.den) (n:Nat) (s:Nat) (bs:List ObA) (c:Nat):List AF:=match s,bs with
 | 0, .b b::_=>[.box c b (jL t x n)]
 | 0, .r h e::_=>Xu t x h e c
 | _,_=>[]
theorem agv {η:Vn} : ∀ (t:TC) (x:t.den) (h:Nat) (e:TypeId) (c:Nat),(Xu t x h e c).map (AF.ha η)=xl t x (η.h h) e c
 | .slice t,xs,h,e,c=>by
  simp only [Xu,xl]
  cases (t.ty.pureB||fG e) <;> rfl
 | .sc _,_,_,_,_=>rfl
 | .arr _ _,_,_,_,_=>rfl
 | .unit,_,_,_,_=>rfl
 | .pair _ _,_,_,_,_=>rfl
 | .st _,_,_,_,_=>rfl
 | .ext _,_,_,_,_=>rfl
 | .node,_,_,_,_=>rfl
 | .mp _ _,_,_,_,_=>rfl
theorem MA : ∀ (t:TC) (x:t.den) (h:Hd) (e:TypeId) (c:Nat),2≤c→(xl t x h e c).all HA.leaves=true
 | .slice t,xs,h,e,c,hc=>by
  simp only [xl]
  cases (t.ty.pureB||fG e) <;> simp [vP,hc]
 | .sc _,_,_,_,_,_=>rfl
 | .arr _ _,_,_,_,_,_=>rfl
 | .unit,_,_,_,_,_=>rfl
 | .pair _ _,_,_,_,_,_=>rfl
 | .st _,_,_,_,_,_=>rfl
 | .ext _,_,_,_,_,_=>rfl
 | .node,_,_,_,_,_=>rfl
 | .mp _ _,_,_,_,_,_=>rfl
theorem Vd : ∀ (t:TC) (x:t.den) (h:Hd) (e:TypeId) (c:Nat),(xl t x h e (c+2)).map (HA.inst N Ka)=xl t x h e (N+c)
 | .slice t,xs,h,e,c=>by
  simp only [xl]
  cases (t.ty.pureB||fG e) <;> simp [yY,instK]
 | .sc _,_,_,_,_=>rfl
 | .arr _ _,_,_,_,_=>rfl
 | .unit,_,_,_,_=>rfl
 | .pair _ _,_,_,_,_=>rfl
 | .st _,_,_,_,_=>rfl
 | .ext _,_,_,_,_=>rfl
 | .node,_,_,_,_=>rfl
 | .mp _ _,_,_,_,_=>rfl
def LX:(ts:List TC)→eL ts→Nat→Nat→List ObA→Nat→List AF
 | [],_,_,_,_,_=>[]
 | [t],x,n,s,bs,c=>Cn t x n s bs c
 | t::t' :: r,x,n,s,bs,c=>Cn t x.1 n s bs c++LX (t' :: r) x.2 (n+t.nh) (s - 1) (nx s bs.tail bs) (nx s (c+1) c)
def ja (η:Vn) (n:Nat) (l:List Hd):Prop:=∀ j h,l[j]? = some h→η.h (n+j)=h
theorem jk {η:Vn}:(t:TC)→(x:t.den)→(l:List Hd)→(n:Nat)→ja η n l→t.nh≤l.length→aw η (jL t x n)=t.ty.fill x (aO t l)
 | .sc _,_,_,_,_,_=>rfl
 | .arr _ _,_,_,_,_,_=>by simp [jL,aw,Lf.cells,Ty.fill]
 | .unit,_,_,_,_,_=>rfl
 | .pair a b,x,l,n,h,hl=>by
  simp only [TC.nh] at hl
  simp only [jL,bd,Ty.fill,aO]
  rw [jk a x.1 l n h (by omega),jk b x.2 (l.drop a.nh) (n+a.nh) (fun j hh hj=>by
   rw [ZT] at hj
   have:=h _ hh hj
   grind) (by simp; omega)]
 | .slice _,x,l,n,h,hl=>by
  simp only [TC.nh] at hl
  cases l with
  | nil=>simp at hl
  | cons hd r=>
   have:=h 0 hd rfl
   simp only [Yk] at this
   simp [jL,aw,Lf.cells,Ty.fill,aO,this]
 | .st a,x,l,n,h,hl=>jk a x l n h hl
 | .ext _,_,_,_,_,_=>rfl
 | .node,x,l,n,h,hl=>by
  simp only [TC.nh] at hl
  cases l with
  | nil=>simp at hl
  | cons hd r=>
   have:=h 0 hd rfl
   simp only [Yk] at this
   simp [jL,aw,Lf.cells,Ty.fill,Nd.fill,aO,this]
 | .mp _ _,x,l,n,h,hl=>by
  simp only [TC.nh] at hl
  cases l with
  | nil=>simp at hl
  | cons hd r=>
   have:=h 0 hd rfl
   simp only [Yk] at this
   simp [jL,aw,Lf.cells,Ty.fill,aO,this]
theorem y7 {η:Vn} (t:TC) (x:t.den) (l:List Hd) (n:Nat) (h:ja η n l) (hl:t.nh≤l.length):(ra t x n).val η=mK t x (aO t l):=by
 cases t with
 | sc s=>rfl
 | arr m s=>rfl
 | unit=>rfl
 | pair a b=>simp only [ra,AV.val,mK]; rw [jk _ x l n h hl]
 | st a=>simp only [ra,AV.val,mK,aO]; rw [jk a x l n h hl]
 | slice t=>
  simp only [TC.nh] at hl
  cases l with
  | nil=>simp at hl
  | cons hd r=>
   have:=h 0 hd rfl
   simp only [Yk] at this
   simp [ra,AV.val,Lf.val,mK,aO,this]
 | ext k=>rfl
 | node=>simp only [ra,AV.val,mK]; rw [jk .node x l n h hl]
 | mp k v=>
  simp only [TC.nh] at hl
  cases l with
  | nil=>simp at hl
  | cons hd r=>
   have:=h 0 hd rfl
   simp only [Yk] at this
   simp [ra,AV.val,Lf.val,mK,aO,this]
theorem EM {η:Vn} : ∀ (ts:List TC) (x:eL ts) (l:List Hd) (n:Nat),ja η n l→jC ts≤l.length→AV.vals η (Bi ts x n)=li ts x l
 | [],_,_,_,_,_=>rfl
 | [t],x,l,n,h,hl=>by
  simp only [jC] at hl
  simp only [Bi,AV.vals,li]
  rw [y7 t x l n h (by omega)]
 | t::t' :: r,x,l,n,h,hl=>by
  simp only [jC] at hl
  simp only [Bi,AV.vals,li]
  rw [y7 t x.1 l n h (by omega),EM (t' :: r) x.2 (l.drop t.nh) (n+t.nh) (fun j hh hj=>by
   rw [ZT] at hj
   have:=h _ hh hj
   grind) (by simp only [jC,aaT]; omega)]
theorem EQ {η:Vn} : ∀ (vs:List AV) (k:Nat),AV.vals η (vs.take k)=(AV.vals η vs).take k
 | [],k=>by cases k <;> rfl
 | v::r,0=>rfl
 | v::r,k+1=>by simp only [afN,AV.vals,EQ r k]
theorem EU {η:Vn} {nr:Nat} (ts:List TC) (x:eL ts) (l:List Hd) (n:Nat) (h:ja η n l) (hl:jC ts≤l.length):(xT nr ts x n).val η=BS nr ts x l:=by
 have e:=EM ts x l n h hl
 have e2:=EQ (η:=η) (Bi ts x n) nr
 rw [e] at e2
 unfold xT BS
 rw [← e2]
 generalize (Bi ts x n).take nr=vs
 cases vs with
 | nil=>rfl
 | cons v r=>cases r <;> rfl
theorem ae1 {η:Vn} : ∀ (ts:List TC) (x:eL ts) (l:List Hd) (n s:Nat) (bs:List ObA) (c:Nat),ja η n l→jC ts≤l.length→(LX ts x n s bs c).map (AF.ha η)=qh ts x l s (bs.map (ObA.v η)) c:=by
 have one : ∀ (t:TC) (x:t.den) (l:List Hd) (n s:Nat) (bs:List ObA) (c:Nat),ja η n l→t.nh≤l.length→(Cn t x n s bs c).map (AF.ha η)=rQ t x l s (bs.map (ObA.v η)) c:=by
  intro t x l n s bs c h hl
  cases s with
  | succ s=>rfl
  | zero=>
   cases bs with
   | nil=>rfl
   | cons b bs=>
    cases b with
    | b b=>simp only [Cn,rQ,XH,aaz,AF.ha,ObA.v,jk t x l n h hl]
    | r hh e=>simp only [Cn,rQ,XH,ObA.v,agv]
 intro ts
 induction ts with
 | nil=>intros; rfl
 | cons t ts ih=>
  intro x l n s bs c h hl
  cases ts with
  | nil=>exact one t x l n s bs c h (by simp only [jC] at hl; omega)
  | cons t' ts=>
   have e:jC (t::t' :: ts)=t.nh+jC (t' :: ts):=rfl
   simp only [LX,qh,Zy]
   rw [one t x.1 l n s bs c h (by omega),ih x.2 (l.drop t.nh) (n+t.nh) (s - 1) (nx s bs.tail bs) (nx s (c+1) c) (fun j hh hj=>by
    rw [ZT] at hj
    have:=h _ hh hj
    grind) (by grind)]
   congr 2
   cases s <;> simp [nx]
theorem M5 : ∀ (ts:List TC) (x:eL ts) (l:List Hd) (s:Nat) (bs:List ObH) (c:Nat),2≤c→(qh ts x l s bs c).all HA.leaves=true:=by
 have one : ∀ (t:TC) (x:t.den) (l:List Hd) (s:Nat) (bs:List ObH) (c:Nat),2≤c→(rQ t x l s bs c).all HA.leaves=true:=by
  intro t x l s bs c hc
  cases s with
  | succ s=>rfl
  | zero=>
   cases bs with
   | nil=>rfl
   | cons b bs=>
    cases b with
    | b b=>simp [rQ,HA.leaves,hc]
    | r hh e=>exact MA t x hh e c hc
 intro ts
 induction ts with
 | nil=>intros; rfl
 | cons t ts ih=>
  intro x l s bs c hc
  cases ts with
  | nil=>exact one t x l s bs c hc
  | cons t' ts=>
   simp only [qh,List.all_append,Wp]
   exact ⟨one t x.1 l s bs c hc,ih x.2 _ _ _ _ (by cases s <;> simp [nx] <;> omega)⟩
theorem Uh : ∀ (ts:List TC) (x:eL ts) (l:List Hd) (s:Nat) (bs:List ObH) (c:Nat),(qh ts x l s bs (c+2)).map (HA.inst N Ka)=qh ts x l s bs (N+c):=by
 have one : ∀ (t:TC) (x:t.den) (l:List Hd) (s:Nat) (bs:List ObH) (c:Nat),(rQ t x l s bs (c+2)).map (HA.inst N Ka)=rQ t x l s bs (N+c):=by
  intro t x l s bs c
  cases s with
  | succ s=>rfl
  | zero=>
   cases bs with
   | nil=>rfl
   | cons b bs=>
    cases b with
    | b b=>rfl
    | r hh e=>exact Vd t x hh e c
 intro ts
 induction ts with
 | nil=>intros; rfl
 | cons t ts ih=>
  intro x l s bs c
  cases ts with
  | nil=>exact one t x l s bs c
  | cons t' ts=>
   simp only [qh,Zy,one]
   congr 1
   cases s with
   | zero=>simp only [nx]; grind
   | succ s=>simp only [nx]; grind
def Lf.isAr:Lf→Bool
 | .ar _ _ _=>true
 | .ars _ _=>true
 | _=>false
def qf (F:List AF) (t:TC) (v:AV):Option (t.den×List Lf×List Nat):=match v with
 | .ag ls=>bif t.aggT then match bZ F t ls with | some (x,l,K,[])=>some (x,l,K) | _=>none else none
 | .lf l=>bif t.aggT==l.isAr then match bZ F t [l] with | some (x,l,K,[])=>some (x,l,K) | _=>none else none
 | .tu _=>none
theorem ue {F:List AF} {η:Vn} {t:TC} {v:AV} {x:t.den} {l:List Lf} {K:List Nat} (h:qf F t v=some (x,l,K)) :
  v.val η=mK t x (aO t (aS η l))∧l.length=t.nh ∧
  ∀ (w:World) (c:bD) (K' : List Nat),am w c (F.map (AF.ha η))→(∀ k∈K,k∈K')→bT w (fun b=>c b∈K') t.ty x (aO t (aS η l)):=by
 cases v with
 | tu _=>cases h
 | ag ls=>
  simp only [qf] at h
  cases ha:t.aggT
  ·grind
  ·rw [ha] at h
   simp only [f9] at h
   split at h
   ·rename_i x' l' K' hd
    simp only [Wn,W5] at h
    obtain ⟨rfl,rfl,rfl⟩:=h
    obtain ⟨h1,h2⟩:=dY (η:=η) t hd
    simp only [aw,XE] at h1
    refine ⟨?_,eF t hd,h2⟩
    simp only [AV.val,h1]
    cases t <;> first | rfl | cases ha
   ·cases h
 | lf lf=>
  simp only [qf] at h
  cases ha:(t.aggT==lf.isAr)
  ·grind
  ·rw [ha] at h
   simp only [f9] at h
   split at h
   ·rename_i x' l' K' hd
    simp only [Wn,W5] at h
    obtain ⟨rfl,rfl,rfl⟩:=h
    obtain ⟨h1,h2⟩:=dY (η:=η) t hd
    refine ⟨?_,eF t hd,h2⟩
    simp only [aw,XE] at h1
    cases lf with
    | ar m s y=>
     have ht:t.aggT=true:=by simpa [Lf.isAr] using ha
     simp only [AV.val,Lf.val]
     simp only [Lf.cells] at h1
     rw [h1]
     cases t <;> first | rfl | cases ht
    | ars t' y=>
     have ht:t.aggT=true:=by simpa [Lf.isAr] using ha
     simp only [AV.val,Lf.val]
     simp only [Lf.cells] at h1
     rw [h1]
     cases t <;> first | rfl | cases ht
    | _=>
     have ht:t.aggT=false:=by simpa [Lf.isAr] using ha
     simp only [AV.val]
     cases t <;> first | cases ht | skip
     all_goals simp only [Lf.cells,Ty.fill,afv,ai3] at h1
     all_goals exact h1
   ·cases h
def sr (F:List AF):(ts:List TC)→List AV→Option (eL ts×List Lf×List Nat)
 | [],[]=>some ((),[],[])
 | [t],[v]=>qf F t v
 | t::t' :: r,v::vs=>match qf F t v,sr F (t' :: r) vs with
  | some (x,l,K),some (y,l',K')=>some ((x,y),l++l',K++K')
  | _,_=>none
 | _,_=>none
theorem I1 {F:List AF} {η:Vn} : ∀ {ts:List TC} {vs:List AV} {x:eL ts} {l:List Lf} {K:List Nat},sr F ts vs=some (x,l,K) →
  AV.vals η vs=li ts x (aS η l)∧l.length=jC ts
 | [],[],_,l,K,h=>by
  simp only [sr,Wn,W5] at h
  obtain ⟨_,rfl,rfl⟩:=h
  exact ⟨rfl,rfl⟩
 | [t],[v],x,l,K,h=>by
  obtain ⟨h1,h2,h3⟩:=ue (η:=η) (t:=t) h
  exact ⟨by simp only [AV.vals,li,h1],by simp only [jC,h2]; omega⟩
 | t::t' :: r,v::vs,x,l,K,h=>by
  simp only [sr] at h
  split at h
  ·rename_i x1 l1 K1 x2 l2 K2 ha hb
   simp only [Wn,W5] at h
   obtain ⟨rfl,rfl,rfl⟩:=h
   obtain ⟨h1,h2,h3⟩:=ue (η:=η) ha
   obtain ⟨g1,g2⟩:=I1 (η:=η) hb
   have e0:aS η (l1++l2)=aS η l1++aS η l2:=by simp [aS]
   have e1:aO t (aS η (l1++l2))=aO t (aS η l1):=by rw [e0]; exact dW t _ _ (by simp [aS,h2])
   have e2:(aS η (l1++l2)).drop t.nh=aS η l2:=by
    rw [e0,YB,X2 (by simp [aS,h2]),show t.nh - (aS η l1).length=0 by simp [aS,h2]]
    rfl
   refine ⟨?_,by simp only [jC] at g2 ⊢; simp [h2,g2]⟩
   simp only [AV.vals,li,e1,e2,h1,g1]
  ·cases h
 | [],_::_,_,_,_,h=>by simp [sr] at h
 | [_],[],_,_,_,h=>by simp [sr] at h
 | [_],_::_::_,_,_,_,h=>by simp [sr] at h
 | _::_::_,[],_,_,_,h=>by simp [sr] at h
def tJ {α:Type}:Option (α×List Lf×List Nat×List Lf)→Option (α×List Lf×List Nat×List (Nat×Nat)×List Lf)
 | some (x,l,K,r)=>some (x,l,K,[],r)
 | none=>none
theorem fy {α:Type} {m:Option (α×List Lf×List Nat×List Lf)} {x:α} {l:List Lf} {K:List Nat} {r:List Lf} (h:tJ m=some (x,l,K,μ,r)):m=some (x,l,K,r):=by
 unfold tJ at h
 grind
def abm (F:List AF) (k v:TC) (r:List Lf) (os:List (Option TypeId)) (q:Nat):Option ((TC.mp k v).den×List Lf×List Nat×List (Nat×Nat)×List Lf):=match os with
 | some _::_=>match r with
  | .mp h::r=>match uP k v h F with
   | some s=>some (s.xs,[.mp h],[],[(s.i,q)],r)
   | none=>none
  | _=>none
 | _=>tJ (bZ F (.mp k v) r)
def iQ (F:List AF):(t:TC)→List Lf→List (Option TypeId)→Nat→Option (t.den×List Lf×List Nat×List (Nat×Nat)×List Lf)
 | .pair a b,r,os,q=>match iQ F a r os q with
  | some (x,l1,K1,μ1,r1)=>match iQ F b r1 (os.drop a.nh) (q+a.nh) with
   | some (y,l2,K2,μ2,r2)=>some ((x,y),l1++l2,K1++K2,μ1++μ2,r2)
   | none=>none
  | none=>none
 | .slice t,r,os,q=>match os,r with
  | some e::_, .sl h::r=>match gw t e 0 F (.sl h) with
   | some (i,K,xs)=>some (xs,[.sl h],K,[(i,q)],r)
   | none=>none
  | some _::_, .nl::r=>some ([],[.nl],[],[],r)
  | some _::_,_=>none
  | _,r=>tJ (bZ F (.slice t) r)
 | .st a,r,os,q=>iQ F a r os q
 | .sc s,r,_,_=>tJ (bZ F (.sc s) r)
 | .arr n s,r,_,_=>tJ (bZ F (.arr n s) r)
 | .unit,r,_,_=>tJ (bZ F .unit r)
 | .ext n,r,_,_=>tJ (bZ F (.ext n) r)
 | .node,r,_,_=>tJ (bZ F .node r)
 | .mp k v,r,os,q=>abm F k v r os q
theorem IQ {c:bD} {m:Nat→Nat} {t:Ty} {e:TypeId} {i q:Nat} {K:List Nat} {xs:List t.den} {v:Hd} (h:HA.holds w c (eh t e i K xs v)) (hK : ∀ k∈K,m k=1) (hi:m i=q):HA.holds w (fun b=>m (c b)) (eh t e q [1] xs v):=
 J3 (fun b _ hb=>by grind) (fun b _ hb=>by grind) h
theorem Ly {c:bD} {m:Nat→Nat} {K:List Nat} {t:Ty} {x:t.den} {y:t.Refs} (h : ∀ K' : List Nat,(∀ k∈K,k∈K')→bT w (fun b=>c b∈K') t x y) (hK : ∀ k∈K,m k=1):bT w (fun b=>m (c b)∈([1]:List Nat)) t x y:=
 bT.keep (S:=fun b=>c b∈K) (fun b _ hb=>⟨by grind,rfl⟩) t x y (h K fun _ hk=>hk)
theorem Pn {F:List AF} {η:Vn} : ∀ (t:TC) {ls:List Lf} {os:List (Option TypeId)} {q:Nat} {x:t.den} {l:List Lf} {K:List Nat} {μ:List (Nat×Nat)} {r:List Lf},iQ F t ls os q=some (x,l,K,μ,r) →
  aw η ls=t.ty.fill x (aO t (aS η l))++aw η r∧l.length=t.nh ∧
  ∀ (w:World) (c:bD) (m:Nat→Nat),am w c (F.map (AF.ha η))→(∀ k∈K,m k=1)→(∀ p∈μ,m p.1=p.2)→am w (fun b=>m (c b)) (jy t x (aO t (aS η l)) os q):=by
 intro t
 induction t with
 | sc s=>
  intro ls os q x l K μ r h
  simp only [iQ] at h
  exact ⟨(dY _ (fy h)).1,eF _ (fy h),fun _ _ _ _ _ _=>am.nil _ _⟩
 | arr n s=>
  intro ls os q x l K μ r h
  simp only [iQ] at h
  exact ⟨(dY _ (fy h)).1,eF _ (fy h),fun _ _ _ _ _ _=>am.nil _ _⟩
 | unit=>
  intro ls os q x l K μ r h
  simp only [iQ] at h
  exact ⟨(dY _ (fy h)).1,eF _ (fy h),fun _ _ _ _ _ _=>am.nil _ _⟩
 | ext n=>
  intro ls os q x l K μ r h
  simp only [iQ] at h
  exact ⟨(dY _ (fy h)).1,eF _ (fy h),fun _ _ _ _ _ _=>am.nil _ _⟩
 | node=>
  intro ls os q x l K μ r h
  simp only [iQ] at h
  obtain ⟨g1,g2⟩:=dY (η:=η) .node (fy h)
  exact ⟨g1,eF _ (fy h),fun w c m hF hK _=>am.cons (oF.1 (Ly (fun K' hK' => g2 w c K' hF hK') hK)) (am.nil _ _)⟩
 | mp k v _ _=>
  intro ls os q x l K μ r h
  have rep:(match os with | some _::_=>False | _=>True)→bZ F (.mp k v) ls=some (x,l,K,r)→aw η ls=(TC.mp k v).ty.fill x (aO (.mp k v) (aS η l))++aw η r∧l.length=(TC.mp k v).nh ∧
    ∀ (w:World) (c:bD) (m:Nat→Nat),am w c (F.map (AF.ha η))→(∀ k∈K,m k=1)→(∀ p∈μ,m p.1=p.2)→am w (fun b=>m (c b)) (jy (.mp k v) x (aO (.mp k v) (aS η l)) os q):=by
   intro ho hd
   refine ⟨(dY (η:=η) (.mp k v) hd).1,eF _ hd,fun w c m hF hK _=>?_⟩
   simp only [jy]
   split
   ·simp at ho
   ·exact am.nil _ _
  simp only [iQ] at h
  cases os with
  | nil=>exact rep trivial (fy h)
  | cons o os' =>
   cases o with
   | none=>exact rep trivial (fy h)
   | some e=>
    simp only [abm] at h
    split at h
    ·rename_i hh r'
     dsimp only at h
     split at h
     ·rename_i s hs
      simp only [Wn,W5] at h
      obtain ⟨rfl,rfl,rfl,rfl,rfl⟩:=h
      refine ⟨rfl,rfl,fun w c m hF hK hμ=>am.cons ?_ (am.nil _ _)⟩
      have hA:HA.holds w c (.mp s.i (η.h hh).blk (yI k v s.xs)):=hF _ (W6.2 ⟨_,jT hs,rfl⟩)
      exact tj.keep (S:=fun b=>c b=s.i) (fun b _ hc=>⟨by show m (c b)=q; rw [hc]; exact hμ _ W7,rfl⟩) hA
     ·cases h
    ·cases h
 | st a ih=>exact fun h=>ih h
 | pair a b iha ihb=>
  intro ls os q x l K μ r h
  simp only [iQ] at h
  split at h
  ·rename_i x1 l1 K1 μ1 r1 h1
   split at h
   ·rename_i x2 l2 K2 μ2 r2 h2
    simp only [Wn,W5] at h
    obtain ⟨rfl,rfl,rfl,rfl,rfl⟩:=h
    obtain ⟨c1,n1,f1⟩:=iha h1
    obtain ⟨c2,n2,f2⟩:=ihb h2
    have hn:(aS η l1).length=a.nh:=by simp [aS,n1]
    have e1:aO a (aS η (l1++l2))=aO a (aS η l1):=by
     rw [show aS η (l1++l2)=aS η l1++aS η l2 by simp [aS],dW a _ _ hn]
    have e2:aO b ((aS η (l1++l2)).drop a.nh)=aO b (aS η l2):=by
     rw [show aS η (l1++l2)=aS η l1++aS η l2 by simp [aS],YB,X2 (by omega),show a.nh - (aS η l1).length=0 by omega]
     rfl
    refine ⟨?_,by simp only [TC.nh,Wu]; omega,fun w c m hF hK hμ=>?_⟩
    ·simp only [aO,Ty.fill]
     rw [e1,e2,c1,c2,Yi]
    ·simp only [jy,aO]
     rw [e1,e2]
     exact (f1 w c m hF (fun k hk=>hK k (XP _ hk)) fun p hp=>hμ p (XP _ hp)).append
      (f2 w c m hF (fun k hk=>hK k (X5 _ hk)) fun p hp=>hμ p (X5 _ hp))
   ·cases h
  ·cases h
 | slice t _=>
  intro ls os q x l K μ r h
  have rep:(match os with | some _::_=>False | _=>True)→bZ F (.slice t) ls=some (x,l,K,r)→aw η ls=(TC.slice t).ty.fill x (aO (.slice t) (aS η l))++aw η r∧l.length=(TC.slice t).nh ∧
    ∀ (w:World) (c:bD) (m:Nat→Nat),am w c (F.map (AF.ha η))→(∀ k∈K,m k=1)→(∀ p∈μ,m p.1=p.2)→am w (fun b=>m (c b)) (jy (.slice t) x (aO (.slice t) (aS η l)) os q):=by
   intro ho hd
   obtain ⟨c1,f1⟩:=dY (η:=η) (.slice t) hd
   refine ⟨c1,eF _ hd,fun w c m hF hK _=>?_⟩
   have hr:=Ly (m:=m) (fun K' hK' => f1 w c K' hF hK') hK
   simp only [jy]
   split
   ·simp at ho
   ·exact am.cons hr (am.nil _ _)
  match os,ls,h,rep with
  | some e::os', .sl hh::r',h,_=>
   simp only [iQ] at h
   split at h
   ·rename_i i K' xs ho
    simp only [Wn,W5] at h
    obtain ⟨rfl,rfl,rfl,rfl,rfl⟩:=h
    exact ⟨rfl,rfl,fun w c m hF hK hμ=>am.cons (IQ (gb ho hF) hK (hμ _ W7)) (am.nil _ _)⟩
   ·cases h
  | some e::os', .nl::r',h,_=>
   simp only [iQ,Wn,W5] at h
   obtain ⟨rfl,rfl,rfl,rfl,rfl⟩:=h
   exact ⟨rfl,rfl,fun w c m hF hK hμ=>am.cons (sB _ _) (am.nil _ _)⟩
  | none::_,_,h,rep=>exact rep trivial (fy h)
  | [],_,h,rep=>exact rep trivial (fy h)
  | some _::_,[],h,_=>simp [iQ] at h
  | some _::_, .c _ _::_,h,_=>simp [iQ] at h
  | some _::_, .ar _ _ _::_,h,_=>simp [iQ] at h
  | some _::_, .bp _ _::_,h,_=>simp [iQ] at h
  | some _::_, .bq _ _ _ _ _::_,h,_=>simp [iQ] at h
  | some _::_, .rp _ _ _ _ _::_,h,_=>simp [iQ] at h
  | some _::_, .xt _ _::_,h,_=>simp [iQ] at h
  | some _::_, .fn _::_,h,_=>simp [iQ] at h
  | some _::_, .clo _ _::_,h,_=>simp [iQ] at h
  | some _::_, .gp _ _ _ _ _::_,h,_=>simp [iQ] at h
  | some _::_, .ars _ _::_,h,_=>simp [iQ] at h
  | some _::_, .v _::_,h,_=>simp [iQ] at h
  | some _::_, .mp _::_,h,_=>simp [iQ] at h
def wq (F:List AF) (p:PC) (v:AV) (q:Nat):Option (p.den×List Lf×List Nat×List (Nat×Nat)):=match p,v with
 | .d t,v=>match qf F t v with
  | some (x,l,K)=>some (x,l,K,[])
  | none=>none
 | .own t e, .lf (.sl h)=>match gw t e 0 F (.sl h) with
  | some (i,K,xs)=>some (xs,[.sl h],K,[(i,q)])
  | none=>none
 | .own _ _, .lf .nl=>some ([],[.nl],[],[])
 | .box m t os, .lf (.bp b 0)=>match kZ b F with
  | some (i,cs)=>match iQ F t cs (bif m then os else []) (q+1) with
   | some (x,l,K,μ,[])=>some (x, .bp b 0::l,(bif m then K else i::K),(bif m then (i,q)::μ else μ))
   | _=>none
  | none=>none
 | .fn f, .lf (.fn g)=>bif Nat.beq f g then some ((),[],[],[]) else none
 | .clo f t, .lf (.clo g b)=>bif Nat.beq f g then match kZ b F with
  | some (i,cs)=>match iQ F t cs [] (q+1) with
   | some (x,l,K,μ,[])=>some (x, .clo g b::l,i::K,μ)
   | _=>none
  | none=>none else none
 | .prt t e, .lf (.sl h')=>match ot h' F with
  | some (h,sz,lo,hi)=>match gw t e 0 F (.sl h) with
   | some (i,K,xs)=>bif Nat.beq sz t.ty.sz then some ((xs,lo,hi),[.sl h, .sl h'],K,[(i,q)]) else none
   | none=>none
  | none=>none
 | _,_=>none
theorem xH {F:List AF} {b i:Nat} {cs:List Lf} (h:kZ b F=some (i,cs)) {η:Vn} {c:bD} (hF:am w c (F.map (AF.ha η))):HA.holds w c (.box i (η.b b) (aw η cs)):=
 hF _ (W6.2 ⟨_,gc h,rfl⟩)
theorem Om {F:List AF} {η:Vn} {p:PC} {v:AV} {q:Nat} {x:p.den} {l:List Lf} {K:List Nat} (h:wq F p v q=some (x,l,K,μ)) :
  v.val η=p.val x (aS η l)∧l.length=p.nh ∧
  ∀ (w:World) (c:bD) (m:Nat→Nat),am w c (F.map (AF.ha η))→(∀ k∈K,m k=1)→(∀ p∈μ,m p.1=p.2)→am w (fun b=>m (c b)) (p.facts x (aS η l) q):=by
 have box : ∀ {i b q' : Nat} {cs:List Lf} {w:World} {c:bD} {m:Nat→Nat} {vs:List Value},kZ b F=some (i,cs)→am w c (F.map (AF.ha η))→m i=q' → aw η cs=vs→HA.holds w (fun b=>m (c b)) (.box q' (η.b b) vs):=by
  intro i b q' cs w c m vs hb hF hm hv
  obtain ⟨h1,h2⟩:=xH hb hF
  subst hv
  exact ⟨h1,by grind⟩
 cases p with
 | d t=>
  simp only [wq] at h
  split at h
  ·rename_i hd
   simp only [Wn,W5] at h
   obtain ⟨rfl,rfl,rfl,rfl⟩:=h
   obtain ⟨h1,h2,h3⟩:=ue (η:=η) hd
   refine ⟨h1,h2,fun w c m hF hK _=>?_⟩
   exact qp _ _ _ (Ly (m:=m) (fun K' hK' => h3 w c K' hF hK') hK)
  ·cases h
 | own t e=>
  cases v with
  | lf lf=>
   cases lf with
   | sl hh=>
    simp only [wq] at h
    split at h
    ·rename_i ho
     simp only [Wn,W5] at h
     obtain ⟨rfl,rfl,rfl,rfl⟩:=h
     exact ⟨rfl,rfl,fun w c m hF hK hμ=>am.cons (IQ (gb ho hF) hK (hμ _ W7)) (am.nil _ _)⟩
    ·cases h
   | nl=>
    simp only [wq,Wn,W5] at h
    obtain ⟨rfl,rfl,rfl,rfl⟩:=h
    exact ⟨rfl,rfl,fun w c m hF hK hμ=>am.cons (sB _ _) (am.nil _ _)⟩
   | _=>cases h
  | _=>cases h
 | box m t os=>
  cases v with
  | lf lf=>
   cases lf with
   | bp b off=>
    cases off with
    | succ _=>cases h
    | zero=>
     simp only [wq] at h
     split at h
     ·rename_i i cs hb
      split at h
      ·rename_i x' l' K' μ' hd
       simp only [Wn,W5] at h
       obtain ⟨rfl,rfl,rfl,rfl⟩:=h
       obtain ⟨c1,n1,f1⟩:=Pn (η:=η) t hd
       refine ⟨rfl,by simp only [PC.nh,XM,n1]; omega,fun w c mm hF hK hμ=>?_⟩
       simp only [aw,XE] at c1
       cases m with
       | true=>exact am.cons (box hb hF (hμ (i,q) W7) c1) (f1 w c mm hF hK fun p hp=>hμ p (Wq _ hp))
       | false=>exact am.cons (box hb hF (hK i W7) c1) (f1 w c mm hF (fun k hk=>hK k (Wq _ hk)) hμ)
      ·cases h
     ·cases h
   | _=>cases h
  | _=>cases h
 | fn f=>
  cases v with
  | lf lf=>
   cases lf with
   | fn g=>
    simp only [wq] at h
    cases hb:Nat.beq f g
    ·grind
    ·rw [hb] at h
     simp only [f9,Wn,W5] at h
     obtain ⟨_,rfl,rfl,rfl⟩:=h
     obtain rfl:=Wo hb
     exact ⟨rfl,rfl,fun _ _ _ _ _ _=>am.nil _ _⟩
   | _=>cases h
  | _=>cases h
 | clo f t=>
  cases v with
  | lf lf=>
   cases lf with
   | clo g b=>
    simp only [wq] at h
    cases hfg:Nat.beq f g
    ·grind
    ·rw [hfg] at h
     obtain rfl:=Wo hfg
     simp only [f9] at h
     split at h
     ·rename_i i cs hb
      split at h
      ·rename_i x' l' K' μ' hd
       simp only [Wn,W5] at h
       obtain ⟨rfl,rfl,rfl,rfl⟩:=h
       obtain ⟨c1,n1,f1⟩:=Pn (η:=η) t hd
       simp only [aw,XE] at c1
       refine ⟨rfl,by simp only [PC.nh,XM,n1]; omega,fun w c mm hF hK hμ=>?_⟩
       exact am.cons (box hb hF (hK i W7) c1) (f1 w c mm hF (fun k hk=>hK k (Wq _ hk)) hμ)
      ·cases h
     ·cases h
   | _=>cases h
  | _=>cases h
 | prt t e=>
  cases v with
  | lf lf=>
   cases lf with
   | sl hh=>
    simp only [wq] at h
    split at h
    ·rename_i h0 sz lo hi hp
     split at h
     ·rename_i ho
      cases hsz:Nat.beq sz t.ty.sz
      ·grind
      ·rw [hsz] at h
       simp only [f9,Wn,W5] at h
       obtain ⟨rfl,rfl,rfl,rfl⟩:=h
       refine ⟨rfl,rfl,fun w c m hF hK hμ=>am.cons (IQ (gb ho hF) hK (hμ _ W7)) (am.cons ?_ (am.nil _ _))⟩
       have hpt:pX (η.h hh) (η.h h0) sz lo hi:=hF _ (W6.2 ⟨_,jf hp,rfl⟩)
       rw [Wo hsz] at hpt
       exact hpt
     ·cases h
    ·cases h
   | _=>cases h
  | _=>cases h
def tV (F:List AF):(ps:List PC)→List AV→Nat→Option (lh ps×List Lf×List Nat×List (Nat×Nat))
 | [],[],_=>some ((),[],[],[])
 | [p],[v],q=>wq F p v q
 | p::p' :: r,v::vs,q=>match wq F p v q,tV F (p' :: r) vs (q+p.nc) with
  | some (x,l,K,μ),some (y,l',K',μ')=>some ((x,y),l++l',K++K',μ++μ')
  | _,_=>none
 | _,_,_=>none
theorem PC.val_left:(p:PC)→(x:p.den)→(l1 l2:List Hd)→l1.length=p.nh→p.val x (l1++l2)=p.val x l1
 | .d t,x,l1,l2,h=>by simp only [PC.val]; rw [dW t l1 l2 h]
 | .own _ _,_,[],_,h=>by simp [PC.nh] at h
 | .own _ _,_,_::_,_,_=>rfl
 | .box _ _ _,_,[],_,h=>by simp [PC.nh] at h; omega
 | .box _ _ _,_,_::_,_,_=>rfl
 | .fn _,_,_,_,_=>rfl
 | .clo _ _,_,[],_,h=>by simp [PC.nh] at h; omega
 | .clo _ _,_,_::_,_,_=>rfl
 | .prt _ _,_,[],_,h=>by simp [PC.nh] at h
 | .prt _ _,_,[_],_,h=>by simp [PC.nh] at h
 | .prt _ _,_,_::_::_,_,_=>rfl
theorem PC.facts_left:(p:PC)→(x:p.den)→(l1 l2:List Hd)→(q:Nat)→l1.length=p.nh→p.facts x (l1++l2) q=p.facts x l1 q
 | .d t,x,l1,l2,_,h=>by simp only [PC.facts]; rw [dW t l1 l2 h]
 | .own _ _,_,[],_,_,h=>by simp [PC.nh] at h
 | .own _ _,_,_::_,_,_,_=>rfl
 | .box _ _ _,_,[],_,_,h=>by simp [PC.nh] at h; omega
 | .box _ t _,_,a::l1,l2,_,h=>by
  have:l1.length=t.nh:=by simp [PC.nh] at h; omega
  simp only [PC.facts,Zr,aeK,Z3,agm]
  rw [dW t l1 l2 this]
 | .fn _,_,_,_,_,_=>rfl
 | .clo _ _,_,[],_,_,h=>by simp [PC.nh] at h; omega
 | .clo _ t,_,a::l1,l2,_,h=>by
  have:l1.length=t.nh:=by simp [PC.nh] at h; omega
  simp only [PC.facts,Zr,aeK,Z3,agm]
  rw [dW t l1 l2 this]
 | .prt _ _,_,[],_,_,h=>by simp [PC.nh] at h
 | .prt _ _,_,[_],_,_,h=>by simp [PC.nh] at h
 | .prt _ _,_,_::_::_,_,_,_=>rfl
theorem I3 {F:List AF} {η:Vn} : ∀ {ps:List PC} {vs:List AV} {q:Nat} {x:lh ps} {l:List Lf} {K:List Nat} {μ:List (Nat×Nat)},tV F ps vs q=some (x,l,K,μ) →
  AV.vals η vs=nG ps x (aS η l)∧l.length=rF ps ∧
  ∀ (w:World) (c:bD) (m:Nat→Nat),am w c (F.map (AF.ha η))→(∀ k∈K,m k=1)→(∀ p∈μ,m p.1=p.2)→am w (fun b=>m (c b)) (pR ps x (aS η l) q)
 | [],[],_,_,l,K,μ,h=>by
  simp only [tV,Wn,W5] at h
  obtain ⟨_,rfl,rfl,rfl⟩:=h
  exact ⟨rfl,rfl,fun _ _ _ _ _ _=>am.nil _ _⟩
 | [p],[v],q,x,l,K,μ,h=>by
  obtain ⟨h1,h2,h3⟩:=Om (η:=η) (p:=p) h
  exact ⟨by simp only [AV.vals,nG,h1],by simp only [rF,h2]; omega,h3⟩
 | p::p' :: r,v::vs,q,x,l,K,μ,h=>by
  simp only [tV] at h
  split at h
  ·rename_i x1 l1 K1 μ1 x2 l2 K2 μ2 ha hb
   simp only [Wn,W5] at h
   obtain ⟨rfl,rfl,rfl,rfl⟩:=h
   obtain ⟨h1,h2,h3⟩:=Om (η:=η) ha
   obtain ⟨g1,g2,g3⟩:=I3 (η:=η) hb
   have e0:aS η (l1++l2)=aS η l1++aS η l2:=by simp [aS]
   have hl:(aS η l1).length=p.nh:=by simp [aS,h2]
   have e2:(aS η (l1++l2)).drop p.nh=aS η l2:=by
    grind
   refine ⟨?_,by simp only [rF] at g2 ⊢; simp [h2,g2],fun w c m hF hK hμ=>?_⟩
   ·simp only [AV.vals,nG,e2,h1,g1]
    rw [e0,PC.val_left p x1 _ _ hl]
   ·simp only [pR,e2]
    rw [e0,PC.facts_left p x1 _ _ _ hl]
    exact (h3 w c m hF (fun k hk=>hK k (XP _ hk)) fun p hp=>hμ p (XP _ hp)).append
     (g3 w c m hF (fun k hk=>hK k (X5 _ hk)) fun p hp=>hμ p (X5 _ hp))
  ·cases h
 | [],_::_,_,_,_,_,_,h=>by simp [tV] at h
 | [_],[],_,_,_,_,_,h=>by simp [tV] at h
 | [_],_::_::_,_,_,_,_,_,h=>by simp [tV] at h
 | _::_::_,[],_,_,_,_,_,h=>by simp [tV] at h
def AE (E:SE):List Operand→Option (List AV)
 | []=>some []
 | x::r=>match ev E x,AE E r with
  | some v,some vs=>some (v::vs)
  | _,_=>none
theorem Ks {E:SE} {η:Vn} {ρ:dm} (hE:nA η ρ E) : ∀ {xs:List Operand} {vs:List AV},AE E xs=some vs→xs.map (aR ρ)=AV.vals η vs
 | [],vs,h=>by simp only [AE,Wn] at h; subst h; rfl
 | x::r,vs,h=>by
  simp only [AE] at h
  split at h
  ·rename_i v vs' hv hvs
   simp only [Wn] at h
   subst h
   simp only [XH,AV.vals,aN hE hv,Ks hE hvs]
  ·cases h
abbrev aaF:(ts:List TC)→eL ts
 | []=>()
 | [t]=>t.dft
 | t::t' :: r=>(t.dft,aaF (t' :: r))
section
variable {R:Type} {P:Program} {o:Oper} {E:SE} {F:List AF} {n:Nat} {Θ:Tb} {ex:Option Bool}
def Aq:AV→Option (FuncId×List AV)
 | .lf (.fn f)=>some (f,[])
 | .lf (.clo f b)=>some (f,[.lf (.bp b 0)])
 | .lf (.c .fnc f)=>some (f,[])
 | _=>none
def aht (Ka:List Nat) (μ:List (Nat×Nat)):Bool:=Ka.all (fun k=>Nat.beq (mu μ Ka k) 1)&&μ.all (fun p=>Nat.beq (mu μ Ka p.1) p.2)&&μ.all (fun p=>Nat.ble 2 p.2)&&μ.all (fun p=>Nat.ble 2 p.1)
def bnm (l:List Lf) (k:Nat):Option ObA:=bif Nat.blt k 64 then (match l[k]? with
 | some (.bp b _)=>some (.b b)
 | _=>none) else match l[k % 64]? with
 | some (.sl h)=>some (.r h (k / 64 - 1))
 | _=>none
def L9 (l:List Lf):List Nat→Option (List ObA)
 | []=>some []
 | k::r=>match bnm l k,L9 l r with
  | some b,some bs=>some (b::bs)
  | _,_=>none
theorem NM {η:Vn} {l:List Lf} : ∀ {bl:List Nat} {bs:List ObA},L9 l bl=some bs→DE (aS η l) bl=bs.map (ObA.v η)
 | [],bs,h=>by simp only [L9,Wn] at h; subst h; rfl
 | k::r,bs,h=>by
  simp only [L9] at h
  split at h
  ·rename_i b bs' h1 h2
   simp only [Wn] at h
   subst h
   have ih:=NM (η:=η) h2
   simp only [DE,XH,afv] at ih ⊢
   refine ⟨?_,ih⟩
   unfold bnm at h1
   unfold obH
   cases hk64:Nat.blt k 64
   ·rw [hk64] at h1
    simp only [no] at h1 ⊢
    split at h1
    ·rename_i h' hk
     simp only [Wn] at h1
     subst h1
     have:(aS η l)[k % 64]? = some ((Lf.sl h').hd η):=by rw [aS,aa1,hk]; rfl
     rw [XF,this]
     rfl
    ·cases h1
   ·rw [hk64] at h1
    simp only [f9] at h1 ⊢
    split at h1
    ·rename_i b' off hk
     simp only [Wn] at h1
     subst h1
     have:(aS η l)[k]? = some ((Lf.bp b' off).hd η):=by rw [aS,aa1,hk]; rfl
     rw [XF,this]
     rfl
    ·cases h1
  ·cases h
theorem LH {c:bD}   (hq:μ.all (fun p=>Nat.ble 2 p.1)=true) (h:am w c ov):am w (fun b=>mu μ Ka (c b)) ov:=by
 intro A hA
 have hh:=h A hA
 obtain ⟨e,_,rfl⟩:=W6.1 hA
 obtain ⟨h1,hb',h3⟩:=hh
 have hn:c e.g∉μ.map (·.1):=by
  intro hm
  obtain ⟨p,hp,he⟩:=W6.1 hm
  have:=Wt (W3.1 hq p hp)
  omega
 exact ⟨h1,(sQ (Ka:=Ka) hn).1,h3⟩
def Td (C:Sig) (fx:lh C.ps→Option (eL C.rs)) (vs:List AV) (ex:Option Bool) (n N:Nat) (F:List AF) (k:Out→Option R) (alt:Option R):Option R:=match tV F C.ps vs 2 with
 | some (x,l,Ka,μ)=>match L9 l C.bl with
  | some bs=>bif Nat.ble 2 N&&Nat.ble (jC C.rs) 64&&aht Ka μ&&bs.all (ObA.free n) then gbind ex (aaF C.rs) (fx x) fun r=>k ⟨xT C.nr C.rs r n,(pI C.rs r C.ms 0).map (AF.inst n N Ka)++LX C.rs r n C.nr bs (N+128),μ.map (·.1)⟩ else none
  | none=>none
 | none=>alt
theorem Or {C:Sig} {f:FuncId} {fx:lh C.ps→Option (eL C.rs)} (hC : ∀ x r,fx x=some r→Ur P f C x r) {x0:Operand} {v0:AV}   {vs cap:List AV} (ho:o.op = .call { callee:=.value x0,args:=xs,argTypes:=ts })
  (h0:ev E x0=some v0) (hv0:Aq v0=some (f,cap)) (hvs:AE E xs.toList=some vs) (k:Out→Option R) {alt:Option R} (halt:ao ex P o E F n alt k) :
  ao ex P o E F n (Td C fx (vs++cap) ex n N F k alt) k:=by
 unfold Td
 split
 ·rename_i x l Ka μ hd
  split
  ·rename_i bs hbs
   refine ao.bif fun hc=>ao.gbind fun r hr=>ao.ofG fun hx η ρ hE=>?_
   simp only [Wp,aht] at hc
   obtain ⟨⟨⟨hN,h64⟩,⟨⟨hKa,hμ⟩,hq⟩,hq1⟩,hfree⟩:=hc
   obtain ⟨⟨fn,cd,hf,hb,hnm⟩,hs⟩:=hC x r (hr hx)
   obtain ⟨d1,d2,d3⟩:=I3 (η:=η) hd
   have h64:=Wt h64
   have happ : ∀ (a b:List AV),AV.vals η (a++b)=AV.vals η a++AV.vals η b:=by
    intro a b
    induction a with
    | nil=>rfl
    | cons v r ih=>simp only [Zr,AV.vals,ih]
   have hargs:xs.toList.map (aR ρ)++AV.vals η cap=nG C.ps x (aS η l):=by rw [Ks hE hvs,← happ,d1]
   have hcv:aR ρ x0 = .func (.func f) #[] (AV.vals η cap).toArray:=by
    rw [aN hE h0]
    unfold Aq at hv0
    split at hv0
    all_goals first | (simp only [Wn,W5] at hv0; rw [← hv0.1,← hv0.2]; rfl) | cases hv0
   let ηy : { y:List Hd // y.length=jC C.rs }→Vn:=fun y=>⟨fun m=>bif Nat.ble n m&&Nat.blt m (n+64) then (ηL y.1).h (m - n) else η.h m,η.b⟩
   have hat : ∀ (y : { y:List Hd // y.length=jC C.rs }) (j:Nat),j<64→(ηy y).h (n+j)=(ηL y.1).h j:=by
    intro y j hlt
    have:(Nat.ble n (n+j)&&Nat.blt (n+j) (n+64))=true:=by
     simp_all
    grind
   have hnamed : ∀ y : { y:List Hd // y.length=jC C.rs },ja (ηy y) n y.1:=by
    intro y j h hj
    have hlt:=(XW.1 hj).1
    rw [hat y j (by grind)]
    simp [ηL,hj]
   have hagr : ∀ y : { y:List Hd // y.length=jC C.rs },η.agr n (ηy y):=by
    intro y m hm
    refine ⟨?_,rfl⟩
    have:(Nat.ble n m&&Nat.blt m (n+64))=false:=by
     cases hbb:(Nat.ble n m&&Nat.blt m (n+64))
     ·rfl
     ·simp only [Wp] at hbb
      have h1:=Wt hbb.1
      have h2:m+1≤n+64:=Wt hbb.2
      simp only [bw,Ze] at hm
      rcases hm with hm | hm
      ·have:m+1≤n:=Wt hm; omega
      ·have:=Wt hm; omega
    grind
   refine (abe (Y:={ y:List Hd // y.length=jC C.rs }) (val:=fun y=>BS C.nr C.rs r y.1) (fcts:=fun y=>(pI C.rs r C.ms 0).map (AF.ha (ηL y.1))++qh C.rs r y.1 C.nr (DE (aS η l) C.bl) 130)
    (Φ:=fun y=>((pI C.rs r C.ms 0).map (AF.inst n N Ka)++LX C.rs r n C.nr bs (N+128)).map (AF.ha (ηy y)))
    (fun w c0 hH=>hs (aS η l) (by simp [aS,d2]) w c0 hH) ho hcv hargs hf hb hnm Ka μ hq
    (fun w c hH=>(d3 w c (mu μ Ka) (fun A hA=>hH A (XP _ hA)) (fun kk hk=>Wo (W3.1 hKa kk hk)) fun p hp=>Wo (W3.1 hμ p hp)).append
     (LH hq1 fun A hA=>hH A (X5 _ hA))) ?_ ?_ hN).map
    (fun y=>⟨ηy y,?_⟩) (fun y=>?_) fun y=>rfl
   ·intro y
    rw [List.all_append,Wp]
    refine ⟨W3.2 fun A hA=>?_,M5 _ _ _ _ _ _ (by omega)⟩
    obtain ⟨B,hB,rfl⟩:=W6.1 hA
    exact (vO _ _ _ _ B hB).1
   ·intro y
    simp only [Zy]
    congr 1
    ·rw [afG,afG]
     refine aa3 fun f hf=>?_
     refine inst_ha f ?_ (vO (η:=η) _ _ _ _ f hf).2
     have hlt:=Nu _ _ _ _ f hf
     grind
    ·rw [Uh,ae1 C.rs r y.1 n C.nr bs (N+128) (hnamed y) (by grind),NM (η:=η) hbs]
     congr 1
     refine aa3 fun b hb=>?_
     have hbf:=W3.1 hfree b hb
     cases b with
     | b _=>rfl
     | r hh e=>simp only [ObA.v,(hagr y hh hbf).1]
   ·exact hagr y
   ·exact (EU C.rs r y.1 n (hnamed y) (by grind)).symm
  ·exact ao.none
 ·exact halt
def HH (f:FuncId) (vs:List AV) (ex:Option Bool) (n N:Nat) (F:List AF) (k:Out→Option R):List Ctr→Option R
 | []=>none
 | C::r=>Td C.toSig C.fn vs ex n N F k (HH f vs ex n N F k r)
def aat (f:Nat) (vs:List AV) (ex:Option Bool) (n N:Nat) (F:List AF) (k:Out→Option R):List DCtr→Option R
 | []=>none
 | C::r=>Td C.toSig (C.fn f) vs ex n N F k (aat f vs ex n N F k r)
def Hu (Γ:Ct) (D:List DCtr) (E:SE) (ex:Option Bool) (n N:Nat) (v0:AV) (xs:List Operand) (F:List AF) (k:Out→Option R):Option R:=match AE E xs with
 | some vs=>match v0 with
  | .lf (.fn f)=>HH f (vs++[]) ex n N F k (Γ f)
  | .lf (.clo f b)=>HH f (vs++[.lf (.bp b 0)]) ex n N F k (Γ f)
  | .lf (.c .fnc f)=>aat f (vs++[]) ex n N F k D
  | _=>none
 | none=>none
theorem K7 {Γ:Ct} (hΓ:Γ.ok P) {D:List DCtr} (hD : ∀ C∈D,DCtr.sound P C) {v0:AV} {x0:Operand}   (ho:o.op = .call { callee:=.value x0,args:=xs,argTypes:=ts }) (h0:ev E x0=some v0) (k:Out→Option R) :
  ao ex P o E F n (Hu Γ D E ex n N v0 xs.toList F k) k:=by
 have all : ∀ {f:FuncId} {vs cap:List AV} {l:List Ctr},Aq v0=some (f,cap)→AE E xs.toList=some vs→(∀ C∈l,Ctr.sound P f C)→ao ex P o E F n (HH f (vs++cap) ex n N F k l) k:=by
  intro f vs cap l hv hvs hl
  induction l with
  | nil=>exact ao.none
  | cons C r ih=>exact Or (hl C W7) ho h0 hv hvs k (ih fun C hC=>hl C (Wq _ hC))
 have dyn : ∀ {f:FuncId} {vs cap:List AV} {l:List DCtr},Aq v0=some (f,cap)→AE E xs.toList=some vs→(∀ C∈l,DCtr.sound P C)→ao ex P o E F n (aat f (vs++cap) ex n N F k l) k:=by
  intro f vs cap l hv hvs hl
  induction l with
  | nil=>exact ao.none
  | cons C r ih=>exact Or (hl C W7 f) ho h0 hv hvs k (ih fun C hC=>hl C (Wq _ hC))
 unfold Hu
 split
 ·rename_i vs hvs
  split
  ·exact all rfl hvs (hΓ _)
  ·exact all rfl hvs (hΓ _)
  ·exact dyn rfl hvs hD
  ·exact ao.none
 ·exact ao.none
end
end
end Go.Sm
