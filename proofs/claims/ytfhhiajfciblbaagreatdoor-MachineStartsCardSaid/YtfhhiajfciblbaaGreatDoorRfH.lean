/-
  The symbolic evaluator: calls by contract; all operations. Nothing of a program is named here; no condition.
-/
import Derived.Test.YtfhhiajfciblbaaGreatDoorRfT
namespace Go.Sm
set_option linter.unusedSectionVars false
section
variable [X:XTab] [G:GTab]
abbrev dR:List TC→Type
 | []=>Unit
 | [t]=>t.den
 | t::r=>t.den×dR r
def gL:List TC→Nat
 | []=>0
 | t::r=>t.nh+gL r
def j6 (t:TC) (x:t.den) (y:t.ty.Refs):Value:=match t,x,y with
 | .sc s,x,_=>s.val x
 | .arr n s,x,_=>.agg ((TC.arr n s).ty.fill x ()).toArray
 | .unit,_,_=>.agg #[]
 | .pair a b,x,y=>.agg ((TC.pair a b).ty.fill x y).toArray
 | .st a,x,y=>.agg (a.ty.fill x y).toArray
 | .slice _,_,h=>Hd.val h
 | .ext k,x,_=>X.val k x
 | .node,x,h=>.agg (Ty.node.fill x h).toArray
 | .mp _ _,_,h=>.map (some (Hd.blk h))
def iO:(ts:List TC)→dR ts→List Hd→List Value
 | [],_,_=>[]
 | [t],x,l=>[j6 t x (aI t l)]
 | t::t' :: r,x,l=>j6 t x.1 (aI t l)::iO (t' :: r) x.2 (l.drop t.nh)
structure RM where
 own:Option TypeId
 one:Bool
 new:Bool
def RM.K (m:RM) (c:Nat):List Nat:=(bif m.one then [1] else [])++(bif m.new then [c] else [])
def fg:(t:TC)→t.den→List RM→Nat→List AF
 | .pair a b,x,ms,j=>fg a x.1 ms j++fg b x.2 (ms.drop a.nh) (j+a.nh)
 | .slice t,xs,m::_,j=>match m.own with
  | some e=>bif Nat.ble 4194304 e && !(ep e) then [] else [.own t e (2+2 * j) (m.K 129) xs j]
  | none=>[.rep t (m.K 129) xs j]
 | .st a,x,ms,j=>fg a x ms j
 | .mp k v,xs,m::_,j=>match m.own with
  | some _=>[.mp k v (2+2 * j) xs j]
  | none=>[]
 | _,_,_,_=>[]
def mF:(ts:List TC)→dR ts→List RM→Nat→List AF
 | [],_,_,_=>[]
 | [t],x,ms,j=>fg t x ms j
 | t::t' :: r,x,ms,j=>fg t x.1 ms j++mF (t' :: r) x.2 (ms.drop t.nh) (j+t.nh)
inductive PC
 | d (t:TC)
 | own (t:TC) (e:TypeId)
 | box (m:Bool) (t:TC) (os:List (Option TypeId))
 | fn (f:FuncId)
 | clo (f:FuncId) (t:TC)
 | prt (t:TC) (e:TypeId)
abbrev PC.den:PC→Type
 | .d t=>t.den
 | .own t _=>List t.den
 | .box _ t _=>t.den
 | .fn _=>Unit
 | .clo _ t=>t.den
 | .prt t _=>List t.den×Int×Int
abbrev iS:List PC→Type
 | []=>Unit
 | [p]=>p.den
 | p::q::r=>p.den×iS (q::r)
def PC.nh:PC→Nat
 | .d t=>t.nh
 | .own _ _=>1
 | .box _ t _=>1+t.nh
 | .fn _=>0
 | .clo _ t=>1+t.nh
 | .prt _ _=>2
def oM:List PC→Nat
 | []=>0
 | p::r=>p.nh+oM r
def PC.nc:PC→Nat
 | .own _ _=>1
 | .box _ t _=>1+t.nh
 | .prt _ _=>1
 | _=>0
def PC.val:(p:PC)→p.den→List Hd→Value
 | .d t,x,l=>j6 t x (aI t l)
 | .own _ _,_,l=>(l.headD dU).val
 | .box _ _ _,_,l=>.pointer (some ⟨(l.headD dU).blk,0,none⟩)
 | .fn f,_,_=>.func (.func f) #[] #[]
 | .clo f _,_,l=>.func (.func f) #[] #[.pointer (some ⟨(l.headD dU).blk,0,none⟩)]
 | .prt _ _,_,l=>(l.tail.headD dU).val
def ka:(ps:List PC)→iS ps→List Hd→List Value
 | [],_,_=>[]
 | [p],x,l=>[p.val x l]
 | p::p' :: r,x,l=>p.val x.1 l::ka (p' :: r) x.2 (l.drop p.nh)
def gw:(t:TC)→t.den→t.ty.Refs→List (Option TypeId)→Nat→List HA
 | .pair a b,x,y,os,q=>gw a x.1 y.1 os q++gw b x.2 y.2 (os.drop a.nh) (q+a.nh)
 | .slice t,xs,h,os,q=>match os with
  | some e::_=>[dx t.ty e q [1] xs h]
  | _=>[.rep t.ty [1] xs h]
 | .st a,x,y,os,q=>gw a x y os q
 | .sc _,_,_,_,_=>[]
 | .arr _ _,_,_,_,_=>[]
 | .unit,_,_,_,_=>[]
 | .ext _,_,_,_,_=>[]
 | .node,x,h,_,_=>[.rep .node [1] x.tup.2.2.2 h]
 | .mp k v,xs,h,os,q=>match os with
  | some _::_=>[.mp q (Hd.blk h) (vL k v xs)]
  | _=>[]
def PC.facts:(p:PC)→p.den→List Hd→Nat→List HA
 | .d t,x,l,_=>Go.Sm.facts t.ty [1] x (aI t l)
 | .own t e,xs,l,q=>[dx t.ty e q [1] xs (l.headD dU)]
 | .box m t os,x,l,q=>.box (bif m then q else 1) (l.headD dU).blk (t.ty.fill x (aI t (l.drop 1)))::gw t x (aI t (l.drop 1)) (bif m then os else []) (q+1)
 | .fn _,_,_,_=>[]
 | .clo _ t,x,l,q=>.box 1 (l.headD dU).blk (t.ty.fill x (aI t (l.drop 1)))::gw t x (aI t (l.drop 1)) [] (q+1)
 | .prt t e,x,l,q=>[dx t.ty e q [1] x.1 (l.headD dU), .pure (mV (l.tail.headD dU) (l.headD dU) t.ty.sz x.2.1 x.2.2)]
def mJ:(ps:List PC)→iS ps→List Hd→Nat→List HA
 | [],_,_,_=>[]
 | [p],x,l,q=>p.facts x l q
 | p::p' :: r,x,l,q=>p.facts x.1 l q++mJ (p' :: r) x.2 (l.drop p.nh) (q+p.nc)
def yg (nr:Nat) (ts:List TC) (x:dR ts) (l:List Hd):Value:=match (iO ts x l).take nr with
 | [v]=>v
 | vs=>.tuple vs.toArray
def nx {α:Type} (s:Nat) (a b:α):α:=match s with
 | 0=>a
 | _=>b
def uo:(t:TC)→t.den→Hd→TypeId→Nat→List HA
 | .slice t,xs,h,e,c=>bif t.ty.pureB||ep e then [dx t.ty e c [] xs h] else []
 | _,_,_,_,_=>[]
inductive ObH
 | b (n:Nat)
 | r (h:Hd) (e:TypeId)
def nY (t:TC) (x:t.den) (l:List Hd) (s:Nat) (bs:List ObH) (c:Nat):List HA:=match s,bs with
 | 0, .b b::_=>[.box c b (t.ty.fill x (aI t l))]
 | 0, .r h e::_=>uo t x h e c
 | _,_=>[]
def ni:(ts:List TC)→dR ts→List Hd→Nat→List ObH→Nat→List HA
 | [],_,_,_,_,_=>[]
 | [t],x,l,s,bs,c=>nY t x l s bs c
 | t::t' :: r,x,l,s,bs,c=>nY t x.1 l s bs c++ni (t' :: r) x.2 (l.drop t.nh) (s - 1) (nx s bs.tail bs) (nx s (c+1) c)
structure Sig where
 ps:List PC
 rs:List TC
 nr:Nat
 bl:List Nat
 ms:List RM
def ηL (l:List Hd):Vn:=⟨fun m=>l.getD m dU,fun m=>(l.getD m dU).blk⟩
def uv (w0:World) (c0:bd) {Y:Type} (val:Y→Value) (facts:Y→List HA) (e:Ending) (w' : World):Prop:=
 ∃ y c',e = .returned (val y)∧kW w0 w' ∧ w0.heap.size≤w'.heap.size∧(∀ b,b<w0.heap.size→c0 b≤1→w'.heap[b]? = w0.heap[b]? ∧ c' b=c0 b) ∧
  (∀ b,b<w'.heap.size→(b<w0.heap.size→2≤c0 b)→2≤c' b)∧ai w' c' (facts y)
def obH (l:List Hd) (k:Nat):ObH:=bif Nat.blt k 64 then .b (l.getD k dU).blk else .r (l.getD (k % 64) dU) (k / 64 - 1)
def AI (l:List Hd) (bl:List Nat):List ObH:=bl.map (obH l)
def OV (P:Program) (f:FuncId) (C:Sig) (x:iS C.ps) (r:dR C.rs):Prop:=
 (∃ fn cd,P.funcs[f]? = some fn∧fn.body=some cd∧(fn.name == "runtime.NumGoroutine")=false) ∧
 ∀ (l:List Hd),l.length=oM C.ps→∀ (w:World) (c0:bd),ai w c0 (mJ C.ps x l 2++lJ) →
  Calls P f (ka C.ps x l).toArray w (uv w c0 (fun y : { y:List Hd // y.length=gL C.rs }=>yg C.nr C.rs r y.1)
   (fun y=>(mF C.rs r C.ms 0).map (AF.ha (ηL y.1))++ni C.rs r y.1 C.nr (AI l C.bl) 130))
structure Ctr extends Sig where
 fn:iS ps→Option (dR rs)
structure DCtr extends Sig where
 fn:Nat→iS ps→Option (dR rs)
def Ctr.sound (P:Program) (f:FuncId) (C:Ctr):Prop:=∀ x r,C.fn x=some r→OV P f C.toSig x r
def DCtr.sound (P:Program) (C:DCtr):Prop:=∀ f x r,C.fn f x=some r→OV P f C.toSig x r
abbrev Ct:=FuncId→List Ctr
def Ct.ok (Γ:Ct) (P:Program):Prop:=∀ f,∀ C∈Γ f,C.sound P f
def mu (μ:List (Nat×Nat)) (Ka:List Nat) (k:Nat):Nat:=match μ with
 | []=>bif bM k Ka then 1 else 0
 | (i,q)::r=>bif Nat.beq k i then q else mu r Ka k
theorem pX {Ka:List Nat} {k:Nat} : ∀ {μ:List (Nat×Nat)},k∉μ.map (·.1)→mu μ Ka k≤1∧(mu μ Ka k=1→k∈Ka)
 | [],_=>by
  simp only [mu]
  cases hm:bM k Ka
  ·simp
  ·simp [mem_iff.1 hm]
 | (i,q)::r,h=>by
  simp only [List.map_cons,List.mem_cons,not_or] at h
  have:Nat.beq k i=false:=by
   cases hb:Nat.beq k i
   ·rfl
   ·exact absurd (Nat.eq_of_beq_eq_true hb) h.1
  simp only [mu,this,cond_false]
  exact pX h.2
theorem NP {Ka:List Nat} {k:Nat} : ∀ {μ:List (Nat×Nat)},μ.all (fun p=>Nat.ble 2 p.2)=true→k∈μ.map (·.1)→2≤mu μ Ka k
 | [],_,h=>by simp at h
 | (i,q)::r,hq,h=>by
  simp only [List.all_cons,Bool.and_eq_true] at hq
  simp only [mu]
  cases hb:Nat.beq k i
  ·simp only [List.map_cons,List.mem_cons] at h
   rcases h with h | h
   ·rw [h] at hb; simp at hb
   ·exact NP hq.2 h
  ·exact Nat.le_of_ble_eq_true hq.1
def qe (w:World) (c:bd) (κ:List Nat) (N:Nat) (c' : bd):bd:=open Classical in fun b=>if b<w.heap.size∧c b∉κ then c b else N+(c' b - 2)
theorem instC_holds {N:Nat} {w w' : World} {c c' : bd} {Ka κ:List Nat} (hold : ∀ b,b<w.heap.size→c b∉κ→c' b≤1∧(c' b=1→c b∈Ka)) (hnew : ∀ b,b<w'.heap.size→(b<w.heap.size→c b∈κ)→2≤c' b) :
  (A:HA)→A.leaves=true→A.holds w' c' → (A.inst N Ka).holds w' (qe w c κ N c'):=by
 have hK : ∀ K:List Nat,K.all (fun k=>Nat.ble 1 k)=true→gU w' w' (fun b=>c' b∈K) (fun b=>qe w c κ N c' b∈instK N Ka K):=by
  intro K hK b hb hc
  refine ⟨?_,rfl⟩
  show qe w c κ N c' b∈_
  unfold qe
  split
  ·rename_i hlt
   have h1:1≤c' b:=Nat.le_of_ble_eq_true (List.all_eq_true.1 hK _ hc)
   obtain ⟨ho,hS⟩:=hold b hlt.1 hlt.2
   have:c' b=1:=by omega
   exact instK_one (this ▸ hc) (hS this)
  ·rename_i hge
   have h2:=hnew b hb (fun hlt=>Classical.byContradiction fun hn=>hge ⟨hlt,hn⟩)
   have:c' b=(c' b - 2)+2:=by omega
   exact instK_mem (this ▸ hc)
 have hi : ∀ i b,2≤i→c' b=i→qe w c κ N c' b=N+(i - 2):=by
  intro i b h2 hc
  unfold qe
  split
  ·rename_i hlt
   have:=(hold b hlt.1 hlt.2).1
   omega
  ·rw [hc]
 intro A hl hA
 cases A with
 | tr t e i K xs v=>
  simp only [HA.leaves,Bool.and_eq_true] at hl
  exact cp.keep (fun b hb hc=>⟨hi i b (Nat.le_of_ble_eq_true hl.1) hc,rfl⟩) hA
 | hol t e i xs v k cs=>exact iD.keep (fun b hb hc=>⟨hi i b (Nat.le_of_ble_eq_true hl) hc,rfl⟩) hA
 | rep t K xs v=>exact bA.keep (hK K hl) (.slice t) xs v hA
 | own t e i K xs v=>
  simp only [HA.leaves,Bool.and_eq_true] at hl
  obtain ⟨ys,h1,h2,h3⟩:=hA
  exact ⟨ys,h1.mono (bA.keep (hK K hl.2) t),h2,fun g hg=>hi i g (Nat.le_of_ble_eq_true hl.1) (h3 g hg)⟩
 | box i b cs=>
  obtain ⟨⟨ty,hb⟩,hc⟩:=hA
  exact ⟨⟨ty,hb⟩,hi i b (Nat.le_of_ble_eq_true hl) hc⟩
 | elem t K x p=>
  obtain ⟨y,b,off,arr,ty,fz,hp,hc,hb,h1,h2,h3⟩:=hA
  exact ⟨y,b,off,arr,ty,fz,hp,(hK K hl b (Array.getElem?_eq_some_iff.1 hb).1 hc).1,hb,h1,h2,bA.keep (hK K hl) t x y h3⟩
 | old w0 S=>simp [HA.leaves] at hl
 | pure p=>exact hA
 | gl g n cs=>simp [HA.leaves] at hl
 | pt t e i K xs v m=>
  simp only [HA.leaves,Bool.and_eq_true] at hl
  exact tE.keep (fun b _ hc=>⟨hi i b (Nat.le_of_ble_eq_true hl.1) hc,rfl⟩) (hK K hl.2) hA
 | mp i b es=>
  exact qf.keep (S:=fun b=>c' b=i) (fun b _ hc=>⟨hi i b (Nat.le_of_ble_eq_true hl) hc,rfl⟩) hA
theorem TN {P:Program} {ρ:cF} {L:List HA} {o:Oper} {x:Operand} {xs:Array Operand} {ts:Array TypeId} {f:FuncId} {fn:Func} {args cap:List Value} {Y:Type} {val:Y→Value} {fcts:Y→List HA} {pre:List HA} {cd:Code}
  (hc : ∀ w c0,ai w c0 pre→Calls P f args.toArray w (uv w c0 val fcts))
  (ho:o.op = .call { callee:=.value x,args:=xs,argTypes:=ts }) (hx:aK ρ x = .func (.func f) #[] cap.toArray) (hargs:xs.toList.map (aK ρ)++cap=args)
  (hf:P.funcs[f]? = some fn) (hb:fn.body=some cd) (hname:(fn.name == "runtime.NumGoroutine")=false) (Ka:List Nat) (μ:List (Nat×Nat)) (hq:μ.all (fun p=>Nat.ble 2 p.2)=true)
  (hpre : ∀ w c,ai w c L→ai w (fun b=>mu μ Ka (c b)) pre)
  (hl : ∀ y,(fcts y).all HA.leaves=true) {N:Nat} {Φ:Y→List HA} (hΦ : ∀ y,(fcts y).map (HA.inst N Ka)=Φ y) (hN:Nat.ble 2 N=true) :
  cz P ρ o L (μ.map (·.1)) val Φ:=by
 intro a ev w c next Q ha hL hk
 have h2:2≤N:=Nat.le_of_ble_eq_true hN
 have hn' : ¬ fn.name = "runtime.NumGoroutine" := by simpa using hname
 have hargs' : xs.map (aK ρ)++cap.toArray=args.toArray:=by rw [← hargs]; exact Array.ext' (by simp)
 have hrun:(execOp ev o).run P w = .ok (.enter f args.toArray) w:=by
  simp [execOp,ho,resolve,ha,hx,Deferred.ofValue,invoke,callFunc,hf,hb,hn',hargs',Result.andThen]
 rw [hrun,Oper.upon_enter]
 refine (hc w (fun b=>mu μ Ka (c b)) (hpre w c hL)).mono ?_
 rintro e w' ⟨y,c',rfl,henv,h1,hold,hnew,hF⟩
 refine hk y w' (qe w c (μ.map (·.1)) N c') ⟨h1,fun b hb hn=>by simp only [qe]; rw [if_pos ⟨hb,hn⟩],fun b hb hn=>(hold b hb (pX hn).1).1,fun b hb hb' => ?_,henv⟩ ?_
 ·simp only [qe]
  rw [if_neg (fun h=>h.2 (hb' h.1).1)]; omega
 ·rw [← hΦ y]
  intro A hA
  obtain ⟨B,hB,rfl⟩:=List.mem_map.1 hA
  refine instC_holds (fun b hb hn=>?_) (fun b hb hn=>hnew b hb fun hlt=>NP hq (hn hlt)) B (List.all_eq_true.1 (hl y) B hB) (hF B hB)
  have:=(hold b hb (pX hn).1).2
  rw [this]; exact pX hn
def AF.inst (n N:Nat) (Ka:List Nat):AF→AF
 | .rep t K xs h=>.rep t (instK N Ka K) xs (n+h)
 | .own t e i K xs h=>.own t e (N+(i - 2)) (instK N Ka K) xs (n+h)
 | .box i b cs=>.box i b cs
 | .isn h b=>.isn h b
 | .prt a b s l h=>.prt a b s l h
 | .hol t e i xs h k cs=>.hol t e i xs h k cs
 | .mp k v i xs h=>.mp k v (N+(i - 2)) xs (n+h)
 | .pt t e i K xs h m=>.pt t e (N+(i - 2)) (instK N Ka K) xs (n+h) m
def AF.isBox:AF→Bool
 | .box _ _ _=>true
 | .isn _ _=>true
 | .prt _ _ _ _ _=>true
 | .hol _ _ _ _ _ _ _=>true
 | _=>false
theorem mM {η:Vn} : ∀ (t:TC) (x:t.den) (ms:List RM) (j:Nat),∀ f∈fg t x ms j,(f.ha η).leaves=true∧f.isBox=false
 | .pair a b,x,ms,j,f,h=>by
  simp only [fg,List.mem_append] at h
  rcases h with h | h
  ·exact mM a _ _ _ f h
  ·exact mM b _ _ _ f h
 | .slice t,xs,[],j,f,h=>by simp [fg] at h
 | .slice t,xs,m::r,j,f,h=>by
  have hK : ∀ c,1≤c→(m.K c).all (fun k=>Nat.ble 1 k)=true:=by
   intro c hc
   refine List.all_eq_true.2 fun k hk=>Nat.ble_eq_true_of_le ?_
   simp only [RM.K,List.mem_append] at hk
   rcases hk with hk | hk
   ·cases ho:m.one
    ·rw [ho] at hk; cases hk
    ·rw [ho] at hk; simp at hk; omega
   ·cases ho:m.new
    ·rw [ho] at hk; cases hk
    ·rw [ho] at hk; simp at hk; omega
  simp only [fg] at h
  split at h
  ·rename_i e _
   cases he:(Nat.ble 4194304 e && !(ep e))
   ·rw [he] at h
    simp only [cond_false,List.mem_singleton] at h
    subst h
    refine ⟨?_,rfl⟩
    simp only [AF.ha,sK,Bool.and_eq_true]
    exact ⟨Nat.ble_eq_true_of_le (by omega),hK _ (by omega)⟩
   ·rw [he] at h
    simp at h
  ·simp only [List.mem_singleton] at h
   subst h
   exact ⟨hK _ (by omega),rfl⟩
 | .st a,x,ms,j,f,h=>mM a x ms j f h
 | .sc _,_,_,_,_,h=>by simp [fg] at h
 | .arr _ _,_,_,_,_,h=>by simp [fg] at h
 | .unit,_,_,_,_,h=>by simp [fg] at h
 | .ext _,_,_,_,_,h=>by simp [fg] at h
 | .node,_,_,_,_,h=>by simp [fg] at h
 | .mp _ _,_,[],_,_,h=>by simp [fg] at h
 | .mp _ _,_,m::_,_,_,h=>by
  simp only [fg] at h
  split at h
  ·simp only [List.mem_singleton] at h
   subst h
   exact ⟨Nat.ble_eq_true_of_le (by omega),rfl⟩
  ·cases h
theorem sU {η:Vn} : ∀ (ts:List TC) (x:dR ts) (ms:List RM) (j:Nat),∀ f∈mF ts x ms j,(f.ha η).leaves=true∧f.isBox=false
 | [],_,_,_,_,h=>by simp [mF] at h
 | [t],x,ms,j,f,h=>mM t x ms j f h
 | t::t' :: r,x,ms,j,f,h=>by
  simp only [mF,List.mem_append] at h
  rcases h with h | h
  ·exact mM t _ _ _ f h
  ·exact sU (t' :: r) _ _ _ f h
def AF.hdN:AF→Nat
 | .rep _ _ _ h=>h
 | .own _ _ _ _ _ h=>h
 | .box _ _ _=>0
 | .isn _ _=>0
 | .prt _ _ _ _ _=>0
 | .hol _ _ _ _ _ _ _=>0
 | .mp _ _ _ _ h=>h
 | .pt _ _ _ _ _ h _=>h
theorem inst_ha {n N:Nat} {Ka:List Nat} {l:List Hd} {η:Vn}:(f:AF)→η.h (n+f.hdN)=(ηL l).h f.hdN→f.isBox=false→HA.inst N Ka (f.ha (ηL l))=(f.inst n N Ka).ha η
 | .rep t K xs h,hη,_=>by
  simp only [AF.hdN] at hη
  simp only [AF.ha,HA.inst,AF.inst,hη]
 | .own t e i K xs h,hη,_=>by
  simp only [AF.hdN] at hη
  simp only [AF.ha,vX,AF.inst,hη]
 | .box _ _ _,_,h=>by cases h
 | .isn _ _,_,h=>by cases h
 | .prt _ _ _ _ _,_,h=>by cases h
 | .hol _ _ _ _ _ _ _,_,h=>by cases h
 | .mp k v i xs h,hη,_=>by
  simp only [AF.hdN] at hη
  simp only [AF.ha,HA.inst,AF.inst,hη]
 | .pt t e i K xs h m,hη,_=>by
  simp only [AF.hdN] at hη
  simp only [AF.ha,HA.inst,AF.inst,hη]
theorem tH : ∀ (t:TC) (x:t.den) (ms:List RM) (j:Nat),∀ f∈fg t x ms j,f.hdN<j+t.nh
 | .pair a b,x,ms,j,f,h=>by
  simp only [fg,List.mem_append] at h
  simp only [TC.nh]
  rcases h with h | h
  ·have:=tH a _ _ _ f h; omega
  ·have:=tH b _ _ _ f h; omega
 | .slice t,xs,[],j,f,h=>by simp [fg] at h
 | .slice t,xs,m::r,j,f,h=>by
  simp only [fg] at h
  split at h
  ·rename_i e _
   cases he:(Nat.ble 4194304 e && !(ep e))
   ·rw [he] at h
    simp only [cond_false,List.mem_singleton] at h; subst h; simp [AF.hdN,TC.nh]
   ·rw [he] at h
    simp at h
  ·simp only [List.mem_singleton] at h; subst h; simp [AF.hdN,TC.nh]
 | .st a,x,ms,j,f,h=>tH a x ms j f h
 | .sc _,_,_,_,_,h=>by simp [fg] at h
 | .arr _ _,_,_,_,_,h=>by simp [fg] at h
 | .unit,_,_,_,_,h=>by simp [fg] at h
 | .ext _,_,_,_,_,h=>by simp [fg] at h
 | .node,_,_,_,_,h=>by simp [fg] at h
 | .mp _ _,_,[],_,_,h=>by simp [fg] at h
 | .mp _ _,_,m::_,_,_,h=>by
  simp only [fg] at h
  split at h
  ·simp only [List.mem_singleton] at h
   subst h
   simp [AF.hdN,TC.nh]
  ·cases h
theorem JN : ∀ (ts:List TC) (x:dR ts) (ms:List RM) (j:Nat),∀ f∈mF ts x ms j,f.hdN<j+gL ts
 | [],_,_,_,_,h=>by simp [mF] at h
 | [t],x,ms,j,f,h=>by have:=tH t x ms j f h; simp only [gL]; omega
 | t::t' :: r,x,ms,j,f,h=>by
  simp only [mF,List.mem_append] at h
  have e:gL (t::t' :: r)=t.nh+gL (t' :: r):=rfl
  rcases h with h | h
  ·have:=tH t _ _ _ f h; omega
  ·have:=JN (t' :: r) _ _ _ f h; omega
def xR:(ts:List TC)→dR ts→Nat→List AV
 | [],_,_=>[]
 | [t],x,n=>[nP t x n]
 | t::t' :: r,x,n=>nP t x.1 n::xR (t' :: r) x.2 (n+t.nh)
def uE (nr:Nat) (ts:List TC) (x:dR ts) (n:Nat):AV:=match (xR ts x n).take nr with
 | [v]=>v
 | vs=>.tu vs
def T1:(t:TC)→t.den→Nat→TypeId→Nat→List AF
 | .slice t,xs,h,e,c=>bif t.ty.pureB||ep e then [.own t e c [] xs h] else []
 | _,_,_,_,_=>[]
inductive ObA
 | b (n:Nat)
 | r (h:Nat) (e:TypeId)
def ObA.v (η:Vn):ObA→ObH
 | .b n=>.b (η.b n)
 | .r h e=>.r (η.h h) e
def ObA.free (n:Nat):ObA→Bool
 | .b _=>true
 | .r h _=>cq n h
def zA (t:TC) (x:t.den) (n:Nat) (s:Nat) (bs:List ObA) (c:Nat):List AF:=match s,bs with
 | 0, .b b::_=>[.box c b (gS t x n)]
 | 0, .r h e::_=>T1 t x h e c
 | _,_=>[]
theorem ZJ {η:Vn} : ∀ (t:TC) (x:t.den) (h:Nat) (e:TypeId) (c:Nat),(T1 t x h e c).map (AF.ha η)=uo t x (η.h h) e c
 | .slice t,xs,h,e,c=>by
  simp only [T1,uo]
  cases (t.ty.pureB||ep e) <;> rfl
 | .sc _,_,_,_,_=>rfl
 | .arr _ _,_,_,_,_=>rfl
 | .unit,_,_,_,_=>rfl
 | .pair _ _,_,_,_,_=>rfl
 | .st _,_,_,_,_=>rfl
 | .ext _,_,_,_,_=>rfl
 | .node,_,_,_,_=>rfl
 | .mp _ _,_,_,_,_=>rfl
theorem Iz : ∀ (t:TC) (x:t.den) (h:Hd) (e:TypeId) (c:Nat),2≤c→(uo t x h e c).all HA.leaves=true
 | .slice t,xs,h,e,c,hc=>by
  simp only [uo]
  cases (t.ty.pureB||ep e) <;> simp [sK,hc]
 | .sc _,_,_,_,_,_=>rfl
 | .arr _ _,_,_,_,_,_=>rfl
 | .unit,_,_,_,_,_=>rfl
 | .pair _ _,_,_,_,_,_=>rfl
 | .st _,_,_,_,_,_=>rfl
 | .ext _,_,_,_,_,_=>rfl
 | .node,_,_,_,_,_=>rfl
 | .mp _ _,_,_,_,_,_=>rfl
theorem Po {N:Nat} {Ka:List Nat} : ∀ (t:TC) (x:t.den) (h:Hd) (e:TypeId) (c:Nat),(uo t x h e (c+2)).map (HA.inst N Ka)=uo t x h e (N+c)
 | .slice t,xs,h,e,c=>by
  simp only [uo]
  cases (t.ty.pureB||ep e) <;> simp [vX,instK]
 | .sc _,_,_,_,_=>rfl
 | .arr _ _,_,_,_,_=>rfl
 | .unit,_,_,_,_=>rfl
 | .pair _ _,_,_,_,_=>rfl
 | .st _,_,_,_,_=>rfl
 | .ext _,_,_,_,_=>rfl
 | .node,_,_,_,_=>rfl
 | .mp _ _,_,_,_,_=>rfl
def Ii:(ts:List TC)→dR ts→Nat→Nat→List ObA→Nat→List AF
 | [],_,_,_,_,_=>[]
 | [t],x,n,s,bs,c=>zA t x n s bs c
 | t::t' :: r,x,n,s,bs,c=>zA t x.1 n s bs c++Ii (t' :: r) x.2 (n+t.nh) (s - 1) (nx s bs.tail bs) (nx s (c+1) c)
def gx (η:Vn) (n:Nat) (l:List Hd):Prop:=∀ j h,l[j]? = some h→η.h (n+j)=h
theorem gE {η:Vn}:(t:TC)→(x:t.den)→(l:List Hd)→(n:Nat)→gx η n l→t.nh≤l.length→aq η (gS t x n)=t.ty.fill x (aI t l)
 | .sc _,_,_,_,_,_=>rfl
 | .arr _ _,_,_,_,_,_=>by simp [gS,aq,Lf.cells,Ty.fill]
 | .unit,_,_,_,_,_=>rfl
 | .pair a b,x,l,n,h,hl=>by
  simp only [TC.nh] at hl
  simp only [gS,aR,Ty.fill,aI]
  rw [gE a x.1 l n h (by omega),gE b x.2 (l.drop a.nh) (n+a.nh) (fun j hh hj=>by
   rw [List.getElem?_drop] at hj
   have:=h _ hh hj
   rwa [show n+a.nh+j=n+(a.nh+j) by omega]) (by simp; omega)]
 | .slice _,x,l,n,h,hl=>by
  simp only [TC.nh] at hl
  cases l with
  | nil=>simp at hl
  | cons hd r=>
   have:=h 0 hd rfl
   simp only [Nat.add_zero] at this
   simp [gS,aq,Lf.cells,Ty.fill,aI,this]
 | .st a,x,l,n,h,hl=>gE a x l n h hl
 | .ext _,_,_,_,_,_=>rfl
 | .node,x,l,n,h,hl=>by
  simp only [TC.nh] at hl
  cases l with
  | nil=>simp at hl
  | cons hd r=>
   have:=h 0 hd rfl
   simp only [Nat.add_zero] at this
   simp [gS,aq,Lf.cells,Ty.fill,Nd.fill,aI,this]
 | .mp _ _,x,l,n,h,hl=>by
  simp only [TC.nh] at hl
  cases l with
  | nil=>simp at hl
  | cons hd r=>
   have:=h 0 hd rfl
   simp only [Nat.add_zero] at this
   simp [gS,aq,Lf.cells,Ty.fill,aI,this]
theorem vH {η:Vn} (t:TC) (x:t.den) (l:List Hd) (n:Nat) (h:gx η n l) (hl:t.nh≤l.length):(nP t x n).val η=j6 t x (aI t l):=by
 cases t with
 | sc s=>rfl
 | arr m s=>rfl
 | unit=>rfl
 | pair a b=>simp only [nP,AV.val,j6]; rw [gE _ x l n h hl]
 | st a=>simp only [nP,AV.val,j6,aI]; rw [gE a x l n h hl]
 | slice t=>
  simp only [TC.nh] at hl
  cases l with
  | nil=>simp at hl
  | cons hd r=>
   have:=h 0 hd rfl
   simp only [Nat.add_zero] at this
   simp [nP,AV.val,Lf.val,j6,aI,this]
 | ext k=>rfl
 | node=>simp only [nP,AV.val,j6]; rw [gE .node x l n h hl]
 | mp k v=>
  simp only [TC.nh] at hl
  cases l with
  | nil=>simp at hl
  | cons hd r=>
   have:=h 0 hd rfl
   simp only [Nat.add_zero] at this
   simp [nP,AV.val,Lf.val,j6,aI,this]
theorem BO {η:Vn} : ∀ (ts:List TC) (x:dR ts) (l:List Hd) (n:Nat),gx η n l→gL ts≤l.length→AV.vals η (xR ts x n)=iO ts x l
 | [],_,_,_,_,_=>rfl
 | [t],x,l,n,h,hl=>by
  simp only [gL] at hl
  simp only [xR,AV.vals,iO]
  rw [vH t x l n h (by omega)]
 | t::t' :: r,x,l,n,h,hl=>by
  simp only [gL] at hl
  simp only [xR,AV.vals,iO]
  rw [vH t x.1 l n h (by omega),BO (t' :: r) x.2 (l.drop t.nh) (n+t.nh) (fun j hh hj=>by
   rw [List.getElem?_drop] at hj
   have:=h _ hh hj
   rwa [show n+t.nh+j=n+(t.nh+j) by omega]) (by simp only [gL,List.length_drop]; omega)]
theorem BJ {η:Vn} : ∀ (vs:List AV) (k:Nat),AV.vals η (vs.take k)=(AV.vals η vs).take k
 | [],k=>by cases k <;> rfl
 | v::r,0=>rfl
 | v::r,k+1=>by simp only [List.take_succ_cons,AV.vals,BJ r k]
theorem B4 {η:Vn} {nr:Nat} (ts:List TC) (x:dR ts) (l:List Hd) (n:Nat) (h:gx η n l) (hl:gL ts≤l.length):(uE nr ts x n).val η=yg nr ts x l:=by
 have e:=BO ts x l n h hl
 have e2:=BJ (η:=η) (xR ts x n) nr
 rw [e] at e2
 unfold uE yg
 rw [← e2]
 generalize (xR ts x n).take nr=vs
 cases vs with
 | nil=>rfl
 | cons v r=>cases r <;> rfl
theorem ZO {η:Vn} : ∀ (ts:List TC) (x:dR ts) (l:List Hd) (n s:Nat) (bs:List ObA) (c:Nat),gx η n l→gL ts≤l.length→(Ii ts x n s bs c).map (AF.ha η)=ni ts x l s (bs.map (ObA.v η)) c:=by
 have one : ∀ (t:TC) (x:t.den) (l:List Hd) (n s:Nat) (bs:List ObA) (c:Nat),gx η n l→t.nh≤l.length→(zA t x n s bs c).map (AF.ha η)=nY t x l s (bs.map (ObA.v η)) c:=by
  intro t x l n s bs c h hl
  cases s with
  | succ s=>rfl
  | zero=>
   cases bs with
   | nil=>rfl
   | cons b bs=>
    cases b with
    | b b=>simp only [zA,nY,List.map_cons,List.map_nil,AF.ha,ObA.v,gE t x l n h hl]
    | r hh e=>simp only [zA,nY,List.map_cons,ObA.v,ZJ]
 intro ts
 induction ts with
 | nil=>intros; rfl
 | cons t ts ih=>
  intro x l n s bs c h hl
  cases ts with
  | nil=>exact one t x l n s bs c h (by simp only [gL] at hl; omega)
  | cons t' ts=>
   have e:gL (t::t' :: ts)=t.nh+gL (t' :: ts):=rfl
   simp only [Ii,ni,List.map_append]
   rw [one t x.1 l n s bs c h (by omega),ih x.2 (l.drop t.nh) (n+t.nh) (s - 1) (nx s bs.tail bs) (nx s (c+1) c) (fun j hh hj=>by
    rw [List.getElem?_drop] at hj
    have:=h _ hh hj
    rwa [show n+t.nh+j=n+(t.nh+j) by omega]) (by simp only [List.length_drop]; omega)]
   congr 2
   cases s <;> simp [nx]
theorem Ir : ∀ (ts:List TC) (x:dR ts) (l:List Hd) (s:Nat) (bs:List ObH) (c:Nat),2≤c→(ni ts x l s bs c).all HA.leaves=true:=by
 have one : ∀ (t:TC) (x:t.den) (l:List Hd) (s:Nat) (bs:List ObH) (c:Nat),2≤c→(nY t x l s bs c).all HA.leaves=true:=by
  intro t x l s bs c hc
  cases s with
  | succ s=>rfl
  | zero=>
   cases bs with
   | nil=>rfl
   | cons b bs=>
    cases b with
    | b b=>simp [nY,HA.leaves,hc]
    | r hh e=>exact Iz t x hh e c hc
 intro ts
 induction ts with
 | nil=>intros; rfl
 | cons t ts ih=>
  intro x l s bs c hc
  cases ts with
  | nil=>exact one t x l s bs c hc
  | cons t' ts=>
   simp only [ni,List.all_append,Bool.and_eq_true]
   exact ⟨one t x.1 l s bs c hc,ih x.2 _ _ _ _ (by cases s <;> simp [nx] <;> omega)⟩
theorem Qu {N:Nat} {Ka:List Nat} : ∀ (ts:List TC) (x:dR ts) (l:List Hd) (s:Nat) (bs:List ObH) (c:Nat),(ni ts x l s bs (c+2)).map (HA.inst N Ka)=ni ts x l s bs (N+c):=by
 have one : ∀ (t:TC) (x:t.den) (l:List Hd) (s:Nat) (bs:List ObH) (c:Nat),(nY t x l s bs (c+2)).map (HA.inst N Ka)=nY t x l s bs (N+c):=by
  intro t x l s bs c
  cases s with
  | succ s=>rfl
  | zero=>
   cases bs with
   | nil=>rfl
   | cons b bs=>
    cases b with
    | b b=>simp [nY,HA.inst]
    | r hh e=>exact Po t x hh e c
 intro ts
 induction ts with
 | nil=>intros; rfl
 | cons t ts ih=>
  intro x l s bs c
  cases ts with
  | nil=>exact one t x l s bs c
  | cons t' ts=>
   simp only [ni,List.map_append,one]
   congr 1
   cases s with
   | zero=>simp only [nx]; exact ih x.2 _ _ _ (c+1)
   | succ s=>simp only [nx]; exact ih x.2 _ _ _ c
def Lf.isAr:Lf→Bool
 | .ar _ _ _=>true
 | .ars _ _=>true
 | _=>false
def nu (F:List AF) (t:TC) (v:AV):Option (t.den×List Lf×List Nat):=match v with
 | .ag ls=>bif t.aggT then match bH F t ls with | some (x,l,K,[])=>some (x,l,K) | _=>none else none
 | .lf l=>bif t.aggT==l.isAr then match bH F t [l] with | some (x,l,K,[])=>some (x,l,K) | _=>none else none
 | .tu _=>none
theorem qL {F:List AF} {η:Vn} {t:TC} {v:AV} {x:t.den} {l:List Lf} {K:List Nat} (h:nu F t v=some (x,l,K)) :
  v.val η=j6 t x (aI t (aL η l))∧l.length=t.nh ∧
  ∀ (w:World) (c:bd) (K' : List Nat),ai w c (F.map (AF.ha η))→(∀ k∈K,k∈K')→bA w (fun b=>c b∈K') t.ty x (aI t (aL η l)):=by
 cases v with
 | tu _=>cases h
 | ag ls=>
  simp only [nu] at h
  cases ha:t.aggT
  ·rw [ha] at h; cases h
  ·rw [ha] at h
   simp only [cond_true] at h
   split at h
   ·rename_i x' l' K' hd
    simp only [Option.some.injEq,Prod.mk.injEq] at h
    obtain ⟨rfl,rfl,rfl⟩:=h
    obtain ⟨h1,h2⟩:=cY (η:=η) t hd
    simp only [aq,List.append_nil] at h1
    refine ⟨?_,dM t hd,h2⟩
    simp only [AV.val,h1]
    cases t <;> first | rfl | cases ha
   ·cases h
 | lf lf=>
  simp only [nu] at h
  cases ha:(t.aggT==lf.isAr)
  ·rw [ha] at h; cases h
  ·rw [ha] at h
   simp only [cond_true] at h
   split at h
   ·rename_i x' l' K' hd
    simp only [Option.some.injEq,Prod.mk.injEq] at h
    obtain ⟨rfl,rfl,rfl⟩:=h
    obtain ⟨h1,h2⟩:=cY (η:=η) t hd
    refine ⟨?_,dM t hd,h2⟩
    simp only [aq,List.append_nil] at h1
    cases lf with
    | ar m s y=>
     have ht:t.aggT=true:=by simpa [Lf.isAr] using ha
     simp only [AV.val,Lf.val]
     simp only [Lf.cells] at h1
     rw [h1]
     cases t <;> first | rfl | cases ht
    | ars t' y=>
     have ht:t.aggT=true:=by simpa [Lf.isAr] using ha
     simp only [AV.val,Lf.val]
     simp only [Lf.cells] at h1
     rw [h1]
     cases t <;> first | rfl | cases ht
    | _=>
     have ht:t.aggT=false:=by simpa [Lf.isAr] using ha
     simp only [AV.val]
     cases t <;> first | cases ht | skip
     all_goals simp only [Lf.cells,Ty.fill,List.cons.injEq,and_true] at h1
     all_goals exact h1
   ·cases h
def pd (F:List AF):(ts:List TC)→List AV→Option (dR ts×List Lf×List Nat)
 | [],[]=>some ((),[],[])
 | [t],[v]=>nu F t v
 | t::t' :: r,v::vs=>match nu F t v,pd F (t' :: r) vs with
  | some (x,l,K),some (y,l',K')=>some ((x,y),l++l',K++K')
  | _,_=>none
 | _,_=>none
theorem HX {F:List AF} {η:Vn} : ∀ {ts:List TC} {vs:List AV} {x:dR ts} {l:List Lf} {K:List Nat},pd F ts vs=some (x,l,K) →
  AV.vals η vs=iO ts x (aL η l)∧l.length=gL ts
 | [],[],_,l,K,h=>by
  simp only [pd,Option.some.injEq,Prod.mk.injEq] at h
  obtain ⟨_,rfl,rfl⟩:=h
  exact ⟨rfl,rfl⟩
 | [t],[v],x,l,K,h=>by
  obtain ⟨h1,h2,h3⟩:=qL (η:=η) (t:=t) h
  exact ⟨by simp only [AV.vals,iO,h1],by simp only [gL,h2]; omega⟩
 | t::t' :: r,v::vs,x,l,K,h=>by
  simp only [pd] at h
  split at h
  ·rename_i x1 l1 K1 x2 l2 K2 ha hb
   simp only [Option.some.injEq,Prod.mk.injEq] at h
   obtain ⟨rfl,rfl,rfl⟩:=h
   obtain ⟨h1,h2,h3⟩:=qL (η:=η) ha
   obtain ⟨g1,g2⟩:=HX (η:=η) hb
   have e0:aL η (l1++l2)=aL η l1++aL η l2:=by simp [aL]
   have e1:aI t (aL η (l1++l2))=aI t (aL η l1):=by rw [e0]; exact dl t _ _ (by simp [aL,h2])
   have e2:(aL η (l1++l2)).drop t.nh=aL η l2:=by
    rw [e0,List.drop_append,List.drop_eq_nil_of_le (by simp [aL,h2]),show t.nh - (aL η l1).length=0 by simp [aL,h2]]
    rfl
   refine ⟨?_,by simp only [gL] at g2 ⊢; simp [h2,g2]⟩
   simp only [AV.vals,iO,e1,e2,h1,g1]
  ·cases h
 | [],_::_,_,_,_,h=>by simp [pd] at h
 | [_],[],_,_,_,h=>by simp [pd] at h
 | [_],_::_::_,_,_,_,h=>by simp [pd] at h
 | _::_::_,[],_,_,_,h=>by simp [pd] at h
def qF {α:Type}:Option (α×List Lf×List Nat×List Lf)→Option (α×List Lf×List Nat×List (Nat×Nat)×List Lf)
 | some (x,l,K,r)=>some (x,l,K,[],r)
 | none=>none
theorem ef {α:Type} {m:Option (α×List Lf×List Nat×List Lf)} {x:α} {l:List Lf} {K:List Nat} {μ:List (Nat×Nat)} {r:List Lf} (h:qF m=some (x,l,K,μ,r)):m=some (x,l,K,r):=by
 unfold qF at h
 split at h
 ·simp only [Option.some.injEq,Prod.mk.injEq] at h
  obtain ⟨rfl,rfl,rfl,_,rfl⟩:=h
  rfl
 ·cases h
def XS (F:List AF) (k v:TC) (r:List Lf) (os:List (Option TypeId)) (q:Nat):Option ((TC.mp k v).den×List Lf×List Nat×List (Nat×Nat)×List Lf):=match os with
 | some _::_=>match r with
  | .mp h::r=>match rd k v h F with
   | some s=>some (s.xs,[.mp h],[],[(s.i,q)],r)
   | none=>none
  | _=>none
 | _=>qF (bH F (.mp k v) r)
def gd (F:List AF):(t:TC)→List Lf→List (Option TypeId)→Nat→Option (t.den×List Lf×List Nat×List (Nat×Nat)×List Lf)
 | .pair a b,r,os,q=>match gd F a r os q with
  | some (x,l1,K1,μ1,r1)=>match gd F b r1 (os.drop a.nh) (q+a.nh) with
   | some (y,l2,K2,μ2,r2)=>some ((x,y),l1++l2,K1++K2,μ1++μ2,r2)
   | none=>none
  | none=>none
 | .slice t,r,os,q=>match os,r with
  | some e::_, .sl h::r=>match eN t e 0 F (.sl h) with
   | some (i,K,xs)=>some (xs,[.sl h],K,[(i,q)],r)
   | none=>none
  | some _::_, .nl::r=>some ([],[.nl],[],[],r)
  | some _::_,_=>none
  | _,r=>qF (bH F (.slice t) r)
 | .st a,r,os,q=>gd F a r os q
 | .sc s,r,_,_=>qF (bH F (.sc s) r)
 | .arr n s,r,_,_=>qF (bH F (.arr n s) r)
 | .unit,r,_,_=>qF (bH F .unit r)
 | .ext n,r,_,_=>qF (bH F (.ext n) r)
 | .node,r,_,_=>qF (bH F .node r)
 | .mp k v,r,os,q=>XS F k v r os q
theorem EQ {w:World} {c:bd} {m:Nat→Nat} {t:Ty} {e:TypeId} {i q:Nat} {K:List Nat} {xs:List t.den} {v:Hd} (h:HA.holds w c (dx t e i K xs v)) (hK : ∀ k∈K,m k=1) (hi:m i=q):HA.holds w (fun b=>m (c b)) (dx t e q [1] xs v):=
 HZ (fun b _ hb=>by show m (c b)=q; rw [hb,hi]) (fun b _ hb=>by show m (c b)∈[1]; rw [hK _ hb]; simp) h
theorem G8 {w:World} {c:bd} {m:Nat→Nat} {K:List Nat} {t:Ty} {x:t.den} {y:t.Refs} (h : ∀ K' : List Nat,(∀ k∈K,k∈K')→bA w (fun b=>c b∈K') t x y) (hK : ∀ k∈K,m k=1):bA w (fun b=>m (c b)∈([1]:List Nat)) t x y:=
 bA.keep (S:=fun b=>c b∈K) (fun b _ hb=>⟨by show m (c b)∈([1]:List Nat); rw [hK _ hb]; simp,rfl⟩) t x y (h K fun _ hk=>hk)
theorem Jj {F:List AF} {η:Vn} : ∀ (t:TC) {ls:List Lf} {os:List (Option TypeId)} {q:Nat} {x:t.den} {l:List Lf} {K:List Nat} {μ:List (Nat×Nat)} {r:List Lf},gd F t ls os q=some (x,l,K,μ,r) →
  aq η ls=t.ty.fill x (aI t (aL η l))++aq η r∧l.length=t.nh ∧
  ∀ (w:World) (c:bd) (m:Nat→Nat),ai w c (F.map (AF.ha η))→(∀ k∈K,m k=1)→(∀ p∈μ,m p.1=p.2)→ai w (fun b=>m (c b)) (gw t x (aI t (aL η l)) os q):=by
 intro t
 induction t with
 | sc s=>
  intro ls os q x l K μ r h
  simp only [gd] at h
  exact ⟨(cY _ (ef h)).1,dM _ (ef h),fun _ _ _ _ _ _=>ai.nil _ _⟩
 | arr n s=>
  intro ls os q x l K μ r h
  simp only [gd] at h
  exact ⟨(cY _ (ef h)).1,dM _ (ef h),fun _ _ _ _ _ _=>ai.nil _ _⟩
 | unit=>
  intro ls os q x l K μ r h
  simp only [gd] at h
  exact ⟨(cY _ (ef h)).1,dM _ (ef h),fun _ _ _ _ _ _=>ai.nil _ _⟩
 | ext n=>
  intro ls os q x l K μ r h
  simp only [gd] at h
  exact ⟨(cY _ (ef h)).1,dM _ (ef h),fun _ _ _ _ _ _=>ai.nil _ _⟩
 | node=>
  intro ls os q x l K μ r h
  simp only [gd] at h
  obtain ⟨g1,g2⟩:=cY (η:=η) .node (ef h)
  exact ⟨g1,dM _ (ef h),fun w c m hF hK _=>ai.cons (lQ.1 (G8 (fun K' hK' => g2 w c K' hF hK') hK)) (ai.nil _ _)⟩
 | mp k v _ _=>
  intro ls os q x l K μ r h
  have rep:(match os with | some _::_=>False | _=>True)→bH F (.mp k v) ls=some (x,l,K,r)→aq η ls=(TC.mp k v).ty.fill x (aI (.mp k v) (aL η l))++aq η r∧l.length=(TC.mp k v).nh ∧
    ∀ (w:World) (c:bd) (m:Nat→Nat),ai w c (F.map (AF.ha η))→(∀ k∈K,m k=1)→(∀ p∈μ,m p.1=p.2)→ai w (fun b=>m (c b)) (gw (.mp k v) x (aI (.mp k v) (aL η l)) os q):=by
   intro ho hd
   refine ⟨(cY (η:=η) (.mp k v) hd).1,dM _ hd,fun w c m hF hK _=>?_⟩
   simp only [gw]
   split
   ·simp at ho
   ·exact ai.nil _ _
  simp only [gd] at h
  cases os with
  | nil=>exact rep trivial (ef h)
  | cons o os' =>
   cases o with
   | none=>exact rep trivial (ef h)
   | some e=>
    simp only [XS] at h
    split at h
    ·rename_i hh r'
     dsimp only at h
     split at h
     ·rename_i s hs
      simp only [Option.some.injEq,Prod.mk.injEq] at h
      obtain ⟨rfl,rfl,rfl,rfl,rfl⟩:=h
      refine ⟨rfl,rfl,fun w c m hF hK hμ=>ai.cons ?_ (ai.nil _ _)⟩
      have hA:HA.holds w c (.mp s.i (η.h hh).blk (vL k v s.xs)):=hF _ (List.mem_map.2 ⟨_,gT hs,rfl⟩)
      exact qf.keep (S:=fun b=>c b=s.i) (fun b _ hc=>⟨by show m (c b)=q; rw [hc]; exact hμ _ List.mem_cons_self,rfl⟩) hA
     ·cases h
    ·cases h
 | st a ih=>exact fun h=>ih h
 | pair a b iha ihb=>
  intro ls os q x l K μ r h
  simp only [gd] at h
  split at h
  ·rename_i x1 l1 K1 μ1 r1 h1
   split at h
   ·rename_i x2 l2 K2 μ2 r2 h2
    simp only [Option.some.injEq,Prod.mk.injEq] at h
    obtain ⟨rfl,rfl,rfl,rfl,rfl⟩:=h
    obtain ⟨c1,n1,f1⟩:=iha h1
    obtain ⟨c2,n2,f2⟩:=ihb h2
    have hn:(aL η l1).length=a.nh:=by simp [aL,n1]
    have e1:aI a (aL η (l1++l2))=aI a (aL η l1):=by
     rw [show aL η (l1++l2)=aL η l1++aL η l2 by simp [aL],dl a _ _ hn]
    have e2:aI b ((aL η (l1++l2)).drop a.nh)=aI b (aL η l2):=by
     rw [show aL η (l1++l2)=aL η l1++aL η l2 by simp [aL],List.drop_append,List.drop_eq_nil_of_le (by omega),show a.nh - (aL η l1).length=0 by omega]
     rfl
    refine ⟨?_,by simp only [TC.nh,List.length_append]; omega,fun w c m hF hK hμ=>?_⟩
    ·simp only [aI,Ty.fill]
     rw [e1,e2,c1,c2,List.append_assoc]
    ·simp only [gw,aI]
     rw [e1,e2]
     exact (f1 w c m hF (fun k hk=>hK k (List.mem_append_left _ hk)) fun p hp=>hμ p (List.mem_append_left _ hp)).append
      (f2 w c m hF (fun k hk=>hK k (List.mem_append_right _ hk)) fun p hp=>hμ p (List.mem_append_right _ hp))
   ·cases h
  ·cases h
 | slice t _=>
  intro ls os q x l K μ r h
  have rep:(match os with | some _::_=>False | _=>True)→bH F (.slice t) ls=some (x,l,K,r)→aq η ls=(TC.slice t).ty.fill x (aI (.slice t) (aL η l))++aq η r∧l.length=(TC.slice t).nh ∧
    ∀ (w:World) (c:bd) (m:Nat→Nat),ai w c (F.map (AF.ha η))→(∀ k∈K,m k=1)→(∀ p∈μ,m p.1=p.2)→ai w (fun b=>m (c b)) (gw (.slice t) x (aI (.slice t) (aL η l)) os q):=by
   intro ho hd
   obtain ⟨c1,f1⟩:=cY (η:=η) (.slice t) hd
   refine ⟨c1,dM _ hd,fun w c m hF hK _=>?_⟩
   have hr:=G8 (m:=m) (fun K' hK' => f1 w c K' hF hK') hK
   simp only [gw]
   split
   ·simp at ho
   ·exact ai.cons hr (ai.nil _ _)
  match os,ls,h,rep with
  | some e::os', .sl hh::r',h,_=>
   simp only [gd] at h
   split at h
   ·rename_i i K' xs ho
    simp only [Option.some.injEq,Prod.mk.injEq] at h
    obtain ⟨rfl,rfl,rfl,rfl,rfl⟩:=h
    exact ⟨rfl,rfl,fun w c m hF hK hμ=>ai.cons (EQ (eC ho hF) hK (hμ _ List.mem_cons_self)) (ai.nil _ _)⟩
   ·cases h
  | some e::os', .nl::r',h,_=>
   simp only [gd,Option.some.injEq,Prod.mk.injEq] at h
   obtain ⟨rfl,rfl,rfl,rfl,rfl⟩:=h
   exact ⟨rfl,rfl,fun w c m hF hK hμ=>ai.cons (pE _ _) (ai.nil _ _)⟩
  | none::_,_,h,rep=>exact rep trivial (ef h)
  | [],_,h,rep=>exact rep trivial (ef h)
  | some _::_,[],h,_=>simp [gd] at h
  | some _::_, .c _ _::_,h,_=>simp [gd] at h
  | some _::_, .ar _ _ _::_,h,_=>simp [gd] at h
  | some _::_, .bp _ _::_,h,_=>simp [gd] at h
  | some _::_, .bq _ _ _ _ _::_,h,_=>simp [gd] at h
  | some _::_, .rp _ _ _ _ _::_,h,_=>simp [gd] at h
  | some _::_, .xt _ _::_,h,_=>simp [gd] at h
  | some _::_, .fn _::_,h,_=>simp [gd] at h
  | some _::_, .clo _ _::_,h,_=>simp [gd] at h
  | some _::_, .gp _ _ _ _ _::_,h,_=>simp [gd] at h
  | some _::_, .ars _ _::_,h,_=>simp [gd] at h
  | some _::_, .v _::_,h,_=>simp [gd] at h
  | some _::_, .mp _::_,h,_=>simp [gd] at h
def tq (F:List AF) (p:PC) (v:AV) (q:Nat):Option (p.den×List Lf×List Nat×List (Nat×Nat)):=match p,v with
 | .d t,v=>match nu F t v with
  | some (x,l,K)=>some (x,l,K,[])
  | none=>none
 | .own t e, .lf (.sl h)=>match eN t e 0 F (.sl h) with
  | some (i,K,xs)=>some (xs,[.sl h],K,[(i,q)])
  | none=>none
 | .own _ _, .lf .nl=>some ([],[.nl],[],[])
 | .box m t os, .lf (.bp b 0)=>match ja b F with
  | some (i,cs)=>match gd F t cs (bif m then os else []) (q+1) with
   | some (x,l,K,μ,[])=>some (x, .bp b 0::l,(bif m then K else i::K),(bif m then (i,q)::μ else μ))
   | _=>none
  | none=>none
 | .fn f, .lf (.fn g)=>bif Nat.beq f g then some ((),[],[],[]) else none
 | .clo f t, .lf (.clo g b)=>bif Nat.beq f g then match ja b F with
  | some (i,cs)=>match gd F t cs [] (q+1) with
   | some (x,l,K,μ,[])=>some (x, .clo g b::l,i::K,μ)
   | _=>none
  | none=>none else none
 | .prt t e, .lf (.sl h')=>match lA h' F with
  | some (h,sz,lo,hi)=>match eN t e 0 F (.sl h) with
   | some (i,K,xs)=>bif Nat.beq sz t.ty.sz then some ((xs,lo,hi),[.sl h, .sl h'],K,[(i,q)]) else none
   | none=>none
  | none=>none
 | _,_=>none
theorem uV {F:List AF} {b i:Nat} {cs:List Lf} (h:ja b F=some (i,cs)) {η:Vn} {w:World} {c:bd} (hF:ai w c (F.map (AF.ha η))):HA.holds w c (.box i (η.b b) (aq η cs)):=
 hF _ (List.mem_map.2 ⟨_,eP h,rfl⟩)
theorem JB {F:List AF} {η:Vn} {p:PC} {v:AV} {q:Nat} {x:p.den} {l:List Lf} {K:List Nat} {μ:List (Nat×Nat)} (h:tq F p v q=some (x,l,K,μ)) :
  v.val η=p.val x (aL η l)∧l.length=p.nh ∧
  ∀ (w:World) (c:bd) (m:Nat→Nat),ai w c (F.map (AF.ha η))→(∀ k∈K,m k=1)→(∀ p∈μ,m p.1=p.2)→ai w (fun b=>m (c b)) (p.facts x (aL η l) q):=by
 have box : ∀ {i b q' : Nat} {cs:List Lf} {w:World} {c:bd} {m:Nat→Nat} {vs:List Value},ja b F=some (i,cs)→ai w c (F.map (AF.ha η))→m i=q' → aq η cs=vs→HA.holds w (fun b=>m (c b)) (.box q' (η.b b) vs):=by
  intro i b q' cs w c m vs hb hF hm hv
  obtain ⟨h1,h2⟩:=uV hb hF
  subst hv
  exact ⟨h1,by show m (c _)=q'; rw [h2,hm]⟩
 cases p with
 | d t=>
  simp only [tq] at h
  split at h
  ·rename_i hd
   simp only [Option.some.injEq,Prod.mk.injEq] at h
   obtain ⟨rfl,rfl,rfl,rfl⟩:=h
   obtain ⟨h1,h2,h3⟩:=qL (η:=η) hd
   refine ⟨h1,h2,fun w c m hF hK _=>?_⟩
   exact nz _ _ _ (G8 (m:=m) (fun K' hK' => h3 w c K' hF hK') hK)
  ·cases h
 | own t e=>
  cases v with
  | lf lf=>
   cases lf with
   | sl hh=>
    simp only [tq] at h
    split at h
    ·rename_i ho
     simp only [Option.some.injEq,Prod.mk.injEq] at h
     obtain ⟨rfl,rfl,rfl,rfl⟩:=h
     exact ⟨rfl,rfl,fun w c m hF hK hμ=>ai.cons (EQ (eC ho hF) hK (hμ _ List.mem_cons_self)) (ai.nil _ _)⟩
    ·cases h
   | nl=>
    simp only [tq,Option.some.injEq,Prod.mk.injEq] at h
    obtain ⟨rfl,rfl,rfl,rfl⟩:=h
    exact ⟨rfl,rfl,fun w c m hF hK hμ=>ai.cons (pE _ _) (ai.nil _ _)⟩
   | _=>cases h
  | _=>cases h
 | box m t os=>
  cases v with
  | lf lf=>
   cases lf with
   | bp b off=>
    cases off with
    | succ _=>cases h
    | zero=>
     simp only [tq] at h
     split at h
     ·rename_i i cs hb
      split at h
      ·rename_i x' l' K' μ' hd
       simp only [Option.some.injEq,Prod.mk.injEq] at h
       obtain ⟨rfl,rfl,rfl,rfl⟩:=h
       obtain ⟨c1,n1,f1⟩:=Jj (η:=η) t hd
       refine ⟨rfl,by simp only [PC.nh,List.length_cons,n1]; omega,fun w c mm hF hK hμ=>?_⟩
       simp only [aq,List.append_nil] at c1
       cases m with
       | true=>exact ai.cons (box hb hF (hμ (i,q) List.mem_cons_self) c1) (f1 w c mm hF hK fun p hp=>hμ p (List.mem_cons_of_mem _ hp))
       | false=>exact ai.cons (box hb hF (hK i List.mem_cons_self) c1) (f1 w c mm hF (fun k hk=>hK k (List.mem_cons_of_mem _ hk)) hμ)
      ·cases h
     ·cases h
   | _=>cases h
  | _=>cases h
 | fn f=>
  cases v with
  | lf lf=>
   cases lf with
   | fn g=>
    simp only [tq] at h
    cases hb:Nat.beq f g
    ·rw [hb] at h; cases h
    ·rw [hb] at h
     simp only [cond_true,Option.some.injEq,Prod.mk.injEq] at h
     obtain ⟨_,rfl,rfl,rfl⟩:=h
     obtain rfl:=Nat.eq_of_beq_eq_true hb
     exact ⟨rfl,rfl,fun _ _ _ _ _ _=>ai.nil _ _⟩
   | _=>cases h
  | _=>cases h
 | clo f t=>
  cases v with
  | lf lf=>
   cases lf with
   | clo g b=>
    simp only [tq] at h
    cases hfg:Nat.beq f g
    ·rw [hfg] at h; cases h
    ·rw [hfg] at h
     obtain rfl:=Nat.eq_of_beq_eq_true hfg
     simp only [cond_true] at h
     split at h
     ·rename_i i cs hb
      split at h
      ·rename_i x' l' K' μ' hd
       simp only [Option.some.injEq,Prod.mk.injEq] at h
       obtain ⟨rfl,rfl,rfl,rfl⟩:=h
       obtain ⟨c1,n1,f1⟩:=Jj (η:=η) t hd
       simp only [aq,List.append_nil] at c1
       refine ⟨rfl,by simp only [PC.nh,List.length_cons,n1]; omega,fun w c mm hF hK hμ=>?_⟩
       exact ai.cons (box hb hF (hK i List.mem_cons_self) c1) (f1 w c mm hF (fun k hk=>hK k (List.mem_cons_of_mem _ hk)) hμ)
      ·cases h
     ·cases h
   | _=>cases h
  | _=>cases h
 | prt t e=>
  cases v with
  | lf lf=>
   cases lf with
   | sl hh=>
    simp only [tq] at h
    split at h
    ·rename_i h0 sz lo hi hp
     split at h
     ·rename_i ho
      cases hsz:Nat.beq sz t.ty.sz
      ·rw [hsz] at h; cases h
      ·rw [hsz] at h
       simp only [cond_true,Option.some.injEq,Prod.mk.injEq] at h
       obtain ⟨rfl,rfl,rfl,rfl⟩:=h
       refine ⟨rfl,rfl,fun w c m hF hK hμ=>ai.cons (EQ (eC ho hF) hK (hμ _ List.mem_cons_self)) (ai.cons ?_ (ai.nil _ _))⟩
       have hpt:mV (η.h hh) (η.h h0) sz lo hi:=hF _ (List.mem_map.2 ⟨_,gy hp,rfl⟩)
       rw [Nat.eq_of_beq_eq_true hsz] at hpt
       exact hpt
     ·cases h
    ·cases h
   | _=>cases h
  | _=>cases h
def qz (F:List AF):(ps:List PC)→List AV→Nat→Option (iS ps×List Lf×List Nat×List (Nat×Nat))
 | [],[],_=>some ((),[],[],[])
 | [p],[v],q=>tq F p v q
 | p::p' :: r,v::vs,q=>match tq F p v q,qz F (p' :: r) vs (q+p.nc) with
  | some (x,l,K,μ),some (y,l',K',μ')=>some ((x,y),l++l',K++K',μ++μ')
  | _,_=>none
 | _,_,_=>none
theorem PC.val_left:(p:PC)→(x:p.den)→(l1 l2:List Hd)→l1.length=p.nh→p.val x (l1++l2)=p.val x l1
 | .d t,x,l1,l2,h=>by simp only [PC.val]; rw [dl t l1 l2 h]
 | .own _ _,_,[],_,h=>by simp [PC.nh] at h
 | .own _ _,_,_::_,_,_=>rfl
 | .box _ _ _,_,[],_,h=>by simp [PC.nh] at h; omega
 | .box _ _ _,_,_::_,_,_=>rfl
 | .fn _,_,_,_,_=>rfl
 | .clo _ _,_,[],_,h=>by simp [PC.nh] at h; omega
 | .clo _ _,_,_::_,_,_=>rfl
 | .prt _ _,_,[],_,h=>by simp [PC.nh] at h
 | .prt _ _,_,[_],_,h=>by simp [PC.nh] at h
 | .prt _ _,_,_::_::_,_,_=>rfl
theorem PC.facts_left:(p:PC)→(x:p.den)→(l1 l2:List Hd)→(q:Nat)→l1.length=p.nh→p.facts x (l1++l2) q=p.facts x l1 q
 | .d t,x,l1,l2,_,h=>by simp only [PC.facts]; rw [dl t l1 l2 h]
 | .own _ _,_,[],_,_,h=>by simp [PC.nh] at h
 | .own _ _,_,_::_,_,_,_=>rfl
 | .box _ _ _,_,[],_,_,h=>by simp [PC.nh] at h; omega
 | .box _ t _,_,a::l1,l2,_,h=>by
  have:l1.length=t.nh:=by simp [PC.nh] at h; omega
  simp only [PC.facts,List.cons_append,List.drop_succ_cons,List.drop_zero,List.headD_cons]
  rw [dl t l1 l2 this]
 | .fn _,_,_,_,_,_=>rfl
 | .clo _ _,_,[],_,_,h=>by simp [PC.nh] at h; omega
 | .clo _ t,_,a::l1,l2,_,h=>by
  have:l1.length=t.nh:=by simp [PC.nh] at h; omega
  simp only [PC.facts,List.cons_append,List.drop_succ_cons,List.drop_zero,List.headD_cons]
  rw [dl t l1 l2 this]
 | .prt _ _,_,[],_,_,h=>by simp [PC.nh] at h
 | .prt _ _,_,[_],_,_,h=>by simp [PC.nh] at h
 | .prt _ _,_,_::_::_,_,_,_=>rfl
theorem EJ {F:List AF} {η:Vn} : ∀ {ps:List PC} {vs:List AV} {q:Nat} {x:iS ps} {l:List Lf} {K:List Nat} {μ:List (Nat×Nat)},qz F ps vs q=some (x,l,K,μ) →
  AV.vals η vs=ka ps x (aL η l)∧l.length=oM ps ∧
  ∀ (w:World) (c:bd) (m:Nat→Nat),ai w c (F.map (AF.ha η))→(∀ k∈K,m k=1)→(∀ p∈μ,m p.1=p.2)→ai w (fun b=>m (c b)) (mJ ps x (aL η l) q)
 | [],[],_,_,l,K,μ,h=>by
  simp only [qz,Option.some.injEq,Prod.mk.injEq] at h
  obtain ⟨_,rfl,rfl,rfl⟩:=h
  exact ⟨rfl,rfl,fun _ _ _ _ _ _=>ai.nil _ _⟩
 | [p],[v],q,x,l,K,μ,h=>by
  obtain ⟨h1,h2,h3⟩:=JB (η:=η) (p:=p) h
  exact ⟨by simp only [AV.vals,ka,h1],by simp only [oM,h2]; omega,h3⟩
 | p::p' :: r,v::vs,q,x,l,K,μ,h=>by
  simp only [qz] at h
  split at h
  ·rename_i x1 l1 K1 μ1 x2 l2 K2 μ2 ha hb
   simp only [Option.some.injEq,Prod.mk.injEq] at h
   obtain ⟨rfl,rfl,rfl,rfl⟩:=h
   obtain ⟨h1,h2,h3⟩:=JB (η:=η) ha
   obtain ⟨g1,g2,g3⟩:=EJ (η:=η) hb
   have e0:aL η (l1++l2)=aL η l1++aL η l2:=by simp [aL]
   have hl:(aL η l1).length=p.nh:=by simp [aL,h2]
   have e2:(aL η (l1++l2)).drop p.nh=aL η l2:=by
    rw [e0,List.drop_append,List.drop_eq_nil_of_le (by omega),show p.nh - (aL η l1).length=0 by omega]
    rfl
   refine ⟨?_,by simp only [oM] at g2 ⊢; simp [h2,g2],fun w c m hF hK hμ=>?_⟩
   ·simp only [AV.vals,ka,e2,h1,g1]
    rw [e0,PC.val_left p x1 _ _ hl]
   ·simp only [mJ,e2]
    rw [e0,PC.facts_left p x1 _ _ _ hl]
    exact (h3 w c m hF (fun k hk=>hK k (List.mem_append_left _ hk)) fun p hp=>hμ p (List.mem_append_left _ hp)).append
     (g3 w c m hF (fun k hk=>hK k (List.mem_append_right _ hk)) fun p hp=>hμ p (List.mem_append_right _ hp))
  ·cases h
 | [],_::_,_,_,_,_,_,h=>by simp [qz] at h
 | [_],[],_,_,_,_,_,h=>by simp [qz] at h
 | [_],_::_::_,_,_,_,_,_,h=>by simp [qz] at h
 | _::_::_,[],_,_,_,_,_,h=>by simp [qz] at h
def xz (E:SE):List Operand→Option (List AV)
 | []=>some []
 | x::r=>match ev E x,xz E r with
  | some v,some vs=>some (v::vs)
  | _,_=>none
theorem EF {E:SE} {η:Vn} {ρ:cF} (hE:kH η ρ E) : ∀ {xs:List Operand} {vs:List AV},xz E xs=some vs→xs.map (aK ρ)=AV.vals η vs
 | [],vs,h=>by simp only [xz,Option.some.injEq] at h; subst h; rfl
 | x::r,vs,h=>by
  simp only [xz] at h
  split at h
  ·rename_i v vs' hv hvs
   simp only [Option.some.injEq] at h
   subst h
   simp only [List.map_cons,AV.vals,aF hE hv,EF hE hvs]
  ·cases h
abbrev R3:(ts:List TC)→dR ts
 | []=>()
 | [t]=>t.dft
 | t::t' :: r=>(t.dft,R3 (t' :: r))
section
variable {R:Type} {P:Program} {o:Oper} {E:SE} {F:List AF} {n:Nat} {Θ:Tb} {ex:Option Bool}
def xe:AV→Option (FuncId×List AV)
 | .lf (.fn f)=>some (f,[])
 | .lf (.clo f b)=>some (f,[.lf (.bp b 0)])
 | .lf (.c .fnc f)=>some (f,[])
 | _=>none
def abN (Ka:List Nat) (μ:List (Nat×Nat)):Bool:=Ka.all (fun k=>Nat.beq (mu μ Ka k) 1)&&μ.all (fun p=>Nat.beq (mu μ Ka p.1) p.2)&&μ.all (fun p=>Nat.ble 2 p.2)&&μ.all (fun p=>Nat.ble 2 p.1)
def bnm (l:List Lf) (k:Nat):Option ObA:=bif Nat.blt k 64 then (match l[k]? with
 | some (.bp b _)=>some (.b b)
 | _=>none) else match l[k % 64]? with
 | some (.sl h)=>some (.r h (k / 64 - 1))
 | _=>none
def GW (l:List Lf):List Nat→Option (List ObA)
 | []=>some []
 | k::r=>match bnm l k,GW l r with
  | some b,some bs=>some (b::bs)
  | _,_=>none
theorem Km {η:Vn} {l:List Lf} : ∀ {bl:List Nat} {bs:List ObA},GW l bl=some bs→AI (aL η l) bl=bs.map (ObA.v η)
 | [],bs,h=>by simp only [GW,Option.some.injEq] at h; subst h; rfl
 | k::r,bs,h=>by
  simp only [GW] at h
  split at h
  ·rename_i b bs' h1 h2
   simp only [Option.some.injEq] at h
   subst h
   have ih:=Km (η:=η) h2
   simp only [AI,List.map_cons,List.cons.injEq] at ih ⊢
   refine ⟨?_,ih⟩
   unfold bnm at h1
   unfold obH
   cases hk64:Nat.blt k 64
   ·rw [hk64] at h1
    simp only [cond_false] at h1 ⊢
    split at h1
    ·rename_i h' hk
     simp only [Option.some.injEq] at h1
     subst h1
     have:(aL η l)[k % 64]? = some ((Lf.sl h').hd η):=by rw [aL,List.getElem?_map,hk]; rfl
     rw [List.getD_eq_getElem?_getD,this]
     rfl
    ·cases h1
   ·rw [hk64] at h1
    simp only [cond_true] at h1 ⊢
    split at h1
    ·rename_i b' off hk
     simp only [Option.some.injEq] at h1
     subst h1
     have:(aL η l)[k]? = some ((Lf.bp b' off).hd η):=by rw [aL,List.getElem?_map,hk]; rfl
     rw [List.getD_eq_getElem?_getD,this]
     rfl
    ·cases h1
  ·cases h
theorem FH {w:World} {c:bd} {μ:List (Nat×Nat)} {Ka:List Nat} (hq:μ.all (fun p=>Nat.ble 2 p.1)=true) (h:ai w c lJ):ai w (fun b=>mu μ Ka (c b)) lJ:=by
 intro A hA
 have hh:=h A hA
 obtain ⟨e,_,rfl⟩:=List.mem_map.1 hA
 obtain ⟨h1,hb',h3⟩:=hh
 have hn:c e.g∉μ.map (·.1):=by
  intro hm
  obtain ⟨p,hp,he⟩:=List.mem_map.1 hm
  have:=Nat.le_of_ble_eq_true (List.all_eq_true.1 hq p hp)
  omega
 exact ⟨h1,(pX (Ka:=Ka) hn).1,h3⟩
def LV (C:Sig) (fx:iS C.ps→Option (dR C.rs)) (vs:List AV) (ex:Option Bool) (n N:Nat) (F:List AF) (k:Out→Option R) (alt:Option R):Option R:=match qz F C.ps vs 2 with
 | some (x,l,Ka,μ)=>match GW l C.bl with
  | some bs=>bif Nat.ble 2 N&&Nat.ble (gL C.rs) 64&&abN Ka μ&&bs.all (ObA.free n) then gbind ex (R3 C.rs) (fx x) fun r=>k ⟨uE C.nr C.rs r n,(mF C.rs r C.ms 0).map (AF.inst n N Ka)++Ii C.rs r n C.nr bs (N+128),μ.map (·.1)⟩ else none
  | none=>none
 | none=>alt
theorem Jf {C:Sig} {f:FuncId} {fx:iS C.ps→Option (dR C.rs)} (hC : ∀ x r,fx x=some r→OV P f C x r) {N:Nat} {x0:Operand} {v0:AV} {xs:Array Operand} {ts:Array TypeId} {vs cap:List AV} (ho:o.op = .call { callee:=.value x0,args:=xs,argTypes:=ts })
  (h0:ev E x0=some v0) (hv0:xe v0=some (f,cap)) (hvs:xz E xs.toList=some vs) (k:Out→Option R) {alt:Option R} (halt:aj ex P o E F n alt k) :
  aj ex P o E F n (LV C fx (vs++cap) ex n N F k alt) k:=by
 unfold LV
 split
 ·rename_i x l Ka μ hd
  split
  ·rename_i bs hbs
   refine aj.bif fun hc=>aj.gbind fun r hr=>aj.ofG fun hx η ρ hE=>?_
   simp only [Bool.and_eq_true,abN] at hc
   obtain ⟨⟨⟨hN,h64⟩,⟨⟨hKa,hμ⟩,hq⟩,hq1⟩,hfree⟩:=hc
   obtain ⟨⟨fn,cd,hf,hb,hnm⟩,hs⟩:=hC x r (hr hx)
   obtain ⟨d1,d2,d3⟩:=EJ (η:=η) hd
   have h64:=Nat.le_of_ble_eq_true h64
   have happ : ∀ (a b:List AV),AV.vals η (a++b)=AV.vals η a++AV.vals η b:=by
    intro a b
    induction a with
    | nil=>rfl
    | cons v r ih=>simp only [List.cons_append,AV.vals,ih]
   have hargs:xs.toList.map (aK ρ)++AV.vals η cap=ka C.ps x (aL η l):=by rw [EF hE hvs,← happ,d1]
   have hcv:aK ρ x0 = .func (.func f) #[] (AV.vals η cap).toArray:=by
    rw [aF hE h0]
    unfold xe at hv0
    split at hv0
    all_goals first | (simp only [Option.some.injEq,Prod.mk.injEq] at hv0; rw [← hv0.1,← hv0.2]; rfl) | cases hv0
   let ηy : { y:List Hd // y.length=gL C.rs }→Vn:=fun y=>⟨fun m=>bif Nat.ble n m&&Nat.blt m (n+64) then (ηL y.1).h (m - n) else η.h m,η.b⟩
   have hat : ∀ (y : { y:List Hd // y.length=gL C.rs }) (j:Nat),j<64→(ηy y).h (n+j)=(ηL y.1).h j:=by
    intro y j hlt
    have:(Nat.ble n (n+j)&&Nat.blt (n+j) (n+64))=true:=by
     rw [Bool.and_eq_true]; exact ⟨Nat.ble_eq_true_of_le (by omega),Nat.ble_eq_true_of_le (by omega)⟩
    simp only [ηy,this,cond_true,show n+j - n=j by omega]
   have hnamed : ∀ y : { y:List Hd // y.length=gL C.rs },gx (ηy y) n y.1:=by
    intro y j h hj
    have hlt:=(List.getElem?_eq_some_iff.1 hj).1
    rw [hat y j (by have:=y.2; omega)]
    simp [ηL,hj]
   have hagr : ∀ y : { y:List Hd // y.length=gL C.rs },η.agr n (ηy y):=by
    intro y m hm
    refine ⟨?_,rfl⟩
    have:(Nat.ble n m&&Nat.blt m (n+64))=false:=by
     cases hbb:(Nat.ble n m&&Nat.blt m (n+64))
     ·rfl
     ·simp only [Bool.and_eq_true] at hbb
      have h1:=Nat.le_of_ble_eq_true hbb.1
      have h2:m+1≤n+64:=Nat.le_of_ble_eq_true hbb.2
      simp only [cq,Bool.or_eq_true] at hm
      rcases hm with hm | hm
      ·have:m+1≤n:=Nat.le_of_ble_eq_true hm; omega
      ·have:=Nat.le_of_ble_eq_true hm; omega
    simp only [ηy,this,cond_false]
   refine (TN (Y:={ y:List Hd // y.length=gL C.rs }) (val:=fun y=>yg C.nr C.rs r y.1) (fcts:=fun y=>(mF C.rs r C.ms 0).map (AF.ha (ηL y.1))++ni C.rs r y.1 C.nr (AI (aL η l) C.bl) 130)
    (Φ:=fun y=>((mF C.rs r C.ms 0).map (AF.inst n N Ka)++Ii C.rs r n C.nr bs (N+128)).map (AF.ha (ηy y)))
    (fun w c0 hH=>hs (aL η l) (by simp [aL,d2]) w c0 hH) ho hcv hargs hf hb hnm Ka μ hq
    (fun w c hH=>(d3 w c (mu μ Ka) (fun A hA=>hH A (List.mem_append_left _ hA)) (fun kk hk=>Nat.eq_of_beq_eq_true (List.all_eq_true.1 hKa kk hk)) fun p hp=>Nat.eq_of_beq_eq_true (List.all_eq_true.1 hμ p hp)).append
     (FH hq1 fun A hA=>hH A (List.mem_append_right _ hA))) ?_ ?_ hN).map
    (fun y=>⟨ηy y,?_⟩) (fun y=>?_) fun y=>rfl
   ·intro y
    rw [List.all_append,Bool.and_eq_true]
    refine ⟨List.all_eq_true.2 fun A hA=>?_,Ir _ _ _ _ _ _ (by omega)⟩
    obtain ⟨B,hB,rfl⟩:=List.mem_map.1 hA
    exact (sU _ _ _ _ B hB).1
   ·intro y
    simp only [List.map_append]
    congr 1
    ·rw [List.map_map,List.map_map]
     refine List.map_congr_left fun f hf=>?_
     refine inst_ha f ?_ (sU (η:=η) _ _ _ _ f hf).2
     have hlt:=JN _ _ _ _ f hf
     exact hat y _ (by omega)
    ·rw [Qu,ZO C.rs r y.1 n C.nr bs (N+128) (hnamed y) (by rw [y.2]; exact Nat.le_refl _),Km (η:=η) hbs]
     congr 1
     refine List.map_congr_left fun b hb=>?_
     have hbf:=List.all_eq_true.1 hfree b hb
     cases b with
     | b _=>rfl
     | r hh e=>simp only [ObA.v,(hagr y hh hbf).1]
   ·exact hagr y
   ·exact (B4 C.rs r y.1 n (hnamed y) (by rw [y.2]; exact Nat.le_refl _)).symm
  ·exact aj.none
 ·exact halt
def D4 (f:FuncId) (vs:List AV) (ex:Option Bool) (n N:Nat) (F:List AF) (k:Out→Option R):List Ctr→Option R
 | []=>none
 | C::r=>LV C.toSig C.fn vs ex n N F k (D4 f vs ex n N F k r)
def TM (f:Nat) (vs:List AV) (ex:Option Bool) (n N:Nat) (F:List AF) (k:Out→Option R):List DCtr→Option R
 | []=>none
 | C::r=>LV C.toSig (C.fn f) vs ex n N F k (TM f vs ex n N F k r)
def Cr (Γ:Ct) (D:List DCtr) (E:SE) (ex:Option Bool) (n N:Nat) (v0:AV) (xs:List Operand) (F:List AF) (k:Out→Option R):Option R:=match xz E xs with
 | some vs=>match v0 with
  | .lf (.fn f)=>D4 f (vs++[]) ex n N F k (Γ f)
  | .lf (.clo f b)=>D4 f (vs++[.lf (.bp b 0)]) ex n N F k (Γ f)
  | .lf (.c .fnc f)=>TM f (vs++[]) ex n N F k D
  | _=>none
 | none=>none
theorem E0 {Γ:Ct} (hΓ:Γ.ok P) {D:List DCtr} (hD : ∀ C∈D,DCtr.sound P C) {N:Nat} {v0:AV} {x0:Operand} {xs:Array Operand} {ts:Array TypeId} (ho:o.op = .call { callee:=.value x0,args:=xs,argTypes:=ts }) (h0:ev E x0=some v0) (k:Out→Option R) :
  aj ex P o E F n (Cr Γ D E ex n N v0 xs.toList F k) k:=by
 have all : ∀ {f:FuncId} {vs cap:List AV} {l:List Ctr},xe v0=some (f,cap)→xz E xs.toList=some vs→(∀ C∈l,Ctr.sound P f C)→aj ex P o E F n (D4 f (vs++cap) ex n N F k l) k:=by
  intro f vs cap l hv hvs hl
  induction l with
  | nil=>exact aj.none
  | cons C r ih=>exact Jf (hl C List.mem_cons_self) ho h0 hv hvs k (ih fun C hC=>hl C (List.mem_cons_of_mem _ hC))
 have dyn : ∀ {f:FuncId} {vs cap:List AV} {l:List DCtr},xe v0=some (f,cap)→xz E xs.toList=some vs→(∀ C∈l,DCtr.sound P C)→aj ex P o E F n (TM f (vs++cap) ex n N F k l) k:=by
  intro f vs cap l hv hvs hl
  induction l with
  | nil=>exact aj.none
  | cons C r ih=>exact Jf (hl C List.mem_cons_self f) ho h0 hv hvs k (ih fun C hC=>hl C (List.mem_cons_of_mem _ hC))
 unfold Cr
 split
 ·rename_i vs hvs
  split
  ·exact all rfl hvs (hΓ _)
  ·exact all rfl hvs (hΓ _)
  ·exact dyn rfl hvs hD
  ·exact aj.none
 ·exact aj.none
end
end
end Go.Sm
