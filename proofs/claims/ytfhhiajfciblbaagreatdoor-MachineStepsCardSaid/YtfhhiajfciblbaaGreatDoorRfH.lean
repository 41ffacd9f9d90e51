/- Laws for the row. No condition. -/
import Derived.Test.YtfhhiajfciblbaaGreatDoorRfT
namespace Go.Sm
set_option linter.unusedSectionVars false
variable {N:Nat} {w:World} {Ka:List Nat} {xs:Array Operand} {ts:Array TypeId} {μ:List (Nat×Nat)}
section
variable [X:XTab] [G:GTab]
abbrev eC:List TC→Type
 | []=>Unit
 | [t]=>t.den
 | t::r=>t.den×eC r
def i9:List TC→Nat
 | []=>0
 | t::r=>t.nh+i9 r
def lY (t:TC) (x:t.den) (y:t.ty.Refs):Value:=match t,x,y with
 | .sc s,x,_=>s.val x
 | .arr n s,x,_=>.agg ((TC.arr n s).ty.fill x ()).toArray
 | .unit,_,_=>.agg #[]
 | .pair a b,x,y=>.agg ((TC.pair a b).ty.fill x y).toArray
 | .st a,x,y=>.agg (a.ty.fill x y).toArray
 | .slice _,_,h=>Hd.val h
 | .ext k,x,_=>X.val k x
 | .node,x,h=>.agg (Ty.node.fill x h).toArray
 | .mp _ _,_,h=>.map (some (Hd.blk h))
def kI:(ts:List TC)→eC ts→List Hd→List Value
 | [],_,_=>[]
 | [t],x,l=>[lY t x (aN t l)]
 | t::t' :: r,x,l=>lY t x.1 (aN t l)::kI (t' :: r) x.2 (l.drop t.nh)
structure RM where
 own:Option TypeId
 one:Bool
 new:Bool
def RM.K (m:RM) (c:Nat):List Nat:=(bif m.one then [1] else [])++(bif m.new then [c] else [])
def gr:(t:TC)→t.den→List RM→Nat→List AF
 | .pair a b,x,ms,j=>gr a x.1 ms j++gr b x.2 (ms.drop a.nh) (j+a.nh)
 | .slice t,xs,m::_,j=>match m.own with
  | some e=>bif Nat.ble 4194304 e && !(eW e) then [] else [.own t e (2+2 * j) (m.K 129) xs j]
  | none=>[.rep t (m.K 129) xs j]
 | .st a,x,ms,j=>gr a x ms j
 | .mp k v,xs,m::_,j=>match m.own with
  | some _=>[.mp k v (2+2 * j) xs j]
  | none=>[]
 | _,_,_,_=>[]
def oQ:(ts:List TC)→eC ts→List RM→Nat→List AF
 | [],_,_,_=>[]
 | [t],x,ms,j=>gr t x ms j
 | t::t' :: r,x,ms,j=>gr t x.1 ms j++oQ (t' :: r) x.2 (ms.drop t.nh) (j+t.nh)
inductive PC
 | d (t:TC)
 | own (t:TC) (e:TypeId)
 | box (m:Bool) (t:TC) (os:List (Option TypeId))
 | fn (f:FuncId)
 | clo (f:FuncId) (t:TC)
 | prt (t:TC) (e:TypeId)
abbrev PC.den:PC→Type
 | .d t=>t.den
 | .own t _=>List t.den
 | .box _ t _=>t.den
 | .fn _=>Unit
 | .clo _ t=>t.den
 | .prt t _=>List t.den×Int×Int
abbrev kA:List PC→Type
 | []=>Unit
 | [p]=>p.den
 | p::q::r=>p.den×kA (q::r)
def PC.nh:PC→Nat
 | .d t=>t.nh
 | .own _ _=>1
 | .box _ t _=>1+t.nh
 | .fn _=>0
 | .clo _ t=>1+t.nh
 | .prt _ _=>2
def rc:List PC→Nat
 | []=>0
 | p::r=>p.nh+rc r
def PC.nc:PC→Nat
 | .own _ _=>1
 | .box _ t _=>1+t.nh
 | .prt _ _=>1
 | _=>0
def PC.val:(p:PC)→p.den→List Hd→Value
 | .d t,x,l=>lY t x (aN t l)
 | .own _ _,_,l=>(l.headD eD).val
 | .box _ _ _,_,l=>.pointer (some ⟨(l.headD eD).blk,0,none⟩)
 | .fn f,_,_=>.func (.func f) #[] #[]
 | .clo f _,_,l=>.func (.func f) #[] #[.pointer (some ⟨(l.headD eD).blk,0,none⟩)]
 | .prt _ _,_,l=>(l.tail.headD eD).val
def l7:(ps:List PC)→kA ps→List Hd→List Value
 | [],_,_=>[]
 | [p],x,l=>[p.val x l]
 | p::p' :: r,x,l=>p.val x.1 l::l7 (p' :: r) x.2 (l.drop p.nh)
def iE:(t:TC)→t.den→t.ty.Refs→List (Option TypeId)→Nat→List HA
 | .pair a b,x,y,os,q=>iE a x.1 y.1 os q++iE b x.2 y.2 (os.drop a.nh) (q+a.nh)
 | .slice t,xs,h,os,q=>match os with
  | some e::_=>[dR t.ty e q [1] xs h]
  | _=>[.rep t.ty [1] xs h]
 | .st a,x,y,os,q=>iE a x y os q
 | .sc _,_,_,_,_=>[]
 | .arr _ _,_,_,_,_=>[]
 | .unit,_,_,_,_=>[]
 | .ext _,_,_,_,_=>[]
 | .node,x,h,_,_=>[.rep .node [1] x.tup.2.2.2 h]
 | .mp k v,xs,h,os,q=>match os with
  | some _::_=>[.mp q (Hd.blk h) (yf k v xs)]
  | _=>[]
def PC.facts:(p:PC)→p.den→List Hd→Nat→List HA
 | .d t,x,l,_=>Go.Sm.facts t.ty [1] x (aN t l)
 | .own t e,xs,l,q=>[dR t.ty e q [1] xs (l.headD eD)]
 | .box m t os,x,l,q=>.box (bif m then q else 1) (l.headD eD).blk (t.ty.fill x (aN t (l.drop 1)))::iE t x (aN t (l.drop 1)) (bif m then os else []) (q+1)
 | .fn _,_,_,_=>[]
 | .clo _ t,x,l,q=>.box 1 (l.headD eD).blk (t.ty.fill x (aN t (l.drop 1)))::iE t x (aN t (l.drop 1)) [] (q+1)
 | .prt t e,x,l,q=>[dR t.ty e q [1] x.1 (l.headD eD), .pure (pz (l.tail.headD eD) (l.headD eD) t.ty.sz x.2.1 x.2.2)]
def pj:(ps:List PC)→kA ps→List Hd→Nat→List HA
 | [],_,_,_=>[]
 | [p],x,l,q=>p.facts x l q
 | p::p' :: r,x,l,q=>p.facts x.1 l q++pj (p' :: r) x.2 (l.drop p.nh) (q+p.nc)
def AZ (nr:Nat) (ts:List TC) (x:eC ts) (l:List Hd):Value:=match (kI ts x l).take nr with
 | [v]=>v
 | vs=>.tuple vs.toArray
def nx {α:Type} (s:Nat) (a b:α):α:=match s with
 | 0=>a
 | _=>b
def wU:(t:TC)→t.den→Hd→TypeId→Nat→List HA
 | .slice t,xs,h,e,c=>bif t.ty.pureB||eW e then [dR t.ty e c [] xs h] else []
 | _,_,_,_,_=>[]
inductive ObH
 | b (n:Nat)
 | r (h:Hd) (e:TypeId)
def qN (t:TC) (x:t.den) (l:List Hd) (s:Nat) (bs:List ObH) (c:Nat):List HA:=match s,bs with
 | 0, .b b::_=>[.box c b (t.ty.fill x (aN t l))]
 | 0, .r h e::_=>wU t x h e c
 | _,_=>[]
def pG:(ts:List TC)→eC ts→List Hd→Nat→List ObH→Nat→List HA
 | [],_,_,_,_,_=>[]
 | [t],x,l,s,bs,c=>qN t x l s bs c
 | t::t' :: r,x,l,s,bs,c=>qN t x.1 l s bs c++pG (t' :: r) x.2 (l.drop t.nh) (s - 1) (nx s bs.tail bs) (nx s (c+1) c)
structure Sig where
 ps:List PC
 rs:List TC
 nr:Nat
 bl:List Nat
 ms:List RM
def ηL (l:List Hd):Vn:=⟨fun m=>l.getD m eD,fun m=>(l.getD m eD).blk⟩
def wX (w0:World) (c0:bu) {Y:Type} (val:Y→Value) (facts:Y→List HA) (e:Ending) (w' : World):Prop:=
 ∃ y c',e = .returned (val y)∧mE w0 w' ∧ w0.heap.size≤w'.heap.size∧(∀ b,b<w0.heap.size→c0 b≤1→w'.heap[b]? = w0.heap[b]? ∧ c' b=c0 b) ∧
  (∀ b,b<w'.heap.size→(b<w0.heap.size→2≤c0 b)→2≤c' b)∧am w' c' (facts y)
def obH (l:List Hd) (k:Nat):ObH:=bif Nat.blt k 64 then .b (l.getD k eD).blk else .r (l.getD (k % 64) eD) (k / 64 - 1)
def Dg (l:List Hd) (bl:List Nat):List ObH:=bl.map (obH l)
def T6 (P:Program) (f:FuncId) (C:Sig) (x:kA C.ps) (r:eC C.rs):Prop:=
 (∃ fn cd,P.funcs[f]? = some fn∧fn.body=some cd∧(fn.name == "runtime.NumGoroutine")=false) ∧
 ∀ (l:List Hd),l.length=rc C.ps→∀ (w:World) (c0:bu),am w c0 (pj C.ps x l 2++nR) →
  Calls P f (l7 C.ps x l).toArray w (wX w c0 (fun y : { y:List Hd // y.length=i9 C.rs }=>AZ C.nr C.rs r y.1)
   (fun y=>(oQ C.rs r C.ms 0).map (AF.ha (ηL y.1))++pG C.rs r y.1 C.nr (Dg l C.bl) 130))
structure Ctr extends Sig where
 fn:kA ps→Option (eC rs)
structure DCtr extends Sig where
 fn:Nat→kA ps→Option (eC rs)
def Ctr.sound (P:Program) (f:FuncId) (C:Ctr):Prop:=∀ x r,C.fn x=some r→T6 P f C.toSig x r
def DCtr.sound (P:Program) (C:DCtr):Prop:=∀ f x r,C.fn f x=some r→T6 P f C.toSig x r
abbrev Ct:=FuncId→List Ctr
def Ct.ok (Γ:Ct) (P:Program):Prop:=∀ f,∀ C∈Γ f,C.sound P f
def mu (μ:List (Nat×Nat)) (Ka:List Nat) (k:Nat):Nat:=match μ with
 | []=>bif bZ k Ka then 1 else 0
 | (i,q)::r=>bif Nat.beq k i then q else mu r Ka k
theorem sa {Ka:List Nat} {k:Nat} : ∀ {μ:List (Nat×Nat)},k∉μ.map (·.1)→mu μ Ka k≤1∧(mu μ Ka k=1→k∈Ka)
 | [],_=>by
  simp only [mu]
  cases hm:bZ k Ka
  ·simp
  ·simp [mem_iff.1 hm]
 | (i,q)::r,h=>by
  simp only [WD,Wd,not_or] at h
  have:Nat.beq k i=false:=by
   cases hb:Nat.beq k i
   ·rfl
   ·exact absurd (Vb hb) h.1
  simp only [mu,this,no]
  exact sa h.2
theorem RX {Ka:List Nat} {k:Nat} : ∀ {μ:List (Nat×Nat)},μ.all (fun p=>Nat.ble 2 p.2)=true→k∈μ.map (·.1)→2≤mu μ Ka k
 | [],_,h=>by simp at h
 | (i,q)::r,hq,h=>by
  simp only [ZN,Vf] at hq
  simp only [mu]
  cases hb:Nat.beq k i
  ·simp only [WD,Wd] at h
   rcases h with h | h
   ·rw [h] at hb; simp at hb
   ·exact RX hq.2 h
  ·exact Vg hq.1
def sF (w:World) (c:bu) (κ:List Nat) (N:Nat) (c' : bu):bu:=open Classical in fun b=>if b<w.heap.size∧c b∉κ then c b else N+(c' b - 2)
theorem instC_holds {w':World} {c c' : bu} {κ:List Nat} (hold : ∀ b,b<w.heap.size→c b∉κ→c' b≤1∧(c' b=1→c b∈Ka)) (hnew : ∀ b,b<w'.heap.size→(b<w.heap.size→c b∈κ)→2≤c' b) :
  (A:HA)→A.leaves=true→A.holds w' c' → (A.inst N Ka).holds w' (sF w c κ N c'):=by
 have hK : ∀ K:List Nat,K.all (fun k=>Nat.ble 1 k)=true→jj w' w' (fun b=>c' b∈K) (fun b=>sF w c κ N c' b∈instK N Ka K):=by
  intro K hK b hb hc
  refine ⟨?_,rfl⟩
  show sF w c κ N c' b∈_
  unfold sF
  split
  ·rename_i hlt
   have h1:1≤c' b:=Vg (Vx.1 hK _ hc)
   obtain ⟨ho,hS⟩:=hold b hlt.1 hlt.2
   have:c' b=1:=by omega
   exact instK_one (this ▸ hc) (hS this)
  ·rename_i hge
   have h2:=hnew b hb (fun hlt=>Classical.byContradiction fun hn=>hge ⟨hlt,hn⟩)
   have:c' b=(c' b - 2)+2:=by omega
   exact instK_mem (this ▸ hc)
 have hi : ∀ i b,2≤i→c' b=i→sF w c κ N c' b=N+(i - 2):=by
  intro i b h2 hc
  unfold sF
  split
  ·rename_i hlt
   have:=(hold b hlt.1 hlt.2).1
   omega
  ·rw [hc]
 intro A hl hA
 cases A with
 | tr t e i K xs v=>
  simp only [HA.leaves,Vf] at hl
  exact cJ.keep (fun b hb hc=>⟨hi i b (Vg hl.1) hc,rfl⟩) hA
 | hol t e i xs v k cs=>exact ke.keep (fun b hb hc=>⟨hi i b (Vg hl) hc,rfl⟩) hA
 | rep t K xs v=>exact bM.keep (hK K hl) (.slice t) xs v hA
 | own t e i K xs v=>
  simp only [HA.leaves,Vf] at hl
  obtain ⟨ys,h1,h2,h3⟩:=hA
  exact ⟨ys,h1.mono (bM.keep (hK K hl.2) t),h2,fun g hg=>hi i g (Vg hl.1) (h3 g hg)⟩
 | box i b cs=>
  obtain ⟨⟨ty,hb⟩,hc⟩:=hA
  exact ⟨⟨ty,hb⟩,hi i b (Vg hl) hc⟩
 | elem t K x p=>
  obtain ⟨y,b,off,arr,ty,fz,hp,hc,hb,h1,h2,h3⟩:=hA
  exact ⟨y,b,off,arr,ty,fz,hp,(hK K hl b (XD.1 hb).1 hc).1,hb,h1,h2,bM.keep (hK K hl) t x y h3⟩
 | old w0 S=>simp [HA.leaves] at hl
 | pure p=>exact hA
 | gl g n cs=>simp [HA.leaves] at hl
 | pt t e i K xs v m=>
  simp only [HA.leaves,Vf] at hl
  exact vJ.keep (fun b _ hc=>⟨hi i b (Vg hl.1) hc,rfl⟩) (hK K hl.2) hA
 | mp i b es=>
  exact sw.keep (S:=fun b=>c' b=i) (fun b _ hc=>⟨hi i b (Vg hl) hc,rfl⟩) hA
theorem Ye {P:Program} {ρ:db} {L:List HA} {o:Oper} {x:Operand} {f:FuncId} {fn:Func} {args cap:List Value} {Y:Type} {val:Y→Value} {fcts:Y→List HA} {pre:List HA} {cd:Code}
  (hc : ∀ w c0,am w c0 pre→Calls P f args.toArray w (wX w c0 val fcts))
  (ho:o.op = .call { callee:=.value x,args:=xs,argTypes:=ts }) (hx:aQ ρ x = .func (.func f) #[] cap.toArray) (hargs:xs.toList.map (aQ ρ)++cap=args)
  (hf:P.funcs[f]? = some fn) (hb:fn.body=some cd) (hname:(fn.name == "runtime.NumGoroutine")=false) (Ka:List Nat) (μ:List (Nat×Nat)) (hq:μ.all (fun p=>Nat.ble 2 p.2)=true)
  (hpre : ∀ w c,am w c L→am w (fun b=>mu μ Ka (c b)) pre)
  (hl : ∀ y,(fcts y).all HA.leaves=true)  {Φ:Y→List HA} (hΦ : ∀ y,(fcts y).map (HA.inst N Ka)=Φ y) (hN:Nat.ble 2 N=true) :
  cU P ρ o L (μ.map (·.1)) val Φ:=by
 intro a ev w c next Q ha hL hk
 have h2:2≤N:=Vg hN
 have hn' : ¬ fn.name = "runtime.NumGoroutine" := by simpa using hname
 have hargs' : xs.map (aQ ρ)++cap.toArray=args.toArray:=by rw [← hargs]; exact aev (by simp)
 have hrun:(execOp ev o).run P w = .ok (.enter f args.toArray) w:=by
  simp [execOp,ho,resolve,ha,hx,Deferred.ofValue,invoke,callFunc,hf,hb,hn',hargs',Result.andThen]
 rw [hrun,Oper.upon_enter]
 refine (hc w (fun b=>mu μ Ka (c b)) (hpre w c hL)).mono ?_
 rintro e w' ⟨y,c',rfl,henv,h1,hold,hnew,hF⟩
 refine hk y w' (sF w c (μ.map (·.1)) N c') ⟨h1,fun b hb hn=>by simp only [sF]; rw [if_pos ⟨hb,hn⟩],fun b hb hn=>(hold b hb (sa hn).1).1,fun b hb hb' => ?_,henv⟩ ?_
 ·simp only [sF]
  rw [if_neg (fun h=>h.2 (hb' h.1).1)]; omega
 ·rw [← hΦ y]
  intro A hA
  obtain ⟨B,hB,rfl⟩:=VO.1 hA
  refine instC_holds (fun b hb hn=>?_) (fun b hb hn=>hnew b hb fun hlt=>RX hq (hn hlt)) B (Vx.1 (hl y) B hB) (hF B hB)
  have:=(hold b hb (sa hn).1).2
  rw [this]; exact sa hn
def AF.inst (n N:Nat) (Ka:List Nat):AF→AF
 | .rep t K xs h=>.rep t (instK N Ka K) xs (n+h)
 | .own t e i K xs h=>.own t e (N+(i - 2)) (instK N Ka K) xs (n+h)
 | .box i b cs=>.box i b cs
 | .isn h b=>.isn h b
 | .prt a b s l h=>.prt a b s l h
 | .hol t e i xs h k cs=>.hol t e i xs h k cs
 | .mp k v i xs h=>.mp k v (N+(i - 2)) xs (n+h)
 | .pt t e i K xs h m=>.pt t e (N+(i - 2)) (instK N Ka K) xs (n+h) m
def AF.isBox:AF→Bool
 | .box _ _ _=>true
 | .isn _ _=>true
 | .prt _ _ _ _ _=>true
 | .hol _ _ _ _ _ _ _=>true
 | _=>false
theorem pb {η:Vn} : ∀ (t:TC) (x:t.den) (ms:List RM) (j:Nat),∀ f∈gr t x ms j,(f.ha η).leaves=true∧f.isBox=false
 | .pair a b,x,ms,j,f,h=>by
  simp only [gr,Wc] at h
  rcases h with h | h
  ·exact pb a _ _ _ f h
  ·exact pb b _ _ _ f h
 | .slice t,xs,[],j,f,h=>by simp [gr] at h
 | .slice t,xs,m::r,j,f,h=>by
  have hK : ∀ c,1≤c→(m.K c).all (fun k=>Nat.ble 1 k)=true:=by
   intro c hc
   refine Vx.2 fun k hk=>Wo ?_
   simp only [RM.K,Wc] at hk
   rcases hk with hk | hk
   ·cases ho:m.one
    ·rw [ho] at hk; cases hk
    ·rw [ho] at hk; simp at hk; omega
   ·cases ho:m.new
    ·rw [ho] at hk; cases hk
    ·rw [ho] at hk; simp at hk; omega
  simp only [gr] at h
  split at h
  ·rename_i e _
   cases he:(Nat.ble 4194304 e && !(eW e))
   ·rw [he] at h
    simp only [no,Vt] at h
    subst h
    refine ⟨?_,rfl⟩
    simp only [AF.ha,vq,Vf]
    exact ⟨Wo (by omega),hK _ (by omega)⟩
   ·rw [he] at h
    simp at h
  ·simp only [Vt] at h
   subst h
   exact ⟨hK _ (by omega),rfl⟩
 | .st a,x,ms,j,f,h=>pb a x ms j f h
 | .sc _,_,_,_,_,h=>by simp [gr] at h
 | .arr _ _,_,_,_,_,h=>by simp [gr] at h
 | .unit,_,_,_,_,h=>by simp [gr] at h
 | .ext _,_,_,_,_,h=>by simp [gr] at h
 | .node,_,_,_,_,h=>by simp [gr] at h
 | .mp _ _,_,[],_,_,h=>by simp [gr] at h
 | .mp _ _,_,m::_,_,_,h=>by
  simp only [gr] at h
  split at h
  ·simp only [Vt] at h
   subst h
   exact ⟨Wo (by omega),rfl⟩
  ·cases h
theorem vE {η:Vn} : ∀ (ts:List TC) (x:eC ts) (ms:List RM) (j:Nat),∀ f∈oQ ts x ms j,(f.ha η).leaves=true∧f.isBox=false
 | [],_,_,_,_,h=>by simp [oQ] at h
 | [t],x,ms,j,f,h=>pb t x ms j f h
 | t::t' :: r,x,ms,j,f,h=>by
  simp only [oQ,Wc] at h
  rcases h with h | h
  ·exact pb t _ _ _ f h
  ·exact vE (t' :: r) _ _ _ f h
def AF.hdN:AF→Nat
 | .rep _ _ _ h=>h
 | .own _ _ _ _ _ h=>h
 | .box _ _ _=>0
 | .isn _ _=>0
 | .prt _ _ _ _ _=>0
 | .hol _ _ _ _ _ _ _=>0
 | .mp _ _ _ _ h=>h
 | .pt _ _ _ _ _ h _=>h
theorem inst_ha {n:Nat} {l:List Hd} {η:Vn}:(f:AF)→η.h (n+f.hdN)=(ηL l).h f.hdN→f.isBox=false→HA.inst N Ka (f.ha (ηL l))=(f.inst n N Ka).ha η
 | .rep t K xs h,hη,_=>by
  simp only [AF.hdN] at hη
  simp only [AF.ha,HA.inst,AF.inst,hη]
 | .own t e i K xs h,hη,_=>by
  simp only [AF.hdN] at hη
  simp only [AF.ha,yC,AF.inst,hη]
 | .box _ _ _,_,h=>by cases h
 | .isn _ _,_,h=>by cases h
 | .prt _ _ _ _ _,_,h=>by cases h
 | .hol _ _ _ _ _ _ _,_,h=>by cases h
 | .mp k v i xs h,hη,_=>by
  simp only [AF.hdN] at hη
  simp only [AF.ha,HA.inst,AF.inst,hη]
 | .pt t e i K xs h m,hη,_=>by
  simp only [AF.hdN] at hη
  simp only [AF.ha,HA.inst,AF.inst,hη]
theorem vP : ∀ (t:TC) (x:t.den) (ms:List RM) (j:Nat),∀ f∈gr t x ms j,f.hdN<j+t.nh
 | .pair a b,x,ms,j,f,h=>by
  simp only [gr,Wc] at h
  simp only [TC.nh]
  rcases h with h | h
  ·have:=vP a _ _ _ f h; omega
  ·have:=vP b _ _ _ f h; omega
 | .slice t,xs,[],j,f,h=>by simp [gr] at h
 | .slice t,xs,m::r,j,f,h=>by
  simp only [gr] at h
  split at h
  ·rename_i e _
   cases he:(Nat.ble 4194304 e && !(eW e))
   ·rw [he] at h
    simp only [no,Vt] at h; subst h; simp [AF.hdN,TC.nh]
   ·rw [he] at h
    simp at h
  ·simp only [Vt] at h; subst h; simp [AF.hdN,TC.nh]
 | .st a,x,ms,j,f,h=>vP a x ms j f h
 | .sc _,_,_,_,_,h=>by simp [gr] at h
 | .arr _ _,_,_,_,_,h=>by simp [gr] at h
 | .unit,_,_,_,_,h=>by simp [gr] at h
 | .ext _,_,_,_,_,h=>by simp [gr] at h
 | .node,_,_,_,_,h=>by simp [gr] at h
 | .mp _ _,_,[],_,_,h=>by simp [gr] at h
 | .mp _ _,_,m::_,_,_,h=>by
  simp only [gr] at h
  split at h
  ·simp only [Vt] at h
   subst h
   simp [AF.hdN,TC.nh]
  ·cases h
theorem NB : ∀ (ts:List TC) (x:eC ts) (ms:List RM) (j:Nat),∀ f∈oQ ts x ms j,f.hdN<j+i9 ts
 | [],_,_,_,_,h=>by simp [oQ] at h
 | [t],x,ms,j,f,h=>by have:=vP t x ms j f h; simp only [i9]; omega
 | t::t' :: r,x,ms,j,f,h=>by
  simp only [oQ,Wc] at h
  have e:i9 (t::t' :: r)=t.nh+i9 (t' :: r):=rfl
  rcases h with h | h
  ·have:=vP t _ _ _ f h; omega
  ·have:=NB (t' :: r) _ _ _ f h; omega
def Aw:(ts:List TC)→eC ts→Nat→List AV
 | [],_,_=>[]
 | [t],x,n=>[qJ t x n]
 | t::t' :: r,x,n=>qJ t x.1 n::Aw (t' :: r) x.2 (n+t.nh)
def xb (nr:Nat) (ts:List TC) (x:eC ts) (n:Nat):AV:=match (Aw ts x n).take nr with
 | [v]=>v
 | vs=>.tu vs
def Xx:(t:TC)→t.den→Nat→TypeId→Nat→List AF
 | .slice t,xs,h,e,c=>bif t.ty.pureB||eW e then [.own t e c [] xs h] else []
 | _,_,_,_,_=>[]
inductive ObA
 | b (n:Nat)
 | r (h:Nat) (e:TypeId)
def ObA.v (η:Vn):ObA→ObH
 | .b n=>.b (η.b n)
 | .r h e=>.r (η.h h) e
def ObA.free (n:Nat):ObA→Bool
 | .b _=>true
 | .r h _=>bk n h
def BB (t:TC) (x:t.den) (n:Nat) (s:Nat) (bs:List ObA) (c:Nat):List AF:=match s,bs with
 | 0, .b b::_=>[.box c b (jq t x n)]
 | 0, .r h e::_=>Xx t x h e c
 | _,_=>[]
theorem ado {η:Vn} : ∀ (t:TC) (x:t.den) (h:Nat) (e:TypeId) (c:Nat),(Xx t x h e c).map (AF.ha η)=wU t x (η.h h) e c
 | .slice t,xs,h,e,c=>by
  simp only [Xx,wU]
  cases (t.ty.pureB||eW e) <;> rfl
 | .sc _,_,_,_,_=>rfl
 | .arr _ _,_,_,_,_=>rfl
 | .unit,_,_,_,_=>rfl
 | .pair _ _,_,_,_,_=>rfl
 | .st _,_,_,_,_=>rfl
 | .ext _,_,_,_,_=>rfl
 | .node,_,_,_,_=>rfl
 | .mp _ _,_,_,_,_=>rfl
theorem LU : ∀ (t:TC) (x:t.den) (h:Hd) (e:TypeId) (c:Nat),2≤c→(wU t x h e c).all HA.leaves=true
 | .slice t,xs,h,e,c,hc=>by
  simp only [wU]
  cases (t.ty.pureB||eW e) <;> simp [vq,hc]
 | .sc _,_,_,_,_,_=>rfl
 | .arr _ _,_,_,_,_,_=>rfl
 | .unit,_,_,_,_,_=>rfl
 | .pair _ _,_,_,_,_,_=>rfl
 | .st _,_,_,_,_,_=>rfl
 | .ext _,_,_,_,_,_=>rfl
 | .node,_,_,_,_,_=>rfl
 | .mp _ _,_,_,_,_,_=>rfl
theorem Uc : ∀ (t:TC) (x:t.den) (h:Hd) (e:TypeId) (c:Nat),(wU t x h e (c+2)).map (HA.inst N Ka)=wU t x h e (N+c)
 | .slice t,xs,h,e,c=>by
  simp only [wU]
  cases (t.ty.pureB||eW e) <;> simp [yC,instK]
 | .sc _,_,_,_,_=>rfl
 | .arr _ _,_,_,_,_=>rfl
 | .unit,_,_,_,_=>rfl
 | .pair _ _,_,_,_,_=>rfl
 | .st _,_,_,_,_=>rfl
 | .ext _,_,_,_,_=>rfl
 | .node,_,_,_,_=>rfl
 | .mp _ _,_,_,_,_=>rfl
def Kb:(ts:List TC)→eC ts→Nat→Nat→List ObA→Nat→List AF
 | [],_,_,_,_,_=>[]
 | [t],x,n,s,bs,c=>BB t x n s bs c
 | t::t' :: r,x,n,s,bs,c=>BB t x.1 n s bs c++Kb (t' :: r) x.2 (n+t.nh) (s - 1) (nx s bs.tail bs) (nx s (c+1) c)
def iH (η:Vn) (n:Nat) (l:List Hd):Prop:=∀ j h,l[j]? = some h→η.h (n+j)=h
theorem i4 {η:Vn}:(t:TC)→(x:t.den)→(l:List Hd)→(n:Nat)→iH η n l→t.nh≤l.length→au η (jq t x n)=t.ty.fill x (aN t l)
 | .sc _,_,_,_,_,_=>rfl
 | .arr _ _,_,_,_,_,_=>by simp [jq,au,Lf.cells,Ty.fill]
 | .unit,_,_,_,_,_=>rfl
 | .pair a b,x,l,n,h,hl=>by
  simp only [TC.nh] at hl
  simp only [jq,bc,Ty.fill,aN]
  rw [i4 a x.1 l n h (by omega),i4 b x.2 (l.drop a.nh) (n+a.nh) (fun j hh hj=>by
   rw [Xl] at hj
   have:=h _ hh hj
   rwa [show n+a.nh+j=n+(a.nh+j) by omega]) (by simp; omega)]
 | .slice _,x,l,n,h,hl=>by
  simp only [TC.nh] at hl
  cases l with
  | nil=>simp at hl
  | cons hd r=>
   have:=h 0 hd rfl
   simp only [W4] at this
   simp [jq,au,Lf.cells,Ty.fill,aN,this]
 | .st a,x,l,n,h,hl=>i4 a x l n h hl
 | .ext _,_,_,_,_,_=>rfl
 | .node,x,l,n,h,hl=>by
  simp only [TC.nh] at hl
  cases l with
  | nil=>simp at hl
  | cons hd r=>
   have:=h 0 hd rfl
   simp only [W4] at this
   simp [jq,au,Lf.cells,Ty.fill,Nd.fill,aN,this]
 | .mp _ _,x,l,n,h,hl=>by
  simp only [TC.nh] at hl
  cases l with
  | nil=>simp at hl
  | cons hd r=>
   have:=h 0 hd rfl
   simp only [W4] at this
   simp [jq,au,Lf.cells,Ty.fill,aN,this]
theorem yA {η:Vn} (t:TC) (x:t.den) (l:List Hd) (n:Nat) (h:iH η n l) (hl:t.nh≤l.length):(qJ t x n).val η=lY t x (aN t l):=by
 cases t with
 | sc s=>rfl
 | arr m s=>rfl
 | unit=>rfl
 | pair a b=>simp only [qJ,AV.val,lY]; rw [i4 _ x l n h hl]
 | st a=>simp only [qJ,AV.val,lY,aN]; rw [i4 a x l n h hl]
 | slice t=>
  simp only [TC.nh] at hl
  cases l with
  | nil=>simp at hl
  | cons hd r=>
   have:=h 0 hd rfl
   simp only [W4] at this
   simp [qJ,AV.val,Lf.val,lY,aN,this]
 | ext k=>rfl
 | node=>simp only [qJ,AV.val,lY]; rw [i4 .node x l n h hl]
 | mp k v=>
  simp only [TC.nh] at hl
  cases l with
  | nil=>simp at hl
  | cons hd r=>
   have:=h 0 hd rfl
   simp only [W4] at this
   simp [qJ,AV.val,Lf.val,lY,aN,this]
theorem EK {η:Vn} : ∀ (ts:List TC) (x:eC ts) (l:List Hd) (n:Nat),iH η n l→i9 ts≤l.length→AV.vals η (Aw ts x n)=kI ts x l
 | [],_,_,_,_,_=>rfl
 | [t],x,l,n,h,hl=>by
  simp only [i9] at hl
  simp only [Aw,AV.vals,kI]
  rw [yA t x l n h (by omega)]
 | t::t' :: r,x,l,n,h,hl=>by
  simp only [i9] at hl
  simp only [Aw,AV.vals,kI]
  rw [yA t x.1 l n h (by omega),EK (t' :: r) x.2 (l.drop t.nh) (n+t.nh) (fun j hh hj=>by
   rw [Xl] at hj
   have:=h _ hh hj
   rwa [show n+t.nh+j=n+(t.nh+j) by omega]) (by simp only [i9,XZ]; omega)]
theorem En {η:Vn} : ∀ (vs:List AV) (k:Nat),AV.vals η (vs.take k)=(AV.vals η vs).take k
 | [],k=>by cases k <;> rfl
 | v::r,0=>rfl
 | v::r,k+1=>by simp only [aeo,AV.vals,En r k]
theorem DS {η:Vn} {nr:Nat} (ts:List TC) (x:eC ts) (l:List Hd) (n:Nat) (h:iH η n l) (hl:i9 ts≤l.length):(xb nr ts x n).val η=AZ nr ts x l:=by
 have e:=EK ts x l n h hl
 have e2:=En (η:=η) (Aw ts x n) nr
 rw [e] at e2
 unfold xb AZ
 rw [← e2]
 generalize (Aw ts x n).take nr=vs
 cases vs with
 | nil=>rfl
 | cons v r=>cases r <;> rfl
theorem ae0 {η:Vn} : ∀ (ts:List TC) (x:eC ts) (l:List Hd) (n s:Nat) (bs:List ObA) (c:Nat),iH η n l→i9 ts≤l.length→(Kb ts x n s bs c).map (AF.ha η)=pG ts x l s (bs.map (ObA.v η)) c:=by
 have one : ∀ (t:TC) (x:t.den) (l:List Hd) (n s:Nat) (bs:List ObA) (c:Nat),iH η n l→t.nh≤l.length→(BB t x n s bs c).map (AF.ha η)=qN t x l s (bs.map (ObA.v η)) c:=by
  intro t x l n s bs c h hl
  cases s with
  | succ s=>rfl
  | zero=>
   cases bs with
   | nil=>rfl
   | cons b bs=>
    cases b with
    | b b=>simp only [BB,qN,WD,Zy,AF.ha,ObA.v,i4 t x l n h hl]
    | r hh e=>simp only [BB,qN,WD,ObA.v,ado]
 intro ts
 induction ts with
 | nil=>intros; rfl
 | cons t ts ih=>
  intro x l n s bs c h hl
  cases ts with
  | nil=>exact one t x l n s bs c h (by simp only [i9] at hl; omega)
  | cons t' ts=>
   have e:i9 (t::t' :: ts)=t.nh+i9 (t' :: ts):=rfl
   simp only [Kb,pG,Ym]
   rw [one t x.1 l n s bs c h (by omega),ih x.2 (l.drop t.nh) (n+t.nh) (s - 1) (nx s bs.tail bs) (nx s (c+1) c) (fun j hh hj=>by
    rw [Xl] at hj
    have:=h _ hh hj
    rwa [show n+t.nh+j=n+(t.nh+j) by omega]) (by simp only [XZ]; omega)]
   congr 2
   cases s <;> simp [nx]
theorem LH : ∀ (ts:List TC) (x:eC ts) (l:List Hd) (s:Nat) (bs:List ObH) (c:Nat),2≤c→(pG ts x l s bs c).all HA.leaves=true:=by
 have one : ∀ (t:TC) (x:t.den) (l:List Hd) (s:Nat) (bs:List ObH) (c:Nat),2≤c→(qN t x l s bs c).all HA.leaves=true:=by
  intro t x l s bs c hc
  cases s with
  | succ s=>rfl
  | zero=>
   cases bs with
   | nil=>rfl
   | cons b bs=>
    cases b with
    | b b=>simp [qN,HA.leaves,hc]
    | r hh e=>exact LU t x hh e c hc
 intro ts
 induction ts with
 | nil=>intros; rfl
 | cons t ts ih=>
  intro x l s bs c hc
  cases ts with
  | nil=>exact one t x l s bs c hc
  | cons t' ts=>
   simp only [pG,List.all_append,Vf]
   exact ⟨one t x.1 l s bs c hc,ih x.2 _ _ _ _ (by cases s <;> simp [nx] <;> omega)⟩
theorem TV : ∀ (ts:List TC) (x:eC ts) (l:List Hd) (s:Nat) (bs:List ObH) (c:Nat),(pG ts x l s bs (c+2)).map (HA.inst N Ka)=pG ts x l s bs (N+c):=by
 have one : ∀ (t:TC) (x:t.den) (l:List Hd) (s:Nat) (bs:List ObH) (c:Nat),(qN t x l s bs (c+2)).map (HA.inst N Ka)=qN t x l s bs (N+c):=by
  intro t x l s bs c
  cases s with
  | succ s=>rfl
  | zero=>
   cases bs with
   | nil=>rfl
   | cons b bs=>
    cases b with
    | b b=>simp [qN,HA.inst]
    | r hh e=>exact Uc t x hh e c
 intro ts
 induction ts with
 | nil=>intros; rfl
 | cons t ts ih=>
  intro x l s bs c
  cases ts with
  | nil=>exact one t x l s bs c
  | cons t' ts=>
   simp only [pG,Ym,one]
   congr 1
   cases s with
   | zero=>simp only [nx]; exact ih x.2 _ _ _ (c+1)
   | succ s=>simp only [nx]; exact ih x.2 _ _ _ c
def Lf.isAr:Lf→Bool
 | .ar _ _ _=>true
 | .ars _ _=>true
 | _=>false
def pN (F:List AF) (t:TC) (v:AV):Option (t.den×List Lf×List Nat):=match v with
 | .ag ls=>bif t.aggT then match bW F t ls with | some (x,l,K,[])=>some (x,l,K) | _=>none else none
 | .lf l=>bif t.aggT==l.isAr then match bW F t [l] with | some (x,l,K,[])=>some (x,l,K) | _=>none else none
 | .tu _=>none
theorem tn {F:List AF} {η:Vn} {t:TC} {v:AV} {x:t.den} {l:List Lf} {K:List Nat} (h:pN F t v=some (x,l,K)) :
  v.val η=lY t x (aN t (aS η l))∧l.length=t.nh ∧
  ∀ (w:World) (c:bu) (K' : List Nat),am w c (F.map (AF.ha η))→(∀ k∈K,k∈K')→bM w (fun b=>c b∈K') t.ty x (aN t (aS η l)):=by
 cases v with
 | tu _=>cases h
 | ag ls=>
  simp only [pN] at h
  cases ha:t.aggT
  ·rw [ha] at h; cases h
  ·rw [ha] at h
   simp only [f9] at h
   split at h
   ·rename_i x' l' K' hd
    simp only [Va,VI] at h
    obtain ⟨rfl,rfl,rfl⟩:=h
    obtain ⟨h1,h2⟩:=dP (η:=η) t hd
    simp only [au,Wm] at h1
    refine ⟨?_,d9 t hd,h2⟩
    simp only [AV.val,h1]
    cases t <;> first | rfl | cases ha
   ·cases h
 | lf lf=>
  simp only [pN] at h
  cases ha:(t.aggT==lf.isAr)
  ·rw [ha] at h; cases h
  ·rw [ha] at h
   simp only [f9] at h
   split at h
   ·rename_i x' l' K' hd
    simp only [Va,VI] at h
    obtain ⟨rfl,rfl,rfl⟩:=h
    obtain ⟨h1,h2⟩:=dP (η:=η) t hd
    refine ⟨?_,d9 t hd,h2⟩
    simp only [au,Wm] at h1
    cases lf with
    | ar m s y=>
     have ht:t.aggT=true:=by simpa [Lf.isAr] using ha
     simp only [AV.val,Lf.val]
     simp only [Lf.cells] at h1
     rw [h1]
     cases t <;> first | rfl | cases ht
    | ars t' y=>
     have ht:t.aggT=true:=by simpa [Lf.isAr] using ha
     simp only [AV.val,Lf.val]
     simp only [Lf.cells] at h1
     rw [h1]
     cases t <;> first | rfl | cases ht
    | _=>
     have ht:t.aggT=false:=by simpa [Lf.isAr] using ha
     simp only [AV.val]
     cases t <;> first | cases ht | skip
     all_goals simp only [Lf.cells,Ty.fill,ad6,ajq] at h1
     all_goals exact h1
   ·cases h
def rJ (F:List AF):(ts:List TC)→List AV→Option (eC ts×List Lf×List Nat)
 | [],[]=>some ((),[],[])
 | [t],[v]=>pN F t v
 | t::t' :: r,v::vs=>match pN F t v,rJ F (t' :: r) vs with
  | some (x,l,K),some (y,l',K')=>some ((x,y),l++l',K++K')
  | _,_=>none
 | _,_=>none
theorem Ko {F:List AF} {η:Vn} : ∀ {ts:List TC} {vs:List AV} {x:eC ts} {l:List Lf} {K:List Nat},rJ F ts vs=some (x,l,K) →
  AV.vals η vs=kI ts x (aS η l)∧l.length=i9 ts
 | [],[],_,l,K,h=>by
  simp only [rJ,Va,VI] at h
  obtain ⟨_,rfl,rfl⟩:=h
  exact ⟨rfl,rfl⟩
 | [t],[v],x,l,K,h=>by
  obtain ⟨h1,h2,h3⟩:=tn (η:=η) (t:=t) h
  exact ⟨by simp only [AV.vals,kI,h1],by simp only [i9,h2]; omega⟩
 | t::t' :: r,v::vs,x,l,K,h=>by
  simp only [rJ] at h
  split at h
  ·rename_i x1 l1 K1 x2 l2 K2 ha hb
   simp only [Va,VI] at h
   obtain ⟨rfl,rfl,rfl⟩:=h
   obtain ⟨h1,h2,h3⟩:=tn (η:=η) ha
   obtain ⟨g1,g2⟩:=Ko (η:=η) hb
   have e0:aS η (l1++l2)=aS η l1++aS η l2:=by simp [aS]
   have e1:aN t (aS η (l1++l2))=aN t (aS η l1):=by rw [e0]; exact dK t _ _ (by simp [aS,h2])
   have e2:(aS η (l1++l2)).drop t.nh=aS η l2:=by
    rw [e0,W6,Wq (by simp [aS,h2]),show t.nh - (aS η l1).length=0 by simp [aS,h2]]
    rfl
   refine ⟨?_,by simp only [i9] at g2 ⊢; simp [h2,g2]⟩
   simp only [AV.vals,kI,e1,e2,h1,g1]
  ·cases h
 | [],_::_,_,_,_,h=>by simp [rJ] at h
 | [_],[],_,_,_,h=>by simp [rJ] at h
 | [_],_::_::_,_,_,_,h=>by simp [rJ] at h
 | _::_::_,[],_,_,_,h=>by simp [rJ] at h
def sV {α:Type}:Option (α×List Lf×List Nat×List Lf)→Option (α×List Lf×List Nat×List (Nat×Nat)×List Lf)
 | some (x,l,K,r)=>some (x,l,K,[],r)
 | none=>none
theorem eR {α:Type} {m:Option (α×List Lf×List Nat×List Lf)} {x:α} {l:List Lf} {K:List Nat} {r:List Lf} (h:sV m=some (x,l,K,μ,r)):m=some (x,l,K,r):=by
 unfold sV at h
 split at h
 ·simp only [Va,VI] at h
  obtain ⟨rfl,rfl,rfl,_,rfl⟩:=h
  rfl
 ·cases h
def acT (F:List AF) (k v:TC) (r:List Lf) (os:List (Option TypeId)) (q:Nat):Option ((TC.mp k v).den×List Lf×List Nat×List (Nat×Nat)×List Lf):=match os with
 | some _::_=>match r with
  | .mp h::r=>match tK k v h F with
   | some s=>some (s.xs,[.mp h],[],[(s.i,q)],r)
   | none=>none
  | _=>none
 | _=>sV (bW F (.mp k v) r)
def iu (F:List AF):(t:TC)→List Lf→List (Option TypeId)→Nat→Option (t.den×List Lf×List Nat×List (Nat×Nat)×List Lf)
 | .pair a b,r,os,q=>match iu F a r os q with
  | some (x,l1,K1,μ1,r1)=>match iu F b r1 (os.drop a.nh) (q+a.nh) with
   | some (y,l2,K2,μ2,r2)=>some ((x,y),l1++l2,K1++K2,μ1++μ2,r2)
   | none=>none
  | none=>none
 | .slice t,r,os,q=>match os,r with
  | some e::_, .sl h::r=>match gf t e 0 F (.sl h) with
   | some (i,K,xs)=>some (xs,[.sl h],K,[(i,q)],r)
   | none=>none
  | some _::_, .nl::r=>some ([],[.nl],[],[],r)
  | some _::_,_=>none
  | _,r=>sV (bW F (.slice t) r)
 | .st a,r,os,q=>iu F a r os q
 | .sc s,r,_,_=>sV (bW F (.sc s) r)
 | .arr n s,r,_,_=>sV (bW F (.arr n s) r)
 | .unit,r,_,_=>sV (bW F .unit r)
 | .ext n,r,_,_=>sV (bW F (.ext n) r)
 | .node,r,_,_=>sV (bW F .node r)
 | .mp k v,r,os,q=>acT F k v r os q
theorem Hu {c:bu} {m:Nat→Nat} {t:Ty} {e:TypeId} {i q:Nat} {K:List Nat} {xs:List t.den} {v:Hd} (h:HA.holds w c (dR t e i K xs v)) (hK : ∀ k∈K,m k=1) (hi:m i=q):HA.holds w (fun b=>m (c b)) (dR t e q [1] xs v):=
 KC (fun b _ hb=>by show m (c b)=q; rw [hb,hi]) (fun b _ hb=>by show m (c b)∈[1]; rw [hK _ hb]; simp) h
theorem JC {c:bu} {m:Nat→Nat} {K:List Nat} {t:Ty} {x:t.den} {y:t.Refs} (h : ∀ K' : List Nat,(∀ k∈K,k∈K')→bM w (fun b=>c b∈K') t x y) (hK : ∀ k∈K,m k=1):bM w (fun b=>m (c b)∈([1]:List Nat)) t x y:=
 bM.keep (S:=fun b=>c b∈K) (fun b _ hb=>⟨by show m (c b)∈([1]:List Nat); rw [hK _ hb]; simp,rfl⟩) t x y (h K fun _ hk=>hk)
theorem Ns {F:List AF} {η:Vn} : ∀ (t:TC) {ls:List Lf} {os:List (Option TypeId)} {q:Nat} {x:t.den} {l:List Lf} {K:List Nat} {μ:List (Nat×Nat)} {r:List Lf},iu F t ls os q=some (x,l,K,μ,r) →
  au η ls=t.ty.fill x (aN t (aS η l))++au η r∧l.length=t.nh ∧
  ∀ (w:World) (c:bu) (m:Nat→Nat),am w c (F.map (AF.ha η))→(∀ k∈K,m k=1)→(∀ p∈μ,m p.1=p.2)→am w (fun b=>m (c b)) (iE t x (aN t (aS η l)) os q):=by
 intro t
 induction t with
 | sc s=>
  intro ls os q x l K μ r h
  simp only [iu] at h
  exact ⟨(dP _ (eR h)).1,d9 _ (eR h),fun _ _ _ _ _ _=>am.nil _ _⟩
 | arr n s=>
  intro ls os q x l K μ r h
  simp only [iu] at h
  exact ⟨(dP _ (eR h)).1,d9 _ (eR h),fun _ _ _ _ _ _=>am.nil _ _⟩
 | unit=>
  intro ls os q x l K μ r h
  simp only [iu] at h
  exact ⟨(dP _ (eR h)).1,d9 _ (eR h),fun _ _ _ _ _ _=>am.nil _ _⟩
 | ext n=>
  intro ls os q x l K μ r h
  simp only [iu] at h
  exact ⟨(dP _ (eR h)).1,d9 _ (eR h),fun _ _ _ _ _ _=>am.nil _ _⟩
 | node=>
  intro ls os q x l K μ r h
  simp only [iu] at h
  obtain ⟨g1,g2⟩:=dP (η:=η) .node (eR h)
  exact ⟨g1,d9 _ (eR h),fun w c m hF hK _=>am.cons (oo.1 (JC (fun K' hK' => g2 w c K' hF hK') hK)) (am.nil _ _)⟩
 | mp k v _ _=>
  intro ls os q x l K μ r h
  have rep:(match os with | some _::_=>False | _=>True)→bW F (.mp k v) ls=some (x,l,K,r)→au η ls=(TC.mp k v).ty.fill x (aN (.mp k v) (aS η l))++au η r∧l.length=(TC.mp k v).nh ∧
    ∀ (w:World) (c:bu) (m:Nat→Nat),am w c (F.map (AF.ha η))→(∀ k∈K,m k=1)→(∀ p∈μ,m p.1=p.2)→am w (fun b=>m (c b)) (iE (.mp k v) x (aN (.mp k v) (aS η l)) os q):=by
   intro ho hd
   refine ⟨(dP (η:=η) (.mp k v) hd).1,d9 _ hd,fun w c m hF hK _=>?_⟩
   simp only [iE]
   split
   ·simp at ho
   ·exact am.nil _ _
  simp only [iu] at h
  cases os with
  | nil=>exact rep trivial (eR h)
  | cons o os' =>
   cases o with
   | none=>exact rep trivial (eR h)
   | some e=>
    simp only [acT] at h
    split at h
    ·rename_i hh r'
     dsimp only at h
     split at h
     ·rename_i s hs
      simp only [Va,VI] at h
      obtain ⟨rfl,rfl,rfl,rfl,rfl⟩:=h
      refine ⟨rfl,rfl,fun w c m hF hK hμ=>am.cons ?_ (am.nil _ _)⟩
      have hA:HA.holds w c (.mp s.i (η.h hh).blk (yf k v s.xs)):=hF _ (VO.2 ⟨_,jl hs,rfl⟩)
      exact sw.keep (S:=fun b=>c b=s.i) (fun b _ hc=>⟨by show m (c b)=q; rw [hc]; exact hμ _ VU,rfl⟩) hA
     ·cases h
    ·cases h
 | st a ih=>exact fun h=>ih h
 | pair a b iha ihb=>
  intro ls os q x l K μ r h
  simp only [iu] at h
  split at h
  ·rename_i x1 l1 K1 μ1 r1 h1
   split at h
   ·rename_i x2 l2 K2 μ2 r2 h2
    simp only [Va,VI] at h
    obtain ⟨rfl,rfl,rfl,rfl,rfl⟩:=h
    obtain ⟨c1,n1,f1⟩:=iha h1
    obtain ⟨c2,n2,f2⟩:=ihb h2
    have hn:(aS η l1).length=a.nh:=by simp [aS,n1]
    have e1:aN a (aS η (l1++l2))=aN a (aS η l1):=by
     rw [show aS η (l1++l2)=aS η l1++aS η l2 by simp [aS],dK a _ _ hn]
    have e2:aN b ((aS η (l1++l2)).drop a.nh)=aN b (aS η l2):=by
     rw [show aS η (l1++l2)=aS η l1++aS η l2 by simp [aS],W6,Wq (by omega),show a.nh - (aS η l1).length=0 by omega]
     rfl
    refine ⟨?_,by simp only [TC.nh,Vs]; omega,fun w c m hF hK hμ=>?_⟩
    ·simp only [aN,Ty.fill]
     rw [e1,e2,c1,c2,V8]
    ·simp only [iE,aN]
     rw [e1,e2]
     exact (f1 w c m hF (fun k hk=>hK k (Ww _ hk)) fun p hp=>hμ p (Ww _ hp)).append
      (f2 w c m hF (fun k hk=>hK k (WQ _ hk)) fun p hp=>hμ p (WQ _ hp))
   ·cases h
  ·cases h
 | slice t _=>
  intro ls os q x l K μ r h
  have rep:(match os with | some _::_=>False | _=>True)→bW F (.slice t) ls=some (x,l,K,r)→au η ls=(TC.slice t).ty.fill x (aN (.slice t) (aS η l))++au η r∧l.length=(TC.slice t).nh ∧
    ∀ (w:World) (c:bu) (m:Nat→Nat),am w c (F.map (AF.ha η))→(∀ k∈K,m k=1)→(∀ p∈μ,m p.1=p.2)→am w (fun b=>m (c b)) (iE (.slice t) x (aN (.slice t) (aS η l)) os q):=by
   intro ho hd
   obtain ⟨c1,f1⟩:=dP (η:=η) (.slice t) hd
   refine ⟨c1,d9 _ hd,fun w c m hF hK _=>?_⟩
   have hr:=JC (m:=m) (fun K' hK' => f1 w c K' hF hK') hK
   simp only [iE]
   split
   ·simp at ho
   ·exact am.cons hr (am.nil _ _)
  match os,ls,h,rep with
  | some e::os', .sl hh::r',h,_=>
   simp only [iu] at h
   split at h
   ·rename_i i K' xs ho
    simp only [Va,VI] at h
    obtain ⟨rfl,rfl,rfl,rfl,rfl⟩:=h
    exact ⟨rfl,rfl,fun w c m hF hK hμ=>am.cons (Hu (fR ho hF) hK (hμ _ VU)) (am.nil _ _)⟩
   ·cases h
  | some e::os', .nl::r',h,_=>
   simp only [iu,Va,VI] at h
   obtain ⟨rfl,rfl,rfl,rfl,rfl⟩:=h
   exact ⟨rfl,rfl,fun w c m hF hK hμ=>am.cons (rZ _ _) (am.nil _ _)⟩
  | none::_,_,h,rep=>exact rep trivial (eR h)
  | [],_,h,rep=>exact rep trivial (eR h)
  | some _::_,[],h,_=>simp [iu] at h
  | some _::_, .c _ _::_,h,_=>simp [iu] at h
  | some _::_, .ar _ _ _::_,h,_=>simp [iu] at h
  | some _::_, .bp _ _::_,h,_=>simp [iu] at h
  | some _::_, .bq _ _ _ _ _::_,h,_=>simp [iu] at h
  | some _::_, .rp _ _ _ _ _::_,h,_=>simp [iu] at h
  | some _::_, .xt _ _::_,h,_=>simp [iu] at h
  | some _::_, .fn _::_,h,_=>simp [iu] at h
  | some _::_, .clo _ _::_,h,_=>simp [iu] at h
  | some _::_, .gp _ _ _ _ _::_,h,_=>simp [iu] at h
  | some _::_, .ars _ _::_,h,_=>simp [iu] at h
  | some _::_, .v _::_,h,_=>simp [iu] at h
  | some _::_, .mp _::_,h,_=>simp [iu] at h
def vu (F:List AF) (p:PC) (v:AV) (q:Nat):Option (p.den×List Lf×List Nat×List (Nat×Nat)):=match p,v with
 | .d t,v=>match pN F t v with
  | some (x,l,K)=>some (x,l,K,[])
  | none=>none
 | .own t e, .lf (.sl h)=>match gf t e 0 F (.sl h) with
  | some (i,K,xs)=>some (xs,[.sl h],K,[(i,q)])
  | none=>none
 | .own _ _, .lf .nl=>some ([],[.nl],[],[])
 | .box m t os, .lf (.bp b 0)=>match kN b F with
  | some (i,cs)=>match iu F t cs (bif m then os else []) (q+1) with
   | some (x,l,K,μ,[])=>some (x, .bp b 0::l,(bif m then K else i::K),(bif m then (i,q)::μ else μ))
   | _=>none
  | none=>none
 | .fn f, .lf (.fn g)=>bif Nat.beq f g then some ((),[],[],[]) else none
 | .clo f t, .lf (.clo g b)=>bif Nat.beq f g then match kN b F with
  | some (i,cs)=>match iu F t cs [] (q+1) with
   | some (x,l,K,μ,[])=>some (x, .clo g b::l,i::K,μ)
   | _=>none
  | none=>none else none
 | .prt t e, .lf (.sl h')=>match nJ h' F with
  | some (h,sz,lo,hi)=>match gf t e 0 F (.sl h) with
   | some (i,K,xs)=>bif Nat.beq sz t.ty.sz then some ((xs,lo,hi),[.sl h, .sl h'],K,[(i,q)]) else none
   | none=>none
  | none=>none
 | _,_=>none
theorem wQ {F:List AF} {b i:Nat} {cs:List Lf} (h:kN b F=some (i,cs)) {η:Vn} {c:bu} (hF:am w c (F.map (AF.ha η))):HA.holds w c (.box i (η.b b) (au η cs)):=
 hF _ (VO.2 ⟨_,fU h,rfl⟩)
theorem NA {F:List AF} {η:Vn} {p:PC} {v:AV} {q:Nat} {x:p.den} {l:List Lf} {K:List Nat} (h:vu F p v q=some (x,l,K,μ)) :
  v.val η=p.val x (aS η l)∧l.length=p.nh ∧
  ∀ (w:World) (c:bu) (m:Nat→Nat),am w c (F.map (AF.ha η))→(∀ k∈K,m k=1)→(∀ p∈μ,m p.1=p.2)→am w (fun b=>m (c b)) (p.facts x (aS η l) q):=by
 have box : ∀ {i b q' : Nat} {cs:List Lf} {w:World} {c:bu} {m:Nat→Nat} {vs:List Value},kN b F=some (i,cs)→am w c (F.map (AF.ha η))→m i=q' → au η cs=vs→HA.holds w (fun b=>m (c b)) (.box q' (η.b b) vs):=by
  intro i b q' cs w c m vs hb hF hm hv
  obtain ⟨h1,h2⟩:=wQ hb hF
  subst hv
  exact ⟨h1,by show m (c _)=q'; rw [h2,hm]⟩
 cases p with
 | d t=>
  simp only [vu] at h
  split at h
  ·rename_i hd
   simp only [Va,VI] at h
   obtain ⟨rfl,rfl,rfl,rfl⟩:=h
   obtain ⟨h1,h2,h3⟩:=tn (η:=η) hd
   refine ⟨h1,h2,fun w c m hF hK _=>?_⟩
   exact pH _ _ _ (JC (m:=m) (fun K' hK' => h3 w c K' hF hK') hK)
  ·cases h
 | own t e=>
  cases v with
  | lf lf=>
   cases lf with
   | sl hh=>
    simp only [vu] at h
    split at h
    ·rename_i ho
     simp only [Va,VI] at h
     obtain ⟨rfl,rfl,rfl,rfl⟩:=h
     exact ⟨rfl,rfl,fun w c m hF hK hμ=>am.cons (Hu (fR ho hF) hK (hμ _ VU)) (am.nil _ _)⟩
    ·cases h
   | nl=>
    simp only [vu,Va,VI] at h
    obtain ⟨rfl,rfl,rfl,rfl⟩:=h
    exact ⟨rfl,rfl,fun w c m hF hK hμ=>am.cons (rZ _ _) (am.nil _ _)⟩
   | _=>cases h
  | _=>cases h
 | box m t os=>
  cases v with
  | lf lf=>
   cases lf with
   | bp b off=>
    cases off with
    | succ _=>cases h
    | zero=>
     simp only [vu] at h
     split at h
     ·rename_i i cs hb
      split at h
      ·rename_i x' l' K' μ' hd
       simp only [Va,VI] at h
       obtain ⟨rfl,rfl,rfl,rfl⟩:=h
       obtain ⟨c1,n1,f1⟩:=Ns (η:=η) t hd
       refine ⟨rfl,by simp only [PC.nh,Ws,n1]; omega,fun w c mm hF hK hμ=>?_⟩
       simp only [au,Wm] at c1
       cases m with
       | true=>exact am.cons (box hb hF (hμ (i,q) VU) c1) (f1 w c mm hF hK fun p hp=>hμ p (Vi _ hp))
       | false=>exact am.cons (box hb hF (hK i VU) c1) (f1 w c mm hF (fun k hk=>hK k (Vi _ hk)) hμ)
      ·cases h
     ·cases h
   | _=>cases h
  | _=>cases h
 | fn f=>
  cases v with
  | lf lf=>
   cases lf with
   | fn g=>
    simp only [vu] at h
    cases hb:Nat.beq f g
    ·rw [hb] at h; cases h
    ·rw [hb] at h
     simp only [f9,Va,VI] at h
     obtain ⟨_,rfl,rfl,rfl⟩:=h
     obtain rfl:=Vb hb
     exact ⟨rfl,rfl,fun _ _ _ _ _ _=>am.nil _ _⟩
   | _=>cases h
  | _=>cases h
 | clo f t=>
  cases v with
  | lf lf=>
   cases lf with
   | clo g b=>
    simp only [vu] at h
    cases hfg:Nat.beq f g
    ·rw [hfg] at h; cases h
    ·rw [hfg] at h
     obtain rfl:=Vb hfg
     simp only [f9] at h
     split at h
     ·rename_i i cs hb
      split at h
      ·rename_i x' l' K' μ' hd
       simp only [Va,VI] at h
       obtain ⟨rfl,rfl,rfl,rfl⟩:=h
       obtain ⟨c1,n1,f1⟩:=Ns (η:=η) t hd
       simp only [au,Wm] at c1
       refine ⟨rfl,by simp only [PC.nh,Ws,n1]; omega,fun w c mm hF hK hμ=>?_⟩
       exact am.cons (box hb hF (hK i VU) c1) (f1 w c mm hF (fun k hk=>hK k (Vi _ hk)) hμ)
      ·cases h
     ·cases h
   | _=>cases h
  | _=>cases h
 | prt t e=>
  cases v with
  | lf lf=>
   cases lf with
   | sl hh=>
    simp only [vu] at h
    split at h
    ·rename_i h0 sz lo hi hp
     split at h
     ·rename_i ho
      cases hsz:Nat.beq sz t.ty.sz
      ·rw [hsz] at h; cases h
      ·rw [hsz] at h
       simp only [f9,Va,VI] at h
       obtain ⟨rfl,rfl,rfl,rfl⟩:=h
       refine ⟨rfl,rfl,fun w c m hF hK hμ=>am.cons (Hu (fR ho hF) hK (hμ _ VU)) (am.cons ?_ (am.nil _ _))⟩
       have hpt:pz (η.h hh) (η.h h0) sz lo hi:=hF _ (VO.2 ⟨_,iM hp,rfl⟩)
       rw [Vb hsz] at hpt
       exact hpt
     ·cases h
    ·cases h
   | _=>cases h
  | _=>cases h
def sU (F:List AF):(ps:List PC)→List AV→Nat→Option (kA ps×List Lf×List Nat×List (Nat×Nat))
 | [],[],_=>some ((),[],[],[])
 | [p],[v],q=>vu F p v q
 | p::p' :: r,v::vs,q=>match vu F p v q,sU F (p' :: r) vs (q+p.nc) with
  | some (x,l,K,μ),some (y,l',K',μ')=>some ((x,y),l++l',K++K',μ++μ')
  | _,_=>none
 | _,_,_=>none
theorem PC.val_left:(p:PC)→(x:p.den)→(l1 l2:List Hd)→l1.length=p.nh→p.val x (l1++l2)=p.val x l1
 | .d t,x,l1,l2,h=>by simp only [PC.val]; rw [dK t l1 l2 h]
 | .own _ _,_,[],_,h=>by simp [PC.nh] at h
 | .own _ _,_,_::_,_,_=>rfl
 | .box _ _ _,_,[],_,h=>by simp [PC.nh] at h; omega
 | .box _ _ _,_,_::_,_,_=>rfl
 | .fn _,_,_,_,_=>rfl
 | .clo _ _,_,[],_,h=>by simp [PC.nh] at h; omega
 | .clo _ _,_,_::_,_,_=>rfl
 | .prt _ _,_,[],_,h=>by simp [PC.nh] at h
 | .prt _ _,_,[_],_,h=>by simp [PC.nh] at h
 | .prt _ _,_,_::_::_,_,_=>rfl
theorem PC.facts_left:(p:PC)→(x:p.den)→(l1 l2:List Hd)→(q:Nat)→l1.length=p.nh→p.facts x (l1++l2) q=p.facts x l1 q
 | .d t,x,l1,l2,_,h=>by simp only [PC.facts]; rw [dK t l1 l2 h]
 | .own _ _,_,[],_,_,h=>by simp [PC.nh] at h
 | .own _ _,_,_::_,_,_,_=>rfl
 | .box _ _ _,_,[],_,_,h=>by simp [PC.nh] at h; omega
 | .box _ t _,_,a::l1,l2,_,h=>by
  have:l1.length=t.nh:=by simp [PC.nh] at h; omega
  simp only [PC.facts,YB,adL,Yw,ae4]
  rw [dK t l1 l2 this]
 | .fn _,_,_,_,_,_=>rfl
 | .clo _ _,_,[],_,_,h=>by simp [PC.nh] at h; omega
 | .clo _ t,_,a::l1,l2,_,h=>by
  have:l1.length=t.nh:=by simp [PC.nh] at h; omega
  simp only [PC.facts,YB,adL,Yw,ae4]
  rw [dK t l1 l2 this]
 | .prt _ _,_,[],_,_,h=>by simp [PC.nh] at h
 | .prt _ _,_,[_],_,_,h=>by simp [PC.nh] at h
 | .prt _ _,_,_::_::_,_,_,_=>rfl
theorem Hn {F:List AF} {η:Vn} : ∀ {ps:List PC} {vs:List AV} {q:Nat} {x:kA ps} {l:List Lf} {K:List Nat} {μ:List (Nat×Nat)},sU F ps vs q=some (x,l,K,μ) →
  AV.vals η vs=l7 ps x (aS η l)∧l.length=rc ps ∧
  ∀ (w:World) (c:bu) (m:Nat→Nat),am w c (F.map (AF.ha η))→(∀ k∈K,m k=1)→(∀ p∈μ,m p.1=p.2)→am w (fun b=>m (c b)) (pj ps x (aS η l) q)
 | [],[],_,_,l,K,μ,h=>by
  simp only [sU,Va,VI] at h
  obtain ⟨_,rfl,rfl,rfl⟩:=h
  exact ⟨rfl,rfl,fun _ _ _ _ _ _=>am.nil _ _⟩
 | [p],[v],q,x,l,K,μ,h=>by
  obtain ⟨h1,h2,h3⟩:=NA (η:=η) (p:=p) h
  exact ⟨by simp only [AV.vals,l7,h1],by simp only [rc,h2]; omega,h3⟩
 | p::p' :: r,v::vs,q,x,l,K,μ,h=>by
  simp only [sU] at h
  split at h
  ·rename_i x1 l1 K1 μ1 x2 l2 K2 μ2 ha hb
   simp only [Va,VI] at h
   obtain ⟨rfl,rfl,rfl,rfl⟩:=h
   obtain ⟨h1,h2,h3⟩:=NA (η:=η) ha
   obtain ⟨g1,g2,g3⟩:=Hn (η:=η) hb
   have e0:aS η (l1++l2)=aS η l1++aS η l2:=by simp [aS]
   have hl:(aS η l1).length=p.nh:=by simp [aS,h2]
   have e2:(aS η (l1++l2)).drop p.nh=aS η l2:=by
    rw [e0,W6,Wq (by omega),show p.nh - (aS η l1).length=0 by omega]
    rfl
   refine ⟨?_,by simp only [rc] at g2 ⊢; simp [h2,g2],fun w c m hF hK hμ=>?_⟩
   ·simp only [AV.vals,l7,e2,h1,g1]
    rw [e0,PC.val_left p x1 _ _ hl]
   ·simp only [pj,e2]
    rw [e0,PC.facts_left p x1 _ _ _ hl]
    exact (h3 w c m hF (fun k hk=>hK k (Ww _ hk)) fun p hp=>hμ p (Ww _ hp)).append
     (g3 w c m hF (fun k hk=>hK k (WQ _ hk)) fun p hp=>hμ p (WQ _ hp))
  ·cases h
 | [],_::_,_,_,_,_,_,h=>by simp [sU] at h
 | [_],[],_,_,_,_,_,h=>by simp [sU] at h
 | [_],_::_::_,_,_,_,_,_,h=>by simp [sU] at h
 | _::_::_,[],_,_,_,_,_,h=>by simp [sU] at h
def zL (E:SE):List Operand→Option (List AV)
 | []=>some []
 | x::r=>match ev E x,zL E r with
  | some v,some vs=>some (v::vs)
  | _,_=>none
theorem IW {E:SE} {η:Vn} {ρ:db} (hE:mL η ρ E) : ∀ {xs:List Operand} {vs:List AV},zL E xs=some vs→xs.map (aQ ρ)=AV.vals η vs
 | [],vs,h=>by simp only [zL,Va] at h; subst h; rfl
 | x::r,vs,h=>by
  simp only [zL] at h
  split at h
  ·rename_i v vs' hv hvs
   simp only [Va] at h
   subst h
   simp only [WD,AV.vals,aM hE hv,IW hE hvs]
  ·cases h
abbrev X7:(ts:List TC)→eC ts
 | []=>()
 | [t]=>t.dft
 | t::t' :: r=>(t.dft,X7 (t' :: r))
section
variable {R:Type} {P:Program} {o:Oper} {E:SE} {F:List AF} {n:Nat} {Θ:Tb} {ex:Option Bool}
def ze:AV→Option (FuncId×List AV)
 | .lf (.fn f)=>some (f,[])
 | .lf (.clo f b)=>some (f,[.lf (.bp b 0)])
 | .lf (.c .fnc f)=>some (f,[])
 | _=>none
def ah5 (Ka:List Nat) (μ:List (Nat×Nat)):Bool:=Ka.all (fun k=>Nat.beq (mu μ Ka k) 1)&&μ.all (fun p=>Nat.beq (mu μ Ka p.1) p.2)&&μ.all (fun p=>Nat.ble 2 p.2)&&μ.all (fun p=>Nat.ble 2 p.1)
def bnm (l:List Lf) (k:Nat):Option ObA:=bif Nat.blt k 64 then (match l[k]? with
 | some (.bp b _)=>some (.b b)
 | _=>none) else match l[k % 64]? with
 | some (.sl h)=>some (.r h (k / 64 - 1))
 | _=>none
def Jh (l:List Lf):List Nat→Option (List ObA)
 | []=>some []
 | k::r=>match bnm l k,Jh l r with
  | some b,some bs=>some (b::bs)
  | _,_=>none
theorem M7 {η:Vn} {l:List Lf} : ∀ {bl:List Nat} {bs:List ObA},Jh l bl=some bs→Dg (aS η l) bl=bs.map (ObA.v η)
 | [],bs,h=>by simp only [Jh,Va] at h; subst h; rfl
 | k::r,bs,h=>by
  simp only [Jh] at h
  split at h
  ·rename_i b bs' h1 h2
   simp only [Va] at h
   subst h
   have ih:=M7 (η:=η) h2
   simp only [Dg,WD,ad6] at ih ⊢
   refine ⟨?_,ih⟩
   unfold bnm at h1
   unfold obH
   cases hk64:Nat.blt k 64
   ·rw [hk64] at h1
    simp only [no] at h1 ⊢
    split at h1
    ·rename_i h' hk
     simp only [Va] at h1
     subst h1
     have:(aS η l)[k % 64]? = some ((Lf.sl h').hd η):=by rw [aS,Zc,hk]; rfl
     rw [WT,this]
     rfl
    ·cases h1
   ·rw [hk64] at h1
    simp only [f9] at h1 ⊢
    split at h1
    ·rename_i b' off hk
     simp only [Va] at h1
     subst h1
     have:(aS η l)[k]? = some ((Lf.bp b' off).hd η):=by rw [aS,Zc,hk]; rfl
     rw [WT,this]
     rfl
    ·cases h1
  ·cases h
theorem HH {c:bu}   (hq:μ.all (fun p=>Nat.ble 2 p.1)=true) (h:am w c nR):am w (fun b=>mu μ Ka (c b)) nR:=by
 intro A hA
 have hh:=h A hA
 obtain ⟨e,_,rfl⟩:=VO.1 hA
 obtain ⟨h1,hb',h3⟩:=hh
 have hn:c e.g∉μ.map (·.1):=by
  intro hm
  obtain ⟨p,hp,he⟩:=VO.1 hm
  have:=Vg (Vx.1 hq p hp)
  omega
 exact ⟨h1,(sa (Ka:=Ka) hn).1,h3⟩
def OG (C:Sig) (fx:kA C.ps→Option (eC C.rs)) (vs:List AV) (ex:Option Bool) (n N:Nat) (F:List AF) (k:Out→Option R) (alt:Option R):Option R:=match sU F C.ps vs 2 with
 | some (x,l,Ka,μ)=>match Jh l C.bl with
  | some bs=>bif Nat.ble 2 N&&Nat.ble (i9 C.rs) 64&&ah5 Ka μ&&bs.all (ObA.free n) then gbind ex (X7 C.rs) (fx x) fun r=>k ⟨xb C.nr C.rs r n,(oQ C.rs r C.ms 0).map (AF.inst n N Ka)++Kb C.rs r n C.nr bs (N+128),μ.map (·.1)⟩ else none
  | none=>none
 | none=>alt
theorem NH {C:Sig} {f:FuncId} {fx:kA C.ps→Option (eC C.rs)} (hC : ∀ x r,fx x=some r→T6 P f C x r) {x0:Operand} {v0:AV}   {vs cap:List AV} (ho:o.op = .call { callee:=.value x0,args:=xs,argTypes:=ts })
  (h0:ev E x0=some v0) (hv0:ze v0=some (f,cap)) (hvs:zL E xs.toList=some vs) (k:Out→Option R) {alt:Option R} (halt:ao ex P o E F n alt k) :
  ao ex P o E F n (OG C fx (vs++cap) ex n N F k alt) k:=by
 unfold OG
 split
 ·rename_i x l Ka μ hd
  split
  ·rename_i bs hbs
   refine ao.bif fun hc=>ao.gbind fun r hr=>ao.ofG fun hx η ρ hE=>?_
   simp only [Vf,ah5] at hc
   obtain ⟨⟨⟨hN,h64⟩,⟨⟨hKa,hμ⟩,hq⟩,hq1⟩,hfree⟩:=hc
   obtain ⟨⟨fn,cd,hf,hb,hnm⟩,hs⟩:=hC x r (hr hx)
   obtain ⟨d1,d2,d3⟩:=Hn (η:=η) hd
   have h64:=Vg h64
   have happ : ∀ (a b:List AV),AV.vals η (a++b)=AV.vals η a++AV.vals η b:=by
    intro a b
    induction a with
    | nil=>rfl
    | cons v r ih=>simp only [YB,AV.vals,ih]
   have hargs:xs.toList.map (aQ ρ)++AV.vals η cap=l7 C.ps x (aS η l):=by rw [IW hE hvs,← happ,d1]
   have hcv:aQ ρ x0 = .func (.func f) #[] (AV.vals η cap).toArray:=by
    rw [aM hE h0]
    unfold ze at hv0
    split at hv0
    all_goals first | (simp only [Va,VI] at hv0; rw [← hv0.1,← hv0.2]; rfl) | cases hv0
   let ηy : { y:List Hd // y.length=i9 C.rs }→Vn:=fun y=>⟨fun m=>bif Nat.ble n m&&Nat.blt m (n+64) then (ηL y.1).h (m - n) else η.h m,η.b⟩
   have hat : ∀ (y : { y:List Hd // y.length=i9 C.rs }) (j:Nat),j<64→(ηy y).h (n+j)=(ηL y.1).h j:=by
    intro y j hlt
    have:(Nat.ble n (n+j)&&Nat.blt (n+j) (n+64))=true:=by
     rw [Vf]; exact ⟨Wo (by omega),Wo (by omega)⟩
    simp only [ηy,this,f9,show n+j - n=j by omega]
   have hnamed : ∀ y : { y:List Hd // y.length=i9 C.rs },iH (ηy y) n y.1:=by
    intro y j h hj
    have hlt:=(VN.1 hj).1
    rw [hat y j (by have:=y.2; omega)]
    simp [ηL,hj]
   have hagr : ∀ y : { y:List Hd // y.length=i9 C.rs },η.agr n (ηy y):=by
    intro y m hm
    refine ⟨?_,rfl⟩
    have:(Nat.ble n m&&Nat.blt m (n+64))=false:=by
     cases hbb:(Nat.ble n m&&Nat.blt m (n+64))
     ·rfl
     ·simp only [Vf] at hbb
      have h1:=Vg hbb.1
      have h2:m+1≤n+64:=Vg hbb.2
      simp only [bk,Yi] at hm
      rcases hm with hm | hm
      ·have:m+1≤n:=Vg hm; omega
      ·have:=Vg hm; omega
    simp only [ηy,this,no]
   refine (Ye (Y:={ y:List Hd // y.length=i9 C.rs }) (val:=fun y=>AZ C.nr C.rs r y.1) (fcts:=fun y=>(oQ C.rs r C.ms 0).map (AF.ha (ηL y.1))++pG C.rs r y.1 C.nr (Dg (aS η l) C.bl) 130)
    (Φ:=fun y=>((oQ C.rs r C.ms 0).map (AF.inst n N Ka)++Kb C.rs r n C.nr bs (N+128)).map (AF.ha (ηy y)))
    (fun w c0 hH=>hs (aS η l) (by simp [aS,d2]) w c0 hH) ho hcv hargs hf hb hnm Ka μ hq
    (fun w c hH=>(d3 w c (mu μ Ka) (fun A hA=>hH A (Ww _ hA)) (fun kk hk=>Vb (Vx.1 hKa kk hk)) fun p hp=>Vb (Vx.1 hμ p hp)).append
     (HH hq1 fun A hA=>hH A (WQ _ hA))) ?_ ?_ hN).map
    (fun y=>⟨ηy y,?_⟩) (fun y=>?_) fun y=>rfl
   ·intro y
    rw [List.all_append,Vf]
    refine ⟨Vx.2 fun A hA=>?_,LH _ _ _ _ _ _ (by omega)⟩
    obtain ⟨B,hB,rfl⟩:=VO.1 hA
    exact (vE _ _ _ _ B hB).1
   ·intro y
    simp only [Ym]
    congr 1
    ·rw [ad1,ad1]
     refine ZI fun f hf=>?_
     refine inst_ha f ?_ (vE (η:=η) _ _ _ _ f hf).2
     have hlt:=NB _ _ _ _ f hf
     exact hat y _ (by omega)
    ·rw [TV,ae0 C.rs r y.1 n C.nr bs (N+128) (hnamed y) (by rw [y.2]; exact Wb _),M7 (η:=η) hbs]
     congr 1
     refine ZI fun b hb=>?_
     have hbf:=Vx.1 hfree b hb
     cases b with
     | b _=>rfl
     | r hh e=>simp only [ObA.v,(hagr y hh hbf).1]
   ·exact hagr y
   ·exact (DS C.rs r y.1 n (hnamed y) (by rw [y.2]; exact Wb _)).symm
  ·exact ao.none
 ·exact halt
def Gs (f:FuncId) (vs:List AV) (ex:Option Bool) (n N:Nat) (F:List AF) (k:Out→Option R):List Ctr→Option R
 | []=>none
 | C::r=>OG C.toSig C.fn vs ex n N F k (Gs f vs ex n N F k r)
def Vj (f:Nat) (vs:List AV) (ex:Option Bool) (n N:Nat) (F:List AF) (k:Out→Option R):List DCtr→Option R
 | []=>none
 | C::r=>OG C.toSig (C.fn f) vs ex n N F k (Vj f vs ex n N F k r)
def FX (Γ:Ct) (D:List DCtr) (E:SE) (ex:Option Bool) (n N:Nat) (v0:AV) (xs:List Operand) (F:List AF) (k:Out→Option R):Option R:=match zL E xs with
 | some vs=>match v0 with
  | .lf (.fn f)=>Gs f (vs++[]) ex n N F k (Γ f)
  | .lf (.clo f b)=>Gs f (vs++[.lf (.bp b 0)]) ex n N F k (Γ f)
  | .lf (.c .fnc f)=>Vj f (vs++[]) ex n N F k D
  | _=>none
 | none=>none
theorem H9 {Γ:Ct} (hΓ:Γ.ok P) {D:List DCtr} (hD : ∀ C∈D,DCtr.sound P C) {v0:AV} {x0:Operand}   (ho:o.op = .call { callee:=.value x0,args:=xs,argTypes:=ts }) (h0:ev E x0=some v0) (k:Out→Option R) :
  ao ex P o E F n (FX Γ D E ex n N v0 xs.toList F k) k:=by
 have all : ∀ {f:FuncId} {vs cap:List AV} {l:List Ctr},ze v0=some (f,cap)→zL E xs.toList=some vs→(∀ C∈l,Ctr.sound P f C)→ao ex P o E F n (Gs f (vs++cap) ex n N F k l) k:=by
  intro f vs cap l hv hvs hl
  induction l with
  | nil=>exact ao.none
  | cons C r ih=>exact NH (hl C VU) ho h0 hv hvs k (ih fun C hC=>hl C (Vi _ hC))
 have dyn : ∀ {f:FuncId} {vs cap:List AV} {l:List DCtr},ze v0=some (f,cap)→zL E xs.toList=some vs→(∀ C∈l,DCtr.sound P C)→ao ex P o E F n (Vj f (vs++cap) ex n N F k l) k:=by
  intro f vs cap l hv hvs hl
  induction l with
  | nil=>exact ao.none
  | cons C r ih=>exact NH (hl C VU f) ho h0 hv hvs k (ih fun C hC=>hl C (Vi _ hC))
 unfold FX
 split
 ·rename_i vs hvs
  split
  ·exact all rfl hvs (hΓ _)
  ·exact all rfl hvs (hΓ _)
  ·exact dyn rfl hvs hD
  ·exact ao.none
 ·exact ao.none
end
end
end Go.Sm
