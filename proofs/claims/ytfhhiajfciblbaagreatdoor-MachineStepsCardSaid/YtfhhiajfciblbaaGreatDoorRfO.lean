/- Laws for the row. No condition. -/
import Derived.Test.YtfhhiajfciblbaaGreatDoorRfL
namespace Go.Sm
set_option linter.unusedSectionVars false
variable {w:World} {g:Nat→Nat} {nm:Nat}
section
variable [X:XTab] [G:GTab]
structure SS where
 E:SE
 F:List AF
 nn:Nat
 nc:Nat
 d:List Nat
def bD (d:List Nat) (KF:List AF):List AF:=KF.filter fun f=>!(jd d f)
theorem A1 (KF:List AF):bD [] KF=KF:=by
 unfold bD
 exact List.filter_eq_self.2 fun f _=>rfl
theorem vp (a b:List Nat) (f:AF):jd (a++b) f=(jd a f||jd b f):=by simp [jd]
theorem Ts (a b:List Nat) (KF:List AF):bD a (bD b KF)=bD (a++b) KF:=by
 unfold bD
 rw [List.filter_filter]
 congr 1
 funext f
 rw [vp]
 cases jd a f <;> cases jd b f <;> rfl
theorem LG (d:List Nat) (a b:List AF):bD d (a++b)=bD d a++bD d b:=by simp [bD]
def jz (B nt:Nat) (L0:List HA) (β:Vn) (KE:SE) (KF:List AF) (S:SS) (a:Act) (w:World):Prop:=
 ∃ (η:Vn) (c:bu) (ρ:db),Rel nt ρ a∧mL η ρ (S.E++KE)∧am w c ((S.F++bD S.d KF).map (AF.ha η))∧am w c L0∧∀ m,m<B→η.b m=β.b m∧η.h m=β.h m
def GS (KE:SE) (ops:List Oper):Bool:=KE.all (fun p=>!(bZ p.1 (oi ops)))
def agk (KF:List AF) (es:List Ent):List Nat:=(es.flatMap fun e=>e.u.κ).filter fun k=>KF.any (jd [k])
def Rr (cls:List (List Nat)) (ops:List Oper) (KF:List AF) (S:SS) (es:List Ent):SS:=
 ⟨wv (List.range ops.length) [] es 0++nS (oi ops) S.E,Ar cls ops.length (List.range ops.length) [] es es 0++S.F.filter (fun f=>!(qv cls ops.length [] ops.length f es 0)),
  S.nn+64 * ops.length,S.nc+(512 * ops.length+256),agk KF es++S.d⟩
def BO {R:Type} (C:Cx) (nt:Nat) (draw:Bool) (ops:List Oper) (KE:SE) (KF:List AF) (S:SS) (K:SS→Option R):Option R:=
 bif Nat.ble C.B S.nn then xX C S.nn S.nc (gY draw ops) ops (S.E++KE) (S.F++bD S.d KF) ops 0 [] fun es=>
  bif tV C S.nn S.nc nt draw (gY draw ops) ops (S.E++KE) (S.F++bD S.d KF) es&&GS KE ops then K (Rr (gY draw ops) ops KF S es) else none
 else none
section
variable {C:Cx} {P:Program} {nt:Nat} {KE:SE} {KF:List AF} {L0:List HA} {β:Vn}
theorem tT (ds:List Nat) : ∀ (E E' : SE),nS ds (E++E')=nS ds E++nS ds E'
 | [],_=>rfl
 | p::r,E' => by
  simp only [YB,nS]
  cases bZ p.1 ds
  ·simp [tT ds r E']
  ·simp [tT ds r E']
theorem Ja {ds:List Nat} : ∀ {E:SE},E.all (fun p=>!(bZ p.1 ds))=true→nS ds E=E
 | [],_=>rfl
 | p::r,h=>by
  simp only [ZN,Vf,X8] at h
  simp only [nS,h.1,no,Ja h.2]
theorem MJ {n N:Nat} {draw:Bool} {ops:List Oper} {S:SS} {es:List Ent} (_:S.nn=n) (hb:tV C n N nt draw (gY draw ops) ops (S.E++KE) (S.F++bD S.d KF) es=true) (hk:GS KE ops=true) (hlen:es.length=ops.length)
  (hall : ∀ j o e,ops[j]? = some o→es[j]? = some e→uQ C P n N (gY draw ops) ops (S.E++KE) (S.F++bD S.d KF) o j (es.take j) e) {listed:Nat→Bool} (hl : ∀ i,i<ops.length→listed i=true) {a:Act} 
  (hJ:RJ C.B nt (gY draw ops) ops (S.E++KE) (S.F++bD S.d KF) es L0 β listed a w):jz C.B nt L0 β KE KF (Rr (gY draw ops) ops KF S es) a w:=by
 obtain ⟨η,c,ρ,ha,hE,hV,hB,hL,hR⟩:=hJ
 simp only [GS] at hk
 have hch:=Qc hlen hall
 have hx0 : ∀ {j:Nat} {e:Ent},es[j]? = some e→nM e.g []=true→fD e.ex:=fun {j e} he hs=>by
  refine (hch j e he).2 fun p hp=>?_
  have:=wF hs p hp
  simp at this
 have hmay : ∀ m,m<ops.length→nH (gY draw ops) m ops.length=true:=by
  intro m hm
  have h1:Nat.beq m ops.length=false:=by
   cases hbb:Nat.beq m ops.length
   ·rfl
   ·have:=Vb hbb; omega
  have h2:bZ ops.length ((gY draw ops).getD m [])=false:=by
   simp only [tV,Vf] at hb
   have hc:=hb.1.1.1.2
   cases hmm:bZ ops.length ((gY draw ops).getD m [])
   ·rfl
   ·exfalso
    rw [WT] at hmm
    cases hcm:(gY draw ops)[m]? with
    | none=>rw [hcm] at hmm; simp [bZ] at hmm
    | some cl=>
     rw [hcm] at hmm
     have h3:=Vx.1 (Vx.1 hc cl (aeT hcm)) _ (mem_iff.1 hmm)
     have:ops.length+1≤ops.length:=Vg h3
     omega
  simp only [nH,h1,h2,Wn,ada]
 have nohit : ∀ (f:AF) (clj:List Nat) (j:Nat),qv (gY draw ops) ops.length clj j f es 0=false→∀ m e',es[m]? = some e' → m≠j→bZ m clj=false→jd e'.u.κ f=false:=by
  intro f clj j hh m e' hm hj hc
  have hml:m<ops.length:=by have:=(VN.1 hm).1; omega
  exact vg hh hm (by rw [YK]; exact hmay m hml) (by rwa [YK]) (by rwa [YK])
 refine ⟨η,c,ρ,ha,?_,?_,hL⟩
 ·intro t v hl'
  simp only [Rr,V8] at hl'
  rcases pe hl' with h | h
  ·obtain ⟨j,e,h1,h2,rfl,_,h5⟩:=Am (pI h)
   exact (hV j e h1 (hl j (by have:=(VN.1 h1).1; omega)) t h2).1 (hx0 h1 h5)
  ·have h2:bd (nS (oi ops) (S.E++KE)) t=some v:=by
    rw [tT,Ja hk]; exact h
   have h3:=BL h2
   refine hE t v h3.1 fun m o hm _ hd=>?_
   rw [mem_iff.2 (CD hm hd)] at h3
   cases h3.2
 ·intro A hA
  obtain ⟨f,hf,rfl⟩:=VO.1 hA
  simp only [Rr,V8] at hf
  rcases Wc.1 hf with h | h
  ·obtain ⟨j,e,h1,h2,_,h5,h6⟩:=Bd h
   rw [YK] at h6
   exact hR j e h1 (hl j (by have:=(VN.1 h1).1; omega)) (hx0 h1 h5) f h2 fun m e' hm _ _ hj hc=>nohit f _ j h6 m e' hm hj hc
  ·rcases Wc.1 h with h | h
   ·simp only [Yc,X8] at h
    exact hB f (Ww _ h.1) fun m e' hm _ _=>nohit f [] ops.length h.2 m e' hm (by have:=(VN.1 hm).1; omega) rfl
   ·simp only [bD,Yc,X8,vp,Ys] at h
    refine hB f (WQ _ (Yc.2 ⟨h.1,by rw [h.2.2]; rfl⟩)) fun m e' hm _ _=>?_
    cases hh:jd e'.u.κ f
    ·rfl
    ·exfalso
     obtain ⟨k,hk1,hk2⟩:=ac6.1 hh
     have:jd (agk KF es) f=true:=ac6.2 ⟨k,Yc.2 ⟨aju.2 ⟨e',aeT hm,hk1⟩,ac6.2 ⟨f,h.1,by simp [jd,hk2]⟩⟩,hk2⟩
     rw [this] at h
     cases h.2.1
theorem Tz {R:Type} (hC:C.ok P) (hm:P.follows .mixedOrders=true) {draw:Bool} {ops:List Oper} {S:SS} {K:SS→Option R} {r:R} (h:BO C nt draw ops KE KF S K=some r) :
  ∃ S',K S' = some r∧∀ {L0:List HA} {β:Vn},L0ok L0→∀ (id:Nat) (Q:Exit→Act→World→Prop) (a:Act) (w:World),jz C.B nt L0 β KE KF S a w→(∀ a w,jz C.B nt L0 β KE KF S' a w→Q .normal a w)→(Code.region id ops.toArray draw).wp P Q a w:=by
 unfold BO at h
 cases h64:Nat.ble C.B S.nn
 ·rw [h64] at h; cases h
 rw [h64] at h
 simp only [f9] at h
 have h64:=Vg h64
 obtain ⟨es,h1,hlen,hall⟩:=UA hC h (by simp) rfl (fun j o e _ he=>by simp at he)
 rw [YK] at hlen
 cases hb:(tV C S.nn S.nc nt draw (gY draw ops) ops (S.E++KE) (S.F++bD S.d KF) es&&GS KE ops)
 ·rw [hb] at h1; cases h1
 ·rw [hb] at h1
  simp only [Vf] at hb
  refine ⟨_,h1,fun {L0 β} hL0 id Q a w hI hQ=>?_⟩
  have hinit : ∀ w',(∀ A:HA,∀ c,A.holds w c→A.holds w' c)→RJ C.B nt (gY draw ops) ops (S.E++KE) (S.F++bD S.d KF) es L0 β (fun _=>false) a w' := by
   intro w' hw
   obtain ⟨η,c,ρ,ha,hE,hF,hL⟩:=hI
   exact ⟨η,c,ρ,ha,fun t v hl _=>hE t v hl,fun _ _ _ hh=>by simp at hh,fun f hf _=>hw _ c (hF _ (VO.2 ⟨f,hf,rfl⟩)),⟨fun A hA=>hw _ c (hL.1 A hA),hL.2⟩,fun _ _ _ hh=>by simp at hh⟩
  cases draw with
  | false=>
   refine wp_region ?_
   rw [show (ops.toArray).size=ops.length by simp,List.range_eq_range']
   have gen : ∀ (m k:Nat) (a:Act) (w:World),k+m=ops.length→RJ C.B nt (gY false ops) ops (S.E++KE) (S.F++bD S.d KF) es L0 β (fun j=>Nat.blt j k) a w→wpOps P ops.toArray Q (List.range' k m) a w:=by
    intro m
    induction m with
    | zero=>
     intro k a w hk hJ
     exact hQ a w (MJ rfl hb.1 hb.2 hlen hall (fun i hi=>Wo (by omega)) hJ)
    | succ m ih=>
     intro k a w hk hJ
     rw [List.range'_succ,wpOps_cons]
     have hkl:k<ops.length:=by omega
     have hcl:(gY false ops).getD k []=List.range k:=by
      simp only [gY,no]
      rw [WT]
      simp [hkl]
     have hstep:=IS (Q:=Q) h64 hb.1 hlen hall hL0 (o:=ops[k]) (XY hkl) (listed:=fun j=>Nat.blt j k) (by
      show Nat.blt k k=false
      cases hbb:Nat.blt k k
      ·rfl
      ·have:k+1≤k:=Vg hbb; omega) (fun j hj=>by
       rw [hcl] at hj
       have:=mem_iff.1 hj
       exact Wo (Y0.1 this)) (fun q hq hlq=>by
       have hqk:q+1≤k:=Vg hlq
       have hclq:(gY false ops).getD q []=List.range q:=by
        simp only [gY,no]
        rw [WT]
        simp [hq]
       rw [hclq]
       cases hbb:bZ k (List.range q)
       ·rfl
       ·have:=Y0.1 (mem_iff.1 hbb); omega) hJ
     refine wpOp_mono (fun a' w' hJ' => ih (k+1) a' w' (by omega) ?_) hstep
     have:pJ (fun j=>Nat.blt j k) k=fun j=>Nat.blt j (k+1):=by
      funext j
      by_cases hj:j=k
      ·subst hj
       simp [pJ,Nat.blt]
      ·rw [DL hj]
       cases hb1:Nat.blt j k <;> cases hb2:Nat.blt j (k+1) <;> first | rfl | skip
       ·have:j+1≤k+1:=Vg hb2
        have:Nat.blt j k=true:=Wo (by omega)
        rw [hb1] at this; cases this
       ·have:j+1≤k:=Vg hb1
        have:Nat.blt j (k+1)=true:=Wo (by omega)
        rw [hb2] at this; cases this
     rw [this] at hJ'; exact hJ'
   refine gen ops.length 0 a w (by omega) ?_
   have:=hinit w (fun _ _ h=>h)
   have e:(fun _:Nat=>false)=fun j=>Nat.blt j 0:=by funext j; rfl
   rw [e] at this; exact this
  | true=>
   have hcl:DG ops (gY true ops)=true:=by
    have:=hb.1
    simp only [tV,Vf,WM,adH] at this
    exact this.1.1.1.1
   refine wp_region_any hm ?_
   have hw' : ∀ A:HA,∀ c,A.holds w c→A.holds { w with drawn:=w.drawn+1 } c:=fun A c h=>HA.stp (WC (w:=w) (c:=c)) A (by simp) h
   refine TR hcl (p:=ops.length) ?_ (Wb _) (fun listed a w=>RJ C.B nt (gY true ops) ops (S.E++KE) (S.F++bD S.d KF) es L0 β (fun j=>listed.getD j false) a w) ?_ ?_ _ _ _ _ (by simp) (fun i o _ hi=>by rw [xJ] at hi; cases hi) (by simpa using Ud _ _) (.inl ⟨?_,fun i _=>xJ _ i⟩)
   ·refine Vx.2 fun i hi=>?_
    have:Nat.blt i ops.length=true:=Wo (Y0.1 hi)
    simp [this]
   ·intro listed a' w' hJ hall' _
    rw [adM]
    exact wpList_nil (hQ a' w' (MJ rfl hb.1 hb.2 hlen hall hall' hJ))
   ·intro listed a' w' i o hJ hd hsz hip ho hf hp
    have hcls : ∀ (i:Nat) (o:Oper),ops[i]? = some o→(∀ j∈rD o,listed.getD j false=true)→∀ j,bZ j ((gY true ops).getD i [])=true→listed.getD j false=true:=by
     intro i o ho hp j hj
     obtain ⟨c,hc⟩:=aeF hcl (VN.1 ho).1
     rw [WT,hc] at hj
     exact vz hcl hd i o c ho hc hp j (mem_iff.1 hj)
    have hstep:=IS (Q:=Q) h64 hb.1 hlen hall hL0 ho (listed:=fun j=>listed.getD j false) hf (hcls i o ho hp) (fun q hq hlq=>by
     cases hbb:bZ i ((gY true ops).getD q [])
     ·rfl
     ·have:=hcls q ops[q] (XY hq) (hd q ops[q] (XY hq) hlq) i hbb
      rw [hf] at this; cases this) hJ
    refine wpOp_mono (fun a'' w'' hJ' => ?_) hstep
    have:pJ (fun j=>listed.getD j false) i=fun j=>(listed.setIfInBounds i true).getD j false:=by
     funext j
     rw [zd (by omega)]; rfl
    rw [this] at hJ'; exact hJ'
   ·have:=hinit { w with drawn:=w.drawn+1 } hw'
    have e:(fun _:Nat=>false)=fun j=>(Array.replicate ops.toArray.size false).getD j false:=by funext j; rw [xJ]
    rw [e] at this; exact this
end
end
section
variable [X:XTab] [G:GTab]
inductive Sp
 | sc (s:SC)
 | ar (n:Nat) (s:SC)
 | xt (n:Nat)
 | own (t:TC) (e:TypeId) (one:Bool) (src:List Nat)
 | rep (t:TC) (one:Bool) (src:List Nat)
 | ownk (t:TC) (e:TypeId) (h:Nat)
 | mp (k v:TC)
 | pt (t:TC) (e:TypeId) (one:Bool) (src:List Nat)
 | al (d:Nat)
abbrev Sp.den:Sp→Type
 | .sc s=>s.den
 | .ar _ s=>List s.den
 | .xt n=>X.den n
 | .own t _ _ _=>List t.den
 | .rep t _ _=>List t.den
 | .ownk t _ _=>List t.den
 | .mp k v=>List (k.den×v.den)
 | .pt t _ _ _=>List t.den×Int
 | .al _=>Unit
abbrev vY:List Sp→Type
 | []=>Unit
 | [a]=>a.den
 | a::b::r=>a.den×vY (b::r)
inductive ShV
 | lf (l:Sp)
 | ag (ls:List Sp)
def ShV.ls:ShV→List Sp
 | .lf l=>[l]
 | .ag ls=>ls
structure Shp where
 keep:List Nat
 vs:List (Nat×ShV)
 bx:List (Nat×List Sp)
 dead:List Nat
def Shp.ls (sh:Shp):List Sp:=sh.vs.flatMap (fun p=>p.2.ls)++sh.bx.flatMap (fun p=>p.2)
def rE (E:SE):List (Nat×ShV)→Option (List Lf)
 | []=>some []
 | (t, .lf _)::r=>match bd E t,rE E r with
  | some (.lf l),some ls=>some (l::ls)
  | _,_=>none
 | (t, .ag ps)::r=>match bd E t,rE E r with
  | some (.ag l),some ls=>bif Nat.beq l.length ps.length then some (l++ls) else none
  | _,_=>none
def BM (E:SE) (F:List AF):List (Nat×List Sp)→Option (List Lf)
 | []=>some []
 | (t,ps)::r=>match bd E t with
  | some (.lf (.bp b 0))=>match kN b F,BM E F r with
   | some (_,cs),some ls=>bif Nat.beq cs.length ps.length then some (cs++ls) else none
   | _,_=>none
  | some (.lf (.sl h))=>match nJ h F,BM E F r with
   | some (h0,_,_,_),some ls=>bif Nat.beq 1 ps.length then some (.sl h0::ls) else none
   | _,_=>none
  | _=>none
def Sp.abs (F:List AF):(p:Sp)→Lf→Option p.den
 | .sc s, .c s' x=>if h:s' = s then some (BA h x) else none
 | .ar n s, .ar n' s' x=>if h:s' = s∧n' = n then some (yr h.1 x) else none
 | .xt n, .xt m x=>if h:m=n then some (ac0 h x) else none
 | .own t e _ _,l=>match gf t e 0 F l with | some (_,_,xs)=>some xs | none=>none
 | .rep t _ _,l=>match io t F l with | some s=>some s.xs | none=>none
 | .ownk t e h, .sl h' => bif Nat.beq h h' && Nat.blt h 64 then (match gf t e 0 F (.sl h') with | some (_,_,xs)=>some xs | none=>none) else none
 | .mp k v, .mp h=>match tK k v h F with | some s=>some s.xs | none=>none
 | .pt t e _ _, .sl h=>match yU t h F with | some s=>bif Nat.beq e s.e then some (s.xs,s.m) else none | none=>none
 | .al _, .sl _=>some ()
 | _,_=>none
def mt (F:List AF):(ps:List Sp)→List Lf→Option (vY ps)
 | [],[]=>some ()
 | [p],[l]=>p.abs F l
 | p::q::r,l::ls=>match p.abs F l,mt F (q::r) ls with
  | some x,some y=>some (x,y)
  | _,_=>none
 | _,_=>none
def Sp.leaf (p:Sp) (x:p.den) (nm:Nat):Lf:=match p,x with
 | .sc s,x=>.c s x
 | .ar n s,x=>.ar n s x
 | .xt n,x=>.xt n x
 | .own _ _ _ _,_=>.sl nm
 | .rep _ _ _,_=>.sl nm
 | .ownk _ _ h,_=>.sl h
 | .mp _ _,_=>.mp nm
 | .pt _ _ _ _,_=>.sl nm
 | .al d,_=>.sl (nm+d)
def pR:(ps:List Sp)→vY ps→Nat→List Lf
 | [],_,_=>[]
 | [p],x,nm=>[p.leaf x nm]
 | p::q::r,x,nm=>p.leaf x.1 nm::pR (q::r) x.2 (nm+1)
def va (KK:Nat→List Nat) (one:Bool) (src:List Nat) (_cb:Nat):List Nat:=(bif one then [1] else [])++src.flatMap KK++KK 4000000
def Sp.fact (KK:Nat→List Nat) (p:Sp) (x:p.den) (nm cb:Nat):List AF:=match p,x with
 | .own t e one src,xs=>[.own t e cb (bif t.ty.pureB||eW e then [] else va KK one src cb) xs nm]
 | .rep t one src,xs=>[.rep t (va KK one src cb) xs nm]
 | .ownk t e h,xs=>[.own t e cb [] xs h]
 | .mp k v,xs=>[.mp k v cb xs nm]
 | .pt t e one src,x=>[.pt t e cb (va KK one src cb) x.1 nm x.2, .rep t (cb::va KK one src cb) x.1 nm]
 | _,_=>[]
def B4 (KK:Nat→List Nat):(ps:List Sp)→vY ps→Nat→Nat→List AF
 | [],_,_,_=>[]
 | [p],x,nm,cb=>p.fact KK x nm cb
 | p::q::r,x,nm,cb=>p.fact KK x.1 nm cb++B4 KK (q::r) x.2 (nm+1) (cb+2)
def uc:List (Nat×ShV)→List Lf→SE
 | [],_=>[]
 | (t, .lf _)::r,l::ls=>(t, .lf l)::uc r ls
 | (t, .ag ps)::r,ls=>(t, .ag (ls.take ps.length))::uc r (ls.drop ps.length)
 | _,[]=>[]
def vO (E:SE):List (Nat×List Sp)→List Lf→Nat→List AF
 | [],_,_=>[]
 | (t,ps)::r,ls,cb=>match bd E t with
  | some (.lf (.bp b 0))=>.box cb b (ls.take ps.length)::vO E r (ls.drop ps.length) (cb+1)
  | some (.lf (.sl _))=>vO E r (ls.drop ps.length) (cb+1)
  | _=>[]
def Ck (F:List AF) (l:Lf):List Nat:=match l with
 | .sl h=>F.flatMap fun f=>match f with
  | .own _ _ i K _ h' => bif Nat.beq h h' then i::K else []
  | .rep _ K _ h' => bif Nat.beq h h' then K else []
  | .box _ _ _=>[]
  | .isn _ _=>[]
  | .prt _ _ _ _ _=>[]
  | .hol _ _ i _ h' _ _=>bif Nat.beq h h' then [i] else []
  | .mp _ _ _ _ _=>[]
  | .pt _ _ i K _ h' _=>bif Nat.beq h h' then i::K else []
 | .mp h=>F.flatMap fun f=>match f with
  | .mp _ _ i _ h' => bif Nat.beq h h' then [i] else []
  | _=>[]
 | .bp b _=>F.flatMap fun f=>match f with
  | .box i b' _=>bif Nat.beq b b' then [i] else []
  | _=>[]
 | _=>[]
def afH (F:List AF):AV→List Nat
 | .lf l=>Ck F l
 | .ag ls=>ls.flatMap (Ck F)
 | .tu _=>[]
def Vv (E:SE) (F:List AF) (t:Nat):List Nat:=match bd E t with
 | some v=>afH F v
 | none=>[]
def ahD (E:SE) (F:List AF) (t:Nat):List Nat:=match bd E t with
 | some (.lf (.bp b _))=>F.flatMap fun f=>match f with
  | .box _ b' cs=>bif Nat.beq b b' then cs.flatMap (Ck F) else []
  | _=>[]
 | _=>[]
def YQ (E:SE) (F:List AF) (cc t:Nat):List Nat:=bif Nat.beq t 4000000 then [cc] else bif Nat.ble 1000000 t then ahD E F (t - 1000000) else Vv E F t
def rH (sh:Shp) (KE:SE) (KF:List AF) (nb cb:Nat) (d:vY sh.ls):SS:=
 let ls:=pR sh.ls d nb
 ⟨uc sh.vs ls,B4 (YQ KE KF (cb+255)) sh.ls d nb cb++vO KE sh.bx (ls.drop (sh.vs.flatMap (fun p=>p.2.ls)).length) (cb+2 * sh.ls.length),nb+64,cb+256,[]⟩
def qz (F:List AF):List Sp→List Lf→Nat→List (Nat×Nat)
 | .own t e _ _::ps,l::ls,cb=>match gf t e 0 F l with
  | some (i,_,_)=>(i,cb)::qz F ps ls (cb+2)
  | none=>qz F ps ls (cb+2)
 | .ownk t e _::ps,l::ls,cb=>match gf t e 0 F l with
  | some (i,_,_)=>(i,cb)::qz F ps ls (cb+2)
  | none=>qz F ps ls (cb+2)
 | .mp k v::ps, .mp h::ls,cb=>match tK k v h F with
  | some s=>(s.i,cb)::qz F ps ls (cb+2)
  | none=>qz F ps ls (cb+2)
 | .pt t _ _ _::ps, .sl h::ls,cb=>match yU t h F with
  | some s=>(s.i,cb)::qz F ps ls (cb+2)
  | none=>qz F ps ls (cb+2)
 | _::ps,_::ls,cb=>qz F ps ls (cb+2)
 | _,_,_=>[]
def GG (E:SE) (F:List AF):List (Nat×List Sp)→Nat→List (Nat×Nat)
 | [],_=>[]
 | (t,_)::r,cb=>match bd E t with
  | some (.lf (.bp b 0))=>match kN b F with
   | some (i,_)=>(i,cb)::GG E F r (cb+1)
   | none=>[]
  | some (.lf (.sl _))=>GG E F r (cb+1)
  | _=>[]
def zk (F:List AF) (cc:Nat):List Sp→List Lf→List (Nat×Nat)
 | .own t e _ _::ps,l::ls=>(match gf t e 0 F l with
  | some (_,K,_)=>K.map fun k=>(k,cc)
  | none=>[])++zk F cc ps ls
 | .rep t _ _::ps,l::ls=>(match io t F l with
  | some s=>s.all.map fun k=>(k,cc)
  | none=>[])++zk F cc ps ls
 | .pt t _ _ _::ps, .sl h::ls=>(match yU t h F with
  | some s=>s.K.map fun k=>(k,cc)
  | none=>[])++zk F cc ps ls
 | _::ps,_::ls=>zk F cc ps ls
 | _,_=>[]
def sub (a b:List Nat):Bool:=a.all fun k=>b.any fun j=>Nat.beq k j
def AS (KK:Nat→List Nat) (g:Nat→Nat) (F:List AF) (cb:Nat):Sp→Lf→Bool
 | .own t e one src, .sl h=>match gf t e 0 F (.sl h) with
  | some (i,K,_)=>Nat.beq (g i) cb&&(t.ty.pureB||eW e||sub (K.map g) (va KK one src cb))
  | none=>false
 | .rep t one src, .sl h=>match io t F (.sl h) with
  | some s=>sub (s.all.map g) (va KK one src cb)
  | none=>false
 | .ownk t e _, .sl h=>match gf t e 0 F (.sl h) with
  | some (i,_,_)=>Nat.beq (g i) cb&&(t.ty.pureB||eW e)
  | none=>false
 | .mp k v, .mp h=>match tK k v h F with
  | some s=>Nat.beq (g s.i) cb
  | none=>false
 | .pt t _ one src, .sl h=>match yU t h F with
  | some s=>Nat.beq (g s.i) cb&&sub (s.K.map g) (va KK one src cb)
  | none=>false
 | _,_=>true
def DA (KK:Nat→List Nat) (g:Nat→Nat) (F:List AF):Nat→List Sp→List Lf→Bool
 | cb,p::ps,l::ls=>AS KK g F cb p l&&DA KK g F (cb+2) ps ls
 | _,_,_=>true
def Ax (g:Nat→Nat) (E:SE) (F:List AF):List (Nat×List Sp)→Nat→Bool
 | [],_=>true
 | (t,_)::r,cb=>match bd E t with
  | some (.lf (.bp b 0))=>match kN b F with
   | some (i,_)=>Nat.beq (g i) cb&&Ax g E F r (cb+1)
   | none=>false
  | some (.lf (.sl _))=>Ax g E F r (cb+1)
  | _=>false
def alB (p:Sp) (l:Lf) (ls:List Lf):Bool:=match p,l with
 | .al d, .sl h=>(match (l::ls)[d]? with | some (.sl h')=>Nat.beq h h' | _=>false)
 | _,_=>true
def NP:List Sp→List Lf→Bool
 | p::ps,l::ls=>alB p l ls&&NP ps ls
 | _,_=>true
def zh (B:Nat) (sh:Shp) (KE:SE) (KF:List AF) (nb cb:Nat) (S:SS):Option (vY sh.ls):=match rE S.E sh.vs,BM KE (S.F++KF) sh.bx with
 | some l1,some l2=>match mt (S.F++KF) sh.ls (l1++l2) with
  | some d=>
   let kc:=KF.flatMap AF.uses
   let cm:=kc.map (fun k=>(k,k))++qz (S.F++KF) sh.ls (l1++l2) cb++GG KE (S.F++KF) sh.bx (cb+2 * sh.ls.length)++zk (S.F++KF) (cb+255) sh.ls (l1++l2)
   let cm:=cm.filter fun p=>Nat.ble 2 p.1&&Nat.ble 2 p.2
   let g:=pX cm 2
   bif KF.all (fun f=>!(jd S.d f))&&kc.all (fun k=>Nat.beq (g k) k)&&DA (YQ KE KF (cb+255)) g (S.F++KF) cb sh.ls (l1++l2)&&Ax g KE (S.F++KF) sh.bx (cb+2 * sh.ls.length)&&KE.all (fun p=>p.2.free nb)&&KF.all (AF.free nb)&&Nat.ble sh.ls.length 64&&KE.all (fun p=>(bd S.E p.1).isNone)&&Nat.ble 64 nb&&Nat.ble B nb&&NP sh.ls (l1++l2) then some d else none
  | none=>none
 | _,_=>none
theorem Et {F:List AF} {η η' : Vn} {p:Sp} {l:Lf} {x:p.den} (hlow : ∀ m,m<64→η'.h m=η.h m) (h:p.abs F l=some x) (hn:η'.h nm=l.hd η) (hal : ∀ d,p = .al d→η'.h (nm+d)=l.hd η):(p.leaf x nm).cells η' = l.cells η∧(p.leaf x nm).val η' = l.val η:=by
 cases p with
 | sc s=>
  cases l <;> simp only [Sp.abs] at h <;> try cases h
  split at h
  ·rename_i he; subst he
   simp only [Va] at h; subst h
   exact ⟨rfl,rfl⟩
  ·cases h
 | ar n s=>
  cases l <;> simp only [Sp.abs] at h <;> try cases h
  split at h
  ·rename_i he; obtain ⟨rfl,rfl⟩:=he
   simp only [Va] at h; subst h
   exact ⟨rfl,rfl⟩
  ·cases h
 | xt n=>
  cases l <;> simp only [Sp.abs] at h <;> try cases h
  split at h
  ·rename_i he; subst he
   simp only [Va] at h; subst h
   exact ⟨rfl,rfl⟩
  ·cases h
 | own t e one src=>
  simp only [Sp.abs] at h
  split at h
  ·rename_i i K xs ho
   refine ⟨?_,?_⟩
   ·simp only [Sp.leaf,Lf.cells,hn]
    cases l <;> simp [gf] at ho <;> rfl
   ·simp only [Sp.leaf,Lf.val,hn]
    exact (pK ho η).symm
  ·cases h
 | rep t one src=>
  simp only [Sp.abs] at h
  split at h
  ·rename_i s hs
   refine ⟨?_,?_⟩
   ·simp only [Sp.leaf,Lf.cells,hn]
    exact (nE hs η).2.symm
   ·simp only [Sp.leaf,Lf.val,hn]
    exact (nE hs η).1.symm
  ·cases h
 | ownk t e h0=>
  cases l with
  | sl h' =>
   simp only [Sp.abs] at h
   cases hb:(Nat.beq h0 h' && Nat.blt h0 64)
   ·rw [hb] at h; cases h
   ·simp only [Vf] at hb
    have h1:=Vb hb.1
    have h2:h0+1≤64:=Vg hb.2
    subst h1
    simp only [Sp.leaf,Lf.cells,Lf.val,hlow h0 (by omega),ajt]
  | _=>cases h
 | mp k v=>
  cases l with
  | mp h' => exact ⟨by simp only [Sp.leaf,Lf.cells,hn]; rfl,by simp only [Sp.leaf,Lf.val,hn]; rfl⟩
  | _=>cases h
 | pt t e one src=>
  cases l with
  | sl h' => exact ⟨by simp only [Sp.leaf,Lf.cells,hn]; rfl,by simp only [Sp.leaf,Lf.val,hn]; rfl⟩
  | _=>cases h
 | al d=>
  cases l with
  | sl h' => exact ⟨by simp only [Sp.leaf,Lf.cells,hal d rfl]; rfl,by simp only [Sp.leaf,Lf.val,hal d rfl]; rfl⟩
  | _=>cases h
theorem Tw {F:List AF} {η η' : Vn} {p:Sp} {l:Lf} {ls:List Lf} {x:p.den} (h:p.abs F l=some x) (ha:alB p l ls=true) (hn : ∀ (j:Nat) (l' : Lf),(l::ls)[j]? = some l' → η'.h (nm+j)=l'.hd η) (d:Nat) (hp:p = .al d):η'.h (nm+d)=l.hd η:=by
 subst hp
 cases l with
 | sl h' =>
  simp only [alB] at ha
  split at ha
  ·rename_i h2 hh
   rw [hn d _ hh,Vb ha]
  ·cases ha
 | _=>cases h
theorem BF {F:List AF} {η η' : Vn} (hlow : ∀ m,m<64→η'.h m=η.h m) : ∀ {ps:List Sp} {ls:List Lf} {d:vY ps} {nm:Nat},mt F ps ls=some d→NP ps ls=true→(∀ (j:Nat) (l:Lf),ls[j]? = some l→η'.h (nm+j)=l.hd η) →
  (pR ps d nm).length=ls.length∧∀ (j:Nat) (l l' : Lf),ls[j]? = some l→(pR ps d nm)[j]? = some l' → l'.cells η' = l.cells η∧l'.val η' = l.val η
 | [],[],d,nm,h,_,hn=>⟨rfl,fun j l l' h=>by simp at h⟩
 | [p],[l],d,nm,h,ha,hn=>⟨rfl,fun j l1 l' h1 h2=>by
  cases j with
  | zero=>
   simp only [pR,ZC,Va] at h1 h2
   subst h1 h2
   simp only [NP,Vf] at ha
   exact Et hlow h (hn 0 _ rfl) (Tw h ha.1 hn)
  | succ j=>simp at h1⟩
 | p::q::r,l::ls,d,nm,h,ha,hn=>by
  rw [NP,Vf] at ha
  simp only [mt] at h
  split at h
  ·rename_i x y hx hy
   simp only [Va] at h
   subst h
   obtain ⟨i1,i2⟩:=BF (η:=η) (η' := η') hlow (nm:=nm+1) hy ha.2 fun j l' hj=>by
    have:=hn (j+1) l' (by simpa using hj)
    rwa [show nm+1+j=nm+(j+1) by omega]
   refine ⟨by simp only [pR,Ws,i1],fun j l1 l' h1 h2=>?_⟩
   cases j with
   | zero=>
    simp only [pR,ZC,Va] at h1 h2
    subst h1 h2
    exact Et hlow hx (hn 0 _ rfl) (Tw hx ha.1 hn)
   | succ j=>
    simp only [pR,aep] at h1 h2
    exact i2 j l1 l' h1 h2
  ·cases h
 | [],_::_,_,_,h,_,_=>by simp [mt] at h
 | [_],[],_,_,h,_,_=>by simp [mt] at h
 | [_],_::_::_,_,_,h,_,_=>by simp [mt] at h
 | _::_::_,[],_,_,h,_,_=>by simp [mt] at h
theorem wR {η η' : Vn} : ∀ {as bs:List Lf},as.length=bs.length→(∀ (j:Nat) (l l' : Lf),bs[j]? = some l→as[j]? = some l' → l'.cells η' = l.cells η)→au η' as=au η bs
 | [],[],_,_=>rfl
 | a::as,b::bs,hl,h=>by
  simp only [au]
  rw [h 0 b a rfl rfl,wR (by simpa using hl) fun j l l' h1 h2=>h (j+1) l l' (by simpa using h1) (by simpa using h2)]
 | [],_::_,hl,_=>by simp at hl
 | _::_,[],hl,_=>by simp at hl
theorem AG {E:SE} {η η' : Vn} : ∀ {vs:List (Nat×ShV)} {ls as rest:List Lf},rE E vs=some ls→as.length=(ls++rest).length→(∀ (j:Nat) (l l' : Lf),(ls++rest)[j]? = some l→as[j]? = some l' → l'.cells η' = l.cells η∧l'.val η' = l.val η) →
  ∀ t v,bd (uc vs as) t=some v→∃ v0,bd E t=some v0∧v.val η' = v0.val η
 | [],ls,as,rest,_,_,_,t,v,h=>by simp [uc,bd] at h
 | (t0, .lf p)::r,ls,as,rest,hg,hl,hc,t,v,h=>by
  simp only [rE] at hg
  split at hg
  ·rename_i l ls' h1 h2
   simp only [Va] at hg
   subst hg
   cases as with
   | nil=>simp at hl
   | cons a as=>
    simp only [uc,bd] at h
    cases hb:Nat.beq t t0
    ·rw [hb] at h
     exact AG h2 (by simpa using hl) (fun j l l' k1 k2=>hc (j+1) l l' (by simpa using k1) (by simpa using k2)) t v h
    ·rw [hb] at h
     simp only [f9,Va] at h
     subst h
     obtain rfl:=Vb hb
     exact ⟨_,h1,(hc 0 l a rfl rfl).2⟩
  ·cases hg
 | (t0, .ag ps)::r,ls,as,rest,hg,hl,hc,t,v,h=>by
  simp only [rE] at hg
  split at hg
  ·rename_i l ls' h1 h2
   cases hb0:Nat.beq l.length ps.length
   ·rw [hb0] at hg; cases hg
   ·rw [hb0] at hg
    simp only [f9,Va] at hg
    subst hg
    have hlen:=Vb hb0
    simp only [Vs] at hl
    simp only [uc,bd] at h
    cases hb:Nat.beq t t0
    ·rw [hb] at h
     refine AG (rest:=rest) h2 (by simp; omega) (fun j l1 l' k1 k2=>?_) t v h
     rw [Xl] at k2
     exact hc (ps.length+j) l1 l' (by rw [V8,Yf (by omega)]; rw [show ps.length+j - l.length=j by omega]; exact k1) k2
    ·rw [hb] at h
     simp only [f9,Va] at h
     subst h
     obtain rfl:=Vb hb
     refine ⟨_,h1,?_⟩
     simp only [AV.val]
     rw [wR (bs:=l) (by simp; omega) fun j l1 l' k1 k2=>?_]
     have hj:=(VN.1 k1).1
     rw [Xc] at k2
     split at k2
     ·exact (hc j l1 l' (by rw [V8,Yq hj]; exact k1) k2).1
     ·cases k2
  ·cases hg
end
section
variable [X:XTab] [G:GTab]
theorem Dc {a b:List Nat} (h:sub a b=true) : ∀ k∈a,k∈b:=fun _ hk=>agN h hk
theorem BK (hg:Gd g)  {c:bu} {t:TC} {e:TypeId} {i cb:Nat} {K K' : List Nat} {xs:List t.den} {v:Hd} (h:HA.holds w c (dR t.ty e i K xs v)) (hi:g i=cb) (hK:(t.ty.pureB=true∨eW e=true)∨sub (K.map g) K' = true) :
  HA.holds w (fun b=>g (c b)) (dR t.ty e cb K' xs v):=by
 cases htr:eW e
 rotate_left
 ·rw [jb htr] at h ⊢
  subst hi
  exact HA.ren_holds hg (.tr t.ty e i K xs v) h
 rw [d7 htr] at h ⊢
 have h1:=HA.ren_holds hg (.own t.ty e i K xs v) h
 subst hi
 rcases hK with (hK | hK) | hK
 ·exact yQ hK _ _ h1
 ·rw [htr] at hK; cases hK
 ·obtain ⟨ys,a1,a2,a3⟩:=h1
  exact ⟨ys,a1.mono (bM.keep (fun _ _ hb=>⟨Dc hK _ hb,rfl⟩) t.ty),a2,a3⟩
theorem Ti (hg:Gd g)  {c:bu} {t:TC} {K K' : List Nat} {xs:List t.den} {v:Hd} (h:HA.holds w c (.rep t.ty K xs v)) (hK:sub (K.map g) K' = true):HA.holds w (fun b=>g (c b)) (.rep t.ty K' xs v):=
 bM.keep (fun _ _ hb=>⟨Dc hK _ hb,rfl⟩) (.slice t.ty) xs v (HA.ren_holds hg (.rep t.ty K xs v) h)
theorem L8 {KK:Nat→List Nat} (hg:Gd g) {F:List AF} {η η' : Vn}  {c:bu} (hF:am w c (F.map (AF.ha η))) {p:Sp} {l:Lf} {x:p.den} {cb:Nat} (hlow : ∀ m,m<64→η'.h m=η.h m) (ha:p.abs F l=some x) (hc:AS KK g F cb p l=true) (hn:η'.h nm=l.hd η) :
  am w (fun b=>g (c b)) ((p.fact KK x nm cb).map (AF.ha η')):=by
 cases p with
 | sc s=>exact am.nil _ _
 | ar n s=>exact am.nil _ _
 | xt n=>exact am.nil _ _
 | own t e one src=>
  simp only [Sp.abs] at ha
  split at ha
  ·rename_i i K xs ho
   simp only [Va] at ha
   subst ha
   refine am.cons ?_ (am.nil _ _)
   simp only [AF.ha,hn]
   cases l with
   | sl h=>
    simp only [AS,ho,Vf,Yi] at hc
    exact BK hg (fR ho hF) (Vb hc.1) (by
     cases hp:t.ty.pureB
     ·cases htr:eW e
      ·rw [hp,htr] at hc
       simpa using hc.2
      ·exact .inl (.inr rfl)
     ·exact .inl (.inl rfl))
   | nl=>
    simp only [gf,Va,VI] at ho
    obtain ⟨_,_,rfl⟩:=ho
    exact rZ _ _
   | _=>simp [gf] at ho
  ·cases ha
 | rep t one src=>
  simp only [Sp.abs] at ha
  split at ha
  ·rename_i s hs
   simp only [Va] at ha
   subst ha
   refine am.cons ?_ (am.nil _ _)
   simp only [AF.ha,hn]
   cases l with
   | sl h=>
    simp only [AS,hs] at hc
    exact Ti hg (kp hs hF) hc
   | nl=>
    simp only [io,Va] at hs
    subst hs
    exact ry _ _
   | _=>simp [io] at hs
  ·cases ha
 | ownk t e h0=>
  cases l with
  | sl h' =>
   simp only [Sp.abs] at ha
   cases hb:(Nat.beq h0 h' && Nat.blt h0 64)
   ·rw [hb] at ha; cases ha
   ·rw [hb] at ha
    simp only [Vf] at hb
    have h1:=Vb hb.1
    have h2:h0+1≤64:=Vg hb.2
    subst h1
    simp only [f9] at ha
    split at ha
    ·rename_i i K xs ho
     simp only [Va] at ha
     subst ha
     simp only [AS,ho,Vf,Yi] at hc
     refine am.cons ?_ (am.nil _ _)
     simp only [AF.ha,hlow h0 (by omega)]
     exact BK hg (fR ho hF) (Vb hc.1) (.inl hc.2)
    ·cases ha
  | _=>cases ha
 | mp k v=>
  cases l with
  | mp h' =>
   simp only [Sp.abs] at ha
   split at ha
   ·rename_i s hs
    simp only [Va] at ha
    subst ha
    simp only [AS,hs] at hc
    refine am.cons ?_ (am.nil _ _)
    have h3:=HA.ren_holds hg _ (hF _ (VO.2 ⟨_,jl hs,rfl⟩))
    simp only [AF.ha,HA.ren] at h3 ⊢
    rw [Vb hc] at h3
    rw [hn]
    exact h3
   ·cases ha
  | _=>cases ha
 | al d=>exact am.nil _ _
 | pt t e one src=>
  cases l with
  | sl h' =>
   simp only [Sp.abs] at ha
   split at ha
   ·rename_i s hs
    cases he:Nat.beq e s.e
    ·rw [he] at ha; cases ha
    rw [he] at ha
    simp only [f9,Va] at ha
    subst ha
    simp only [AS,hs,Vf] at hc
    have h3:=HA.ren_holds hg _ (hF _ (VO.2 ⟨_,nD hs,rfl⟩))
    simp only [AF.ha,HA.ren] at h3
    rw [Vb hc.1,← Vb he] at h3
    have h4:HA.holds w (fun b=>g (c b)) (.pt t.ty e cb (va KK one src cb) s.xs (η.h h') s.m):=vJ.keep (fun b _ hb=>⟨hb,rfl⟩) (fun b _ hb=>⟨Dc hc.2 _ hb,rfl⟩) h3
    have hn' : η'.h nm=η.h h' := hn
    refine am.cons ?_ (am.cons ?_ (am.nil _ _))
    ·simp only [AF.ha,hn']; exact h4
    ·simp only [AF.ha,hn']; exact Hl h4
   ·cases ha
  | _=>cases ha
theorem K4 {KK:Nat→List Nat} {g:Nat→Nat} (hg:Gd g) {F:List AF} {η η' : Vn} {w:World} {c:bu} (hF:am w c (F.map (AF.ha η))) (hlow : ∀ m,m<64→η'.h m=η.h m) : ∀ {ps:List Sp} {ls:List Lf} {d:vY ps} {nm cb:Nat},mt F ps ls=some d→DA KK g F cb ps ls=true →
  (∀ (j:Nat) (l:Lf),ls[j]? = some l→η'.h (nm+j)=l.hd η)→am w (fun b=>g (c b)) ((B4 KK ps d nm cb).map (AF.ha η'))
 | [],[],_,_,_,_,_,_=>am.nil _ _
 | [p],[l],d,nm,cb,ha,hc,hn=>by
  simp only [DA,Vf] at hc
  exact L8 hg hF hlow ha hc.1 (hn 0 l rfl)
 | p::q::r,l::ls,d,nm,cb,ha,hc,hn=>by
  simp only [mt] at ha
  split at ha
  ·rename_i x y hx hy
   simp only [Va] at ha
   subst ha
   rw [DA,Vf] at hc
   simp only [B4,Ym]
   refine (L8 hg hF hlow hx hc.1 (hn 0 l rfl)).append (K4 hg hF hlow hy hc.2 fun j l' hj=>?_)
   have:=hn (j+1) l' (by simpa using hj)
   rwa [show nm+1+j=nm+(j+1) by omega]
  ·cases ha
 | [],_::_,_,_,_,h,_,_=>by simp [mt] at h
 | [_],[],_,_,_,h,_,_=>by simp [mt] at h
 | [_],_::_::_,_,_,_,h,_,_=>by simp [mt] at h
 | _::_::_,[],_,_,_,h,_,_=>by simp [mt] at h
theorem Au {g:Nat→Nat} (hg:Gd g) {KE:SE} {F:List AF} {η η' : Vn} {w:World} {c:bu} (hF:am w c (F.map (AF.ha η))) (hb:η'.b=η.b) : ∀ {bx:List (Nat×List Sp)} {ls as:List Lf} {cb:Nat},BM KE F bx=some ls→Ax g KE F bx cb=true→as.length=ls.length →
  (∀ (j:Nat) (l l' : Lf),ls[j]? = some l→as[j]? = some l' → l'.cells η' = l.cells η)→am w (fun b=>g (c b)) ((vO KE bx as cb).map (AF.ha η'))
 | [],_,_,_,_,_,_,_=>am.nil _ _
 | (t,ps)::r,ls,as,cb,hgb,hc,hl,hcell=>by
  simp only [BM] at hgb
  split at hgb
  ·rename_i b hlk
   split at hgb
   ·rename_i i cs ls' h1 h2
    cases hb0:Nat.beq cs.length ps.length
    ·rw [hb0] at hgb; cases hgb
    ·rw [hb0] at hgb
     simp only [f9,Va] at hgb
     subst hgb
     have hlen:=Vb hb0
     simp only [Ax,hlk,h1,Vf] at hc
     simp only [Vs] at hl
     simp only [vO,hlk,WD]
     refine am.cons ?_ (Au hg hF hb h2 hc.2 (by simp; omega) fun j l l' k1 k2=>?_)
     ·have h3:=HA.ren_holds hg _ (hF _ (VO.2 ⟨_,fU h1,rfl⟩))
      simp only [AF.ha,HA.ren] at h3 ⊢
      rw [Vb hc.1] at h3
      rw [hb,wR (bs:=cs) (by simp; omega) fun j l l' k1 k2=>?_]
      ·exact h3
      ·have hj:=(VN.1 k1).1
       rw [Xc] at k2
       split at k2
       ·exact hcell j l l' (by rw [Yq hj]; exact k1) k2
       ·cases k2
     ·rw [Xl] at k2
      exact hcell (ps.length+j) l l' (by rw [Yf (by omega)]; rw [show ps.length+j - cs.length=j by omega]; exact k1) k2
   ·cases hgb
  ·rename_i h hlk
   split at hgb
   ·rename_i h0 _ _ _ ls' h1 h2
    cases hb0:Nat.beq 1 ps.length
    ·rw [hb0] at hgb; cases hgb
    ·rw [hb0] at hgb
     simp only [f9,Va] at hgb
     subst hgb
     have hlen:=Vb hb0
     simp only [Ax,hlk] at hc
     simp only [Ws] at hl
     simp only [vO,hlk]
     refine Au hg hF hb h2 hc (by simp; omega) fun j l l' k1 k2=>?_
     rw [Xl] at k2
     exact hcell (ps.length+j) l l' (by rw [show ps.length+j=j+1 by omega,aep]; exact k1) k2
   ·cases hgb
  ·cases hgb
theorem MC :(A:HA)→(∀ k∈A.uses,g k=k)→True→A.ren g=A
 | .tr t e i K xs v,h,_=>by
  have:K.map g=K:=by
   conv=>rhs; rw [← afI K]
   exact ZI fun k hk=>h k (Vi _ hk)
  simp only [HA.ren,this,h i VU]
 | .hol t e i xs v k cs,h,_=>by simp only [HA.ren,h i (by simp [HA.uses])]
 | .pt t e i K xs v m,h,_=>by
  have:K.map g=K:=by
   conv=>rhs; rw [← afI K]
   exact ZI fun k hk=>h k (Vi _ hk)
  simp only [HA.ren,this,h i VU]
 | .rep t K xs v,h,_=>by
  have:K.map g=K:=by
   conv=>rhs; rw [← afI K]
   exact ZI fun k hk=>h k hk
  simp only [HA.ren,this]
 | .own t e i K xs v,h,_=>by
  have:K.map g=K:=by
   conv=>rhs; rw [← afI K]
   exact ZI fun k hk=>h k (Vi _ hk)
  simp only [HA.ren,this,h i VU]
 | .box i b cs,h,_=>by simp only [HA.ren,h i (by simp [HA.uses])]
 | .mp i b es,h,_=>by simp only [HA.ren,h i (by simp [HA.uses])]
 | .elem t K x p,h,_=>by
  have:K.map g=K:=by
   conv=>rhs; rw [← afI K]
   exact ZI fun k hk=>h k hk
  simp only [HA.ren,this]
 | .old _ _,_,_=>rfl
 | .pure _,_,_=>rfl
 | .gl _ _ _,_,_=>rfl
theorem DO {E:SE} : ∀ {vs:List (Nat×ShV)} {ls:List Lf},rE E vs=some ls→ls.length=(vs.flatMap (fun p=>p.2.ls)).length:=by
 intro vs
 induction vs with
 | nil=>intro ls h; simp [rE] at h; subst h; rfl
 | cons p r ih=>
  intro ls h
  obtain ⟨t0,v0⟩:=p
  cases v0 with
  | lf p=>
   simp only [rE] at h
   split at h
   ·rename_i l ls' _ h2
    simp only [Va] at h
    subst h
    simp [ih h2,ShV.ls]
   ·cases h
  | ag ps=>
   simp only [rE] at h
   split at h
   ·rename_i l ls' _ h2
    cases hb0:Nat.beq l.length ps.length
    ·rw [hb0] at h; cases h
    ·rw [hb0] at h
     simp only [f9,Va] at h
     subst h
     have:=Vb hb0
     simp [ih h2,ShV.ls]; omega
   ·cases h
theorem B1 {E E' : SE} {t:Nat} (h:bd E t=none):bd (E++E') t=bd E' t:=by
 induction E with
 | nil=>rfl
 | cons p r ih=>
  simp only [YB,bd] at h ⊢
  cases hb:Nat.beq t p.1
  ·rw [hb] at h; exact ih h
  ·rw [hb] at h; cases h
theorem tk {B nt:Nat} {L0:List HA} {β:Vn} (hL0:L0ok L0) {sh:Shp} {KE:SE} {KF:List AF} {nb cb:Nat} {S:SS} {d:vY sh.ls} (h:zh B sh KE KF nb cb S=some d) {a:Act} (hI:jz B nt L0 β KE KF S a w) :
  jz B nt L0 β KE KF (rH sh KE KF nb cb d) a w:=by
 unfold zh at h
 split at h
 ·rename_i l1 l2 g1 g2
  split at h
  ·rename_i d' hd
   simp only at h
   generalize hcm:((KF.flatMap AF.uses).map (fun k=>(k,k))++qz (S.F++KF) sh.ls (l1++l2) cb++GG KE (S.F++KF) sh.bx (cb+2 * sh.ls.length)++zk (S.F++KF) (cb+255) sh.ls (l1++l2)).filter (fun p=>Nat.ble 2 p.1&&Nat.ble 2 p.2)=cm at h
   generalize hgg:pX cm 2=g at h
   cases hb:(KF.all (fun f=>!(jd S.d f))&&(KF.flatMap AF.uses).all (fun k=>Nat.beq (g k) k)&&DA (YQ KE KF (cb+255)) g (S.F++KF) cb sh.ls (l1++l2)&&Ax g KE (S.F++KF) sh.bx (cb+2 * sh.ls.length)&&KE.all (fun p=>p.2.free nb)&&KF.all (AF.free nb)&&Nat.ble sh.ls.length 64&&KE.all (fun p=>(bd S.E p.1).isNone)&&Nat.ble 64 nb&&Nat.ble B nb&&NP sh.ls (l1++l2))
   ·rw [hb] at h; cases h
   ·rw [hb] at h
    simp only [f9,Va] at h
    subst h
    simp only [Vf] at hb
    obtain ⟨⟨⟨⟨⟨⟨⟨⟨⟨⟨hdead,hfix⟩,hchk⟩,hchb⟩,hfE⟩,hfF⟩,h64⟩,hno⟩,hnb⟩,hnB⟩,hal⟩:=hb
    have hg:Gd g:=by
     subst hgg
     refine HN ?_
     simp only [ZN,Vf]
     refine ⟨rfl,Vx.2 fun x hx=>?_⟩
     obtain ⟨p,hp,rfl⟩:=VO.1 hx
     rw [← hcm] at hp
     have:=(Yc.1 hp).2
     simp only [Vf] at this
     exact this.2
    obtain ⟨η,c,ρ,ha,hE,hH,hL⟩:=hI
    have hls:(l1++l2).length=sh.ls.length:=by
     have gen : ∀ {ps:List Sp} {ls:List Lf} {d:vY ps},mt (S.F++KF) ps ls=some d→ls.length=ps.length:=by
      intro ps
      induction ps with
      | nil=>intro ls d h; cases ls <;> simp [mt] at h ⊢
      | cons p r ih=>
       intro ls d h
       cases r with
       | nil=>
        cases ls with
        | nil=>simp [mt] at h
        | cons l ls=>
         cases ls with
         | nil=>rfl
         | cons _ _=>simp [mt] at h
       | cons q r=>
        cases ls with
        | nil=>simp [mt] at h
        | cons l ls=>
         simp only [mt] at h
         split at h
         ·rename_i x y hx hy
          simp only [Ws,ih hy]
         ·cases h
     exact gen hd
    have h64:=Vg h64
    let η' : Vn:=η.set nb (aS η (l1++l2))
    have hagr:η.agr nb η' := Vn.set_agr (by simp only [aS,abn]; omega)
    have hnm : ∀ (j:Nat) (l:Lf),(l1++l2)[j]? = some l→η'.h (nb+j)=l.hd η:=fun j l hj=>Vn.set_at (by rw [aS,Zc,hj]; rfl)
    have hlv:bD S.d KF=KF:=List.filter_eq_self.2 fun f hf=>Vx.1 hdead f hf
    rw [hlv] at hH
    have hF:am w c ((S.F++KF).map (AF.ha η)):=hH
    have hlow : ∀ m,m<64→η'.h m=η.h m:=fun m hm=>(hagr m (by simp only [bk,Yi]; exact .inl (Wo (by have:=Vg hnb; omega)))).1
    obtain ⟨k1,k2⟩:=BF (η:=η) (η' := η') hlow (nm:=nb) hd hal hnm
    refine ⟨η',fun b=>g (c b),ρ,ha,?_,?_,?_,fun m hm=>?_⟩
    ·intro t v hl
     rcases pe hl with hl | hl
     ·obtain ⟨v0,e1,e2⟩:=AG (η:=η) (η' := η') (rest:=l2) g1 k1 k2 t v hl
      rw [e2]
      refine hE t v0 ?_
      have app : ∀ {E E' : SE},bd E t=some v0→bd (E++E') t=some v0:=by
       intro E E' h
       induction E with
       | nil=>simp [bd] at h
       | cons p r ih=>
        simp only [YB,bd] at h ⊢
        cases hb:Nat.beq t p.1
        ·rw [hb] at h; exact ih h
        ·rw [hb] at h; exact h
      exact app e1
     ·rw [AV.val_agr hagr v (Vx.1 hfE _ (pI hl))]
      refine hE t v ?_
      have:=Vx.1 hno _ (pI hl)
      rw [B1 (by simpa using this)]
      exact hl
    ·rw [show bD (rH sh KE KF nb cb d').d KF=KF from A1 KF,Ym]
     refine am.append ?_ ?_
     ·simp only [rH,Ym]
      refine am.append (K4 hg hF hlow hd hchk hnm) (Au (η:=η) (η' := η') hg hF rfl g2 hchb ?_ fun j l l' e1 e2=>?_)
      ·have:=DO g1
       simp only [XZ,k1,Vs]; omega
      ·have hl1:=DO g1
       rw [Xl] at e2
       exact (k2 (l1.length+j) l l' (by rw [Yf (by omega)]; rw [show l1.length+j - l1.length=j by omega]; exact e1) (by rw [hl1]; exact e2)).1
     ·intro A hA
      obtain ⟨f,hf,rfl⟩:=VO.1 hA
      have hold:=hH _ (VO.2 ⟨f,WQ _ hf,rfl⟩)
      have hfr:=Vx.1 hfF f hf
      rw [AF.ha_agr hagr f hfr]
      have:=HA.ren_holds hg _ hold
      rwa [MC _ (fun k hk=>by
       rw [AF.ha_uses] at hk
       exact Vb (Vx.1 hfix k (aju.2 ⟨f,hf,hk⟩))) trivial] at this
    ·intro A hA
     have:=HA.ren_holds hg _ (hL.1 A hA)
     rwa [MC A (fun k hk=>by
      have:=hL0.old A hA k hk
      match k,this with
      | 0,_=>exact hg.z
      | 1,_=>exact hg.o) (by cases A <;> trivial)] at this
    ·have:=Vg hnB
     have hz:=hagr m (by simp only [bk,Yi]; exact .inl (Wo (by omega)))
     rw [hz.1,hz.2]; exact hL.2 m hm
  ·cases h
 ·cases h
end
end Go.Sm
