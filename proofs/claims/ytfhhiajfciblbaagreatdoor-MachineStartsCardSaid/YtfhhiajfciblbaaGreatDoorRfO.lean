/-
  The symbolic evaluator: code. Nothing of a program is named here; no condition.
-/
import Derived.Test.YtfhhiajfciblbaaGreatDoorRfL
namespace Go.Sm
set_option linter.unusedSectionVars false
section
variable [X:XTab] [G:GTab]
structure SS where
 E:SE
 F:List AF
 nn:Nat
 nc:Nat
 d:List Nat
def bj (d:List Nat) (KF:List AF):List AF:=KF.filter fun f=>!(gI d f)
theorem yJ (KF:List AF):bj [] KF=KF:=by
 unfold bj
 exact List.filter_eq_self.2 fun f _=>rfl
theorem tj (a b:List Nat) (f:AF):gI (a++b) f=(gI a f||gI b f):=by simp [gI]
theorem QB (a b:List Nat) (KF:List AF):bj a (bj b KF)=bj (a++b) KF:=by
 unfold bj
 rw [List.filter_filter]
 congr 1
 funext f
 rw [tj]
 cases gI a f <;> cases gI b f <;> rfl
theorem IG (d:List Nat) (a b:List AF):bj d (a++b)=bj d a++bj d b:=by simp [bj]
def g9 (B nt:Nat) (L0:List HA) (β:Vn) (KE:SE) (KF:List AF) (S:SS) (a:Act) (w:World):Prop:=
 ∃ (η:Vn) (c:bd) (ρ:cF),Rel nt ρ a∧kH η ρ (S.E++KE)∧ai w c ((S.F++bj S.d KF).map (AF.ha η))∧ai w c L0∧∀ m,m<B→η.b m=β.b m∧η.h m=β.h m
def DV (KE:SE) (ops:List Oper):Bool:=KE.all (fun p=>!(bM p.1 (lV ops)))
def abe (KF:List AF) (es:List Ent):List Nat:=(es.flatMap fun e=>e.u.κ).filter fun k=>KF.any (gI [k])
def NF (cls:List (List Nat)) (ops:List Oper) (KF:List AF) (S:SS) (es:List Ent):SS:=
 ⟨uA (List.range ops.length) [] es 0++lI (lV ops) S.E,yG cls ops.length (List.range ops.length) [] es es 0++S.F.filter (fun f=>!(nX cls ops.length [] ops.length f es 0)),
  S.nn+64 * ops.length,S.nc+(512 * ops.length+256),abe KF es++S.d⟩
def Af {R:Type} (C:Cx) (nt:Nat) (draw:Bool) (ops:List Oper) (KE:SE) (KF:List AF) (S:SS) (K:SS→Option R):Option R:=
 bif Nat.ble C.B S.nn then vP C S.nn S.nc (fH draw ops) ops (S.E++KE) (S.F++bj S.d KF) ops 0 [] fun es=>
  bif ra C S.nn S.nc nt draw (fH draw ops) ops (S.E++KE) (S.F++bj S.d KF) es&&DV KE ops then K (NF (fH draw ops) ops KF S es) else none
 else none
section
variable {C:Cx} {P:Program} {nt:Nat} {KE:SE} {KF:List AF} {L0:List HA} {β:Vn}
theorem qU (ds:List Nat) : ∀ (E E' : SE),lI ds (E++E')=lI ds E++lI ds E'
 | [],_=>rfl
 | p::r,E' => by
  simp only [List.cons_append,lI]
  cases bM p.1 ds
  ·simp [qU ds r E']
  ·simp [qU ds r E']
theorem H3 {ds:List Nat} : ∀ {E:SE},E.all (fun p=>!(bM p.1 ds))=true→lI ds E=E
 | [],_=>rfl
 | p::r,h=>by
  simp only [List.all_cons,Bool.and_eq_true,Bool.not_eq_true'] at h
  simp only [lI,h.1,cond_false,H3 h.2]
theorem I3 {n N:Nat} {draw:Bool} {ops:List Oper} {S:SS} {es:List Ent} (_:S.nn=n) (hb:ra C n N nt draw (fH draw ops) ops (S.E++KE) (S.F++bj S.d KF) es=true) (hk:DV KE ops=true) (hlen:es.length=ops.length)
  (hall : ∀ j o e,ops[j]? = some o→es[j]? = some e→sw C P n N (fH draw ops) ops (S.E++KE) (S.F++bj S.d KF) o j (es.take j) e) {listed:Nat→Bool} (hl : ∀ i,i<ops.length→listed i=true) {a:Act} {w:World}
  (hJ:RJ C.B nt (fH draw ops) ops (S.E++KE) (S.F++bj S.d KF) es L0 β listed a w):g9 C.B nt L0 β KE KF (NF (fH draw ops) ops KF S es) a w:=by
 obtain ⟨η,c,ρ,ha,hE,hV,hB,hL,hR⟩:=hJ
 simp only [DV] at hk
 have hch:=NJ hlen hall
 have hx0 : ∀ {j:Nat} {e:Ent},es[j]? = some e→lv e.g []=true→eI e.ex:=fun {j e} he hs=>by
  refine (hch j e he).2 fun p hp=>?_
  have:=uw hs p hp
  simp at this
 have hmay : ∀ m,m<ops.length→lz (fH draw ops) m ops.length=true:=by
  intro m hm
  have h1:Nat.beq m ops.length=false:=by
   cases hbb:Nat.beq m ops.length
   ·rfl
   ·have:=Nat.eq_of_beq_eq_true hbb; omega
  have h2:bM ops.length ((fH draw ops).getD m [])=false:=by
   simp only [ra,Bool.and_eq_true] at hb
   have hc:=hb.1.1.1.2
   cases hmm:bM ops.length ((fH draw ops).getD m [])
   ·rfl
   ·exfalso
    rw [List.getD_eq_getElem?_getD] at hmm
    cases hcm:(fH draw ops)[m]? with
    | none=>rw [hcm] at hmm; simp [bM] at hmm
    | some cl=>
     rw [hcm] at hmm
     have h3:=List.all_eq_true.1 (List.all_eq_true.1 hc cl (List.mem_of_getElem? hcm)) _ (mem_iff.1 hmm)
     have:ops.length+1≤ops.length:=Nat.le_of_ble_eq_true h3
     omega
  simp only [lz,h1,h2,Bool.not_false,Bool.and_self]
 have nohit : ∀ (f:AF) (clj:List Nat) (j:Nat),nX (fH draw ops) ops.length clj j f es 0=false→∀ m e',es[m]? = some e' → m≠j→bM m clj=false→gI e'.u.κ f=false:=by
  intro f clj j hh m e' hm hj hc
  have hml:m<ops.length:=by have:=(List.getElem?_eq_some_iff.1 hm).1; omega
  exact sW hh hm (by rw [Nat.zero_add]; exact hmay m hml) (by rwa [Nat.zero_add]) (by rwa [Nat.zero_add])
 refine ⟨η,c,ρ,ha,?_,?_,hL⟩
 ·intro t v hl'
  simp only [NF,List.append_assoc] at hl'
  rcases mO hl' with h | h
  ·obtain ⟨j,e,h1,h2,rfl,_,h5⟩:=yv (nj h)
   exact (hV j e h1 (hl j (by have:=(List.getElem?_eq_some_iff.1 h1).1; omega)) t h2).1 (hx0 h1 h5)
  ·have h2:bL (lI (lV ops) (S.E++KE)) t=some v:=by
    rw [qU,H3 hk]; exact h
   have h3:=y8 h2
   refine hE t v h3.1 fun m o hm _ hd=>?_
   rw [mem_iff.2 (Ax hm hd)] at h3
   cases h3.2
 ·intro A hA
  obtain ⟨f,hf,rfl⟩:=List.mem_map.1 hA
  simp only [NF,List.append_assoc] at hf
  rcases List.mem_append.1 hf with h | h
  ·obtain ⟨j,e,h1,h2,_,h5,h6⟩:=xW h
   rw [Nat.zero_add] at h6
   exact hR j e h1 (hl j (by have:=(List.getElem?_eq_some_iff.1 h1).1; omega)) (hx0 h1 h5) f h2 fun m e' hm _ _ hj hc=>nohit f _ j h6 m e' hm hj hc
  ·rcases List.mem_append.1 h with h | h
   ·simp only [List.mem_filter,Bool.not_eq_true'] at h
    exact hB f (List.mem_append_left _ h.1) fun m e' hm _ _=>nohit f [] ops.length h.2 m e' hm (by have:=(List.getElem?_eq_some_iff.1 hm).1; omega) rfl
   ·simp only [bj,List.mem_filter,Bool.not_eq_true',tj,Bool.or_eq_false_iff] at h
    refine hB f (List.mem_append_right _ (List.mem_filter.2 ⟨h.1,by rw [h.2.2]; rfl⟩)) fun m e' hm _ _=>?_
    cases hh:gI e'.u.κ f
    ·rfl
    ·exfalso
     obtain ⟨k,hk1,hk2⟩:=List.any_eq_true.1 hh
     have:gI (abe KF es) f=true:=List.any_eq_true.2 ⟨k,List.mem_filter.2 ⟨List.mem_flatMap.2 ⟨e',List.mem_of_getElem? hm,hk1⟩,List.any_eq_true.2 ⟨f,h.1,by simp [gI,hk2]⟩⟩,hk2⟩
     rw [this] at h
     cases h.2.1
theorem Qw {R:Type} (hC:C.ok P) (hm:P.follows .mixedOrders=true) {draw:Bool} {ops:List Oper} {S:SS} {K:SS→Option R} {r:R} (h:Af C nt draw ops KE KF S K=some r) :
  ∃ S',K S' = some r∧∀ {L0:List HA} {β:Vn},L0ok L0→∀ (id:Nat) (Q:Exit→Act→World→Prop) (a:Act) (w:World),g9 C.B nt L0 β KE KF S a w→(∀ a w,g9 C.B nt L0 β KE KF S' a w→Q .normal a w)→(Code.region id ops.toArray draw).wp P Q a w:=by
 unfold Af at h
 cases h64:Nat.ble C.B S.nn
 ·rw [h64] at h; cases h
 rw [h64] at h
 simp only [cond_true] at h
 have h64:=Nat.le_of_ble_eq_true h64
 obtain ⟨es,h1,hlen,hall⟩:=O6 hC h (by simp) rfl (fun j o e _ he=>by simp at he)
 rw [Nat.zero_add] at hlen
 cases hb:(ra C S.nn S.nc nt draw (fH draw ops) ops (S.E++KE) (S.F++bj S.d KF) es&&DV KE ops)
 ·rw [hb] at h1; cases h1
 ·rw [hb] at h1
  simp only [Bool.and_eq_true] at hb
  refine ⟨_,h1,fun {L0 β} hL0 id Q a w hI hQ=>?_⟩
  have hinit : ∀ w',(∀ A:HA,∀ c,A.holds w c→A.holds w' c)→RJ C.B nt (fH draw ops) ops (S.E++KE) (S.F++bj S.d KF) es L0 β (fun _=>false) a w' := by
   intro w' hw
   obtain ⟨η,c,ρ,ha,hE,hF,hL⟩:=hI
   exact ⟨η,c,ρ,ha,fun t v hl _=>hE t v hl,fun _ _ _ hh=>by simp at hh,fun f hf _=>hw _ c (hF _ (List.mem_map.2 ⟨f,hf,rfl⟩)),⟨fun A hA=>hw _ c (hL.1 A hA),hL.2⟩,fun _ _ _ hh=>by simp at hh⟩
  cases draw with
  | false=>
   refine wp_region ?_
   rw [show (ops.toArray).size=ops.length by simp,List.range_eq_range']
   have gen : ∀ (m k:Nat) (a:Act) (w:World),k+m=ops.length→RJ C.B nt (fH false ops) ops (S.E++KE) (S.F++bj S.d KF) es L0 β (fun j=>Nat.blt j k) a w→wpOps P ops.toArray Q (List.range' k m) a w:=by
    intro m
    induction m with
    | zero=>
     intro k a w hk hJ
     exact hQ a w (I3 rfl hb.1 hb.2 hlen hall (fun i hi=>Nat.ble_eq_true_of_le (by omega)) hJ)
    | succ m ih=>
     intro k a w hk hJ
     rw [List.range'_succ,wpOps_cons]
     have hkl:k<ops.length:=by omega
     have hcl:(fH false ops).getD k []=List.range k:=by
      simp only [fH,cond_false]
      rw [List.getD_eq_getElem?_getD]
      simp [hkl]
     have hstep:=EC (Q:=Q) h64 hb.1 hlen hall hL0 (o:=ops[k]) (List.getElem?_eq_getElem hkl) (listed:=fun j=>Nat.blt j k) (by
      show Nat.blt k k=false
      cases hbb:Nat.blt k k
      ·rfl
      ·have:k+1≤k:=Nat.le_of_ble_eq_true hbb; omega) (fun j hj=>by
       rw [hcl] at hj
       have:=mem_iff.1 hj
       exact Nat.ble_eq_true_of_le (List.mem_range.1 this)) (fun q hq hlq=>by
       have hqk:q+1≤k:=Nat.le_of_ble_eq_true hlq
       have hclq:(fH false ops).getD q []=List.range q:=by
        simp only [fH,cond_false]
        rw [List.getD_eq_getElem?_getD]
        simp [hq]
       rw [hclq]
       cases hbb:bM k (List.range q)
       ·rfl
       ·have:=List.mem_range.1 (mem_iff.1 hbb); omega) hJ
     refine wpOp_mono (fun a' w' hJ' => ih (k+1) a' w' (by omega) ?_) hstep
     have:ng (fun j=>Nat.blt j k) k=fun j=>Nat.blt j (k+1):=by
      funext j
      by_cases hj:j=k
      ·subst hj
       simp [ng,Nat.blt]
      ·rw [Bd hj]
       cases hb1:Nat.blt j k <;> cases hb2:Nat.blt j (k+1) <;> first | rfl | skip
       ·have:j+1≤k+1:=Nat.le_of_ble_eq_true hb2
        have:Nat.blt j k=true:=Nat.ble_eq_true_of_le (by omega)
        rw [hb1] at this; cases this
       ·have:j+1≤k:=Nat.le_of_ble_eq_true hb1
        have:Nat.blt j (k+1)=true:=Nat.ble_eq_true_of_le (by omega)
        rw [hb2] at this; cases this
     rw [this] at hJ'; exact hJ'
   refine gen ops.length 0 a w (by omega) ?_
   have:=hinit w (fun _ _ h=>h)
   have e:(fun _:Nat=>false)=fun j=>Nat.blt j 0:=by funext j; rfl
   rw [e] at this; exact this
  | true=>
   have hcl:AS ops (fH true ops)=true:=by
    have:=hb.1
    simp only [ra,Bool.and_eq_true,Bool.not_true,Bool.false_or] at this
    exact this.1.1.1.1
   refine wp_region_any hm ?_
   have hw' : ∀ A:HA,∀ c,A.holds w c→A.holds { w with drawn:=w.drawn+1 } c:=fun A c h=>HA.stp (Ux (w:=w) (c:=c)) A (by simp) h
   refine Py hcl (p:=ops.length) ?_ (Nat.le_refl _) (fun listed a w=>RJ C.B nt (fH true ops) ops (S.E++KE) (S.F++bj S.d KF) es L0 β (fun j=>listed.getD j false) a w) ?_ ?_ _ _ _ _ (by simp) (fun i o _ hi=>by rw [vw] at hi; cases hi) (by simpa using Qq _ _) (.inl ⟨?_,fun i _=>vw _ i⟩)
   ·refine List.all_eq_true.2 fun i hi=>?_
    have:Nat.blt i ops.length=true:=Nat.ble_eq_true_of_le (List.mem_range.1 hi)
    simp [this]
   ·intro listed a' w' hJ hall' _
    rw [List.drop_length]
    exact wpList_nil (hQ a' w' (I3 rfl hb.1 hb.2 hlen hall hall' hJ))
   ·intro listed a' w' i o hJ hd hsz hip ho hf hp
    have hcls : ∀ (i:Nat) (o:Oper),ops[i]? = some o→(∀ j∈pn o,listed.getD j false=true)→∀ j,bM j ((fH true ops).getD i [])=true→listed.getD j false=true:=by
     intro i o ho hp j hj
     obtain ⟨c,hc⟩:=Zz hcl (List.getElem?_eq_some_iff.1 ho).1
     rw [List.getD_eq_getElem?_getD,hc] at hj
     exact sO hcl hd i o c ho hc hp j (mem_iff.1 hj)
    have hstep:=EC (Q:=Q) h64 hb.1 hlen hall hL0 ho (listed:=fun j=>listed.getD j false) hf (hcls i o ho hp) (fun q hq hlq=>by
     cases hbb:bM i ((fH true ops).getD q [])
     ·rfl
     ·have:=hcls q ops[q] (List.getElem?_eq_getElem hq) (hd q ops[q] (List.getElem?_eq_getElem hq) hlq) i hbb
      rw [hf] at this; cases this) hJ
    refine wpOp_mono (fun a'' w'' hJ' => ?_) hstep
    have:ng (fun j=>listed.getD j false) i=fun j=>(listed.setIfInBounds i true).getD j false:=by
     funext j
     rw [wJ (by omega)]; rfl
    rw [this] at hJ'; exact hJ'
   ·have:=hinit { w with drawn:=w.drawn+1 } hw'
    have e:(fun _:Nat=>false)=fun j=>(Array.replicate ops.toArray.size false).getD j false:=by funext j; rw [vw]
    rw [e] at this; exact this
end
end
end Go.Sm
namespace Go.Sm
set_option linter.unusedSectionVars false
section
variable [X:XTab] [G:GTab]
inductive Sp
 | sc (s:SC)
 | ar (n:Nat) (s:SC)
 | xt (n:Nat)
 | own (t:TC) (e:TypeId) (one:Bool) (src:List Nat)
 | rep (t:TC) (one:Bool) (src:List Nat)
 | ownk (t:TC) (e:TypeId) (h:Nat)
 | mp (k v:TC)
 | pt (t:TC) (e:TypeId) (one:Bool) (src:List Nat)
 | al (d:Nat)
abbrev Sp.den:Sp→Type
 | .sc s=>s.den
 | .ar _ s=>List s.den
 | .xt n=>X.den n
 | .own t _ _ _=>List t.den
 | .rep t _ _=>List t.den
 | .ownk t _ _=>List t.den
 | .mp k v=>List (k.den×v.den)
 | .pt t _ _ _=>List t.den×Int
 | .al _=>Unit
abbrev tR:List Sp→Type
 | []=>Unit
 | [a]=>a.den
 | a::b::r=>a.den×tR (b::r)
inductive ShV
 | lf (l:Sp)
 | ag (ls:List Sp)
def ShV.ls:ShV→List Sp
 | .lf l=>[l]
 | .ag ls=>ls
structure Shp where
 keep:List Nat
 vs:List (Nat×ShV)
 bx:List (Nat×List Sp)
 dead:List Nat
def Shp.ls (sh:Shp):List Sp:=sh.vs.flatMap (fun p=>p.2.ls)++sh.bx.flatMap (fun p=>p.2)
def py (E:SE):List (Nat×ShV)→Option (List Lf)
 | []=>some []
 | (t, .lf _)::r=>match bL E t,py E r with
  | some (.lf l),some ls=>some (l::ls)
  | _,_=>none
 | (t, .ag ps)::r=>match bL E t,py E r with
  | some (.ag l),some ls=>bif Nat.beq l.length ps.length then some (l++ls) else none
  | _,_=>none
def zg (E:SE) (F:List AF):List (Nat×List Sp)→Option (List Lf)
 | []=>some []
 | (t,ps)::r=>match bL E t with
  | some (.lf (.bp b 0))=>match ja b F,zg E F r with
   | some (_,cs),some ls=>bif Nat.beq cs.length ps.length then some (cs++ls) else none
   | _,_=>none
  | some (.lf (.sl h))=>match lA h F,zg E F r with
   | some (h0,_,_,_),some ls=>bif Nat.beq 1 ps.length then some (.sl h0::ls) else none
   | _,_=>none
  | _=>none
def Sp.abs (F:List AF):(p:Sp)→Lf→Option p.den
 | .sc s, .c s' x=>if h:s' = s then some (zE h x) else none
 | .ar n s, .ar n' s' x=>if h:s' = s∧n' = n then some (wz h.1 x) else none
 | .xt n, .xt m x=>if h:m=n then some (Yq h x) else none
 | .own t e _ _,l=>match eN t e 0 F l with | some (_,_,xs)=>some xs | none=>none
 | .rep t _ _,l=>match gb t F l with | some s=>some s.xs | none=>none
 | .ownk t e h, .sl h' => bif Nat.beq h h' && Nat.blt h 64 then (match eN t e 0 F (.sl h') with | some (_,_,xs)=>some xs | none=>none) else none
 | .mp k v, .mp h=>match rd k v h F with | some s=>some s.xs | none=>none
 | .pt t e _ _, .sl h=>match vY t h F with | some s=>bif Nat.beq e s.e then some (s.xs,s.m) else none | none=>none
 | .al _, .sl _=>some ()
 | _,_=>none
def kh (F:List AF):(ps:List Sp)→List Lf→Option (tR ps)
 | [],[]=>some ()
 | [p],[l]=>p.abs F l
 | p::q::r,l::ls=>match p.abs F l,kh F (q::r) ls with
  | some x,some y=>some (x,y)
  | _,_=>none
 | _,_=>none
def Sp.leaf (p:Sp) (x:p.den) (nm:Nat):Lf:=match p,x with
 | .sc s,x=>.c s x
 | .ar n s,x=>.ar n s x
 | .xt n,x=>.xt n x
 | .own _ _ _ _,_=>.sl nm
 | .rep _ _ _,_=>.sl nm
 | .ownk _ _ h,_=>.sl h
 | .mp _ _,_=>.mp nm
 | .pt _ _ _ _,_=>.sl nm
 | .al d,_=>.sl (nm+d)
def nL:(ps:List Sp)→tR ps→Nat→List Lf
 | [],_,_=>[]
 | [p],x,nm=>[p.leaf x nm]
 | p::q::r,x,nm=>p.leaf x.1 nm::nL (q::r) x.2 (nm+1)
def rS (KK:Nat→List Nat) (one:Bool) (src:List Nat) (_cb:Nat):List Nat:=(bif one then [1] else [])++src.flatMap KK++KK 4000000
def Sp.fact (KK:Nat→List Nat) (p:Sp) (x:p.den) (nm cb:Nat):List AF:=match p,x with
 | .own t e one src,xs=>[.own t e cb (bif t.ty.pureB||ep e then [] else rS KK one src cb) xs nm]
 | .rep t one src,xs=>[.rep t (rS KK one src cb) xs nm]
 | .ownk t e h,xs=>[.own t e cb [] xs h]
 | .mp k v,xs=>[.mp k v cb xs nm]
 | .pt t e one src,x=>[.pt t e cb (rS KK one src cb) x.1 nm x.2, .rep t (cb::rS KK one src cb) x.1 nm]
 | _,_=>[]
def zx (KK:Nat→List Nat):(ps:List Sp)→tR ps→Nat→Nat→List AF
 | [],_,_,_=>[]
 | [p],x,nm,cb=>p.fact KK x nm cb
 | p::q::r,x,nm,cb=>p.fact KK x.1 nm cb++zx KK (q::r) x.2 (nm+1) (cb+2)
def qR:List (Nat×ShV)→List Lf→SE
 | [],_=>[]
 | (t, .lf _)::r,l::ls=>(t, .lf l)::qR r ls
 | (t, .ag ps)::r,ls=>(t, .ag (ls.take ps.length))::qR r (ls.drop ps.length)
 | _,[]=>[]
def tX (E:SE):List (Nat×List Sp)→List Lf→Nat→List AF
 | [],_,_=>[]
 | (t,ps)::r,ls,cb=>match bL E t with
  | some (.lf (.bp b 0))=>.box cb b (ls.take ps.length)::tX E r (ls.drop ps.length) (cb+1)
  | some (.lf (.sl _))=>tX E r (ls.drop ps.length) (cb+1)
  | _=>[]
def zC (F:List AF) (l:Lf):List Nat:=match l with
 | .sl h=>F.flatMap fun f=>match f with
  | .own _ _ i K _ h' => bif Nat.beq h h' then i::K else []
  | .rep _ K _ h' => bif Nat.beq h h' then K else []
  | .box _ _ _=>[]
  | .isn _ _=>[]
  | .prt _ _ _ _ _=>[]
  | .hol _ _ i _ h' _ _=>bif Nat.beq h h' then [i] else []
  | .mp _ _ _ _ _=>[]
  | .pt _ _ i K _ h' _=>bif Nat.beq h h' then i::K else []
 | .mp h=>F.flatMap fun f=>match f with
  | .mp _ _ i _ h' => bif Nat.beq h h' then [i] else []
  | _=>[]
 | .bp b _=>F.flatMap fun f=>match f with
  | .box i b' _=>bif Nat.beq b b' then [i] else []
  | _=>[]
 | _=>[]
def ade (F:List AF):AV→List Nat
 | .lf l=>zC F l
 | .ag ls=>ls.flatMap (zC F)
 | .tu _=>[]
def TS (E:SE) (F:List AF) (t:Nat):List Nat:=match bL E t with
 | some v=>ade F v
 | none=>[]
def aa6 (E:SE) (F:List AF) (t:Nat):List Nat:=match bL E t with
 | some (.lf (.bp b _))=>F.flatMap fun f=>match f with
  | .box _ b' cs=>bif Nat.beq b b' then cs.flatMap (zC F) else []
  | _=>[]
 | _=>[]
def US (E:SE) (F:List AF) (cc t:Nat):List Nat:=bif Nat.beq t 4000000 then [cc] else bif Nat.ble 1000000 t then aa6 E F (t - 1000000) else TS E F t
def pA (sh:Shp) (KE:SE) (KF:List AF) (nb cb:Nat) (d:tR sh.ls):SS:=
 let ls:=nL sh.ls d nb
 ⟨qR sh.vs ls,zx (US KE KF (cb+255)) sh.ls d nb cb++tX KE sh.bx (ls.drop (sh.vs.flatMap (fun p=>p.2.ls)).length) (cb+2 * sh.ls.length),nb+64,cb+256,[]⟩
def nQ (F:List AF):List Sp→List Lf→Nat→List (Nat×Nat)
 | .own t e _ _::ps,l::ls,cb=>match eN t e 0 F l with
  | some (i,_,_)=>(i,cb)::nQ F ps ls (cb+2)
  | none=>nQ F ps ls (cb+2)
 | .ownk t e _::ps,l::ls,cb=>match eN t e 0 F l with
  | some (i,_,_)=>(i,cb)::nQ F ps ls (cb+2)
  | none=>nQ F ps ls (cb+2)
 | .mp k v::ps, .mp h::ls,cb=>match rd k v h F with
  | some s=>(s.i,cb)::nQ F ps ls (cb+2)
  | none=>nQ F ps ls (cb+2)
 | .pt t _ _ _::ps, .sl h::ls,cb=>match vY t h F with
  | some s=>(s.i,cb)::nQ F ps ls (cb+2)
  | none=>nQ F ps ls (cb+2)
 | _::ps,_::ls,cb=>nQ F ps ls (cb+2)
 | _,_,_=>[]
def Et (E:SE) (F:List AF):List (Nat×List Sp)→Nat→List (Nat×Nat)
 | [],_=>[]
 | (t,_)::r,cb=>match bL E t with
  | some (.lf (.bp b 0))=>match ja b F with
   | some (i,_)=>(i,cb)::Et E F r (cb+1)
   | none=>[]
  | some (.lf (.sl _))=>Et E F r (cb+1)
  | _=>[]
def wK (F:List AF) (cc:Nat):List Sp→List Lf→List (Nat×Nat)
 | .own t e _ _::ps,l::ls=>(match eN t e 0 F l with
  | some (_,K,_)=>K.map fun k=>(k,cc)
  | none=>[])++wK F cc ps ls
 | .rep t _ _::ps,l::ls=>(match gb t F l with
  | some s=>s.all.map fun k=>(k,cc)
  | none=>[])++wK F cc ps ls
 | .pt t _ _ _::ps, .sl h::ls=>(match vY t h F with
  | some s=>s.K.map fun k=>(k,cc)
  | none=>[])++wK F cc ps ls
 | _::ps,_::ls=>wK F cc ps ls
 | _,_=>[]
def sub (a b:List Nat):Bool:=a.all fun k=>b.any fun j=>Nat.beq k j
def xV (KK:Nat→List Nat) (g:Nat→Nat) (F:List AF) (cb:Nat):Sp→Lf→Bool
 | .own t e one src, .sl h=>match eN t e 0 F (.sl h) with
  | some (i,K,_)=>Nat.beq (g i) cb&&(t.ty.pureB||ep e||sub (K.map g) (rS KK one src cb))
  | none=>false
 | .rep t one src, .sl h=>match gb t F (.sl h) with
  | some s=>sub (s.all.map g) (rS KK one src cb)
  | none=>false
 | .ownk t e _, .sl h=>match eN t e 0 F (.sl h) with
  | some (i,_,_)=>Nat.beq (g i) cb&&(t.ty.pureB||ep e)
  | none=>false
 | .mp k v, .mp h=>match rd k v h F with
  | some s=>Nat.beq (g s.i) cb
  | none=>false
 | .pt t _ one src, .sl h=>match vY t h F with
  | some s=>Nat.beq (g s.i) cb&&sub (s.K.map g) (rS KK one src cb)
  | none=>false
 | _,_=>true
def AP (KK:Nat→List Nat) (g:Nat→Nat) (F:List AF):Nat→List Sp→List Lf→Bool
 | cb,p::ps,l::ls=>xV KK g F cb p l&&AP KK g F (cb+2) ps ls
 | _,_,_=>true
def ye (g:Nat→Nat) (E:SE) (F:List AF):List (Nat×List Sp)→Nat→Bool
 | [],_=>true
 | (t,_)::r,cb=>match bL E t with
  | some (.lf (.bp b 0))=>match ja b F with
   | some (i,_)=>Nat.beq (g i) cb&&ye g E F r (cb+1)
   | none=>false
  | some (.lf (.sl _))=>ye g E F r (cb+1)
  | _=>false
def alB (p:Sp) (l:Lf) (ls:List Lf):Bool:=match p,l with
 | .al d, .sl h=>(match (l::ls)[d]? with | some (.sl h')=>Nat.beq h h' | _=>false)
 | _,_=>true
def Jq:List Sp→List Lf→Bool
 | p::ps,l::ls=>alB p l ls&&Jq ps ls
 | _,_=>true
def wR (B:Nat) (sh:Shp) (KE:SE) (KF:List AF) (nb cb:Nat) (S:SS):Option (tR sh.ls):=match py S.E sh.vs,zg KE (S.F++KF) sh.bx with
 | some l1,some l2=>match kh (S.F++KF) sh.ls (l1++l2) with
  | some d=>
   let kc:=KF.flatMap AF.uses
   let cm:=kc.map (fun k=>(k,k))++nQ (S.F++KF) sh.ls (l1++l2) cb++Et KE (S.F++KF) sh.bx (cb+2 * sh.ls.length)++wK (S.F++KF) (cb+255) sh.ls (l1++l2)
   let cm:=cm.filter fun p=>Nat.ble 2 p.1&&Nat.ble 2 p.2
   let g:=nM cm 2
   bif KF.all (fun f=>!(gI S.d f))&&kc.all (fun k=>Nat.beq (g k) k)&&AP (US KE KF (cb+255)) g (S.F++KF) cb sh.ls (l1++l2)&&ye g KE (S.F++KF) sh.bx (cb+2 * sh.ls.length)&&KE.all (fun p=>p.2.free nb)&&KF.all (AF.free nb)&&Nat.ble sh.ls.length 64&&KE.all (fun p=>(bL S.E p.1).isNone)&&Nat.ble 64 nb&&Nat.ble B nb&&Jq sh.ls (l1++l2) then some d else none
  | none=>none
 | _,_=>none
theorem BQ {F:List AF} {η η' : Vn} {p:Sp} {l:Lf} {x:p.den} {nm:Nat} (hlow : ∀ m,m<64→η'.h m=η.h m) (h:p.abs F l=some x) (hn:η'.h nm=l.hd η) (hal : ∀ d,p = .al d→η'.h (nm+d)=l.hd η):(p.leaf x nm).cells η' = l.cells η∧(p.leaf x nm).val η' = l.val η:=by
 cases p with
 | sc s=>
  cases l <;> simp only [Sp.abs] at h <;> try cases h
  split at h
  ·rename_i he; subst he
   simp only [Option.some.injEq] at h; subst h
   exact ⟨rfl,rfl⟩
  ·cases h
 | ar n s=>
  cases l <;> simp only [Sp.abs] at h <;> try cases h
  split at h
  ·rename_i he; obtain ⟨rfl,rfl⟩:=he
   simp only [Option.some.injEq] at h; subst h
   exact ⟨rfl,rfl⟩
  ·cases h
 | xt n=>
  cases l <;> simp only [Sp.abs] at h <;> try cases h
  split at h
  ·rename_i he; subst he
   simp only [Option.some.injEq] at h; subst h
   exact ⟨rfl,rfl⟩
  ·cases h
 | own t e one src=>
  simp only [Sp.abs] at h
  split at h
  ·rename_i i K xs ho
   refine ⟨?_,?_⟩
   ·simp only [Sp.leaf,Lf.cells,hn]
    cases l <;> simp [eN] at ho <;> rfl
   ·simp only [Sp.leaf,Lf.val,hn]
    exact (lS ho η).symm
  ·cases h
 | rep t one src=>
  simp only [Sp.abs] at h
  split at h
  ·rename_i s hs
   refine ⟨?_,?_⟩
   ·simp only [Sp.leaf,Lf.cells,hn]
    exact (ln hs η).2.symm
   ·simp only [Sp.leaf,Lf.val,hn]
    exact (ln hs η).1.symm
  ·cases h
 | ownk t e h0=>
  cases l with
  | sl h' =>
   simp only [Sp.abs] at h
   cases hb:(Nat.beq h0 h' && Nat.blt h0 64)
   ·rw [hb] at h; cases h
   ·simp only [Bool.and_eq_true] at hb
    have h1:=Nat.eq_of_beq_eq_true hb.1
    have h2:h0+1≤64:=Nat.le_of_ble_eq_true hb.2
    subst h1
    simp only [Sp.leaf,Lf.cells,Lf.val,hlow h0 (by omega),and_self]
  | _=>cases h
 | mp k v=>
  cases l with
  | mp h' => exact ⟨by simp only [Sp.leaf,Lf.cells,hn]; rfl,by simp only [Sp.leaf,Lf.val,hn]; rfl⟩
  | _=>cases h
 | pt t e one src=>
  cases l with
  | sl h' => exact ⟨by simp only [Sp.leaf,Lf.cells,hn]; rfl,by simp only [Sp.leaf,Lf.val,hn]; rfl⟩
  | _=>cases h
 | al d=>
  cases l with
  | sl h' => exact ⟨by simp only [Sp.leaf,Lf.cells,hal d rfl]; rfl,by simp only [Sp.leaf,Lf.val,hal d rfl]; rfl⟩
  | _=>cases h
theorem PK {F:List AF} {η η' : Vn} {p:Sp} {l:Lf} {ls:List Lf} {x:p.den} {nm:Nat} (h:p.abs F l=some x) (ha:alB p l ls=true) (hn : ∀ (j:Nat) (l' : Lf),(l::ls)[j]? = some l' → η'.h (nm+j)=l'.hd η) (d:Nat) (hp:p = .al d):η'.h (nm+d)=l.hd η:=by
 subst hp
 cases l with
 | sl h' =>
  simp only [alB] at ha
  split at ha
  ·rename_i h2 hh
   rw [hn d _ hh,Nat.eq_of_beq_eq_true ha]
  ·cases ha
 | _=>cases h
theorem zG {F:List AF} {η η' : Vn} (hlow : ∀ m,m<64→η'.h m=η.h m) : ∀ {ps:List Sp} {ls:List Lf} {d:tR ps} {nm:Nat},kh F ps ls=some d→Jq ps ls=true→(∀ (j:Nat) (l:Lf),ls[j]? = some l→η'.h (nm+j)=l.hd η) →
  (nL ps d nm).length=ls.length∧∀ (j:Nat) (l l' : Lf),ls[j]? = some l→(nL ps d nm)[j]? = some l' → l'.cells η' = l.cells η∧l'.val η' = l.val η
 | [],[],d,nm,h,_,hn=>⟨rfl,fun j l l' h=>by simp at h⟩
 | [p],[l],d,nm,h,ha,hn=>⟨rfl,fun j l1 l' h1 h2=>by
  cases j with
  | zero=>
   simp only [nL,List.getElem?_cons_zero,Option.some.injEq] at h1 h2
   subst h1 h2
   simp only [Jq,Bool.and_eq_true] at ha
   exact BQ hlow h (hn 0 _ rfl) (PK h ha.1 hn)
  | succ j=>simp at h1⟩
 | p::q::r,l::ls,d,nm,h,ha,hn=>by
  rw [Jq,Bool.and_eq_true] at ha
  simp only [kh] at h
  split at h
  ·rename_i x y hx hy
   simp only [Option.some.injEq] at h
   subst h
   obtain ⟨i1,i2⟩:=zG (η:=η) (η' := η') hlow (nm:=nm+1) hy ha.2 fun j l' hj=>by
    have:=hn (j+1) l' (by simpa using hj)
    rwa [show nm+1+j=nm+(j+1) by omega]
   refine ⟨by simp only [nL,List.length_cons,i1],fun j l1 l' h1 h2=>?_⟩
   cases j with
   | zero=>
    simp only [nL,List.getElem?_cons_zero,Option.some.injEq] at h1 h2
    subst h1 h2
    exact BQ hlow hx (hn 0 _ rfl) (PK hx ha.1 hn)
   | succ j=>
    simp only [nL,List.getElem?_cons_succ] at h1 h2
    exact i2 j l1 l' h1 h2
  ·cases h
 | [],_::_,_,_,h,_,_=>by simp [kh] at h
 | [_],[],_,_,h,_,_=>by simp [kh] at h
 | [_],_::_::_,_,_,h,_,_=>by simp [kh] at h
 | _::_::_,[],_,_,h,_,_=>by simp [kh] at h
theorem uY {η η' : Vn} : ∀ {as bs:List Lf},as.length=bs.length→(∀ (j:Nat) (l l' : Lf),bs[j]? = some l→as[j]? = some l' → l'.cells η' = l.cells η)→aq η' as=aq η bs
 | [],[],_,_=>rfl
 | a::as,b::bs,hl,h=>by
  simp only [aq]
  rw [h 0 b a rfl rfl,uY (by simpa using hl) fun j l l' h1 h2=>h (j+1) l l' (by simpa using h1) (by simpa using h2)]
 | [],_::_,hl,_=>by simp at hl
 | _::_,[],hl,_=>by simp at hl
theorem ym {E:SE} {η η' : Vn} : ∀ {vs:List (Nat×ShV)} {ls as rest:List Lf},py E vs=some ls→as.length=(ls++rest).length→(∀ (j:Nat) (l l' : Lf),(ls++rest)[j]? = some l→as[j]? = some l' → l'.cells η' = l.cells η∧l'.val η' = l.val η) →
  ∀ t v,bL (qR vs as) t=some v→∃ v0,bL E t=some v0∧v.val η' = v0.val η
 | [],ls,as,rest,_,_,_,t,v,h=>by simp [qR,bL] at h
 | (t0, .lf p)::r,ls,as,rest,hg,hl,hc,t,v,h=>by
  simp only [py] at hg
  split at hg
  ·rename_i l ls' h1 h2
   simp only [Option.some.injEq] at hg
   subst hg
   cases as with
   | nil=>simp at hl
   | cons a as=>
    simp only [qR,bL] at h
    cases hb:Nat.beq t t0
    ·rw [hb] at h
     exact ym h2 (by simpa using hl) (fun j l l' k1 k2=>hc (j+1) l l' (by simpa using k1) (by simpa using k2)) t v h
    ·rw [hb] at h
     simp only [cond_true,Option.some.injEq] at h
     subst h
     obtain rfl:=Nat.eq_of_beq_eq_true hb
     exact ⟨_,h1,(hc 0 l a rfl rfl).2⟩
  ·cases hg
 | (t0, .ag ps)::r,ls,as,rest,hg,hl,hc,t,v,h=>by
  simp only [py] at hg
  split at hg
  ·rename_i l ls' h1 h2
   cases hb0:Nat.beq l.length ps.length
   ·rw [hb0] at hg; cases hg
   ·rw [hb0] at hg
    simp only [cond_true,Option.some.injEq] at hg
    subst hg
    have hlen:=Nat.eq_of_beq_eq_true hb0
    simp only [List.length_append] at hl
    simp only [qR,bL] at h
    cases hb:Nat.beq t t0
    ·rw [hb] at h
     refine ym (rest:=rest) h2 (by simp; omega) (fun j l1 l' k1 k2=>?_) t v h
     rw [List.getElem?_drop] at k2
     exact hc (ps.length+j) l1 l' (by rw [List.append_assoc,List.getElem?_append_right (by omega)]; rw [show ps.length+j - l.length=j by omega]; exact k1) k2
    ·rw [hb] at h
     simp only [cond_true,Option.some.injEq] at h
     subst h
     obtain rfl:=Nat.eq_of_beq_eq_true hb
     refine ⟨_,h1,?_⟩
     simp only [AV.val]
     rw [uY (bs:=l) (by simp; omega) fun j l1 l' k1 k2=>?_]
     have hj:=(List.getElem?_eq_some_iff.1 k1).1
     rw [List.getElem?_take] at k2
     split at k2
     ·exact (hc j l1 l' (by rw [List.append_assoc,List.getElem?_append_left hj]; exact k1) k2).1
     ·cases k2
  ·cases hg
end
end Go.Sm
namespace Go.Sm
set_option linter.unusedSectionVars false
section
variable [X:XTab] [G:GTab]
theorem As {a b:List Nat} (h:sub a b=true) : ∀ k∈a,k∈b:=fun _ hk=>adp h hk
theorem y4 {g:Nat→Nat} (hg:Gd g) {w:World} {c:bd} {t:TC} {e:TypeId} {i cb:Nat} {K K' : List Nat} {xs:List t.den} {v:Hd} (h:HA.holds w c (dx t.ty e i K xs v)) (hi:g i=cb) (hK:(t.ty.pureB=true∨ep e=true)∨sub (K.map g) K' = true) :
  HA.holds w (fun b=>g (c b)) (dx t.ty e cb K' xs v):=by
 cases htr:ep e
 rotate_left
 ·rw [gN htr] at h ⊢
  subst hi
  exact HA.ren_holds hg (.tr t.ty e i K xs v) h
 rw [dw htr] at h ⊢
 have h1:=HA.ren_holds hg (.own t.ty e i K xs v) h
 subst hi
 rcases hK with (hK | hK) | hK
 ·exact vy hK _ _ h1
 ·rw [htr] at hK; cases hK
 ·obtain ⟨ys,a1,a2,a3⟩:=h1
  exact ⟨ys,a1.mono (bA.keep (fun _ _ hb=>⟨As hK _ hb,rfl⟩) t.ty),a2,a3⟩
theorem P8 {g:Nat→Nat} (hg:Gd g) {w:World} {c:bd} {t:TC} {K K' : List Nat} {xs:List t.den} {v:Hd} (h:HA.holds w c (.rep t.ty K xs v)) (hK:sub (K.map g) K' = true):HA.holds w (fun b=>g (c b)) (.rep t.ty K' xs v):=
 bA.keep (fun _ _ hb=>⟨As hK _ hb,rfl⟩) (.slice t.ty) xs v (HA.ren_holds hg (.rep t.ty K xs v) h)
theorem Je {KK:Nat→List Nat} {g:Nat→Nat} (hg:Gd g) {F:List AF} {η η' : Vn} {w:World} {c:bd} (hF:ai w c (F.map (AF.ha η))) {p:Sp} {l:Lf} {x:p.den} {nm cb:Nat} (hlow : ∀ m,m<64→η'.h m=η.h m) (ha:p.abs F l=some x) (hc:xV KK g F cb p l=true) (hn:η'.h nm=l.hd η) :
  ai w (fun b=>g (c b)) ((p.fact KK x nm cb).map (AF.ha η')):=by
 cases p with
 | sc s=>exact ai.nil _ _
 | ar n s=>exact ai.nil _ _
 | xt n=>exact ai.nil _ _
 | own t e one src=>
  simp only [Sp.abs] at ha
  split at ha
  ·rename_i i K xs ho
   simp only [Option.some.injEq] at ha
   subst ha
   refine ai.cons ?_ (ai.nil _ _)
   simp only [AF.ha,hn]
   cases l with
   | sl h=>
    simp only [xV,ho,Bool.and_eq_true,Bool.or_eq_true] at hc
    exact y4 hg (eC ho hF) (Nat.eq_of_beq_eq_true hc.1) (by
     cases hp:t.ty.pureB
     ·cases htr:ep e
      ·rw [hp,htr] at hc
       simpa using hc.2
      ·exact .inl (.inr rfl)
     ·exact .inl (.inl rfl))
   | nl=>
    simp only [eN,Option.some.injEq,Prod.mk.injEq] at ho
    obtain ⟨_,_,rfl⟩:=ho
    exact pE _ _
   | _=>simp [eN] at ho
  ·cases ha
 | rep t one src=>
  simp only [Sp.abs] at ha
  split at ha
  ·rename_i s hs
   simp only [Option.some.injEq] at ha
   subst ha
   refine ai.cons ?_ (ai.nil _ _)
   simp only [AF.ha,hn]
   cases l with
   | sl h=>
    simp only [xV,hs] at hc
    exact P8 hg (iN hs hF) hc
   | nl=>
    simp only [gb,Option.some.injEq] at hs
    subst hs
    exact oW _ _
   | _=>simp [gb] at hs
  ·cases ha
 | ownk t e h0=>
  cases l with
  | sl h' =>
   simp only [Sp.abs] at ha
   cases hb:(Nat.beq h0 h' && Nat.blt h0 64)
   ·rw [hb] at ha; cases ha
   ·rw [hb] at ha
    simp only [Bool.and_eq_true] at hb
    have h1:=Nat.eq_of_beq_eq_true hb.1
    have h2:h0+1≤64:=Nat.le_of_ble_eq_true hb.2
    subst h1
    simp only [cond_true] at ha
    split at ha
    ·rename_i i K xs ho
     simp only [Option.some.injEq] at ha
     subst ha
     simp only [xV,ho,Bool.and_eq_true,Bool.or_eq_true] at hc
     refine ai.cons ?_ (ai.nil _ _)
     simp only [AF.ha,hlow h0 (by omega)]
     exact y4 hg (eC ho hF) (Nat.eq_of_beq_eq_true hc.1) (.inl hc.2)
    ·cases ha
  | _=>cases ha
 | mp k v=>
  cases l with
  | mp h' =>
   simp only [Sp.abs] at ha
   split at ha
   ·rename_i s hs
    simp only [Option.some.injEq] at ha
    subst ha
    simp only [xV,hs] at hc
    refine ai.cons ?_ (ai.nil _ _)
    have h3:=HA.ren_holds hg _ (hF _ (List.mem_map.2 ⟨_,gT hs,rfl⟩))
    simp only [AF.ha,HA.ren] at h3 ⊢
    rw [Nat.eq_of_beq_eq_true hc] at h3
    rw [hn]
    exact h3
   ·cases ha
  | _=>cases ha
 | al d=>exact ai.nil _ _
 | pt t e one src=>
  cases l with
  | sl h' =>
   simp only [Sp.abs] at ha
   split at ha
   ·rename_i s hs
    cases he:Nat.beq e s.e
    ·rw [he] at ha; cases ha
    rw [he] at ha
    simp only [cond_true,Option.some.injEq] at ha
    subst ha
    simp only [xV,hs,Bool.and_eq_true] at hc
    have h3:=HA.ren_holds hg _ (hF _ (List.mem_map.2 ⟨_,lq hs,rfl⟩))
    simp only [AF.ha,HA.ren] at h3
    rw [Nat.eq_of_beq_eq_true hc.1,← Nat.eq_of_beq_eq_true he] at h3
    have h4:HA.holds w (fun b=>g (c b)) (.pt t.ty e cb (rS KK one src cb) s.xs (η.h h') s.m):=tE.keep (fun b _ hb=>⟨hb,rfl⟩) (fun b _ hb=>⟨As hc.2 _ hb,rfl⟩) h3
    have hn' : η'.h nm=η.h h' := hn
    refine ai.cons ?_ (ai.cons ?_ (ai.nil _ _))
    ·simp only [AF.ha,hn']; exact h4
    ·simp only [AF.ha,hn']; exact GO h4
   ·cases ha
  | _=>cases ha
theorem Hk {KK:Nat→List Nat} {g:Nat→Nat} (hg:Gd g) {F:List AF} {η η' : Vn} {w:World} {c:bd} (hF:ai w c (F.map (AF.ha η))) (hlow : ∀ m,m<64→η'.h m=η.h m) : ∀ {ps:List Sp} {ls:List Lf} {d:tR ps} {nm cb:Nat},kh F ps ls=some d→AP KK g F cb ps ls=true →
  (∀ (j:Nat) (l:Lf),ls[j]? = some l→η'.h (nm+j)=l.hd η)→ai w (fun b=>g (c b)) ((zx KK ps d nm cb).map (AF.ha η'))
 | [],[],_,_,_,_,_,_=>ai.nil _ _
 | [p],[l],d,nm,cb,ha,hc,hn=>by
  simp only [AP,Bool.and_eq_true] at hc
  exact Je hg hF hlow ha hc.1 (hn 0 l rfl)
 | p::q::r,l::ls,d,nm,cb,ha,hc,hn=>by
  simp only [kh] at ha
  split at ha
  ·rename_i x y hx hy
   simp only [Option.some.injEq] at ha
   subst ha
   rw [AP,Bool.and_eq_true] at hc
   simp only [zx,List.map_append]
   refine (Je hg hF hlow hx hc.1 (hn 0 l rfl)).append (Hk hg hF hlow hy hc.2 fun j l' hj=>?_)
   have:=hn (j+1) l' (by simpa using hj)
   rwa [show nm+1+j=nm+(j+1) by omega]
  ·cases ha
 | [],_::_,_,_,_,h,_,_=>by simp [kh] at h
 | [_],[],_,_,_,h,_,_=>by simp [kh] at h
 | [_],_::_::_,_,_,_,h,_,_=>by simp [kh] at h
 | _::_::_,[],_,_,_,h,_,_=>by simp [kh] at h
theorem xY {g:Nat→Nat} (hg:Gd g) {KE:SE} {F:List AF} {η η' : Vn} {w:World} {c:bd} (hF:ai w c (F.map (AF.ha η))) (hb:η'.b=η.b) : ∀ {bx:List (Nat×List Sp)} {ls as:List Lf} {cb:Nat},zg KE F bx=some ls→ye g KE F bx cb=true→as.length=ls.length →
  (∀ (j:Nat) (l l' : Lf),ls[j]? = some l→as[j]? = some l' → l'.cells η' = l.cells η)→ai w (fun b=>g (c b)) ((tX KE bx as cb).map (AF.ha η'))
 | [],_,_,_,_,_,_,_=>ai.nil _ _
 | (t,ps)::r,ls,as,cb,hgb,hc,hl,hcell=>by
  simp only [zg] at hgb
  split at hgb
  ·rename_i b hlk
   split at hgb
   ·rename_i i cs ls' h1 h2
    cases hb0:Nat.beq cs.length ps.length
    ·rw [hb0] at hgb; cases hgb
    ·rw [hb0] at hgb
     simp only [cond_true,Option.some.injEq] at hgb
     subst hgb
     have hlen:=Nat.eq_of_beq_eq_true hb0
     simp only [ye,hlk,h1,Bool.and_eq_true] at hc
     simp only [List.length_append] at hl
     simp only [tX,hlk,List.map_cons]
     refine ai.cons ?_ (xY hg hF hb h2 hc.2 (by simp; omega) fun j l l' k1 k2=>?_)
     ·have h3:=HA.ren_holds hg _ (hF _ (List.mem_map.2 ⟨_,eP h1,rfl⟩))
      simp only [AF.ha,HA.ren] at h3 ⊢
      rw [Nat.eq_of_beq_eq_true hc.1] at h3
      rw [hb,uY (bs:=cs) (by simp; omega) fun j l l' k1 k2=>?_]
      ·exact h3
      ·have hj:=(List.getElem?_eq_some_iff.1 k1).1
       rw [List.getElem?_take] at k2
       split at k2
       ·exact hcell j l l' (by rw [List.getElem?_append_left hj]; exact k1) k2
       ·cases k2
     ·rw [List.getElem?_drop] at k2
      exact hcell (ps.length+j) l l' (by rw [List.getElem?_append_right (by omega)]; rw [show ps.length+j - cs.length=j by omega]; exact k1) k2
   ·cases hgb
  ·rename_i h hlk
   split at hgb
   ·rename_i h0 _ _ _ ls' h1 h2
    cases hb0:Nat.beq 1 ps.length
    ·rw [hb0] at hgb; cases hgb
    ·rw [hb0] at hgb
     simp only [cond_true,Option.some.injEq] at hgb
     subst hgb
     have hlen:=Nat.eq_of_beq_eq_true hb0
     simp only [ye,hlk] at hc
     simp only [List.length_cons] at hl
     simp only [tX,hlk]
     refine xY hg hF hb h2 hc (by simp; omega) fun j l l' k1 k2=>?_
     rw [List.getElem?_drop] at k2
     exact hcell (ps.length+j) l l' (by rw [show ps.length+j=j+1 by omega,List.getElem?_cons_succ]; exact k1) k2
   ·cases hgb
  ·cases hgb
theorem I8 {g:Nat→Nat}:(A:HA)→(∀ k∈A.uses,g k=k)→True→A.ren g=A
 | .tr t e i K xs v,h,_=>by
  have:K.map g=K:=by
   conv=>rhs; rw [← List.map_id K]
   exact List.map_congr_left fun k hk=>h k (List.mem_cons_of_mem _ hk)
  simp only [HA.ren,this,h i List.mem_cons_self]
 | .hol t e i xs v k cs,h,_=>by simp only [HA.ren,h i (by simp [HA.uses])]
 | .pt t e i K xs v m,h,_=>by
  have:K.map g=K:=by
   conv=>rhs; rw [← List.map_id K]
   exact List.map_congr_left fun k hk=>h k (List.mem_cons_of_mem _ hk)
  simp only [HA.ren,this,h i List.mem_cons_self]
 | .rep t K xs v,h,_=>by
  have:K.map g=K:=by
   conv=>rhs; rw [← List.map_id K]
   exact List.map_congr_left fun k hk=>h k hk
  simp only [HA.ren,this]
 | .own t e i K xs v,h,_=>by
  have:K.map g=K:=by
   conv=>rhs; rw [← List.map_id K]
   exact List.map_congr_left fun k hk=>h k (List.mem_cons_of_mem _ hk)
  simp only [HA.ren,this,h i List.mem_cons_self]
 | .box i b cs,h,_=>by simp only [HA.ren,h i (by simp [HA.uses])]
 | .mp i b es,h,_=>by simp only [HA.ren,h i (by simp [HA.uses])]
 | .elem t K x p,h,_=>by
  have:K.map g=K:=by
   conv=>rhs; rw [← List.map_id K]
   exact List.map_congr_left fun k hk=>h k hk
  simp only [HA.ren,this]
 | .old _ _,_,_=>rfl
 | .pure _,_,_=>rfl
 | .gl _ _ _,_,_=>rfl
theorem B0 {E:SE} : ∀ {vs:List (Nat×ShV)} {ls:List Lf},py E vs=some ls→ls.length=(vs.flatMap (fun p=>p.2.ls)).length:=by
 intro vs
 induction vs with
 | nil=>intro ls h; simp [py] at h; subst h; rfl
 | cons p r ih=>
  intro ls h
  obtain ⟨t0,v0⟩:=p
  cases v0 with
  | lf p=>
   simp only [py] at h
   split at h
   ·rename_i l ls' _ h2
    simp only [Option.some.injEq] at h
    subst h
    simp [ih h2,ShV.ls]
   ·cases h
  | ag ps=>
   simp only [py] at h
   split at h
   ·rename_i l ls' _ h2
    cases hb0:Nat.beq l.length ps.length
    ·rw [hb0] at h; cases h
    ·rw [hb0] at h
     simp only [cond_true,Option.some.injEq] at h
     subst h
     have:=Nat.eq_of_beq_eq_true hb0
     simp [ih h2,ShV.ls]; omega
   ·cases h
theorem zS {E E' : SE} {t:Nat} (h:bL E t=none):bL (E++E') t=bL E' t:=by
 induction E with
 | nil=>rfl
 | cons p r ih=>
  simp only [List.cons_append,bL] at h ⊢
  cases hb:Nat.beq t p.1
  ·rw [hb] at h; exact ih h
  ·rw [hb] at h; cases h
theorem qJ {B nt:Nat} {L0:List HA} {β:Vn} (hL0:L0ok L0) {sh:Shp} {KE:SE} {KF:List AF} {nb cb:Nat} {S:SS} {d:tR sh.ls} (h:wR B sh KE KF nb cb S=some d) {a:Act} {w:World} (hI:g9 B nt L0 β KE KF S a w) :
  g9 B nt L0 β KE KF (pA sh KE KF nb cb d) a w:=by
 unfold wR at h
 split at h
 ·rename_i l1 l2 g1 g2
  split at h
  ·rename_i d' hd
   simp only at h
   generalize hcm:((KF.flatMap AF.uses).map (fun k=>(k,k))++nQ (S.F++KF) sh.ls (l1++l2) cb++Et KE (S.F++KF) sh.bx (cb+2 * sh.ls.length)++wK (S.F++KF) (cb+255) sh.ls (l1++l2)).filter (fun p=>Nat.ble 2 p.1&&Nat.ble 2 p.2)=cm at h
   generalize hgg:nM cm 2=g at h
   cases hb:(KF.all (fun f=>!(gI S.d f))&&(KF.flatMap AF.uses).all (fun k=>Nat.beq (g k) k)&&AP (US KE KF (cb+255)) g (S.F++KF) cb sh.ls (l1++l2)&&ye g KE (S.F++KF) sh.bx (cb+2 * sh.ls.length)&&KE.all (fun p=>p.2.free nb)&&KF.all (AF.free nb)&&Nat.ble sh.ls.length 64&&KE.all (fun p=>(bL S.E p.1).isNone)&&Nat.ble 64 nb&&Nat.ble B nb&&Jq sh.ls (l1++l2))
   ·rw [hb] at h; cases h
   ·rw [hb] at h
    simp only [cond_true,Option.some.injEq] at h
    subst h
    simp only [Bool.and_eq_true] at hb
    obtain ⟨⟨⟨⟨⟨⟨⟨⟨⟨⟨hdead,hfix⟩,hchk⟩,hchb⟩,hfE⟩,hfF⟩,h64⟩,hno⟩,hnb⟩,hnB⟩,hal⟩:=hb
    have hg:Gd g:=by
     subst hgg
     refine Ig ?_
     simp only [List.all_cons,Bool.and_eq_true]
     refine ⟨rfl,List.all_eq_true.2 fun x hx=>?_⟩
     obtain ⟨p,hp,rfl⟩:=List.mem_map.1 hx
     rw [← hcm] at hp
     have:=(List.mem_filter.1 hp).2
     simp only [Bool.and_eq_true] at this
     exact this.2
    obtain ⟨η,c,ρ,ha,hE,hH,hL⟩:=hI
    have hls:(l1++l2).length=sh.ls.length:=by
     have gen : ∀ {ps:List Sp} {ls:List Lf} {d:tR ps},kh (S.F++KF) ps ls=some d→ls.length=ps.length:=by
      intro ps
      induction ps with
      | nil=>intro ls d h; cases ls <;> simp [kh] at h ⊢
      | cons p r ih=>
       intro ls d h
       cases r with
       | nil=>
        cases ls with
        | nil=>simp [kh] at h
        | cons l ls=>
         cases ls with
         | nil=>rfl
         | cons _ _=>simp [kh] at h
       | cons q r=>
        cases ls with
        | nil=>simp [kh] at h
        | cons l ls=>
         simp only [kh] at h
         split at h
         ·rename_i x y hx hy
          simp only [List.length_cons,ih hy]
         ·cases h
     exact gen hd
    have h64:=Nat.le_of_ble_eq_true h64
    let η' : Vn:=η.set nb (aL η (l1++l2))
    have hagr:η.agr nb η' := Vn.set_agr (by simp only [aL,List.length_map]; omega)
    have hnm : ∀ (j:Nat) (l:Lf),(l1++l2)[j]? = some l→η'.h (nb+j)=l.hd η:=fun j l hj=>Vn.set_at (by rw [aL,List.getElem?_map,hj]; rfl)
    have hlv:bj S.d KF=KF:=List.filter_eq_self.2 fun f hf=>List.all_eq_true.1 hdead f hf
    rw [hlv] at hH
    have hF:ai w c ((S.F++KF).map (AF.ha η)):=hH
    have hlow : ∀ m,m<64→η'.h m=η.h m:=fun m hm=>(hagr m (by simp only [cq,Bool.or_eq_true]; exact .inl (Nat.ble_eq_true_of_le (by have:=Nat.le_of_ble_eq_true hnb; omega)))).1
    obtain ⟨k1,k2⟩:=zG (η:=η) (η' := η') hlow (nm:=nb) hd hal hnm
    refine ⟨η',fun b=>g (c b),ρ,ha,?_,?_,?_,fun m hm=>?_⟩
    ·intro t v hl
     rcases mO hl with hl | hl
     ·obtain ⟨v0,e1,e2⟩:=ym (η:=η) (η' := η') (rest:=l2) g1 k1 k2 t v hl
      rw [e2]
      refine hE t v0 ?_
      have app : ∀ {E E' : SE},bL E t=some v0→bL (E++E') t=some v0:=by
       intro E E' h
       induction E with
       | nil=>simp [bL] at h
       | cons p r ih=>
        simp only [List.cons_append,bL] at h ⊢
        cases hb:Nat.beq t p.1
        ·rw [hb] at h; exact ih h
        ·rw [hb] at h; exact h
      exact app e1
     ·rw [AV.val_agr hagr v (List.all_eq_true.1 hfE _ (nj hl))]
      refine hE t v ?_
      have:=List.all_eq_true.1 hno _ (nj hl)
      rw [zS (by simpa using this)]
      exact hl
    ·rw [show bj (pA sh KE KF nb cb d').d KF=KF from yJ KF,List.map_append]
     refine ai.append ?_ ?_
     ·simp only [pA,List.map_append]
      refine ai.append (Hk hg hF hlow hd hchk hnm) (xY (η:=η) (η' := η') hg hF rfl g2 hchb ?_ fun j l l' e1 e2=>?_)
      ·have:=B0 g1
       simp only [List.length_drop,k1,List.length_append]; omega
      ·have hl1:=B0 g1
       rw [List.getElem?_drop] at e2
       exact (k2 (l1.length+j) l l' (by rw [List.getElem?_append_right (by omega)]; rw [show l1.length+j - l1.length=j by omega]; exact e1) (by rw [hl1]; exact e2)).1
     ·intro A hA
      obtain ⟨f,hf,rfl⟩:=List.mem_map.1 hA
      have hold:=hH _ (List.mem_map.2 ⟨f,List.mem_append_right _ hf,rfl⟩)
      have hfr:=List.all_eq_true.1 hfF f hf
      rw [AF.ha_agr hagr f hfr]
      have:=HA.ren_holds hg _ hold
      rwa [I8 _ (fun k hk=>by
       rw [AF.ha_uses] at hk
       exact Nat.eq_of_beq_eq_true (List.all_eq_true.1 hfix k (List.mem_flatMap.2 ⟨f,hf,hk⟩))) trivial] at this
    ·intro A hA
     have:=HA.ren_holds hg _ (hL.1 A hA)
     rwa [I8 A (fun k hk=>by
      have:=hL0.old A hA k hk
      match k,this with
      | 0,_=>exact hg.z
      | 1,_=>exact hg.o) (by cases A <;> trivial)] at this
    ·have:=Nat.le_of_ble_eq_true hnB
     have hz:=hagr m (by simp only [cq,Bool.or_eq_true]; exact .inl (Nat.ble_eq_true_of_le (by omega)))
     rw [hz.1,hz.2]; exact hL.2 m hm
  ·cases h
 ·cases h
end
end Go.Sm
