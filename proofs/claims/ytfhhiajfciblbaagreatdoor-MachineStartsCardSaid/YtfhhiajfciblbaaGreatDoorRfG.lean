/-
  The symbolic evaluator: operations on rows. Nothing of a program is named here; no condition.
-/
import Derived.Test.YtfhhiajfciblbaaGreatDoorRfD
namespace Go.Sm
set_option linter.unusedSectionVars false
section
variable [X:XTab] [G:GTab]
theorem cz.from {P:Program} {ρ:cF} {o:Oper} {L L' : List HA} {κ:List Nat} {Y:Type} {val:Y→Value} {Φ:Y→List HA} (h:cz P ρ o L' κ val Φ) (hL : ∀ w c,ai w c L→ai w c L'):cz P ρ o L κ val Φ:=
 fun a ev w c next Q ha hH hk=>h a ev w c next Q ha (hL w c hH) hk
theorem aY.from {P:Program} {ρ:cF} {o:Oper} {L L' : List HA} {v:Value} (h:aY P ρ o L' v) (hL : ∀ w c,ai w c L→ai w c L'):aY P ρ o L v:=
 fun ev w c he hH=>h ev w c he (hL w c hH)
def Pa.comp : {t u v:TC}→Pa t u→Pa u v→Pa t v
 | _,_,_, .here,q=>q
 | _,_,_, .fst p,q=>.fst (p.comp q)
 | _,_,_, .snd p,q=>.snd (p.comp q)
 | _,_,_, .inn p,q=>.inn (p.comp q)
 | _,_,_, .nd p,q=>.nd (p.comp q)
 | _,_,_, .el j, .here=>.el j
theorem Pa.comp_off : {t u v:TC}→(p:Pa t u)→(q:Pa u v)→(p.comp q).off=p.off+q.off
 | _,_,_, .here,q=>by simp [Pa.comp,Pa.off]
 | _,_,_, .fst p,q=>by simp [Pa.comp,Pa.off,p.comp_off q]
 | _,_,_, .snd p,q=>by simp [Pa.comp,Pa.off,p.comp_off q]; omega
 | _,_,_, .inn p,q=>by simp [Pa.comp,Pa.off,p.comp_off q]
 | _,_,_, .nd p,q=>by simp [Pa.comp,Pa.off,p.comp_off q]
 | _,_,_, .el j, .here=>by simp [Pa.comp,Pa.off]
def Pa.get : {t u:TC}→Pa t u→t.den→u.den
 | _,_, .here,x=>x
 | _,_, .fst p,x=>p.get x.1
 | _,_, .snd p,x=>p.get x.2
 | _,_, .inn p,x=>p.get x
 | _,_, .nd p,x=>p.get (Nd.tup x)
 | _,_,@Pa.el _ s j,x=>List.getD (α:=s.den) x j.toNat s.dft
def Pa.put : {t u:TC}→Pa t u→t.den→u.den→t.den
 | _,_, .here,_,y=>y
 | _,_, .fst p,x,y=>(p.put x.1 y,x.2)
 | _,_, .snd p,x,y=>(x.1,p.put x.2 y)
 | _,_, .inn p,x,y=>p.put x y
 | _,_, .nd p,x,y=>Nd.of (p.put (Nd.tup x) y)
 | _,_,@Pa.el n s j,x,y=>mP (α:=s.den) n s.dft x j.toNat y
def Pa.needs : {t u:TC}→Pa t u→Option Bool
 | _,_, .here=>none
 | _,_, .fst p=>p.needs
 | _,_, .snd p=>p.needs
 | _,_, .inn p=>p.needs
 | _,_, .nd p=>p.needs
 | _,_,@Pa.el n _ j=>some (decide (0≤j∧j<n))
def Pa.fine {t u:TC} (p:Pa t u):Prop:=∀ b,p.needs=some b→b=true
def nchk {R:Type} (ex:Option Bool) (b:Option Bool) (m:Option R):Option R:=match b with
 | none=>m
 | some b=>gchk ex b m
theorem aj.nchk {R:Type} {P:Program} {o:Oper} {E:SE} {F:List AF} {n:Nat} {k:Out→Option R} {ex:Option Bool} {b:Option Bool} {m:Option R} (h:(eI ex→∀ c,b=some c→c=true)→aj ex P o E F n m k):aj ex P o E F n (nchk ex b m) k:=by
 cases b with
 | none=>exact h fun _ _ h=>by cases h
 | some c=>exact aj.gchk fun hc=>h fun hx d hd=>by cases hd; exact hc hx
theorem xg {L:List HA} {K:List Nat} {h:Hd} : {t u:TC}→(p:Pa t u)→{v:t.den}→{x:Nat}→El L t.ty K v h x→p.fine→El L u.ty K (p.get v) h (x+p.off)
 | _,_, .here,v,x,hE,_=>by simpa [Pa.off,Pa.get] using hE
 | _,_, .fst (a:=a) (b:=b) p,v,x,hE,hf=>by
  have h1:=Fl (t:=.pair a.ty b.ty) (.fst .here) hE rfl rfl
  exact xg p h1 hf
 | _,_, .snd (a:=a) (b:=b) p,v,x,hE,hf=>by
  have h1:=Fl (t:=.pair a.ty b.ty) (.snd .here) hE rfl rfl
  have:=xg p h1 hf
  simp only [Pth.off,Nat.add_zero,Pa.off] at this ⊢
  rw [← Nat.add_assoc]; exact this
 | _,_, .inn p,v,x,hE,hf=>xg p hE hf
 | _,_, .nd p,v,x,hE,hf=>by
  have h1:=Fl (t:=.node) (.nd .here) hE rfl rfl
  exact xg p h1 hf
 | _,_, .el j,v,x,hE,hf=>abp hE (hf _ rfl)
theorem J6 (h:Hd) (x:Nat) : ∃ b o,dP h x=⟨b,o,none⟩:=by
 unfold dP; split <;> exact ⟨_,_,rfl⟩
def TC.fld:(u:TC)→(m n:Nat)→Option ((v:TC)×Pa u v)
 | .st a,0,1=>some ⟨a, .inn .here⟩
 | .node,0,4=>some ⟨.sc (.int .i64), .nd (.fst .here)⟩
 | .node,1,4=>some ⟨.sc .str, .nd (.snd (.fst .here))⟩
 | .node,2,4=>some ⟨.sc (.int .i64), .nd (.snd (.snd (.fst .here)))⟩
 | .node,3,4=>some ⟨.slice .node, .nd (.snd (.snd (.snd .here)))⟩
 | .pair a _,0,_+2=>some ⟨a, .fst .here⟩
 | .pair _ b,1,2=>some ⟨b, .snd .here⟩
 | .pair _ b,m+1,n+3=>match b.fld m (n+2) with
  | some ⟨v,p⟩=>some ⟨v, .snd p⟩
  | none=>none
 | _,_,_=>none
def TC.aggT:TC→Bool
 | .arr _ _=>true
 | .unit=>true
 | .pair _ _=>true
 | .st _=>true
 | .node=>true
 | _=>false
def nP (u:TC) (x:u.den) (n:Nat):AV:=match u,x with
 | .sc s,x=>.lf (.c s x)
 | .arr m s,x=>.lf (.ar m s x)
 | .unit,_=>.ag []
 | .pair a b,x=>.ag (gS (.pair a b) x n)
 | .st a,x=>.ag (gS a x n)
 | .slice _,_=>.lf (.sl n)
 | .ext k,x=>.lf (.xt k x)
 | .node,x=>.ag (gS .node x n)
 | .mp _ _,_=>.lf (.mp n)
def TC.isMp:TC→Bool
 | .mp _ _=>true
 | _=>false
theorem kG {u:TC} (hu:u.aggT=true) {x:u.den} {y:u.ty.Refs} {n:Nat} {η:Vn} (h:cT η n (cg u y)):(nP u x n).val η = .agg (u.ty.fill x y).toArray:=by
 cases u with
 | arr m s=>rfl
 | unit=>rfl
 | pair a b=>simp only [nP,AV.val]; rw [lT _ x y n h]
 | st a=>simp only [nP,AV.val]; rw [lT a x y n h]
 | node=>simp only [nP,AV.val]; rw [lT .node x y n h]
 | _=>cases hu
theorem cT.set {η:Vn} {n:Nat} {l:List Hd}:cT (η.set n l) n l:=fun _ _ hj=>Vn.set_at hj
section
variable {R:Type} {P:Program} {o:Oper} {E:SE} {F:List AF} {n:Nat} {Θ:Tb} {ex:Option Bool}
def L1 (Θ:Tb) (ex:Option Bool) (t:TypeId) (l:Lf) (i:Int) (F:List AF) (k:Out→Option R):Option R:=match Θ t with
 | some ⟨.slice e,_,_,_,_⟩=>match Θ e with
  | some ie=>match l with
   | .sl h=>match kq ie.tc h F with
    | some s=>bif Nat.beq ie.sz ie.tc.ty.sz then gbind ex ie.tc.dft (ac s.xs i) fun _=>k (bc (.lf (.rp h ie.tc i ie.tc .here))) else none
    | none=>match lA h F with
     | some (h0,sz,lo,hi)=>bif Nat.beq ie.sz ie.tc.ty.sz&&Nat.beq sz ie.sz then gchk ex (decide (0≤i∧i<hi - lo)) (k (bc (.lf (.rp h0 ie.tc (lo+i) ie.tc .here)))) else none
     | none=>none
   | _=>none
  | none=>none
 | _=>none
theorem JC (hΘ:Θ.ok P) {t:TypeId} {x ix:Operand} {l:Lf} {ki:IntKind} {i:Int} (ho:o.op = .indexAddr t x ix) (h1:ev E x=some (.lf l)) (h2:ev E ix=some (eZ ki i)) (k:Out→Option R) :
  aj ex P o E F n (L1 Θ ex t l i F k) k:=by
 unfold L1
 split
 ·rename_i e _ _ _ _ ht
  split
  ·rename_i ie he
   split
   ·rename_i h
    split
    ·rename_i s hs
     refine aj.bif fun hsz=>aj.gbind fun v hv=>aj.of fun hx=>(cS.pure fun η ρ hE=>?_)
     have hl:gb ie.tc F (.sl h)=some s:=hs
     refine aY.from (L' := .rep ie.tc.ty s.all s.xs (η.h h)::F.map (AF.ha η)) ?_ (fun w c hH=>ai.cons (iN hl hH) hH)
     have:=ad2 (o:=o) (ρ:=ρ) (L:=.rep ie.tc.ty s.all s.xs (η.h h)::F.map (AF.ha η)) 0 rfl ho (hΘ t _ ht).2.1 (hΘ e ie he).1 (aF hE h1) (aF hE h2) (hv hx)
     simp only [AV.val,Lf.val,Pa.off,Nat.add_zero]
     rw [← Nat.eq_of_beq_eq_true hsz]
     exact this
    ·split
     ·rename_i h0 sz lo hi hp
      refine aj.bif fun hsz=>aj.gchk fun hb=>aj.of fun hx=>(cS.pure fun η ρ hE=>?_)
      simp only [Bool.and_eq_true] at hsz
      have:=BF (o:=o) (ρ:=ρ) (L:=F.map (AF.ha η)) (v:=η.h h) (u:=η.h h0) (lo:=lo) (hi:=hi) (fun w c hH=>by
       rw [← Nat.eq_of_beq_eq_true hsz.2]
       exact hH _ (List.mem_map.2 ⟨_,gy hp,rfl⟩)) ho (hΘ t _ ht).2.1 (hΘ e ie he).1 (aF hE h1) (aF hE h2) (hb hx)
      simp only [AV.val,Lf.val,Pa.off,Nat.add_zero]
      rw [← Nat.eq_of_beq_eq_true hsz.1]
      exact this
     ·exact aj.none
   ·exact aj.none
  ·exact aj.none
 ·exact aj.none
def Gg (Θ:Tb) (t:TypeId) (f:Nat) (l:Lf) (k:Out→Option R):Option R:=match Θ t with
 | some ⟨.st fs,_,_,_,_⟩=>match fs[f]? with
  | some (ft,off)=>match Θ ft with
   | some i=>bif Nat.beq i.sz 0 then none else match l with
    | .bp b o=>k (bc (.lf (.bp b (o+off))))
    | .rp h te ix u p=>match u.fld f fs.length with
     | some ⟨v,q⟩=>bif Nat.beq q.off off then k (bc (.lf (.rp h te ix v (p.comp q)))) else none
     | none=>none
    | .gp g te ix u p=>match u.fld f fs.length with
     | some ⟨v,q⟩=>bif Nat.beq q.off off then k (bc (.lf (.gp g te ix v (p.comp q)))) else none
     | none=>none
    | _=>none
   | none=>none
  | none=>none
 | _=>none
theorem BV {Fd:Array Field} {fs:List (TypeId×Nat)} (hm:Fd.toList.map (fun f=>(f.type,f.offset))=fs) {f:Nat} {ft:TypeId} {off:Nat} (h:fs[f]? = some (ft,off)) : ∃ fd,Fd[f]? = some fd∧fd.type=ft∧fd.offset=off:=by
 subst hm
 simp only [List.getElem?_map,Option.map_eq_some_iff] at h
 obtain ⟨fd,hf,he⟩:=h
 exact ⟨fd,by simpa using hf,by simpa using congrArg Prod.fst he,by simpa using congrArg Prod.snd he⟩
theorem Pr (hΘ:Θ.ok P) {t:TypeId} {x:Operand} {f:Nat} {l:Lf} (ho:o.op = .fieldAddr t x f) (h1:ev E x=some (.lf l)) (k:Out→Option R):aj ex P o E F n (Gg Θ t f l k) k:=by
 unfold Gg
 split
 ·rename_i fs _ _ _ _ ht
  split
  ·rename_i ft off hf
   split
   ·rename_i i hi
    obtain ⟨Fd,hs,hm⟩:=(hΘ t _ ht).2.1
    obtain ⟨fd,hfd,hft,hoff⟩:=BV hm hf
    have hti:=(hΘ ft i hi).1
    rw [← hft] at hti
    cases hz:Nat.beq i.sz 0
    ·simp only [cond_false]
     split
     ·rename_i b o'
      refine aj.of fun hx=>(cS.pure fun η ρ hE=>?_)
      exact tp ho hs hfd hti hz hoff (aF hE h1)
     ·rename_i h te ix u p
      split
      ·rename_i v q hq
       refine aj.bif fun hqo=>aj.of fun hx=>(cS.pure fun η ρ hE=>?_)
       have he:=aF hE h1
       simp only [AV.val,Lf.val] at he ⊢
       obtain ⟨b,o',hp⟩:=J6 (η.h h) (ix.toNat * te.ty.sz+p.off)
       rw [hp] at he
       rw [Pa.comp_off,Nat.eq_of_beq_eq_true hqo,← Nat.add_assoc,tQ _ _ off b o' hp]
       exact tp ho hs hfd hti hz hoff he
      ·exact aj.none
     ·rename_i g te ix u p
      split
      ·rename_i v q hq
       refine aj.bif fun hqo=>aj.of fun hx=>(cS.pure fun η ρ hE=>?_)
       have he:=aF hE h1
       simp only [AV.val,Lf.val] at he ⊢
       rw [Pa.comp_off,Nat.eq_of_beq_eq_true hqo,← Nat.add_assoc]
       exact tp ho hs hfd hti hz hoff he
      ·exact aj.none
     ·exact aj.none
    ·exact aj.none
   ·exact aj.none
  ·exact aj.none
 ·exact aj.none
def KI (Θ:Tb) (ex:Option Bool) (t:TypeId) (l:Lf) (i:Int) (k:Out→Option R):Option R:=match Θ t with
 | some ⟨.arr m e,_,_,_,_⟩=>match Θ e with
  | some ie=>bif Nat.beq ie.sz 1 then match l with
   | .rp h te ix (.arr m' s) p=>bif Nat.beq m m' then gchk ex (decide (0≤i∧i<m')) (k (bc (.lf (.rp h te ix (.sc s) (p.comp (.el i)))))) else none
   | .bp b o=>match ie.tc with
    | .sc s=>gchk ex (decide (0≤i∧i<m)) (k (bc (.lf (.bq b o m s i))))
    | _=>none
   | _=>none
   else none
  | none=>none
 | _=>none
theorem Px {ρ:cF} {L:List HA} {t e:TypeId} {x ix:Operand} {ki:IntKind} {i:Int} {m:Nat} {b o' : Nat} {by_:Nat} {z:Value} (ho:o.op = .indexAddr t x ix) (ht:P.underlying t=some (.array m e)) (hi:TI P e 1 by_ z)
  (hx:aK ρ x = .pointer (some ⟨b,o',none⟩)) (hix:aK ρ ix = .int ki i) (h0:decide (0≤i∧i<m)=true):aY P ρ o L (.pointer (some ⟨b,o' + i.toNat,none⟩)):=fun ev w c he hL=>by
 subst he
 have htihi:=hi; clear hi
 obtain ⟨inf,hi,_,hs,_⟩:=htihi.get
 have hi0:0≤i∧i<m:=of_decide_eq_true h0
 simp [execOp,ho,hx,hix,Instr.indexAt,Instr.sureAddr,asIntOf,run_underlying ht,sizeOf,typeInfo,hi,hs,hi0,d6,Result.andThen]
theorem TH (hΘ:Θ.ok P) {t:TypeId} {x ix:Operand} {l:Lf} {ki:IntKind} {i:Int} (ho:o.op = .indexAddr t x ix) (h1:ev E x=some (.lf l)) (h2:ev E ix=some (eZ ki i)) (k:Out→Option R) :
  aj ex P o E F n (KI Θ ex t l i k) k:=by
 unfold KI
 split
 ·rename_i m e _ _ _ _ ht
  split
  ·rename_i ie he
   refine aj.bif fun hsz=>?_
   have hti:=(hΘ e ie he).1
   rw [Nat.eq_of_beq_eq_true hsz] at hti
   split
   ·rename_i h te ixx m' s p
    refine aj.bif fun hm=>aj.gchk fun hb=>aj.of fun hx=>(cS.pure fun η ρ hE=>?_)
    obtain rfl:=Nat.eq_of_beq_eq_true hm
    have h3:=aF hE h1
    simp only [AV.val,Lf.val] at h3 ⊢
    obtain ⟨b,o',hp⟩:=J6 (η.h h) (ixx.toNat * te.ty.sz+p.off)
    rw [hp] at h3
    rw [Pa.comp_off,← Nat.add_assoc,tQ _ _ _ b o' hp]
    exact Px ho (hΘ t _ ht).2.1 hti h3 (aF hE h2) (hb hx)
   ·rename_i b o'
    split
    ·refine aj.gchk fun hb=>aj.of fun hx=>(cS.pure fun η ρ hE=>?_)
     exact Px ho (hΘ t _ ht).2.1 hti (aF hE h1) (aF hE h2) (hb hx)
    ·exact aj.none
   ·exact aj.none
  ·exact aj.none
 ·exact aj.none
def Ho (Θ:Tb) (ex:Option Bool) (n:Nat) (t:TypeId) (h:Nat) (te:TC) (i:Int) (u:TC) (p:Pa te u) (F:List AF) (k:Out→Option R):Option R:=match Θ t,kq te h F with
 | some inf,some s=>bif Nat.beq inf.sz u.ty.sz&&Nat.ble u.nh 64&&(inf.d.agg==u.aggT) && !u.isMp then nchk ex p.needs (gbind ex te.dft (ac s.xs i) fun x=>k ⟨nP u (p.get x) n,qu u (p.get x) s.nk n,[]⟩) else none
 | _,_=>none
theorem aaY {η:Vn} {te:TC} {h:Nat} {s:SI te} (hs:kq te h F=some s) {i:Int} {v:te.den} (hv:ac s.xs i=some v):El (F.map (AF.ha η)) te.ty s.nk v (η.h h) (i.toNat * te.ty.sz):=fun w c hH=>by
 have hm:=hH _ (List.mem_map.2 ⟨_,fm hs,rfl⟩)
 obtain ⟨own,K,xs⟩:=s
 cases own with
 | none=>exact G9 (L:=.rep te.ty K xs (η.h h)::F.map (AF.ha η)) 0 rfl rfl hv w c (ai.cons hm hH)
 | some p=>
  have hm' : HA.holds w c (dx te.ty p.1 p.2 K xs (η.h h)):=hm
  show acG w c te.ty (SI.nk ⟨some p,K,xs⟩) v _
  cases htr:ep p.1
  ·rw [show SI.nk (t:=te) ⟨some p,K,xs⟩=K by simp [SI.nk,htr]]
   rw [dw htr] at hm'
   exact adD (L:=.own te.ty p.1 p.2 K xs (η.h h)::F.map (AF.ha η)) 0 rfl rfl hv w c (ai.cons hm' hH)
  ·rw [show SI.nk (t:=te) ⟨some p,K,xs⟩=p.2::K by simp [SI.nk,htr]]
   rw [gN htr] at hm'
   exact G9 (L:=.rep te.ty (p.2::K) xs (η.h h)::F.map (AF.ha η)) 0 rfl rfl hv w c (ai.cons (E1 hm') hH)
theorem O3 (hΘ:Θ.ok P) {t:TypeId} {x:Operand} {h:Nat} {te:TC} {i:Int} {u:TC} {p:Pa te u} (ho:o.op = .load t x) (h1:ev E x=some (.lf (.rp h te i u p))) (k:Out→Option R) :
  aj ex P o E F n (Ho Θ ex n t h te i u p F k) k:=by
 unfold Ho
 split
 ·rename_i inf s hi hs
  refine aj.bif fun hc=>aj.nchk fun hf=>aj.gbind fun v hv=>aj.of fun hx η ρ hE=>?_
  simp only [Bool.and_eq_true,beq_iff_eq,Bool.not_eq_true'] at hc
  obtain ⟨⟨⟨hsz,hnh⟩,hag⟩,hmp⟩:=hc
  have hsz:=Nat.eq_of_beq_eq_true hsz
  have hnh:=Nat.le_of_ble_eq_true hnh
  obtain ⟨g1,g2,_,_⟩:=hΘ t inf hi
  obtain ⟨td,ht,hd⟩:=kY g2
  rw [hag] at hd
  have hE' := xg p (aaY (η:=η) hs (hv hx)) (hf hx)
  have hp:aK ρ x = .pointer (some (dP (η.h h) (i.toNat * te.ty.sz+p.off))):=aF hE h1
  cases u with
  | sc sk=>exact (aY.op (sE hE' ho ht hd hp)).map (fun _=>⟨η,Vn.agr_refl n η⟩) (fun _=>rfl) (fun _=>rfl)
  | ext m=>exact (aY.op (sE hE' ho ht hd hp)).map (fun _=>⟨η,Vn.agr_refl n η⟩) (fun _=>rfl) (fun _=>rfl)
  | slice t' =>
   refine (vg hE' ho ht hd hp).map (fun hh=>⟨η.setH n hh,η.setH_agr n hh⟩) (fun hh=>?_) fun hh=>?_
   ·simp [nP,AV.val,Lf.val,Vn.setH_at]
   ·simp [qu,AF.ha,Vn.setH_at]
  | arr m sk=>
   refine (dV hE' ho ht hd g1 hsz hp).map (fun y=>⟨η.set n (cg _ y),Vn.set_agr (by rw [cE]; exact hnh)⟩) (fun y=>?_) fun y=>?_
   ·exact (kG (u:=.arr m sk) rfl cT.set).symm
   ·exact (kg (.arr m sk) _ y n cT.set).symm
  | unit=>
   refine (dV hE' ho ht hd g1 hsz hp).map (fun y=>⟨η.set n (cg _ y),Vn.set_agr (by rw [cE]; exact hnh)⟩) (fun y=>?_) fun y=>?_
   ·exact (kG (u:=.unit) rfl cT.set).symm
   ·exact (kg .unit _ y n cT.set).symm
  | st a=>
   refine (dV hE' ho ht hd g1 hsz hp).map (fun y=>⟨η.set n (cg a y),Vn.set_agr (by rw [cE]; exact hnh)⟩) (fun y=>?_) fun y=>?_
   ·exact (kG (u:=.st a) rfl (cT.set (l:=cg a y))).symm
   ·exact (kg a _ y n cT.set).symm
  | pair a b=>
   refine (dV hE' ho ht hd g1 hsz hp).map (fun y=>⟨η.set n (cg _ y),Vn.set_agr (by rw [cE]; exact hnh)⟩) (fun y=>?_) fun y=>?_
   ·exact (kG (u:=.pair a b) rfl cT.set).symm
   ·exact (kg (.pair a b) _ y n cT.set).symm
  | node=>
   refine (dV hE' ho ht hd g1 hsz hp).map (fun y=>⟨η.set n (cg .node y),Vn.set_agr (by rw [cE]; exact hnh)⟩) (fun y=>?_) fun y=>?_
   ·exact (kG (u:=.node) rfl (cT.set (l:=cg .node y))).symm
   ·exact (kg .node _ y n cT.set).symm
  | mp _ _=>cases hmp
 ·exact aj.none
theorem YM {η:Vn} {K:List Nat} {u:TC} {ls:List Lf} {y:u.den} {l:List Lf} {Kd:List Nat} (hd:bH F u ls=some (y,l,Kd,[])) (hK : ∀ k∈Kd,k∈K) (hone:pe ls=true) (v:u.den):mi (F.map (AF.ha η)) K u.ty v 0 (aq η ls) y:=by
 intro w c hH r hr
 obtain ⟨hc,hrep⟩:=cY (η:=η) u hd
 simp only [aq,List.append_nil] at hc
 have hlen:(aq η ls).length=u.ty.sz:=by rw [hc]; exact u.ty.fill_length _ _
 refine ⟨aI u (aL η l),hrep w c K hH hK,by omega,?_,lr hone⟩
 rw [List.take_zero,List.nil_append,Nat.zero_add,List.drop_eq_nil_of_le (by rw [u.ty.fill_length]; omega),List.append_nil,hc]
theorem QY {A:HA} {η:Vn} {K:List Nat} {u:TC} {ls:List Lf} {y:u.den} {l:List Lf} {Kd:List Nat} (hd:bH F u ls=some (y,l,Kd,[])) (hK : ∀ k∈Kd,k∈K) (hone:pe ls=true) (v:u.den):mi (A::F.map (AF.ha η)) K u.ty v 0 (aq η ls) y:=
 fun w c hH r hr=>YM hd hK hone v w c (fun B hB=>hH B (List.mem_cons_of_mem _ hB)) r hr
def scV (u:TC) (z:u.den):Value:=match u,z with
 | .sc s,z=>s.val z
 | _,_=>undef
theorem wB {L:List HA} {K:List Nat} {new:List Value} : {t u:TC}→(p:Pa t u)→{v:t.den}→{y:u.den}→mi L K u.ty (p.get v) 0 new y→p.fine →
  (∀ s,u = .sc s→new=[scV u y])→mi L K t.ty v p.off new (p.put v y)
 | _,_, .here,v,y,h,_,_=>h
 | _,_, .fst p,v,y,h,hf,hs=>ZU (wB p h hf hs)
 | _,_, .snd p,v,y,h,hf,hs=>aaq (wB p h hf hs) rfl
 | _,_, .inn p,v,y,h,hf,hs=>wB p h hf hs
 | _,_, .nd p,v,y,h,hf,hs=>adI (wB p h hf hs)
 | _,_,@Pa.el n s j,v,y,h,hf,hs=>by
  have hn:=hs s rfl
  subst hn
  exact Z4 (hf _ rfl)
def pm (K Kd:List Nat):List Nat:=bif Kd.all (fun k=>K.any fun j=>Nat.beq k j) then K else K++Kd
theorem aag {K Kd:List Nat} : ∀ k∈K,k∈pm K Kd:=fun k hk=>by
 unfold pm
 cases Kd.all (fun k=>K.any fun j=>Nat.beq k j)
 ·exact List.mem_append_left _ hk
 ·exact hk
theorem aau {K Kd:List Nat} : ∀ k∈Kd,k∈pm K Kd:=fun k hk=>by
 unfold pm
 cases h:Kd.all (fun k=>K.any fun j=>Nat.beq k j)
 ·exact List.mem_append_right _ hk
 ·exact adp h hk
def Bw (Θ:Tb) (ex:Option Bool) (t:TypeId) (h:Nat) (te:TC) (i:Int) (u:TC) (p:Pa te u) (v:AV) (F:List AF) (k:Out→Option R):Option R:=match Θ t,kq te h F,v.lvs with
 | some inf,some ⟨some (e,ci),K,xs⟩,some ls=>match bH F u ls with
  | some (y,_,Kd,[])=>bif Nat.beq inf.sz u.ty.sz&&(pm K Kd).all (fun k=>!(Nat.beq k ci)) && !(ep e) then
    nchk ex p.needs (gbind ex te.dft (ac xs i) fun x=>k ⟨.lf (.v undef),[.own te e ci (pm K Kd) (xs.set i.toNat (p.put x y)) h],[ci]⟩) else none
  | _=>none
 | _,_,_=>none
theorem Kc {s:SC} {ls:List Lf} {y:s.den} {l:List Lf} {K:List Nat} (h:bH F (.sc s) ls=some (y,l,K,[])) (η:Vn):aq η ls=[s.val y]:=by
 have:=(cY (η:=η) (.sc s) h).1
 simpa [aq,Ty.fill] using this
theorem MS (hΘ:Θ.ok P) {t:TypeId} {x z:Operand} {h:Nat} {te:TC} {i:Int} {u:TC} {p:Pa te u} {v:AV} (ho:o.op = .store t x z) (h1:ev E x=some (.lf (.rp h te i u p))) (h2:ev E z=some v) (k:Out→Option R) :
  aj ex P o E F n (Bw Θ ex t h te i u p v F k) k:=by
 unfold Bw
 split
 ·rename_i inf e ci K xs ls hi hs hl
  split
  ·rename_i y l Kd hd
   refine aj.bif fun hc=>aj.nchk fun hf=>aj.gbind fun d hdv=>aj.of fun hx η ρ hE=>?_
   simp only [Bool.and_eq_true] at hc
   obtain ⟨⟨hsz,hK⟩,htr⟩:=hc
   have htr:=pH htr
   have hsz:=Nat.eq_of_beq_eq_true hsz
   obtain ⟨g1,_⟩:=hΘ t inf hi
   have hto : ∀ w c,ai w c (F.map (AF.ha η))→ai w c (.own te.ty e ci (pm K Kd) xs (η.h h)::F.map (AF.ha η)):=fun w c hH=>by
    have hm' : HA.holds w c (dx te.ty e ci K xs (η.h h)):=hH _ (List.mem_map.2 ⟨_,fm hs,rfl⟩)
    rw [dw htr] at hm'
    obtain ⟨ys,q1,q2,q3⟩:=hm'
    exact ai.cons ⟨ys,q1.mono (bA.keep (fun _ _ hb=>⟨aag _ hb,rfl⟩) te.ty),q2,q3⟩ hH
   have hset:mi (.own te.ty e ci (pm K Kd) xs (η.h h)::F.map (AF.ha η)) (pm K Kd) te.ty d p.off (aq η ls) (p.put d y):=by
    refine wB p (QY hd aau (AV.lvs_one hl) _) (hf hx) ?_
    intro s hs'
    subst hs'
    exact Kc hd η
   have hlen:(aq η ls).length=u.ty.sz:=by
    have:=(cY (η:=η) u hd).1
    rw [this]; simp [aq,u.ty.fill_length]
   refine ((Hh (L:=.own te.ty e ci (pm K Kd) xs (η.h h)::F.map (AF.ha η)) 0 rfl ho g1 (aF hE h1) rfl rfl (hdv hx) (aF hE h2) (v.lvs_cells hl η) (by simp [hlen,hsz]) hset hK).from hto).map (fun _=>⟨η,Vn.agr_refl n η⟩) (fun _=>rfl) (fun _=>by simp [AF.ha,dw htr])
  ·exact aj.none
 ·exact aj.none
end
end
end Go.Sm
namespace Go.Sm
set_option linter.unusedSectionVars false
section
variable [X:XTab] [G:GTab]
section
variable {R:Type} {P:Program} {o:Oper} {E:SE} {F:List AF} {n:Nat} {Θ:Tb} {ex:Option Bool}
def M8 (Θ:Tb) (t:TypeId) (v:AV) (F:List AF) (k:Out→Option R):Option R:=match Θ t with
 | some ⟨.slice e,_,_,_,_⟩=>match Θ e,v with
  | some ie, .lf l=>match gb ie.tc F l with
   | some s=>k (bc (eZ .i64 s.xs.length))
   | none=>match l with
    | .sl h=>match lA h F with
     | some (_,_,lo,hi)=>k (bc (eZ .i64 (hi - lo)))
     | none=>none
    | _=>none
  | _,_=>none
 | some ⟨.str,_,_,_,_⟩=>match v with
  | .lf (.c .str x)=>k (bc (eZ .i64 x.length))
  | _=>none
 | _=>none
theorem Pf {ρ:cF} {L:List HA} {t:TypeId} {x:Operand} {s:List UInt8} (ho:o.op = .call { callee:=.builtin .len,args:=#[x],argTypes:=#[t] }) (ht:P.underlying t=some .string) (hx:aK ρ x = .string ⟨s.toArray⟩) :
  aY P ρ o L (.int .i64 s.length):=fun ev w c he _=>by
 subst he
 have hs:(ByteArray.mk s.toArray).size=s.length:=by simp [ByteArray.size]
 simp [execOp,ho,hx,resolve,invoke,builtin,Builtin.len_,run_underlying ht,goInt,Result.andThen]
 exact congrArg (fun (m:Nat)=>(m:Int)) hs
theorem Kk (hΘ:Θ.ok P) {t:TypeId} {x:Operand} {v:AV} (ho:o.op = .call { callee:=.builtin .len,args:=#[x],argTypes:=#[t] }) (h1:ev E x=some v) (k:Out→Option R):aj ex P o E F n (M8 Θ t v F k) k:=by
 unfold M8
 split
 ·rename_i e _ _ _ _ ht
  split
  ·rename_i ie l he
   split
   ·rename_i s hs
    refine aj.of fun hx=>(cS.pure fun η ρ hE=>?_)
    refine aY.from (L' := .rep ie.tc.ty s.all s.xs (l.hd η)::F.map (AF.ha η)) ?_ (fun w c hH=>ai.cons (iN hs hH) hH)
    have h2:=aF hE h1
    simp only [AV.val] at h2 ⊢
    rw [(ln hs η).1] at h2
    exact P2 0 rfl ho (hΘ t _ ht).2.1 h2
   ·split
    ·rename_i h _
     split
     ·rename_i h0 sz lo hi hp
      refine aj.of fun hx=>(cS.pure fun η ρ hE ev w c hev hH=>?_)
      have hpt:mV (η.h h) (η.h h0) sz lo hi:=hH _ (List.mem_map.2 ⟨_,gy hp,rfl⟩)
      have h3:=NB (L:=F.map (AF.ha η)) ho (hΘ t _ ht).2.1 (aF hE h1) ev w c hev hH
      rw [h3]
      simp only [AV.val,Lf.val,hpt.2.1]
     ·exact aj.none
    ·exact aj.none
  ·exact aj.none
 ·rename_i _ _ _ _ ht
  split
  ·refine aj.of fun hx=>(cS.pure fun η ρ hE=>?_)
   exact Pf ho (hΘ t _ ht).2.1 (aF hE h1)
  ·exact aj.none
 ·exact aj.none
def T7 (Θ:Tb) (ex:Option Bool) (n N:Nat) (t:TypeId) (v1 v2:AV) (F:List AF) (k:Out→Option R):Option R:=match Θ t with
 | some ⟨.slice e,_,_,_,_⟩=>match Θ e,v1,v2 with
  | some ie, .lf l1, .lf l2=>match eN ie.tc e N F l1,gb ie.tc F l2 with
   | some (ci,K,xs),some s2=>bif Nat.beq ie.sz ie.tc.ty.sz&&Nat.ble 1 ie.sz&&Nat.beq ie.zv.cells.size ie.sz&&Nat.ble 2 ci&&Nat.blt e 1048576&&(bif ie.tc.ty.pureB then true else (K++s2.all).all (fun k=>!(Nat.beq k ci))) then
     gchk ex (aH xs.length s2.xs.length ie.by_) (k ⟨.lf (.sl n),[.own ie.tc e ci (bif ie.tc.ty.pureB then K else K++s2.all) (xs++s2.xs) n],[ci]⟩) else none
   | _,_=>none
  | _,_,_=>none
 | _=>none
theorem YU (hΘ:Θ.ok P) {N:Nat} {t:TypeId} {x y:Operand} {v1 v2:AV} (ho:o.op = .call { callee:=.builtin .append,args:=#[x,y],argTypes:=#[t,t] }) (h1:ev E x=some v1) (h2:ev E y=some v2) (k:Out→Option R) :
  aj ex P o E F n (T7 Θ ex n N t v1 v2 F k) k:=by
 unfold T7
 split
 ·rename_i e _ _ _ _ ht
  split
  ·rename_i ie l1 l2 he
   split
   ·rename_i ci K xs s2 hs1 hs2
    refine aj.bif fun hc=>aj.gchk fun hr=>aj.of fun hx η ρ hE=>?_
    simp only [Bool.and_eq_true] at hc
    obtain ⟨⟨⟨⟨⟨hsz,h0⟩,hzs⟩,hci⟩,hel⟩,hK⟩:=hc
    have e1:=aF hE h1
    have e2:=aF hE h2
    simp only [AV.val] at e1 e2
    rw [lS hs1 η] at e1
    rw [(ln hs2 η).1] at e2
    have hH' : ∀ w c,ai w c (F.map (AF.ha η))→ai w c (.own ie.tc.ty e ci K xs (l1.hd η) :: .rep ie.tc.ty s2.all s2.xs (l2.hd η)::F.map (AF.ha η)):=fun w c hH=>
     ai.cons (by
      have:=eC hs1 hH
      rwa [dw (eh hel)] at this) (ai.cons (iN hs2 hH) hH)
    cases hp:ie.tc.ty.pureB
    ·rw [hp,cond_false] at hK
     have:=(P7 (o:=o) (ρ:=ρ) (L:=.own ie.tc.ty e ci K xs (l1.hd η) :: .rep ie.tc.ty s2.all s2.xs (l2.hd η)::F.map (AF.ha η)) 0 1 rfl _ rfl su ho (hΘ t _ ht).2.1 (hΘ e ie he).1 (Nat.eq_of_beq_eq_true hsz) hzs h0 e1 e2 (hr hx) hci hK rfl hel).from hH'
     refine this.map (fun hh=>⟨η.setH n hh,η.setH_agr n hh⟩) (fun hh=>?_) fun hh=>?_
     ·simp [AV.val,Lf.val,Vn.setH_at]
     ·simp [AF.ha,Vn.setH_at,dw (eh hel)]
    ·have:=(xQ (o:=o) (ρ:=ρ) (L:=.own ie.tc.ty e ci K xs (l1.hd η) :: .rep ie.tc.ty s2.all s2.xs (l2.hd η)::F.map (AF.ha η)) hp 0 1 rfl _ rfl su ho (hΘ t _ ht).2.1 (hΘ e ie he).1 (Nat.eq_of_beq_eq_true hsz) hzs h0 e1 e2 (hr hx) hci hel).from hH'
     refine this.map (fun hh=>⟨η.setH n hh,η.setH_agr n hh⟩) (fun hh=>?_) fun hh=>?_
     ·simp [AV.val,Lf.val,Vn.setH_at]
     ·simp [AF.ha,Vn.setH_at,dw (eh hel)]
   ·exact aj.none
  ·exact aj.none
 ·exact aj.none
theorem mr.append {L:List HA} : ∀ {l l' : List HA},mr L l→mr L l' → mr L (l++l')
 | [],_,_,h=>h
 | _::_,_,⟨h1,h2⟩,h=>⟨h1,h2.append h⟩
theorem uB {L:List HA} {η:Vn} {K' : List Nat} : ∀ (t:TC) {ls:List Lf} {z:t.den} {l:List Lf} {K:List Nat} {r:List Lf},bH [] t ls=some (z,l,K,r)→mr L (facts t.ty K' z (aI t (aL η l)))
 | .sc _,_,_,_,_,_,_=>trivial
 | .arr _ _,_,_,_,_,_,_=>trivial
 | .unit,_,_,_,_,_,_=>trivial
 | .ext _,_,_,_,_,_,_=>trivial
 | .st t,_,_,_,_,_,h=>uB (η:=η) t h
 | .slice t,[],_,_,_,_,h=>by simp [bH] at h
 | .slice t,a::ls,z,l,K,r,h=>by
  simp only [bH] at h
  split at h
  ·rename_i s hs
   simp only [Option.some.injEq,Prod.mk.injEq] at h
   obtain ⟨rfl,rfl,rfl,rfl⟩:=h
   cases a with
   | sl m=>simp [gb,kq] at hs
   | nl=>
    simp only [gb,Option.some.injEq] at hs
    subst hs
    exact ⟨.inr oW,trivial⟩
   | _=>simp [gb] at hs
  ·cases h
 | .pair a b,ls,z,l,K,r,h=>by
  simp only [bH] at h
  split at h
  ·rename_i x1 l1 K1 r1 h1
   split at h
   ·rename_i x2 l2 K2 r2 h2
    simp only [Option.some.injEq,Prod.mk.injEq] at h
    obtain ⟨rfl,rfl,rfl,rfl⟩:=h
    have hn:(aL η l1).length=a.nh:=by simp [aL,dM a h1]
    have e1:aI a (aL η (l1++l2))=aI a (aL η l1):=by
     rw [show aL η (l1++l2)=aL η l1++aL η l2 by simp [aL],dl a _ _ hn]
    have e2:aI b ((aL η (l1++l2)).drop a.nh)=aI b (aL η l2):=by
     rw [show aL η (l1++l2)=aL η l1++aL η l2 by simp [aL],List.drop_append,List.drop_eq_nil_of_le (by omega),show a.nh - (aL η l1).length=0 by omega]
     rfl
    simp only [facts,aI]
    rw [e1,e2]
    exact (uB a h1).append (uB b h2)
   ·cases h
  ·cases h
 | .node,ls,z,l,K,r,h=>by
  obtain ⟨k,tx,m,a,s,rfl,hs,rfl,rfl,rfl⟩:=wb (show By [] ls=_ from h)
  cases a with
  | sl m=>simp [gb,kq] at hs
  | nl=>
   simp only [gb,Option.some.injEq] at hs
   subst hs
   exact ⟨.inr oW,trivial⟩
  | _=>simp [gb] at hs
 | .mp k v,ls,z,l,K,r,h=>by
  cases ls with
  | nil=>simp [bH] at h
  | cons a ls=>
   cases a with
   | mp hh=>
    simp only [bH,Option.some.injEq,Prod.mk.injEq] at h
    obtain ⟨rfl,rfl,rfl,rfl⟩:=h
    exact trivial
   | _=>simp [bH] at h
def zL:Operand→Operand→Bool
 | .tmp a, .tmp b=>Nat.beq a b
 | .const (.int _ a), .const (.int _ b)=>a==b
 | _,_=>false
def Ox (Θ:Tb) (ex:Option Bool) (n N:Nat) (t:TypeId) (x y:Operand) (v1 v2:AV) (k:Out→Option R):Option R:=match Θ t,v1,v2 with
 | some ⟨.slice e,_,_,_,_⟩, .lf (.c (.int _) a), .lf (.c (.int _) _)=>match Θ e with
  | some ie=>match bH [] ie.tc ie.zl with
   | some (z,_,_,[])=>bif Nat.beq ie.sz ie.tc.ty.sz&&Nat.ble 2 N&&zL x y&&Nat.blt e 1048576 then
      gchk ex (decide (0≤a∧a * ie.by_≤281474976710656∧a≤maxLen)) (k ⟨.lf (.sl n),[.own ie.tc e N [] (List.replicate a.toNat z) n],[]⟩) else none
   | _=>none
  | none=>none
 | _,_,_=>none
theorem Re (hΘ:Θ.ok P) {N:Nat} {t:TypeId} {x y:Operand} {v1 v2:AV} (ho:o.op = .makeSlice t x y) (h1:ev E x=some v1) (h2:ev E y=some v2) (k:Out→Option R):aj ex P o E F n (Ox Θ ex n N t x y v1 v2 k) k:=by
 unfold Ox
 split
 ·rename_i e _ _ _ _ k1 a k2 b ht
  split
  ·rename_i ie he
   split
   ·rename_i z l Kz hz
    refine aj.bif fun hc=>aj.gchk fun hb=>aj.of fun hx η ρ hE=>?_
    simp only [Bool.and_eq_true] at hc
    obtain ⟨⟨⟨hsz,hN⟩,hso⟩,hel⟩:=hc
    have e1:=aF hE h1
    have e2:=aF hE h2
    simp only [AV.val,Lf.val] at e1 e2
    have hab:b=a:=by
     unfold zL at hso
     split at hso
     ·obtain rfl:=Nat.eq_of_beq_eq_true hso
      rw [e1] at e2
      simp only [Value.int.injEq] at e2
      exact e2.2.symm
     ·simp only [aK,Value.int.injEq] at e1 e2
      exact e2.2.symm.trans ((eq_of_beq hso).symm.trans e1.2)
     ·cases hso
    subst hab
    obtain ⟨g1,_,g3,g4⟩:=hΘ e ie he
    have hcell:=(cY (η:=η) ie.tc hz).1
    simp only [aq,List.append_nil] at hcell
    refine (vN (K:=[]) ho (hΘ t _ ht).2.1 g1 (Nat.eq_of_beq_eq_true hsz) (v:=z) (r:=aI ie.tc (aL η l)) ?_ (uB ie.tc hz) e1 e2 (hb hx) hN).map (fun hh=>⟨η.setH n hh,η.setH_agr n hh⟩) (fun hh=>?_) fun hh=>?_
    ·rw [g3,← g4 η,hcell]
    ·simp [AV.val,Lf.val,Vn.setH_at]
    ·simp [AF.ha,Vn.setH_at,dw (eh hel)]
   ·exact aj.none
  ·exact aj.none
 ·exact aj.none
def uZ (place:Nat→Option (Nat×Nat)) (ls:List Lf):List (Nat×List Lf)→Option (List Lf)
 | []=>some ls
 | (i,new)::rest=>match place i with
  | none=>none
  | some (off,size)=>match cut off size ls,kU new size with
   | some (a,_,r),some (_,[])=>uZ place (a++new++r) rest
   | _,_=>none
theorem u3 {place:Nat→Option (Nat×Nat)} {η:Vn} : ∀ {vals:List (Nat×List Lf)} {ls ls' : List Lf},uZ place ls vals=some ls' → mR place (aq η ls) (vals.map fun p=>(p.1,aq η p.2))=some (aq η ls')
 | [],ls,ls',h=>by simp only [uZ,Option.some.injEq] at h; subst h; rfl
 | (i,new)::rest,ls,ls',h=>by
  simp only [uZ] at h
  cases hp:place i with
  | none=>rw [hp] at h; cases h
  | some os=>
   obtain ⟨off,size⟩:=os
   rw [hp] at h
   simp only at h
   split at h
   ·rename_i a m r q hc hs
    obtain ⟨e,hl⟩:=tY hc
    obtain ⟨l1,l2⟩:=hl η
    obtain ⟨e2,l3⟩:=il hs
    rw [List.append_nil] at e2
    subst e2
    have l3:=l3 η
    have ih:=u3 (η:=η) h
    simp only [List.map_cons,mR,hp]
    have hb:(Nat.beq (aq η new).length size&&Nat.ble (off+(aq η new).length) (aq η ls).length)=true:=by
     rw [Bool.and_eq_true]
     refine ⟨by simp [l3],Nat.ble_eq_true_of_le ?_⟩
     rw [e,aR,aR]
     simp only [List.length_append]
     omega
    rw [hb,cond_true]
    rw [aR,aR] at ih
    rw [← ih]
    congr 2
    ·congr 1
     rw [e,aR,aR,List.append_assoc,List.take_append,List.take_of_length_le (by omega),show off - (aq η a).length=0 by omega]
     simp
    ·rw [e,aR,aR,List.append_assoc,List.drop_append,List.drop_eq_nil_of_le (by omega),List.nil_append,List.drop_append,List.drop_eq_nil_of_le (by omega),List.nil_append,
      show off+(aq η new).length - (aq η a).length - (aq η m).length=0 by omega,List.drop_zero]
   ·cases h
def qP (E:SE):List (Nat×Operand)→Option (List (Nat×List Lf))
 | []=>some []
 | (i,x)::r=>match ev E x with
  | some v=>match v.lvs,qP E r with
   | some ls,some l=>some ((i,ls)::l)
   | _,_=>none
  | none=>none
theorem nF {η:Vn} {ρ:cF} (hE:kH η ρ E) : ∀ {ps:List (Nat×Operand)} {l:List (Nat×List Lf)},qP E ps=some l→ps.map (fun p=>(p.1,(aK ρ p.2).cells.toList))=l.map fun p=>(p.1,aq η p.2)
 | [],l,h=>by simp only [qP,Option.some.injEq] at h; subst h; rfl
 | (i,x)::r,l,h=>by
  simp only [qP] at h
  split at h
  ·rename_i v hv
   split at h
   ·rename_i ls l' hl hr
    simp only [Option.some.injEq] at h
    subst h
    simp only [List.map_cons,nF hE hr,aF hE hv,v.lvs_cells hl η]
   ·cases h
  ·cases h
def PJ (Θ:Tb):List (TypeId×Nat)→Option (List (Nat×Nat))
 | []=>some []
 | (t,off)::r=>match Θ t,PJ Θ r with
  | some i,some l=>some ((off,i.sz)::l)
  | _,_=>none
theorem QH (hΘ:Θ.ok P) : ∀ {Fd:List Field} {l:List (Nat×Nat)},PJ Θ (Fd.map fun f=>(f.type,f.offset))=some l→Lm P Fd l
 | [],l,h=>by simp only [List.map_nil,PJ,Option.some.injEq] at h; subst h; trivial
 | f::r,l,h=>by
  simp only [List.map_cons,PJ] at h
  split at h
  ·rename_i i l' hi hr
   simp only [Option.some.injEq] at h
   subst h
   exact ⟨rfl,⟨_,_,(hΘ _ _ hi).1⟩,QH hΘ hr⟩
  ·cases h
def rr {s:SC} (m:Nat):List s.den→List (Nat×List Lf)→Option (List s.den)
 | xs,[]=>some xs
 | xs,(i,[.c s' v])::r=>if h:s' = s then bif Nat.blt i m then rr m (xs.set i (zE h v)) r else none else none
 | _,_=>none
theorem Cc {s:SC} {m:Nat} {η:Vn} : ∀ {vals:List (Nat×List Lf)} {xs ys:List s.den},rr m xs vals=some ys→xs.length=m→mR (fun j=>some (j * 1,1)) ((TC.arr m s).ty.fill xs ()) (vals.map fun p=>(p.1,aq η p.2))=some ((TC.arr m s).ty.fill ys ())
 | [],xs,ys,h,_=>by simp only [rr,Option.some.injEq] at h; subst h; rfl
 | (i,ls)::r,xs,ys,h,hl=>by
  cases ls with
  | nil=>simp [rr] at h
  | cons a ls=>
   cases ls with
   | cons _ _=>cases a <;> simp [rr] at h
   | nil=>
    cases a <;> simp only [rr] at h <;> try cases h
    split at h
    ·rename_i he
     subst he
     rename_i sc v
     cases hb:Nat.blt i m
     ·rw [hb] at h; cases h
     ·rw [hb] at h
      simp only [cond_true] at h
      have hi:i<m:=Nat.le_of_ble_eq_true hb
      have ih:=Cc (η:=η) h (by simpa using hl)
      simp only [List.map_cons,mR,aq,Lf.cells,List.append_nil,List.length_singleton]
      have hb2:(Nat.beq 1 1&&Nat.ble (i * 1+1) ((TC.arr m sc).ty.fill xs ()).length)=true:=by
       rw [Bool.and_eq_true]
       refine ⟨rfl,Nat.ble_eq_true_of_le ?_⟩
       rw [Ty.fill_length]
       show i * 1+1≤m
       omega
      rw [hb2,cond_true,← ih]
      congr 1
      apply List.ext_getElem?
      intro j
      simp only [Ty.fill,zE,List.getElem?_append,List.length_append,List.length_take,List.length_map,List.length_range,List.length_singleton]
      rw [Nat.mul_one,Nat.min_eq_left (show i≤m by omega)]
      by_cases c1:j<i
      ·simp [c1,show j<i+1 by omega,show j<m by omega,List.getElem?_set,show i≠j by omega]
      ·by_cases c2:j=i
       ·subst c2; simp [hi,List.getElem?_set,hl]
       ·simp only [c1,show ¬ j<i+1 by omega,if_false,List.getElem?_drop,show i+1+(j - (i+1))=j by omega]
        by_cases c3:j<m
        ·simp [c3,List.getElem?_set,show i≠j by omega]
        ·simp [c3]
    ·cases h
def EO (Θ:Tb) (E:SE) (t:TypeId) (ps:Array (Nat×Operand)) (k:Out→Option R):Option R:=match Θ t,qP E ps.toList with
 | some ⟨.st fs,_,_,zl,_⟩,some vals=>match PJ Θ fs with
  | some pl=>match uZ (fun j=>pl[j]?) zl vals with
   | some ls=>k (bc (.ag ls))
   | none=>none
  | none=>none
 | some ⟨.arr m e,_,_,[.ar m' s z],_⟩,some vals=>match Θ e with
  | some ie=>match rr m (List.replicate m s.dft) vals with
   | some ys=>bif Nat.beq m m' && z.isEmpty&&Nat.beq ie.sz 1 then k (bc (.lf (.ar m s ys))) else none
   | none=>none
  | none=>none
 | _,_=>none
theorem P6 (hΘ:Θ.ok P) {t:TypeId} {ps:Array (Nat×Operand)} (ho:o.op = .build t ps) (k:Out→Option R):aj ex P o E F n (EO Θ E t ps k) k:=by
 unfold EO
 split
 ·rename_i fs _ _ zl _ vals ht hp
  split
  ·rename_i pl hpl
   split
   ·rename_i ls hls
    refine aj.of fun hx=>(cS.pure fun η ρ hE=>?_)
    obtain ⟨g1,⟨Fd,g2,g5⟩,g3,g4⟩:=hΘ t _ ht
    subst g5
    refine Ar ho g2 g1 (QH hΘ hpl) (nF hE hp) ?_
    have:=u3 (η:=η) hls
    rw [g3,← g4 η]
    exact this
   ·exact aj.none
  ·exact aj.none
 ·rename_i m e _ _ m' s z _ vals ht hp
  split
  ·rename_i ie he
   split
   ·rename_i ys hys
    refine aj.bif fun hc=>aj.of fun hx=>(cS.pure fun η ρ hE=>?_)
    simp only [Bool.and_eq_true] at hc
    obtain ⟨⟨hm,hz⟩,hs1⟩:=hc
    obtain rfl:=Nat.eq_of_beq_eq_true hm
    obtain ⟨g1,g2,g3,g4⟩:=hΘ t _ ht
    have hti:=(hΘ e ie he).1
    rw [Nat.eq_of_beq_eq_true hs1] at hti
    refine Co ho g2 g1 hti (nF hE hp) ?_
    have:=Cc (η:=η) hys (by simp)
    rw [g3,← g4 η]
    have hz' : z=[]:=List.isEmpty_iff.1 hz
    subst hz'
    have e0:aq η [Lf.ar m s []]=(TC.arr m s).ty.fill (List.replicate m s.dft) ():=by
     simp only [aq,Lf.cells,List.append_nil,Ty.fill]
     apply List.ext_getElem?
     intro j
     by_cases hj:j<m
     ·simp [hj,List.getElem?_replicate]
     ·simp [hj]
    rw [e0]
    exact this
   ·exact aj.none
  ·exact aj.none
 ·exact aj.none
end
end
end Go.Sm
namespace Go.Sm
set_option linter.unusedSectionVars false
section
variable [X:XTab] [G:GTab]
section
variable {R:Type} {P:Program} {o:Oper} {E:SE} {F:List AF} {n:Nat} {Θ:Tb} {ex:Option Bool}
def Bc (Θ:Tb) (t:TypeId) (f:Nat) (v:AV) (k:Out→Option R):Option R:=match Θ t,v with
 | some ⟨.st fs,_,_,_,_⟩, .ag ls=>match fs[f]? with
  | some (ft,off)=>match Θ ft with
   | some i=>match cut off i.sz ls with
    | some (_,m,_)=>match Ca i.d.agg m with
     | some u=>k (bc u)
     | none=>none
    | none=>none
   | none=>none
  | none=>none
 | _,_=>none
theorem Qn {off sz:Nat} {cs a m r:List Lf} (h:cut off sz cs=some (a,m,r)) (η:Vn):((aq η cs).drop off).take sz=aq η m∧(aq η m).length=sz:=by
 obtain ⟨e,hl⟩:=tY h
 obtain ⟨l1,l2⟩:=hl η
 refine ⟨?_,l2⟩
 rw [e,aR,aR,List.append_assoc,List.drop_append,List.drop_eq_nil_of_le (by omega),show off - (aq η a).length=0 by omega,List.drop_zero,List.nil_append,List.take_append,List.take_of_length_le (by omega),
  show sz - (aq η m).length=0 by omega,List.take_zero,List.append_nil]
theorem L8 (hΘ:Θ.ok P) {t:TypeId} {x:Operand} {f:Nat} {v:AV} (ho:o.op = .field t x f) (h1:ev E x=some v) (k:Out→Option R):aj ex P o E F n (Bc Θ t f v k) k:=by
 unfold Bc
 split
 ·rename_i fs _ _ _ _ ls ht
  split
  ·rename_i ft off hf
   split
   ·rename_i i hi
    split
    ·rename_i a m r hc
     split
     ·rename_i u hu
      refine aj.of fun hx=>(cS.pure fun η ρ hE=>?_)
      obtain ⟨Fd,hs,hm⟩:=(hΘ t _ ht).2.1
      obtain ⟨fd,hfd,hft,hoff⟩:=BV hm hf
      obtain ⟨g1,g2,_,_⟩:=hΘ ft i hi
      obtain ⟨td,hut,hd⟩:=kY g2
      rw [← hft] at g1 hut
      obtain ⟨hcell,l2⟩:=Qn hc η
      have he:=aF hE h1
      simp only [AV.val] at he
      cases hag:i.d.agg
      ·rw [hag] at hu hd
       obtain ⟨l,rfl,rfl,hl1⟩:=wN hu η
       refine Vk ho hs hfd hut hd he ?_
       have h5:aq η [l]=[(AV.lf l).val η]:=by simp [aq,hl1]
       rw [h5] at hcell l2
       have:=congrArg (·[0]?) hcell
       simp only [List.getElem?_take,List.getElem?_drop,Nat.add_zero,List.length_singleton] at this l2
       rw [hoff]
       simpa [← l2] using this
      ·rw [hag] at hu hd
       rw [w8 hu η]
       refine Ra ho hs hfd hut hd g1 he ?_
       rw [hoff]; exact hcell
     ·exact aj.none
    ·exact aj.none
   ·exact aj.none
  ·exact aj.none
 ·exact aj.none
def Bm (Θ:Tb) (ex:Option Bool) (t:TypeId) (v:AV) (i:Int) (k:Out→Option R):Option R:=match Θ t,v with
 | some ⟨.str,_,_,_,_⟩, .lf (.c .str s)=>gbind ex 0 (ac s i) fun b=>k (bc (eZ .u8 (b.toNat:Int)))
 | some ⟨.arr m e,_,_,_,_⟩, .lf (.ar m' s x)=>match Θ e with
  | some ie=>bif Nat.beq ie.sz 1&&Nat.beq m m' && !ie.d.agg then gchk ex (decide (0≤i∧i<m')) (k (bc (.lf (.c s (List.getD (α:=s.den) x i.toNat s.dft))))) else none
  | none=>none
 | _,_=>none
theorem NE (hΘ:Θ.ok P) {t:TypeId} {x y:Operand} {ki:IntKind} {i:Int} {v:AV} (ho:o.op = .index t x y) (h1:ev E x=some v) (h2:ev E y=some (eZ ki i)) (k:Out→Option R):aj ex P o E F n (Bm Θ ex t v i k) k:=by
 unfold Bm
 split
 ·rename_i _ _ _ _ s ht
  exact aj.gbind fun b hb=>aj.of fun hx=>(cS.pure fun η ρ hE=>Iqw ho (hΘ t _ ht).2.1 (aF hE h1) (aF hE h2) (hb hx))
 ·rename_i m e _ _ _ _ m' s xs ht
  split
  ·rename_i ie he
   refine aj.bif fun hc=>aj.gchk fun hb=>aj.of fun hx=>(cS.pure fun η ρ hE=>?_)
   simp only [Bool.and_eq_true,Bool.not_eq_true'] at hc
   obtain ⟨⟨hs1,hm⟩,hag⟩:=hc
   obtain rfl:=Nat.eq_of_beq_eq_true hm
   obtain ⟨g1,g2,_,_⟩:=hΘ e ie he
   obtain ⟨td,hut,hd⟩:=kY g2
   rw [hag] at hd
   rw [Nat.eq_of_beq_eq_true hs1] at g1
   exact IK ho (hΘ t _ ht).2.1 hut hd g1 (aF hE h1) (aF hE h2) (hb hx)
  ·exact aj.none
 ·exact aj.none
def yD (v:AV) (i:Nat) (k:Out→Option R):Option R:=match v with
 | .tu vs=>match vs[i]? with
  | some u=>k (bc u)
  | none=>none
 | _=>none
theorem GQ {η:Vn} : ∀ {vs:List AV} {i:Nat} {u:AV},vs[i]? = some u→(AV.vals η vs)[i]? = some (u.val η)
 | [],_,_,h=>by simp at h
 | v::r,0,u,h=>by simp at h; subst h; simp [AV.vals]
 | v::r,i+1,u,h=>by simp at h; simp [AV.vals,GQ h]
theorem IF {x:Operand} {i:Nat} {v:AV} (ho:o.op = .extract x i) (h1:ev E x=some v) (k:Out→Option R):aj ex P o E F n (yD v i k) k:=by
 unfold yD
 split
 ·rename_i vs
  split
  ·rename_i u hu
   refine aj.of fun hx=>(cS.pure fun η ρ hE=>?_)
   have he:=aF hE h1
   simp only [AV.val] at he
   exact Qc ho he (GQ hu)
  ·exact aj.none
 ·exact aj.none
def NU (Θ:Tb) (s d:TypeId) (v:AV) (k:Out→Option R):Option R:=match Θ s,Θ d,v with
 | some ⟨.int _,_,_,_,_⟩,some ⟨.int kd,_,_,_,_⟩, .lf (.c (.int _) a)=>k (bc (eZ kd (w_ kd a)))
 | some ⟨.str,_,_,_,_⟩,some ⟨.str,_,_,_,_⟩, .lf (.c .str a)=>k (bc (uP a))
 | _,_,_=>none
theorem T0 (hΘ:Θ.ok P) {s d:TypeId} {x:Operand} {v:AV} (ho:o.op = .convert s d x) (h1:ev E x=some v) (k:Out→Option R):aj ex P o E F n (NU Θ s d v k) k:=by
 unfold NU
 split
 ·rename_i ks _ _ _ _ kd _ _ _ _ kk a hs hd
  refine aj.of fun hx=>(cS.pure fun η ρ hE=>?_)
  simp only [AV.val,Lf.val,LQ]
  exact abO ho (hΘ s _ hs).2.1 (hΘ d _ hd).2.1 (aF hE h1)
 ·rename_i _ _ _ _ _ _ _ _ a hs hd
  refine aj.of fun hx=>(cS.pure fun η ρ hE ev w c he _=>?_)
  have hs' := (hΘ s _ hs).2.1
  have hd' := (hΘ d _ hd).2.1
  have h2:=aF hE h1
  subst he
  simp only [AV.val,Lf.val] at h2 ⊢
  simp [execOp,ho,h2,convert,run_underlying hs',run_underlying hd',Result.andThen]
 ·exact aj.none
def sUn (op:UnOp) (v:AV) (k:Out→Option R):Option R:=match op,v with
 | .not, .lf (.c .bool b)=>k (bc (dI (!b)))
 | .neg, .lf (.c (.int kk) a)=>k (bc (eZ kk (w_ kk (0 - a))))
 | .xor, .lf (.c (.int kk) a)=>k (bc (eZ kk (mH .xor kk (if kk.signed then -1 else kk.max) a)))
 | _,_=>none
theorem adr {op:UnOp} {t:TypeId} {x:Operand} {v:AV} (ho:o.op = .unOp op t x) (h1:ev E x=some v) (k:Out→Option R):aj ex P o E F n (sUn op v k) k:=by
 unfold sUn
 split
 ·exact aj.of fun hx=>(cS.pure fun η ρ hE=>aem ho (aF hE h1))
 ·refine aj.of fun hx=>(cS.pure fun η ρ hE=>?_)
  simp only [AV.val,Lf.val,LQ]
  exact adP ho (aF hE h1)
 ·refine aj.of fun hx=>(cS.pure fun η ρ hE ev w c he _=>?_)
  have h:=aF hE h1
  simp only [AV.val,Lf.val] at h ⊢
  subst he
  simp [execOp,ho,h,Op.unary,Op.intBits,mH,Result.andThen]
 ·exact aj.none
def FG (Θ:Tb) (E:SE) (ex:Option Bool) (n:Nat) (t:TypeId) (l:Lf) (lo hi:Option Operand) (F:List AF) (k:Out→Option R):Option R:=match Θ t with
 | some ⟨.slice e,_,_,_,_⟩=>match Θ e with
  | some ie=>bif Nat.beq ie.sz ie.tc.ty.sz then match lo,hi with
   | none,some h=>match eN ie.tc e 0 F l,ev E h with
    | some (ci,K,xs),some (.lf (.c (.int _) j))=>bif Nat.ble 2 ci&&Nat.blt e 1048576 then gchk ex (decide (0≤j∧j≤xs.length)) (k ⟨.lf (.sl n),[.own ie.tc e ci K (xs.take j.toNat) n],[]⟩) else none
    | none,some (.lf (.c (.int _) j))=>match gb ie.tc F l with
     | some s=>gchk ex (decide (0≤(0:Int)∧0≤j∧j≤s.xs.length)) (k ⟨.lf (.sl n),[.rep ie.tc s.all ((s.xs.take j.toNat).drop (0:Int).toNat) n],[]⟩)
     | none=>none
    | _,_=>none
   | some h0,none=>match gb ie.tc F l,ev E h0 with
    | some s,some (.lf (.c (.int _) i))=>gchk ex (decide (0≤i∧i≤(s.xs.length:Int)∧(s.xs.length:Int)≤s.xs.length)) (k ⟨.lf (.sl n),[.rep ie.tc s.all ((s.xs.take (s.xs.length:Int).toNat).drop i.toNat) n],[]⟩)
    | _,_=>none
   | some h0,some h=>match gb ie.tc F l,ev E h0,ev E h with
    | some s,some (.lf (.c (.int _) i)),some (.lf (.c (.int _) j))=>gchk ex (decide (0≤i∧i≤j∧j≤s.xs.length)) (k ⟨.lf (.sl n),[.rep ie.tc s.all ((s.xs.take j.toNat).drop i.toNat) n],[]⟩)
    | _,_,_=>none
   | none,none=>none
   else none
  | none=>none
 | _=>none
theorem Qr (hΘ:Θ.ok P) {t:TypeId} {x:Operand} {l:Lf} {lo hi:Option Operand} (ho:o.op = .slice t x lo hi none) (h1:ev E x=some (.lf l)) (k:Out→Option R):aj ex P o E F n (FG Θ E ex n t l lo hi F k) k:=by
 have key : ∀ {e:TypeId} {ie:TInf} {s:SI ie.tc} {i j:Int} {klo khi:IntKind},P.underlying t=some (.slice e)→Θ e=some ie→Nat.beq ie.sz ie.tc.ty.sz=true→gb ie.tc F l=some s →
   (∀ η ρ,kH η ρ E→lo.elim (i=0) (fun q=>aK ρ q = .int klo i))→(∀ η ρ,kH η ρ E→hi.elim (j=s.xs.length) (fun q=>aK ρ q = .int khi j))→decide (0≤i∧i≤j∧j≤s.xs.length)=true →
   Hg P o E F n ⟨.lf (.sl n),[.rep ie.tc s.all ((s.xs.take j.toNat).drop i.toNat) n],[]⟩:=by
  intro e ie s i j klo khi ht he hsz hs hlo hhi hb η ρ hE
  have h2:=aF hE h1
  simp only [AV.val] at h2
  rw [(ln hs η).1] at h2
  have:=(ux (o:=o) (ρ:=ρ) (L:=.rep ie.tc.ty s.all s.xs (l.hd η)::F.map (AF.ha η)) (klo:=klo) (khi:=khi) 0 rfl ho ht (hΘ e ie he).1 (Nat.eq_of_beq_eq_true hsz) h2 (hlo η ρ hE) (hhi η ρ hE) hb).from (fun w c hH=>ai.cons (iN hs hH) hH)
  refine this.map (fun _=>⟨η.setH n ((l.hd η).cut i.toNat j.toNat ie.sz),η.setH_agr n _⟩) (fun _=>?_) fun _=>?_
  ·simp [AV.val,Lf.val,Vn.setH_at]
  ·simp [AF.ha,Vn.setH_at]
 unfold FG
 split
 ·rename_i e _ _ _ _ ht
  have ht' : P.underlying t=some (.slice e):=(hΘ t _ ht).2.1
  split
  ·rename_i ie he
   refine aj.bif fun hsz=>?_
   split
   ·rename_i hlo h
    split
    ·rename_i ci K xs kk j hs hj
     refine aj.bif fun hce=>aj.gchk fun hb=>aj.of fun hx η ρ hE=>?_
     have hel:Nat.blt e 1048576=true:=by
      simp only [Bool.and_eq_true] at hce
      exact hce.2
     have h2:=aF hE h1
     simp only [AV.val] at h2
     rw [lS hs η] at h2
     have:=(HE (o:=o) (ρ:=ρ) (L:=.own ie.tc.ty e ci K xs (l.hd η)::F.map (AF.ha η)) 0 rfl ho ht' (hΘ e ie he).1 (Nat.eq_of_beq_eq_true hsz) h2 (aF hE hj) (hb hx)).from (fun w c hH=>ai.cons (by
      have:=eC hs hH
      rwa [dw (eh hel)] at this) hH)
     refine this.map (fun _=>⟨η.setH n ((l.hd η).cut 0 j.toNat ie.sz),η.setH_agr n _⟩) (fun _=>?_) fun _=>?_
     ·simp [AV.val,Lf.val,Vn.setH_at]
     ·simp [AF.ha,Vn.setH_at,dw (eh hel)]
    ·rename_i kk j _ hj
     split
     ·rename_i s hs
      exact aj.gchk fun hb=>aj.of fun hx=>key (klo:=.i64) ht' he hsz hs (fun _ _ _=>rfl) (fun η ρ hE=>aF hE hj) (hb hx)
     ·exact aj.none
    ·exact aj.none
   ·rename_i h0
    split
    ·rename_i s kk i hs hi0
     exact aj.gchk fun hb=>aj.of fun hx=>key (khi:=.i64) ht' he hsz hs (fun η ρ hE=>aF hE hi0) (fun _ _ _=>rfl) (hb hx)
    ·exact aj.none
   ·rename_i h0 h
    split
    ·rename_i s k1 i k2 j hs hi0 hj
     exact aj.gchk fun hb=>aj.of fun hx=>key ht' he hsz hs (fun η ρ hE=>aF hE hi0) (fun η ρ hE=>aF hE hj) (hb hx)
    ·exact aj.none
   ·exact aj.none
  ·exact aj.none
 ·exact aj.none
def Bu (F:List AF) (t:TC):Nat→List Lf→Option (List t.den×List (List Lf)×List Nat)
 | 0,[]=>some ([],[],[])
 | 0,_::_=>none
 | m+1,ls=>match bH F t ls with
  | some (x,l,K,r)=>match Bu F t m r with
   | some (xs,ll,K2)=>some (x::xs,l::ll,K++K2)
   | none=>none
  | none=>none
theorem Kj {t:TC} {η:Vn} : ∀ {m:Nat} {ls:List Lf} {xs:List t.den} {ll:List (List Lf)} {K:List Nat},Bu F t m ls=some (xs,ll,K) →
  xs.length=m∧ll.length=m∧aq η ls=cellsOf t.ty xs (ll.map fun l=>aI t (aL η l)) ∧
  ∀ (w:World) (c:bd) (K' : List Nat),ai w c (F.map (AF.ha η))→(∀ k∈K,k∈K')→bK (bA w (fun b=>c b∈K') t.ty) xs (ll.map fun l=>aI t (aL η l))
 | 0,[],xs,ll,K,h=>by
  simp only [Bu,Option.some.injEq,Prod.mk.injEq] at h
  obtain ⟨rfl,rfl,rfl⟩:=h
  exact ⟨rfl,rfl,rfl,fun _ _ _ _ _=>trivial⟩
 | 0,_::_,xs,ll,K,h=>by simp [Bu] at h
 | m+1,ls,xs,ll,K,h=>by
  simp only [Bu] at h
  split at h
  ·rename_i x l K1 r h1
   split at h
   ·rename_i xs' ll' K2 h2
    simp only [Option.some.injEq,Prod.mk.injEq] at h
    obtain ⟨rfl,rfl,rfl⟩:=h
    obtain ⟨c1,f1⟩:=cY (η:=η) t h1
    obtain ⟨e1,e2,c2,f2⟩:=Kj (η:=η) h2
    refine ⟨by simp [e1],by simp [e2],?_,fun w c K' hF hK=>⟨?_,?_⟩⟩
    ·simp only [List.map_cons,cellsOf]
     rw [c1,c2]
    ·exact f1 w c K' hF fun k hk=>hK k (List.mem_append_left _ hk)
    ·exact f2 w c K' hF fun k hk=>hK k (List.mem_append_right _ hk)
   ·cases h
  ·cases h
def AH (ls:List Lf):Nat→List Lf
 | 0=>[]
 | m+1=>ls++AH ls m
def AY (Θ:Tb) (E:SE) (n N:Nat) (t:TypeId) (m:Nat) (ps:Array (Nat×Operand)) (F:List AF) (k:Out→Option R):Option R:=match Θ t with
 | some ⟨.slice e,_,_,_,_⟩=>match Θ e,qP E ps.toList with
  | some ie,some vals=>match m with
   | 0=>bif vals.isEmpty&&Nat.ble 2 N&&Nat.blt e 1048576 then k ⟨.lf (.sl n),[.own ie.tc e N [] [] n],[]⟩ else none
   | m+1=>match uZ (fun i=>some (i * ie.sz,ie.sz)) (AH ie.zl (m+1)) vals with
    | some ls=>match Bu F ie.tc (m+1) ls,kU ie.zl ie.sz with
     | some (xs,_,K),some (_,[])=>bif Nat.beq ie.sz ie.tc.ty.sz&&Nat.ble 2 N&&Nat.ble ((m+1) * ie.sz) 16777216&&Nat.ble 1 ie.sz&&Nat.blt e 1048576 then k ⟨.lf (.sl n),[.own ie.tc e N K xs n],[]⟩ else none
     | _,_=>none
    | none=>none
  | _,_=>none
 | _=>none
theorem uH {η:Vn} {ls:List Lf} : ∀ m:Nat,aq η (AH ls m)=(List.range (m * (aq η ls).length)).map (fun j=>(aq η ls).getD (j % (aq η ls).length) default)
 | 0=>by simp [AH,aq]
 | m+1=>by
  have ih:=uH (η:=η) (ls:=ls) m
  simp only [AH,aR,ih]
  rw [show (m+1) * (aq η ls).length=(aq η ls).length+m * (aq η ls).length by rw [Nat.add_mul]; omega,List.range_add,List.map_append]
  congr 1
  ·apply List.ext_getElem?
   intro j
   by_cases hj:j<(aq η ls).length
   ·simp [hj,Nat.mod_eq_of_lt hj]
   ·simp [hj]
  ·simp only [List.map_map]
   apply List.map_congr_left
   intro j _
   simp [Nat.add_mod_left]
theorem LW (hΘ:Θ.ok P) {N:Nat} {t:TypeId} {m:Nat} {ps:Array (Nat×Operand)} (ho:o.op = .buildSlice t m ps) (k:Out→Option R):aj ex P o E F n (AY Θ E n N t m ps F k) k:=by
 unfold AY
 split
 ·rename_i e _ _ _ _ ht
  have ht' : P.underlying t=some (.slice e):=(hΘ t _ ht).2.1
  split
  ·rename_i ie vals he hp
   split
   ·refine aj.bif fun hc=>aj.of fun hx η ρ hE=>?_
    simp only [Bool.and_eq_true] at hc
    have hv:vals=[]:=List.isEmpty_iff.1 hc.1.1
    have hps:ps = #[]:=by
     have:=nF (η:=η) hE hp
     rw [hv] at this
     simp only [List.map_nil,List.map_eq_nil_iff] at this
     simpa using this
    refine (Ao (K:=[]) (ty:=ie.tc.ty) ho ht' (hΘ e ie he).1 hps hc.1.2).map (fun hh=>⟨η.setH n hh,η.setH_agr n hh⟩) (fun hh=>?_) fun hh=>?_
    ·simp [AV.val,Lf.val,Vn.setH_at]
    ·simp [AF.ha,Vn.setH_at,dw (eh hc.2)]
   ·rename_i m
    split
    ·rename_i ls hls
     split
     ·rename_i xs ll K q hd hcut
      refine aj.bif fun hc=>aj.of fun hx η ρ hE=>?_
      simp only [Bool.and_eq_true] at hc
      obtain ⟨⟨⟨⟨hsz,hN⟩,hsm⟩,h1⟩,hel⟩:=hc
      obtain ⟨g1,_,g3,g4⟩:=hΘ e ie he
      obtain ⟨e2,l3⟩:=il hcut
      rw [List.append_nil] at e2
      subst e2
      have l3:=l3 η
      obtain ⟨d1,d2,d3,d4⟩:=Kj (η:=η) hd
      have hpos:=Nat.le_of_ble_eq_true h1
      have hH' : ∀ w c,ai w c (F.map (AF.ha η))→ai w c (rH ie.tc.ty K xs (ll.map fun l=>aI ie.tc (aL η l))++F.map (AF.ha η)):=by
       intro w c hH
       refine ai.append ?_ hH
       have hr:=d4 w c K hH (fun _ hk=>hk)
       clear d1 d2 d3 d4 hd hls
       revert hr
       generalize (ll.map fun l=>aI ie.tc (aL η l))=ys
       intro hr
       induction xs generalizing ys with
       | nil=>cases ys <;> exact ai.nil _ _
       | cons x xs ih=>
        cases ys with
        | nil=>exact ai.nil _ _
        | cons y ys=>exact (nz ie.tc.ty x y hr.1).append (ih ys hr.2)
      have hpaid:mr (rH ie.tc.ty K xs (ll.map fun l=>aI ie.tc (aL η l))++F.map (AF.ha η)) (rH ie.tc.ty K xs (ll.map fun l=>aI ie.tc (aL η l))):=by
       have gen : ∀ (A B:List HA),(∀ a∈A,a∈B)→mr B A:=by
        intro A B
        induction A with
        | nil=>intro _; trivial
        | cons a A ih=>
         intro h
         obtain ⟨j,hj⟩:=List.mem_iff_getElem?.1 (h a List.mem_cons_self)
         exact ⟨.inl ⟨j,a,hj,su⟩,ih fun b hb=>h b (List.mem_cons_of_mem _ hb)⟩
       exact gen _ _ fun a ha=>List.mem_append_left _ ha
      have hfill:=u3 (η:=η) hls
      rw [uH,l3] at hfill
      have hzc:ie.zv.cells.toList=aq η ie.zl:=by rw [g3,← g4 η]
      refine ((ve (cells:=aq η ls) (ty:=ie.tc.ty) (K:=K) (xs:=xs) (ys:=ll.map fun l=>aI ie.tc (aL η l)) ho ht' g1 (Nat.eq_of_beq_eq_true hsz) hsm ?_ (nF hE hp) ?_ (by simp [d1]) (by simp [d2]) d3.symm hpaid hN).from hH').map (fun hh=>⟨η.setH n hh,η.setH_agr n hh⟩) (fun hh=>?_) fun hh=>?_
      ·refine Nat.ble_eq_true_of_le ?_
       have:1 * 1≤(m+1) * ie.sz:=Nat.mul_le_mul (by omega) hpos
       omega
      ·rw [hzc,l3]; exact hfill
      ·simp [AV.val,Lf.val,Vn.setH_at]
      ·simp [AF.ha,Vn.setH_at,dw (eh hel)]
     ·exact aj.none
    ·exact aj.none
  ·exact aj.none
 ·exact aj.none
end
end
end Go.Sm
