/- Laws for the row. No condition. -/
import Derived.Test.YtfhhiajfciblbaaGreatDoorRfD
namespace Go.Sm
set_option linter.unusedSectionVars false
variable {t:TypeId} {x ix y:Operand} {i:Int} {K Kd:List Nat} {ki:IntKind} {P:Program} {o:Oper} {n h N:Nat}
section
variable [X:XTab] [G:GTab]
theorem c9.from {ρ:dm}  {L L' : List HA} {κ:List Nat} {Y:Type} {val:Y→Value} {Φ:Y→List HA} (h:c9 P ρ o L' κ val Φ) (hL : ∀ w c,am w c L→am w c L'):c9 P ρ o L κ val Φ:=
 fun a ev w c next Q ha hH hk=>h a ev w c next Q ha (hL w c hH) hk
theorem br.from {ρ:dm}  {L L' : List HA} {v:Value} (h:br P ρ o L' v) (hL : ∀ w c,am w c L→am w c L'):br P ρ o L v:=
 fun ev w c he hH=>h ev w c he (hL w c hH)
def Pa.comp : {t u v:TC}→Pa t u→Pa u v→Pa t v
 | _,_,_, .here,q=>q
 | _,_,_, .fst p,q=>.fst (p.comp q)
 | _,_,_, .snd p,q=>.snd (p.comp q)
 | _,_,_, .inn p,q=>.inn (p.comp q)
 | _,_,_, .nd p,q=>.nd (p.comp q)
 | _,_,_, .el j, .here=>.el j
theorem Pa.comp_off : {t u v:TC}→(p:Pa t u)→(q:Pa u v)→(p.comp q).off=p.off+q.off
 | _,_,_, .here,q=>by simp [Pa.comp,Pa.off]
 | _,_,_, .fst p,q=>by simp [Pa.comp,Pa.off,p.comp_off q]
 | _,_,_, .snd p,q=>by simp [Pa.comp,Pa.off,p.comp_off q]; omega
 | _,_,_, .inn p,q=>by simp [Pa.comp,Pa.off,p.comp_off q]
 | _,_,_, .nd p,q=>by simp [Pa.comp,Pa.off,p.comp_off q]
 | _,_,_, .el j, .here=>by rfl
def Pa.get : {t u:TC}→Pa t u→t.den→u.den
 | _,_, .here,x=>x
 | _,_, .fst p,x=>p.get x.1
 | _,_, .snd p,x=>p.get x.2
 | _,_, .inn p,x=>p.get x
 | _,_, .nd p,x=>p.get (Nd.tup x)
 | _,_,@Pa.el _ s j,x=>List.getD (α:=s.den) x j.toNat s.dft
def Pa.put : {t u:TC}→Pa t u→t.den→u.den→t.den
 | _,_, .here,_,y=>y
 | _,_, .fst p,x,y=>(p.put x.1 y,x.2)
 | _,_, .snd p,x,y=>(x.1,p.put x.2 y)
 | _,_, .inn p,x,y=>p.put x y
 | _,_, .nd p,x,y=>Nd.of (p.put (Nd.tup x) y)
 | _,_,@Pa.el n s j,x,y=>pO (α:=s.den) n s.dft x j.toNat y
def Pa.needs : {t u:TC}→Pa t u→Option Bool
 | _,_, .here=>none
 | _,_, .fst p=>p.needs
 | _,_, .snd p=>p.needs
 | _,_, .inn p=>p.needs
 | _,_, .nd p=>p.needs
 | _,_,@Pa.el n _ j=>some (decide (0≤j∧j<n))
def Pa.fine {t u:TC} (p:Pa t u):Prop:=∀ b,p.needs=some b→b=true
def nchk {R:Type} (ex:Option Bool) (b:Option Bool) (m:Option R):Option R:=match b with
 | none=>m
 | some b=>gchk ex b m
theorem ao.nchk {R:Type} {E:SE} {F:List AF}  {k:Out→Option R} {ex:Option Bool} {b:Option Bool} {m:Option R} (h:(gi ex→∀ c,b=some c→c=true)→ao ex P o E F n m k):ao ex P o E F n (nchk ex b m) k:=by
 cases b with
 | none=>exact h fun _ _ h=>by cases h
 | some c=>exact ao.gchk fun hc=>h fun hx d hd=>by grind
theorem Ah {L:List HA} {K:List Nat} {h:Hd} : {t u:TC}→(p:Pa t u)→{v:t.den}→{x:Nat}→El L t.ty K v h x→p.fine→El L u.ty K (p.get v) h (x+p.off)
 | _,_, .here,v,x,hE,_=>by simpa [Pa.off,Pa.get] using hE
 | _,_, .fst (a:=a) (b:=b) p,v,x,hE,hf=>by
  have h1:=I4 (t:=.pair a.ty b.ty) (.fst .here) hE rfl rfl
  exact Ah p h1 hf
 | _,_, .snd (a:=a) (b:=b) p,v,x,hE,hf=>by
  have h1:=I4 (t:=.pair a.ty b.ty) (.snd .here) hE rfl rfl
  have:=Ah p h1 hf
  simp only [Pth.off,Yk,Pa.off] at this ⊢
  rw [← age]; exact this
 | _,_, .inn p,v,x,hE,hf=>Ah p hE hf
 | _,_, .nd p,v,x,hE,hf=>by
  have h1:=I4 (t:=.node) (.nd .here) hE rfl rfl
  exact Ah p h1 hf
 | _,_, .el j,v,x,hE,hf=>aj4 hE (hf _ rfl)
theorem Nv (h:Hd) (x:Nat) : ∃ b o,eQ h x=⟨b,o,none⟩:=by
 unfold eQ; split <;> exact ⟨_,_,rfl⟩
def TC.fld:(u:TC)→(m n:Nat)→Option ((v:TC)×Pa u v)
 | .st a,0,1=>some ⟨a, .inn .here⟩
 | .node,0,4=>some ⟨.sc (.int .i64), .nd (.fst .here)⟩
 | .node,1,4=>some ⟨.sc .str, .nd (.snd (.fst .here))⟩
 | .node,2,4=>some ⟨.sc (.int .i64), .nd (.snd (.snd (.fst .here)))⟩
 | .node,3,4=>some ⟨.slice .node, .nd (.snd (.snd (.snd .here)))⟩
 | .pair a _,0,_+2=>some ⟨a, .fst .here⟩
 | .pair _ b,1,2=>some ⟨b, .snd .here⟩
 | .pair _ b,m+1,n+3=>match b.fld m (n+2) with
  | some ⟨v,p⟩=>some ⟨v, .snd p⟩
  | none=>none
 | _,_,_=>none
def TC.aggT:TC→Bool
 | .arr _ _=>true
 | .unit=>true
 | .pair _ _=>true
 | .st _=>true
 | .node=>true
 | _=>false
def ra (u:TC) (x:u.den) (n:Nat):AV:=match u,x with
 | .sc s,x=>.lf (.c s x)
 | .arr m s,x=>.lf (.ar m s x)
 | .unit,_=>.ag []
 | .pair a b,x=>.ag (jL (.pair a b) x n)
 | .st a,x=>.ag (jL a x n)
 | .slice _,_=>.lf (.sl n)
 | .ext k,x=>.lf (.xt k x)
 | .node,x=>.ag (jL .node x n)
 | .mp _ _,_=>.lf (.mp n)
def TC.isMp:TC→Bool
 | .mp _ _=>true
 | _=>false
theorem rT {u:TC} (hu:u.aggT=true) {x:u.den} {y:u.ty.Refs} {η:Vn} (h:fF η n (cI u y)):(ra u x n).val η = .agg (u.ty.fill x y).toArray:=by
 cases u with
 | arr m s=>rfl
 | unit=>rfl
 | pair a b=>simp only [ra,AV.val]; rw [oE _ x y n h]
 | st a=>simp only [ra,AV.val]; rw [oE a x y n h]
 | node=>simp only [ra,AV.val]; rw [oE .node x y n h]
 | _=>cases hu
theorem fF.set {η:Vn} {l:List Hd}:fF (η.set n l) n l:=fun _ _ hj=>Vn.set_at hj
section
variable {R:Type} {P:Program} {o:Oper} {E:SE} {F:List AF} {n:Nat} {Θ:Tb} {ex:Option Bool}
def Qo (Θ:Tb) (ex:Option Bool) (t:TypeId) (l:Lf) (i:Int) (F:List AF) (k:Out→Option R):Option R:=match Θ t with
 | some ⟨.slice e,_,_,_,_⟩=>match Θ e with
  | some ie=>match l with
   | .sl h=>match mY ie.tc h F with
    | some s=>bif Nat.beq ie.sz ie.tc.ty.sz then gbind ex ie.tc.dft (ac s.xs i) fun _=>k (bC (.lf (.rp h ie.tc i ie.tc .here))) else none
    | none=>match ot h F with
     | some (h0,sz,lo,hi)=>bif Nat.beq ie.sz ie.tc.ty.sz&&Nat.beq sz ie.sz then gchk ex (decide (0≤i∧i<hi - lo)) (k (bC (.lf (.rp h0 ie.tc (lo+i) ie.tc .here)))) else none
     | none=>none
   | _=>none
  | none=>none
 | _=>none
theorem Pj (hΘ:Θ.ok P) {l:Lf}   (ho:o.op = .indexAddr t x ix) (h1:ev E x=some (.lf l)) (h2:ev E ix=some (gt ki i)) (k:Out→Option R) :
  ao ex P o E F n (Qo Θ ex t l i F k) k:=by
 unfold Qo
 split
 ·rename_i e _ _ _ _ ht
  split
  ·rename_i ie he
   split
   ·rename_i h
    split
    ·rename_i s hs
     refine ao.bif fun hsz=>ao.gbind fun v hv=>ao.of fun hx=>(dJ.pure fun η ρ hE=>?_)
     have hl:jj ie.tc F (.sl h)=some s:=hs
     refine br.from (L' := .rep ie.tc.ty s.all s.xs (η.h h)::F.map (AF.ha η)) ?_ (fun w c hH=>am.cons (kS hl hH) hH)
     have:=akm (o:=o) (ρ:=ρ) (L:=.rep ie.tc.ty s.all s.xs (η.h h)::F.map (AF.ha η)) 0 rfl ho (hΘ t _ ht).2.1 (hΘ e ie he).1 (aN hE h1) (aN hE h2) (hv hx)
     simp only [AV.val,Lf.val,Pa.off,Yk]
     simp_all
    ·split
     ·rename_i h0 sz lo hi hp
      refine ao.bif fun hsz=>ao.gchk fun hb=>ao.of fun hx=>(dJ.pure fun η ρ hE=>?_)
      simp only [Wp] at hsz
      have:=E7 (o:=o) (ρ:=ρ) (L:=F.map (AF.ha η)) (v:=η.h h) (u:=η.h h0) (lo:=lo) (hi:=hi) (fun w c hH=>by
       rw [← Wo hsz.2]
       exact hH _ (W6.2 ⟨_,jf hp,rfl⟩)) ho (hΘ t _ ht).2.1 (hΘ e ie he).1 (aN hE h1) (aN hE h2) (hb hx)
      simp only [AV.val,Lf.val,Pa.off,Yk]
      simp_all
     ·exact ao.none
   ·exact ao.none
  ·exact ao.none
 ·exact ao.none
def LW (Θ:Tb) (t:TypeId) (f:Nat) (l:Lf) (k:Out→Option R):Option R:=match Θ t with
 | some ⟨.st fs,_,_,_,_⟩=>match fs[f]? with
  | some (ft,off)=>match Θ ft with
   | some i=>bif Nat.beq i.sz 0 then none else match l with
    | .bp b o=>k (bC (.lf (.bp b (o+off))))
    | .rp h te ix u p=>match u.fld f fs.length with
     | some ⟨v,q⟩=>bif Nat.beq q.off off then k (bC (.lf (.rp h te ix v (p.comp q)))) else none
     | none=>none
    | .gp g te ix u p=>match u.fld f fs.length with
     | some ⟨v,q⟩=>bif Nat.beq q.off off then k (bC (.lf (.gp g te ix v (p.comp q)))) else none
     | none=>none
    | _=>none
   | none=>none
  | none=>none
 | _=>none
theorem FE {Fd:Array Field} {fs:List (TypeId×Nat)} (hm:Fd.toList.map (fun f=>(f.type,f.offset))=fs) {f:Nat} {ft:TypeId} {off:Nat} (h:fs[f]? = some (ft,off)) : ∃ fd,Fd[f]? = some fd∧fd.type=ft∧fd.offset=off:=by
 grind
theorem Uk (hΘ:Θ.ok P) {f:Nat} {l:Lf} (ho:o.op = .fieldAddr t x f) (h1:ev E x=some (.lf l)) (k:Out→Option R):ao ex P o E F n (LW Θ t f l k) k:=by
 unfold LW
 split
 ·rename_i fs _ _ _ _ ht
  split
  ·rename_i ft off hf
   split
   ·rename_i i hi
    obtain ⟨Fd,hs,hm⟩:=(hΘ t _ ht).2.1
    obtain ⟨fd,hfd,hft,hoff⟩:=FE hm hf
    have hti:=(hΘ ft i hi).1
    rw [← hft] at hti
    cases hz:Nat.beq i.sz 0
    ·simp only [no]
     split
     ·rename_i b o'
      refine ao.of fun hx=>(dJ.pure fun η ρ hE=>?_)
      exact wm ho hs hfd hti hz hoff (aN hE h1)
     ·rename_i h te ix u p
      split
      ·rename_i v q hq
       refine ao.bif fun hqo=>ao.of fun hx=>(dJ.pure fun η ρ hE=>?_)
       have he:=aN hE h1
       simp only [AV.val,Lf.val] at he ⊢
       obtain ⟨b,o',hp⟩:=Nv (η.h h) (ix.toNat * te.ty.sz+p.off)
       rw [hp] at he
       rw [Pa.comp_off,Wo hqo,← age,wV _ _ off b o' hp]
       exact wm ho hs hfd hti hz hoff he
      ·exact ao.none
     ·rename_i g te ix u p
      split
      ·rename_i v q hq
       refine ao.bif fun hqo=>ao.of fun hx=>(dJ.pure fun η ρ hE=>?_)
       have he:=aN hE h1
       simp only [AV.val,Lf.val] at he ⊢
       rw [Pa.comp_off,Wo hqo,← age]
       exact wm ho hs hfd hti hz hoff he
      ·exact ao.none
     ·exact ao.none
    ·exact ao.none
   ·exact ao.none
  ·exact ao.none
 ·exact ao.none
def Tj (Θ:Tb) (ex:Option Bool) (t:TypeId) (l:Lf) (i:Int) (k:Out→Option R):Option R:=match Θ t with
 | some ⟨.arr m e,_,_,_,_⟩=>match Θ e with
  | some ie=>bif Nat.beq ie.sz 1 then match l with
   | .rp h te ix (.arr m' s) p=>bif Nat.beq m m' then gchk ex (decide (0≤i∧i<m')) (k (bC (.lf (.rp h te ix (.sc s) (p.comp (.el i)))))) else none
   | .bp b o=>match ie.tc with
    | .sc s=>gchk ex (decide (0≤i∧i<m)) (k (bC (.lf (.bq b o m s i))))
    | _=>none
   | _=>none
   else none
  | none=>none
 | _=>none
theorem UB {ρ:dm} {L:List HA} {e:TypeId} {m:Nat} {b o' : Nat} {by_:Nat} {z:Value} (ho:o.op = .indexAddr t x ix) (ht:P.underlying t=some (.array m e)) (hi:TI P e 1 by_ z)
  (hx:aR ρ x = .pointer (some ⟨b,o',none⟩)) (hix:aR ρ ix = .int ki i) (h0:decide (0≤i∧i<m)=true):br P ρ o L (.pointer (some ⟨b,o' + i.toNat,none⟩)):=fun ev w c he hL=>by
 subst he
 have htihi:=hi; clear hi
 obtain ⟨inf,hi,_,hs,_⟩:=htihi.get
 have hi0:0≤i∧i<m:=Yd h0
 simp [execOp,ho,hx,hix,Instr.indexAt,Instr.sureAddr,asIntOf,run_underlying ht,sizeOf,typeInfo,hi,hs,hi0,fj,Result.andThen]
theorem Yz (hΘ:Θ.ok P) {l:Lf}   (ho:o.op = .indexAddr t x ix) (h1:ev E x=some (.lf l)) (h2:ev E ix=some (gt ki i)) (k:Out→Option R) :
  ao ex P o E F n (Tj Θ ex t l i k) k:=by
 unfold Tj
 split
 ·rename_i m e _ _ _ _ ht
  split
  ·rename_i ie he
   refine ao.bif fun hsz=>?_
   have hti:=(hΘ e ie he).1
   rw [Wo hsz] at hti
   split
   ·rename_i h te ixx m' s p
    refine ao.bif fun hm=>ao.gchk fun hb=>ao.of fun hx=>(dJ.pure fun η ρ hE=>?_)
    obtain rfl:=Wo hm
    have h3:=aN hE h1
    simp only [AV.val,Lf.val] at h3 ⊢
    obtain ⟨b,o',hp⟩:=Nv (η.h h) (ixx.toNat * te.ty.sz+p.off)
    rw [hp] at h3
    rw [Pa.comp_off,← age,wV _ _ _ b o' hp]
    exact UB ho (hΘ t _ ht).2.1 hti h3 (aN hE h2) (hb hx)
   ·rename_i b o'
    split
    ·refine ao.gchk fun hb=>ao.of fun hx=>(dJ.pure fun η ρ hE=>?_)
     exact UB ho (hΘ t _ ht).2.1 hti (aN hE h1) (aN hE h2) (hb hx)
    ·exact ao.none
   ·exact ao.none
  ·exact ao.none
 ·exact ao.none
def J6 (Θ:Tb) (ex:Option Bool) (n:Nat) (t:TypeId) (h:Nat) (te:TC) (i:Int) (u:TC) (p:Pa te u) (F:List AF) (k:Out→Option R):Option R:=match Θ t,mY te h F with
 | some inf,some s=>bif Nat.beq inf.sz u.ty.sz&&Nat.ble u.nh 64&&(inf.d.agg==u.aggT) && !u.isMp then nchk ex p.needs (gbind ex te.dft (ac s.xs i) fun x=>k ⟨ra u (p.get x) n,tD u (p.get x) s.nk n,[]⟩) else none
 | _,_=>none
theorem agZ {η:Vn} {te:TC} {s:SI te} (hs:mY te h F=some s)  {v:te.den} (hv:ac s.xs i=some v):El (F.map (AF.ha η)) te.ty s.nk v (η.h h) (i.toNat * te.ty.sz):=fun w c hH=>by
 have hm:=hH _ (W6.2 ⟨_,gK hs,rfl⟩)
 obtain ⟨own,K,xs⟩:=s
 cases own with
 | none=>exact Ix (L:=.rep te.ty K xs (η.h h)::F.map (AF.ha η)) 0 rfl rfl hv w c (am.cons hm hH)
 | some p=>
  have hm' : HA.holds w c (eh te.ty p.1 p.2 K xs (η.h h)):=hm
  show aio w c te.ty (SI.nk ⟨some p,K,xs⟩) v _
  cases htr:fG p.1
  ·rw [show SI.nk (t:=te) ⟨some p,K,xs⟩=K by simp [SI.nk,htr]]
   rw [eD htr] at hm'
   exact ajr (L:=.own te.ty p.1 p.2 K xs (η.h h)::F.map (AF.ha η)) 0 rfl rfl hv w c (am.cons hm' hH)
  ·rw [show SI.nk (t:=te) ⟨some p,K,xs⟩=p.2::K by simp [SI.nk,htr]]
   rw [jE htr] at hm'
   exact Ix (L:=.rep te.ty (p.2::K) xs (η.h h)::F.map (AF.ha η)) 0 rfl rfl hv w c (am.cons (J9 hm') hH)
theorem Uo (hΘ:Θ.ok P) {te:TC}  {u:TC} {p:Pa te u} (ho:o.op = .load t x) (h1:ev E x=some (.lf (.rp h te i u p))) (k:Out→Option R) :
  ao ex P o E F n (J6 Θ ex n t h te i u p F k) k:=by
 unfold J6
 split
 ·rename_i inf s hi hs
  refine ao.bif fun hc=>ao.nchk fun hf=>ao.gbind fun v hv=>ao.of fun hx η ρ hE=>?_
  simp only [Wp,abd,YW] at hc
  obtain ⟨⟨⟨hsz,hnh⟩,hag⟩,hmp⟩:=hc
  have hsz:=Wo hsz
  have hnh:=Wt hnh
  obtain ⟨g1,g2,_,_⟩:=hΘ t inf hi
  obtain ⟨td,ht,hd⟩:=nW g2
  rw [hag] at hd
  have hE' := Ah p (agZ (η:=η) hs (hv hx)) (hf hx)
  have hp:aR ρ x = .pointer (some (eQ (η.h h) (i.toNat * te.ty.sz+p.off))):=aN hE h1
  cases u with
  | sc sk=>exact (br.op (vz hE' ho ht hd hp)).map (fun _=>⟨η,Vn.agr_refl n η⟩) (fun _=>rfl) (fun _=>rfl)
  | ext m=>exact (br.op (vz hE' ho ht hd hp)).map (fun _=>⟨η,Vn.agr_refl n η⟩) (fun _=>rfl) (fun _=>rfl)
  | slice t' =>
   refine (ye hE' ho ht hd hp).map (fun hh=>⟨η.setH n hh,η.setH_agr n hh⟩) (fun hh=>?_) fun hh=>?_
   ·simp [ra,AV.val,Lf.val,Vn.setH_at]
   ·simp [tD,AF.ha,Vn.setH_at]
  | arr m sk=>
   refine (eT hE' ho ht hd g1 hsz hp).map (fun y=>⟨η.set n (cI _ y),Vn.set_agr (by rw [dg]; exact hnh)⟩) (fun y=>?_) fun y=>?_
   ·rfl
   rfl
  | unit=>
   refine (eT hE' ho ht hd g1 hsz hp).map (fun y=>⟨η.set n (cI _ y),Vn.set_agr (by rw [dg]; exact hnh)⟩) (fun y=>?_) fun y=>?_
   ·rfl
   rfl
  | st a=>
   refine (eT hE' ho ht hd g1 hsz hp).map (fun y=>⟨η.set n (cI a y),Vn.set_agr (by rw [dg]; exact hnh)⟩) (fun y=>?_) fun y=>?_
   ·exact (rT (u:=.st a) rfl (fF.set (l:=cI a y))).symm
   ·exact (rm a _ y n fF.set).symm
  | pair a b=>
   refine (eT hE' ho ht hd g1 hsz hp).map (fun y=>⟨η.set n (cI _ y),Vn.set_agr (by rw [dg]; exact hnh)⟩) (fun y=>?_) fun y=>?_
   ·exact (rT (u:=.pair a b) rfl fF.set).symm
   ·exact (rm (.pair a b) _ y n fF.set).symm
  | node=>
   refine (eT hE' ho ht hd g1 hsz hp).map (fun y=>⟨η.set n (cI .node y),Vn.set_agr (by rw [dg]; exact hnh)⟩) (fun y=>?_) fun y=>?_
   ·exact (rT (u:=.node) rfl (fF.set (l:=cI .node y))).symm
   ·exact (rm .node _ y n fF.set).symm
  | mp _ _=>cases hmp
 ·exact ao.none
theorem afM {η:Vn} {u:TC} {ls:List Lf} {y:u.den} {l:List Lf}  (hd:bZ F u ls=some (y,l,Kd,[])) (hK : ∀ k∈Kd,k∈K) (hone:tQ ls=true) (v:u.den):pp (F.map (AF.ha η)) K u.ty v 0 (aw η ls) y:=by
 intro w c hH r hr
 obtain ⟨hc,hrep⟩:=dY (η:=η) u hd
 simp only [aw,XE] at hc
 have hlen:(aw η ls).length=u.ty.sz:=by rw [hc]; exact u.ty.fill_length _ _
 refine ⟨aO u (aS η l),hrep w c K hH hK,by omega,?_,og hone⟩
 rw [aeO,Yv,afu,X2 (by rw [u.ty.fill_length]; omega),XE,hc]
theorem aaJ {A:HA} {η:Vn} {u:TC} {ls:List Lf} {y:u.den} {l:List Lf}  (hd:bZ F u ls=some (y,l,Kd,[])) (hK : ∀ k∈Kd,k∈K) (hone:tQ ls=true) (v:u.den):pp (A::F.map (AF.ha η)) K u.ty v 0 (aw η ls) y:=
 fun w c hH r hr=>afM hd hK hone v w c (fun B hB=>hH B (Wq _ hB)) r hr
def scV (u:TC) (z:u.den):Value:=match u,z with
 | .sc s,z=>s.val z
 | _,_=>undef
theorem zF {L:List HA} {K:List Nat} {new:List Value} : {t u:TC}→(p:Pa t u)→{v:t.den}→{y:u.den}→pp L K u.ty (p.get v) 0 new y→p.fine →
  (∀ s,u = .sc s→new=[scV u y])→pp L K t.ty v p.off new (p.put v y)
 | _,_, .here,v,y,h,_,_=>h
 | _,_, .fst p,v,y,h,hf,hs=>afm (zF p h hf hs)
 | _,_, .snd p,v,y,h,hf,hs=>afU (zF p h hf hs) rfl
 | _,_, .inn p,v,y,h,hf,hs=>zF p h hf hs
 | _,_, .nd p,v,y,h,hf,hs=>ajf (zF p h hf hs)
 | _,_,@Pa.el n s j,v,y,h,hf,hs=>by
  have hn:=hs s rfl
  subst hn
  exact ago (hf _ rfl)
def sy (K Kd:List Nat):List Nat:=bif Kd.all (fun k=>K.any fun j=>Nat.beq k j) then K else K++Kd
theorem aeY : ∀ k∈K,k∈sy K Kd:=fun k hk=>by
 unfold sy
 grind
theorem aeU : ∀ k∈Kd,k∈sy K Kd:=fun k hk=>by
 unfold sy
 cases h:Kd.all (fun k=>K.any fun j=>Nat.beq k j)
 ·grind
 simp_all
def Ex (Θ:Tb) (ex:Option Bool) (t:TypeId) (h:Nat) (te:TC) (i:Int) (u:TC) (p:Pa te u) (v:AV) (F:List AF) (k:Out→Option R):Option R:=match Θ t,mY te h F,v.lvs with
 | some inf,some ⟨some (e,ci),K,xs⟩,some ls=>match bZ F u ls with
  | some (y,_,Kd,[])=>bif Nat.beq inf.sz u.ty.sz&&(sy K Kd).all (fun k=>!(Nat.beq k ci)) && !(fG e) then
    nchk ex p.needs (gbind ex te.dft (ac xs i) fun x=>k ⟨.lf (.v undef),[.own te e ci (sy K Kd) (xs.set i.toNat (p.put x y)) h],[ci]⟩) else none
  | _=>none
 | _,_,_=>none
theorem NH {s:SC} {ls:List Lf} {y:s.den} {l:List Lf} (h:bZ F (.sc s) ls=some (y,l,K,[])) (η:Vn):aw η ls=[s.val y]:=by
 have:=(dY (η:=η) (.sc s) h).1
 simpa [aw,Ty.fill] using this
theorem TY (hΘ:Θ.ok P) {z:Operand}  {te:TC}  {u:TC} {p:Pa te u} {v:AV} (ho:o.op = .store t x z) (h1:ev E x=some (.lf (.rp h te i u p))) (h2:ev E z=some v) (k:Out→Option R) :
  ao ex P o E F n (Ex Θ ex t h te i u p v F k) k:=by
 unfold Ex
 split
 ·rename_i inf e ci K xs ls hi hs hl
  split
  ·rename_i y l Kd hd
   refine ao.bif fun hc=>ao.nchk fun hf=>ao.gbind fun d hdv=>ao.of fun hx η ρ hE=>?_
   simp only [Wp] at hc
   obtain ⟨⟨hsz,hK⟩,htr⟩:=hc
   have htr:=sN htr
   have hsz:=Wo hsz
   obtain ⟨g1,_⟩:=hΘ t inf hi
   have hto : ∀ w c,am w c (F.map (AF.ha η))→am w c (.own te.ty e ci (sy K Kd) xs (η.h h)::F.map (AF.ha η)):=fun w c hH=>by
    have hm' : HA.holds w c (eh te.ty e ci K xs (η.h h)):=hH _ (W6.2 ⟨_,gK hs,rfl⟩)
    rw [eD htr] at hm'
    obtain ⟨ys,q1,q2,q3⟩:=hm'
    exact am.cons ⟨ys,q1.mono (bT.keep (fun _ _ hb=>⟨aeY _ hb,rfl⟩) te.ty),q2,q3⟩ hH
   have hset:pp (.own te.ty e ci (sy K Kd) xs (η.h h)::F.map (AF.ha η)) (sy K Kd) te.ty d p.off (aw η ls) (p.put d y):=by
    refine zF p (aaJ hd aeU (AV.lvs_one hl) _) (hf hx) ?_
    intro s hs'
    subst hs'
    exact NH hd η
   have hlen:(aw η ls).length=u.ty.sz:=by
    have:=(dY (η:=η) u hd).1
    rw [this]; simp [aw,u.ty.fill_length]
   refine ((J5 (L:=.own te.ty e ci (sy K Kd) xs (η.h h)::F.map (AF.ha η)) 0 rfl ho g1 (aN hE h1) rfl rfl (hdv hx) (aN hE h2) (v.lvs_cells hl η) (by grind) hset hK).from hto).map (fun _=>⟨η,Vn.agr_refl n η⟩) (fun _=>rfl) (fun _=>by simp [AF.ha,eD htr])
  ·exact ao.none
 ·exact ao.none
end
end
section
variable [X:XTab] [G:GTab]
section
variable {R:Type} {P:Program} {o:Oper} {E:SE} {F:List AF} {n:Nat} {Θ:Tb} {ex:Option Bool}
def Rg (Θ:Tb) (t:TypeId) (v:AV) (F:List AF) (k:Out→Option R):Option R:=match Θ t with
 | some ⟨.slice e,_,_,_,_⟩=>match Θ e,v with
  | some ie, .lf l=>match jj ie.tc F l with
   | some s=>k (bC (gt .i64 s.xs.length))
   | none=>match l with
    | .sl h=>match ot h F with
     | some (_,_,lo,hi)=>k (bC (gt .i64 (hi - lo)))
     | none=>none
    | _=>none
  | _,_=>none
 | some ⟨.str,_,_,_,_⟩=>match v with
  | .lf (.c .str x)=>k (bC (gt .i64 x.length))
  | _=>none
 | _=>none
theorem VN {ρ:dm} {L:List HA} {s:List UInt8} (ho:o.op = .call { callee:=.builtin .len,args:=#[x],argTypes:=#[t] }) (ht:P.underlying t=some .string) (hx:aR ρ x = .string ⟨s.toArray⟩) :
  br P ρ o L (.int .i64 s.length):=fun ev w c he _=>by
 subst he
 have hs:(ByteArray.mk s.toArray).size=s.length:=by rfl
 simp [execOp,ho,hx,resolve,invoke,builtin,Builtin.len_,run_underlying ht,goInt,Result.andThen]
 grind
theorem N7 (hΘ:Θ.ok P) {v:AV} (ho:o.op = .call { callee:=.builtin .len,args:=#[x],argTypes:=#[t] }) (h1:ev E x=some v) (k:Out→Option R):ao ex P o E F n (Rg Θ t v F k) k:=by
 unfold Rg
 split
 ·rename_i e _ _ _ _ ht
  split
  ·rename_i ie l he
   split
   ·rename_i s hs
    refine ao.of fun hx=>(dJ.pure fun η ρ hE=>?_)
    refine br.from (L' := .rep ie.tc.ty s.all s.xs (l.hd η)::F.map (AF.ha η)) ?_ (fun w c hH=>am.cons (kS hs hH) hH)
    have h2:=aN hE h1
    simp only [AV.val] at h2 ⊢
    rw [(oi hs η).1] at h2
    exact V9 0 rfl ho (hΘ t _ ht).2.1 h2
   ·split
    ·rename_i h _
     split
     ·rename_i h0 sz lo hi hp
      refine ao.of fun hx=>(dJ.pure fun η ρ hE ev w c hev hH=>?_)
      have hpt:pX (η.h h) (η.h h0) sz lo hi:=hH _ (W6.2 ⟨_,jf hp,rfl⟩)
      have h3:=Qu (L:=F.map (AF.ha η)) ho (hΘ t _ ht).2.1 (aN hE h1) ev w c hev hH
      rw [h3]
      simp only [AV.val,Lf.val,hpt.2.1]
     ·exact ao.none
    ·exact ao.none
  ·exact ao.none
 ·rename_i _ _ _ _ ht
  split
  ·refine ao.of fun hx=>(dJ.pure fun η ρ hE=>?_)
   exact VN ho (hΘ t _ ht).2.1 (aN hE h1)
  ·exact ao.none
 ·exact ao.none
def abf (Θ:Tb) (ex:Option Bool) (n N:Nat) (t:TypeId) (v1 v2:AV) (F:List AF) (k:Out→Option R):Option R:=match Θ t with
 | some ⟨.slice e,_,_,_,_⟩=>match Θ e,v1,v2 with
  | some ie, .lf l1, .lf l2=>match gw ie.tc e N F l1,jj ie.tc F l2 with
   | some (ci,K,xs),some s2=>bif Nat.beq ie.sz ie.tc.ty.sz&&Nat.ble 1 ie.sz&&Nat.beq ie.zv.cells.size ie.sz&&Nat.ble 2 ci&&Nat.blt e 1048576&&(bif ie.tc.ty.pureB then true else (K++s2.all).all (fun k=>!(Nat.beq k ci))) then
     gchk ex (aK xs.length s2.xs.length ie.by_) (k ⟨.lf (.sl n),[.own ie.tc e ci (bif ie.tc.ty.pureB then K else K++s2.all) (xs++s2.xs) n],[ci]⟩) else none
   | _,_=>none
  | _,_,_=>none
 | _=>none
theorem aff (hΘ:Θ.ok P) {v1 v2:AV} (ho:o.op = .call { callee:=.builtin .append,args:=#[x,y],argTypes:=#[t,t] }) (h1:ev E x=some v1) (h2:ev E y=some v2) (k:Out→Option R) :
  ao ex P o E F n (abf Θ ex n N t v1 v2 F k) k:=by
 unfold abf
 split
 ·rename_i e _ _ _ _ ht
  split
  ·rename_i ie l1 l2 he
   split
   ·rename_i ci K xs s2 hs1 hs2
    refine ao.bif fun hc=>ao.gchk fun hr=>ao.of fun hx η ρ hE=>?_
    simp only [Wp] at hc
    obtain ⟨⟨⟨⟨⟨hsz,h0⟩,hzs⟩,hci⟩,hel⟩,hK⟩:=hc
    have e1:=aN hE h1
    have e2:=aN hE h2
    simp only [AV.val] at e1 e2
    rw [qo hs1 η] at e1
    rw [(oi hs2 η).1] at e2
    have hH' : ∀ w c,am w c (F.map (AF.ha η))→am w c (.own ie.tc.ty e ci K xs (l1.hd η) :: .rep ie.tc.ty s2.all s2.xs (l2.hd η)::F.map (AF.ha η)):=fun w c hH=>
     am.cons (by
      have:=gb hs1 hH
      rwa [eD (gq hel)] at this) (am.cons (kS hs2 hH) hH)
    cases hp:ie.tc.ty.pureB
    ·rw [hp,no] at hK
     have:=(VF (o:=o) (ρ:=ρ) (L:=.own ie.tc.ty e ci K xs (l1.hd η) :: .rep ie.tc.ty s2.all s2.xs (l2.hd η)::F.map (AF.ha η)) 0 1 rfl _ rfl vG ho (hΘ t _ ht).2.1 (hΘ e ie he).1 (Wo hsz) hzs h0 e1 e2 (hr hx) hci hK rfl hel).from hH'
     refine this.map (fun hh=>⟨η.setH n hh,η.setH_agr n hh⟩) (fun hh=>?_) fun hh=>?_
     ·simp [AV.val,Lf.val,Vn.setH_at]
     ·simp [AF.ha,Vn.setH_at,eD (gq hel)]
    ·have:=(Ay (o:=o) (ρ:=ρ) (L:=.own ie.tc.ty e ci K xs (l1.hd η) :: .rep ie.tc.ty s2.all s2.xs (l2.hd η)::F.map (AF.ha η)) hp 0 1 rfl _ rfl vG ho (hΘ t _ ht).2.1 (hΘ e ie he).1 (Wo hsz) hzs h0 e1 e2 (hr hx) hci hel).from hH'
     refine this.map (fun hh=>⟨η.setH n hh,η.setH_agr n hh⟩) (fun hh=>?_) fun hh=>?_
     ·simp [AV.val,Lf.val,Vn.setH_at]
     ·simp [AF.ha,Vn.setH_at,eD (gq hel)]
   ·exact ao.none
  ·exact ao.none
 ·exact ao.none
theorem pw.append {L:List HA} : ∀ {l l' : List HA},pw L l→pw L l' → pw L (l++l')
 | [],_,_,h=>h
 | _::_,_,⟨h1,h2⟩,h=>⟨h1,h2.append h⟩
theorem xp {L:List HA} {η:Vn} {K' : List Nat} : ∀ (t:TC) {ls:List Lf} {z:t.den} {l:List Lf} {K:List Nat} {r:List Lf},bZ [] t ls=some (z,l,K,r)→pw L (facts t.ty K' z (aO t (aS η l)))
 | .sc _,_,_,_,_,_,_=>trivial
 | .arr _ _,_,_,_,_,_,_=>trivial
 | .unit,_,_,_,_,_,_=>trivial
 | .ext _,_,_,_,_,_,_=>trivial
 | .st t,_,_,_,_,_,h=>xp (η:=η) t h
 | .slice t,[],_,_,_,_,h=>by simp [bZ] at h
 | .slice t,a::ls,z,l,K,r,h=>by
  simp only [bZ] at h
  split at h
  ·rename_i s hs
   simp only [Wn,W5] at h
   obtain ⟨rfl,rfl,rfl,rfl⟩:=h
   cases a with
   | sl m=>simp [jj,mY] at hs
   | nl=>
    simp only [jj,Wn] at hs
    subst hs
    exact ⟨.inr rO,trivial⟩
   | _=>simp [jj] at hs
  ·cases h
 | .pair a b,ls,z,l,K,r,h=>by
  simp only [bZ] at h
  split at h
  ·rename_i x1 l1 K1 r1 h1
   split at h
   ·rename_i x2 l2 K2 r2 h2
    simp only [Wn,W5] at h
    obtain ⟨rfl,rfl,rfl,rfl⟩:=h
    have hn:(aS η l1).length=a.nh:=by simp [aS,eF a h1]
    have e1:aO a (aS η (l1++l2))=aO a (aS η l1):=by
     rw [show aS η (l1++l2)=aS η l1++aS η l2 by simp [aS],dW a _ _ hn]
    have e2:aO b ((aS η (l1++l2)).drop a.nh)=aO b (aS η l2):=by
     rw [show aS η (l1++l2)=aS η l1++aS η l2 by simp [aS],YB,X2 (by omega),show a.nh - (aS η l1).length=0 by omega]
     rfl
    simp only [facts,aO]
    rw [e1,e2]
    exact (xp a h1).append (xp b h2)
   ·cases h
  ·cases h
 | .node,ls,z,l,K,r,h=>by
  obtain ⟨k,tx,m,a,s,rfl,hs,rfl,rfl,rfl⟩:=zc (show Em [] ls=_ from h)
  cases a with
  | sl m=>simp [jj,mY] at hs
  | nl=>
   simp only [jj,Wn] at hs
   subst hs
   exact ⟨.inr rO,trivial⟩
  | _=>simp [jj] at hs
 | .mp k v,ls,z,l,K,r,h=>by
  cases ls with
  | nil=>simp [bZ] at h
  | cons a ls=>
   cases a with
   | mp hh=>
    simp only [bZ,Wn,W5] at h
    obtain ⟨rfl,rfl,rfl,rfl⟩:=h
    exact trivial
   | _=>simp [bZ] at h
def C5:Operand→Operand→Bool
 | .tmp a, .tmp b=>Nat.beq a b
 | .const (.int _ a), .const (.int _ b)=>a==b
 | _,_=>false
def Sf (Θ:Tb) (ex:Option Bool) (n N:Nat) (t:TypeId) (x y:Operand) (v1 v2:AV) (k:Out→Option R):Option R:=match Θ t,v1,v2 with
 | some ⟨.slice e,_,_,_,_⟩, .lf (.c (.int _) a), .lf (.c (.int _) _)=>match Θ e with
  | some ie=>match bZ [] ie.tc ie.zl with
   | some (z,_,_,[])=>bif Nat.beq ie.sz ie.tc.ty.sz&&Nat.ble 2 N&&C5 x y&&Nat.blt e 1048576 then
      gchk ex (decide (0≤a∧a * ie.by_≤281474976710656∧a≤maxLen)) (k ⟨.lf (.sl n),[.own ie.tc e N [] (List.replicate a.toNat z) n],[]⟩) else none
   | _=>none
  | none=>none
 | _,_,_=>none
theorem X6 (hΘ:Θ.ok P) {v1 v2:AV} (ho:o.op = .makeSlice t x y) (h1:ev E x=some v1) (h2:ev E y=some v2) (k:Out→Option R):ao ex P o E F n (Sf Θ ex n N t x y v1 v2 k) k:=by
 unfold Sf
 split
 ·rename_i e _ _ _ _ k1 a k2 b ht
  split
  ·rename_i ie he
   split
   ·rename_i z l Kz hz
    refine ao.bif fun hc=>ao.gchk fun hb=>ao.of fun hx η ρ hE=>?_
    simp only [Wp] at hc
    obtain ⟨⟨⟨hsz,hN⟩,hso⟩,hel⟩:=hc
    have e1:=aN hE h1
    have e2:=aN hE h2
    simp only [AV.val,Lf.val] at e1 e2
    have hab:b=a:=by
     unfold C5 at hso
     split at hso
     ·simp_all
     ·simp only [aR,Value.int.injEq] at e1 e2
      grind
     ·cases hso
    subst hab
    obtain ⟨g1,_,g3,g4⟩:=hΘ e ie he
    have hcell:=(dY (η:=η) ie.tc hz).1
    simp only [aw,XE] at hcell
    refine (yR (K:=[]) ho (hΘ t _ ht).2.1 g1 (Wo hsz) (v:=z) (r:=aO ie.tc (aS η l)) ?_ (xp ie.tc hz) e1 e2 (hb hx) hN).map (fun hh=>⟨η.setH n hh,η.setH_agr n hh⟩) (fun hh=>?_) fun hh=>?_
    ·grind
    ·simp [AV.val,Lf.val,Vn.setH_at]
    ·simp [AF.ha,Vn.setH_at,eD (gq hel)]
   ·exact ao.none
  ·exact ao.none
 ·exact ao.none
def xm (place:Nat→Option (Nat×Nat)) (ls:List Lf):List (Nat×List Lf)→Option (List Lf)
 | []=>some ls
 | (i,new)::rest=>match place i with
  | none=>none
  | some (off,size)=>match cut off size ls,nq new size with
   | some (a,_,r),some (_,[])=>xm place (a++new++r) rest
   | _,_=>none
theorem xZ {place:Nat→Option (Nat×Nat)} {η:Vn} : ∀ {vals:List (Nat×List Lf)} {ls ls' : List Lf},xm place ls vals=some ls' → pY place (aw η ls) (vals.map fun p=>(p.1,aw η p.2))=some (aw η ls')
 | [],ls,ls',h=>by simp only [xm,Wn] at h; subst h; rfl
 | (i,new)::rest,ls,ls',h=>by
  simp only [xm] at h
  cases hp:place i with
  | none=>grind
  | some os=>
   obtain ⟨off,size⟩:=os
   rw [hp] at h
   simp only at h
   split at h
   ·rename_i a m r q hc hs
    obtain ⟨e,hl⟩:=wO hc
    obtain ⟨l1,l2⟩:=hl η
    obtain ⟨e2,l3⟩:=jY hs
    rw [XE] at e2
    subst e2
    have l3:=l3 η
    have ih:=xZ (η:=η) h
    simp only [XH,pY,hp]
    have hb:(Nat.beq (aw η new).length size&&Nat.ble (off+(aw η new).length) (aw η ls).length)=true:=by
     rw [Wp]
     refine ⟨by simp [l3],Yb ?_⟩
     rw [e,bd,bd]
     grind
    rw [hb,f9]
    rw [bd,bd] at ih
    rw [← ih]
    congr 2
    ·congr 1
     rw [e,bd,bd,Yi,Z9,Yr (by omega),show off - (aw η a).length=0 by omega]
     simp
    ·rw [e,bd,bd,Yi,YB,X2 (by omega),Yv,YB,X2 (by omega),Yv,
      show off+(aw η new).length - (aw η a).length - (aw η m).length=0 by omega,Z3]
   ·cases h
def uo (E:SE):List (Nat×Operand)→Option (List (Nat×List Lf))
 | []=>some []
 | (i,x)::r=>match ev E x with
  | some v=>match v.lvs,uo E r with
   | some ls,some l=>some ((i,ls)::l)
   | _,_=>none
  | none=>none
theorem qC {η:Vn} {ρ:dm} (hE:nA η ρ E) : ∀ {ps:List (Nat×Operand)} {l:List (Nat×List Lf)},uo E ps=some l→ps.map (fun p=>(p.1,(aR ρ p.2).cells.toList))=l.map fun p=>(p.1,aw η p.2)
 | [],l,h=>by simp only [uo,Wn] at h; subst h; rfl
 | (i,x)::r,l,h=>by
  simp only [uo] at h
  split at h
  ·rename_i v hv
   split at h
   ·rename_i ls l' hl hr
    simp only [Wn] at h
    subst h
    simp only [XH,qC hE hr,aN hE hv,v.lvs_cells hl η]
   ·cases h
  ·cases h
def V6 (Θ:Tb):List (TypeId×Nat)→Option (List (Nat×Nat))
 | []=>some []
 | (t,off)::r=>match Θ t,V6 Θ r with
  | some i,some l=>some ((off,i.sz)::l)
  | _,_=>none
theorem U1 (hΘ:Θ.ok P) : ∀ {Fd:List Field} {l:List (Nat×Nat)},V6 Θ (Fd.map fun f=>(f.type,f.offset))=some l→SZ P Fd l
 | [],l,h=>by simp only [aaz,V6,Wn] at h; subst h; trivial
 | f::r,l,h=>by
  simp only [XH,V6] at h
  split at h
  ·rename_i i l' hi hr
   simp only [Wn] at h
   subst h
   exact ⟨rfl,⟨_,_,(hΘ _ _ hi).1⟩,U1 hΘ hr⟩
  ·cases h
def uC {s:SC} (m:Nat):List s.den→List (Nat×List Lf)→Option (List s.den)
 | xs,[]=>some xs
 | xs,(i,[.c s' v])::r=>if h:s' = s then bif Nat.blt i m then uC m (xs.set i (Cj h v)) r else none else none
 | _,_=>none
theorem FB {s:SC} {m:Nat} {η:Vn} : ∀ {vals:List (Nat×List Lf)} {xs ys:List s.den},uC m xs vals=some ys→xs.length=m→pY (fun j=>some (j * 1,1)) ((TC.arr m s).ty.fill xs ()) (vals.map fun p=>(p.1,aw η p.2))=some ((TC.arr m s).ty.fill ys ())
 | [],xs,ys,h,_=>by simp only [uC,Wn] at h; subst h; rfl
 | (i,ls)::r,xs,ys,h,hl=>by
  cases ls with
  | nil=>simp [uC] at h
  | cons a ls=>
   cases ls with
   | cons _ _=>cases a <;> simp [uC] at h
   | nil=>
    cases a <;> simp only [uC] at h <;> try cases h
    split at h
    ·rename_i he
     subst he
     rename_i sc v
     cases hb:Nat.blt i m
     ·grind
     ·rw [hb] at h
      simp only [f9] at h
      have hi:i<m:=Wt hb
      have ih:=FB (η:=η) h (by simpa using hl)
      simp only [XH,pY,aw,Lf.cells,XE,Wr]
      have hb2:(Nat.beq 1 1&&Nat.ble (i * 1+1) ((TC.arr m sc).ty.fill xs ()).length)=true:=by
       rw [Wp]
       refine ⟨rfl,Yb ?_⟩
       rw [Ty.fill_length]
       grind
      rw [hb2,f9,← ih]
      congr 1
      apply aac
      intro j
      simp only [Ty.fill,Cj,agE,Wu,Xz,ade,agw,Wr]
      rw [abQ,ZR (show i≤m by omega)]
      by_cases c1:j<i
      ·grind
      ·by_cases c2:j=i
       ·grind
       ·simp only [c1,show ¬ j<i+1 by omega,XB,ZT,show i+1+(j - (i+1))=j by omega]
        by_cases c3:j<m
        ·grind
        ·simp [c3]
    ·cases h
def JC (Θ:Tb) (E:SE) (t:TypeId) (ps:Array (Nat×Operand)) (k:Out→Option R):Option R:=match Θ t,uo E ps.toList with
 | some ⟨.st fs,_,_,zl,_⟩,some vals=>match V6 Θ fs with
  | some pl=>match xm (fun j=>pl[j]?) zl vals with
   | some ls=>k (bC (.ag ls))
   | none=>none
  | none=>none
 | some ⟨.arr m e,_,_,[.ar m' s z],_⟩,some vals=>match Θ e with
  | some ie=>match uC m (List.replicate m s.dft) vals with
   | some ys=>bif Nat.beq m m' && z.isEmpty&&Nat.beq ie.sz 1 then k (bC (.lf (.ar m s ys))) else none
   | none=>none
  | none=>none
 | _,_=>none
theorem Vs (hΘ:Θ.ok P) {ps:Array (Nat×Operand)} (ho:o.op = .build t ps) (k:Out→Option R):ao ex P o E F n (JC Θ E t ps k) k:=by
 unfold JC
 split
 ·rename_i fs _ _ zl _ vals ht hp
  split
  ·rename_i pl hpl
   split
   ·rename_i ls hls
    refine ao.of fun hx=>(dJ.pure fun η ρ hE=>?_)
    obtain ⟨g1,⟨Fd,g2,g5⟩,g3,g4⟩:=hΘ t _ ht
    subst g5
    refine Dv ho g2 g1 (U1 hΘ hpl) (qC hE hp) ?_
    have:=xZ (η:=η) hls
    grind
   ·exact ao.none
  ·exact ao.none
 ·rename_i m e _ _ m' s z _ vals ht hp
  split
  ·rename_i ie he
   split
   ·rename_i ys hys
    refine ao.bif fun hc=>ao.of fun hx=>(dJ.pure fun η ρ hE=>?_)
    simp only [Wp] at hc
    obtain ⟨⟨hm,hz⟩,hs1⟩:=hc
    obtain rfl:=Wo hm
    obtain ⟨g1,g2,g3,g4⟩:=hΘ t _ ht
    have hti:=(hΘ e ie he).1
    rw [Wo hs1] at hti
    refine FT ho g2 g1 hti (qC hE hp) ?_
    have:=FB (η:=η) hys (by simp)
    rw [g3,← g4 η]
    have hz' : z=[]:=List.isEmpty_iff.1 hz
    subst hz'
    have e0:aw η [Lf.ar m s []]=(TC.arr m s).ty.fill (List.replicate m s.dft) ():=by
     simp only [aw,Lf.cells,XE,Ty.fill]
     simp_all
    grind
   ·exact ao.none
  ·exact ao.none
 ·exact ao.none
end
end
section
variable [X:XTab] [G:GTab]
section
variable {R:Type} {P:Program} {o:Oper} {E:SE} {F:List AF} {n:Nat} {Θ:Tb} {ex:Option Bool}
def EJ (Θ:Tb) (t:TypeId) (f:Nat) (v:AV) (k:Out→Option R):Option R:=match Θ t,v with
 | some ⟨.st fs,_,_,_,_⟩, .ag ls=>match fs[f]? with
  | some (ft,off)=>match Θ ft with
   | some i=>match cut off i.sz ls with
    | some (_,m,_)=>match ES i.d.agg m with
     | some u=>k (bC u)
     | none=>none
    | none=>none
   | none=>none
  | none=>none
 | _,_=>none
theorem UQ {off sz:Nat} {cs a m r:List Lf} (h:cut off sz cs=some (a,m,r)) (η:Vn):((aw η cs).drop off).take sz=aw η m∧(aw η m).length=sz:=by
 obtain ⟨e,hl⟩:=wO h
 obtain ⟨l1,l2⟩:=hl η
 refine ⟨?_,l2⟩
 rw [e,bd,bd,Yi,YB,X2 (by omega),show off - (aw η a).length=0 by omega,Z3,Yv,Z9,Yr (by omega),
  show sz - (aw η m).length=0 by omega,aeO,XE]
theorem Sh (hΘ:Θ.ok P) {f:Nat} {v:AV} (ho:o.op = .field t x f) (h1:ev E x=some v) (k:Out→Option R):ao ex P o E F n (EJ Θ t f v k) k:=by
 unfold EJ
 split
 ·rename_i fs _ _ _ _ ls ht
  split
  ·rename_i ft off hf
   split
   ·rename_i i hi
    split
    ·rename_i a m r hc
     split
     ·rename_i u hu
      refine ao.of fun hx=>(dJ.pure fun η ρ hE=>?_)
      obtain ⟨Fd,hs,hm⟩:=(hΘ t _ ht).2.1
      obtain ⟨fd,hfd,hft,hoff⟩:=FE hm hf
      obtain ⟨g1,g2,_,_⟩:=hΘ ft i hi
      obtain ⟨td,hut,hd⟩:=nW g2
      rw [← hft] at g1 hut
      obtain ⟨hcell,l2⟩:=UQ hc η
      have he:=aN hE h1
      simp only [AV.val] at he
      cases hag:i.d.agg
      ·rw [hag] at hu hd
       obtain ⟨l,rfl,rfl,hl1⟩:=zR hu η
       refine Xp ho hs hfd hut hd he ?_
       have h5:aw η [l]=[(AV.lf l).val η]:=by simp [aw,hl1]
       rw [h5] at hcell l2
       have:=XZ (·[0]?) hcell
       grind
      ·rw [hag] at hu hd
       rw [Ao hu η]
       refine YR ho hs hfd hut hd g1 he ?_
       grind
     ·exact ao.none
    ·exact ao.none
   ·exact ao.none
  ·exact ao.none
 ·exact ao.none
def D0 (Θ:Tb) (ex:Option Bool) (t:TypeId) (v:AV) (i:Int) (k:Out→Option R):Option R:=match Θ t,v with
 | some ⟨.str,_,_,_,_⟩, .lf (.c .str s)=>gbind ex 0 (ac s i) fun b=>k (bC (gt .u8 (b.toNat:Int)))
 | some ⟨.arr m e,_,_,_,_⟩, .lf (.ar m' s x)=>match Θ e with
  | some ie=>bif Nat.beq ie.sz 1&&Nat.beq m m' && !ie.d.agg then gchk ex (decide (0≤i∧i<m')) (k (bC (.lf (.c s (List.getD (α:=s.den) x i.toNat s.dft))))) else none
  | none=>none
 | _,_=>none
theorem PZ (hΘ:Θ.ok P) {v:AV} (ho:o.op = .index t x y) (h1:ev E x=some v) (h2:ev E y=some (gt ki i)) (k:Out→Option R):ao ex P o E F n (D0 Θ ex t v i k) k:=by
 unfold D0
 split
 ·rename_i _ _ _ _ s ht
  exact ao.gbind fun b hb=>ao.of fun hx=>(dJ.pure fun η ρ hE=>M9 ho (hΘ t _ ht).2.1 (aN hE h1) (aN hE h2) (hb hx))
 ·rename_i m e _ _ _ _ m' s xs ht
  split
  ·rename_i ie he
   refine ao.bif fun hc=>ao.gchk fun hb=>ao.of fun hx=>(dJ.pure fun η ρ hE=>?_)
   simp only [Wp,YW] at hc
   obtain ⟨⟨hs1,hm⟩,hag⟩:=hc
   obtain rfl:=Wo hm
   obtain ⟨g1,g2,_,_⟩:=hΘ e ie he
   obtain ⟨td,hut,hd⟩:=nW g2
   rw [hag] at hd
   rw [Wo hs1] at g1
   exact M3 ho (hΘ t _ ht).2.1 hut hd g1 (aN hE h1) (aN hE h2) (hb hx)
  ·exact ao.none
 ·exact ao.none
def BF (v:AV) (i:Nat) (k:Out→Option R):Option R:=match v with
 | .tu vs=>match vs[i]? with
  | some u=>k (bC u)
  | none=>none
 | _=>none
theorem Jc {η:Vn} : ∀ {vs:List AV} {i:Nat} {u:AV},vs[i]? = some u→(AV.vals η vs)[i]? = some (u.val η)
 | [],_,_,h=>by simp at h
 | v::r,0,u,h=>by simp at h; subst h; simp [AV.vals]
 | v::r,i+1,u,h=>by simp at h; simp [AV.vals,Jc h]
theorem M4 {i:Nat} {v:AV} (ho:o.op = .extract x i) (h1:ev E x=some v) (k:Out→Option R):ao ex P o E F n (BF v i k) k:=by
 unfold BF
 split
 ·rename_i vs
  split
  ·rename_i u hu
   refine ao.of fun hx=>(dJ.pure fun η ρ hE=>?_)
   have he:=aN hE h1
   simp only [AV.val] at he
   exact VO ho he (Jc hu)
  ·exact ao.none
 ·exact ao.none
def PW (Θ:Tb) (s d:TypeId) (v:AV) (k:Out→Option R):Option R:=match Θ s,Θ d,v with
 | some ⟨.int _,_,_,_,_⟩,some ⟨.int kd,_,_,_,_⟩, .lf (.c (.int _) a)=>k (bC (gt kd (w_ kd a)))
 | some ⟨.str,_,_,_,_⟩,some ⟨.str,_,_,_,_⟩, .lf (.c .str a)=>k (bC (xY a))
 | _,_,_=>none
theorem aaq (hΘ:Θ.ok P) {s d:TypeId} {v:AV} (ho:o.op = .convert s d x) (h1:ev E x=some v) (k:Out→Option R):ao ex P o E F n (PW Θ s d v k) k:=by
 unfold PW
 split
 ·rename_i ks _ _ _ _ kd _ _ _ _ kk a hs hd
  refine ao.of fun hx=>(dJ.pure fun η ρ hE=>?_)
  simp only [AV.val,Lf.val,Rh]
  exact aje ho (hΘ s _ hs).2.1 (hΘ d _ hd).2.1 (aN hE h1)
 ·rename_i _ _ _ _ _ _ _ _ a hs hd
  refine ao.of fun hx=>(dJ.pure fun η ρ hE ev w c he _=>?_)
  have hs' := (hΘ s _ hs).2.1
  have hd' := (hΘ d _ hd).2.1
  have h2:=aN hE h1
  subst he
  simp only [AV.val,Lf.val] at h2 ⊢
  simp [execOp,ho,h2,convert,run_underlying hs',run_underlying hd',Result.andThen]
 ·exact ao.none
def sUn (op:UnOp) (v:AV) (k:Out→Option R):Option R:=match op,v with
 | .not, .lf (.c .bool b)=>k (bC (eI (!b)))
 | .neg, .lf (.c (.int kk) a)=>k (bC (gt kk (w_ kk (0 - a))))
 | .xor, .lf (.c (.int kk) a)=>k (bC (gt kk (pH .xor kk (if kk.signed then -1 else kk.max) a)))
 | _,_=>none
theorem ajX {op:UnOp} {v:AV} (ho:o.op = .unOp op t x) (h1:ev E x=some v) (k:Out→Option R):ao ex P o E F n (sUn op v k) k:=by
 unfold sUn
 split
 ·exact ao.of fun hx=>(dJ.pure fun η ρ hE=>ake ho (aN hE h1))
 ·refine ao.of fun hx=>(dJ.pure fun η ρ hE=>?_)
  simp only [AV.val,Lf.val,Rh]
  exact akb ho (aN hE h1)
 ·refine ao.of fun hx=>(dJ.pure fun η ρ hE ev w c he _=>?_)
  have h:=aN hE h1
  simp only [AV.val,Lf.val] at h ⊢
  subst he
  simp [execOp,ho,h,Op.unary,Op.intBits,pH,Result.andThen]
 ·exact ao.none
def IE (Θ:Tb) (E:SE) (ex:Option Bool) (n:Nat) (t:TypeId) (l:Lf) (lo hi:Option Operand) (F:List AF) (k:Out→Option R):Option R:=match Θ t with
 | some ⟨.slice e,_,_,_,_⟩=>match Θ e with
  | some ie=>bif Nat.beq ie.sz ie.tc.ty.sz then match lo,hi with
   | none,some h=>match gw ie.tc e 0 F l,ev E h with
    | some (ci,K,xs),some (.lf (.c (.int _) j))=>bif Nat.ble 2 ci&&Nat.blt e 1048576 then gchk ex (decide (0≤j∧j≤xs.length)) (k ⟨.lf (.sl n),[.own ie.tc e ci K (xs.take j.toNat) n],[]⟩) else none
    | none,some (.lf (.c (.int _) j))=>match jj ie.tc F l with
     | some s=>gchk ex (decide (0≤(0:Int)∧0≤j∧j≤s.xs.length)) (k ⟨.lf (.sl n),[.rep ie.tc s.all ((s.xs.take j.toNat).drop (0:Int).toNat) n],[]⟩)
     | none=>none
    | _,_=>none
   | some h0,none=>match jj ie.tc F l,ev E h0 with
    | some s,some (.lf (.c (.int _) i))=>gchk ex (decide (0≤i∧i≤(s.xs.length:Int)∧(s.xs.length:Int)≤s.xs.length)) (k ⟨.lf (.sl n),[.rep ie.tc s.all ((s.xs.take (s.xs.length:Int).toNat).drop i.toNat) n],[]⟩)
    | _,_=>none
   | some h0,some h=>match jj ie.tc F l,ev E h0,ev E h with
    | some s,some (.lf (.c (.int _) i)),some (.lf (.c (.int _) j))=>gchk ex (decide (0≤i∧i≤j∧j≤s.xs.length)) (k ⟨.lf (.sl n),[.rep ie.tc s.all ((s.xs.take j.toNat).drop i.toNat) n],[]⟩)
    | _,_,_=>none
   | none,none=>none
   else none
  | none=>none
 | _=>none
theorem UI (hΘ:Θ.ok P) {l:Lf} {lo hi:Option Operand} (ho:o.op = .slice t x lo hi none) (h1:ev E x=some (.lf l)) (k:Out→Option R):ao ex P o E F n (IE Θ E ex n t l lo hi F k) k:=by
 have key : ∀ {e:TypeId} {ie:TInf} {s:SI ie.tc} {i j:Int} {klo khi:IntKind},P.underlying t=some (.slice e)→Θ e=some ie→Nat.beq ie.sz ie.tc.ty.sz=true→jj ie.tc F l=some s →
   (∀ η ρ,nA η ρ E→lo.elim (i=0) (fun q=>aR ρ q = .int klo i))→(∀ η ρ,nA η ρ E→hi.elim (j=s.xs.length) (fun q=>aR ρ q = .int khi j))→decide (0≤i∧i≤j∧j≤s.xs.length)=true →
   Mz P o E F n ⟨.lf (.sl n),[.rep ie.tc s.all ((s.xs.take j.toNat).drop i.toNat) n],[]⟩:=by
  intro e ie s i j klo khi ht he hsz hs hlo hhi hb η ρ hE
  have h2:=aN hE h1
  simp only [AV.val] at h2
  rw [(oi hs η).1] at h2
  have:=(xG (o:=o) (ρ:=ρ) (L:=.rep ie.tc.ty s.all s.xs (l.hd η)::F.map (AF.ha η)) (klo:=klo) (khi:=khi) 0 rfl ho ht (hΘ e ie he).1 (Wo hsz) h2 (hlo η ρ hE) (hhi η ρ hE) hb).from (fun w c hH=>am.cons (kS hs hH) hH)
  refine this.map (fun _=>⟨η.setH n ((l.hd η).cut i.toNat j.toNat ie.sz),η.setH_agr n _⟩) (fun _=>?_) fun _=>?_
  ·simp [AV.val,Lf.val,Vn.setH_at]
  ·simp [AF.ha,Vn.setH_at]
 unfold IE
 split
 ·rename_i e _ _ _ _ ht
  have ht' : P.underlying t=some (.slice e):=(hΘ t _ ht).2.1
  split
  ·rename_i ie he
   refine ao.bif fun hsz=>?_
   split
   ·rename_i hlo h
    split
    ·rename_i ci K xs kk j hs hj
     refine ao.bif fun hce=>ao.gchk fun hb=>ao.of fun hx η ρ hE=>?_
     have hel:Nat.blt e 1048576=true:=by
      grind
     have h2:=aN hE h1
     simp only [AV.val] at h2
     rw [qo hs η] at h2
     have:=(Lg (o:=o) (ρ:=ρ) (L:=.own ie.tc.ty e ci K xs (l.hd η)::F.map (AF.ha η)) 0 rfl ho ht' (hΘ e ie he).1 (Wo hsz) h2 (aN hE hj) (hb hx)).from (fun w c hH=>am.cons (by
      have:=gb hs hH
      rwa [eD (gq hel)] at this) hH)
     refine this.map (fun _=>⟨η.setH n ((l.hd η).cut 0 j.toNat ie.sz),η.setH_agr n _⟩) (fun _=>?_) fun _=>?_
     ·simp [AV.val,Lf.val,Vn.setH_at]
     ·simp [AF.ha,Vn.setH_at,eD (gq hel)]
    ·rename_i kk j _ hj
     split
     ·rename_i s hs
      exact ao.gchk fun hb=>ao.of fun hx=>key (klo:=.i64) ht' he hsz hs (fun _ _ _=>rfl) (fun η ρ hE=>aN hE hj) (hb hx)
     ·exact ao.none
    ·exact ao.none
   ·rename_i h0
    split
    ·rename_i s kk i hs hi0
     exact ao.gchk fun hb=>ao.of fun hx=>key (khi:=.i64) ht' he hsz hs (fun η ρ hE=>aN hE hi0) (fun _ _ _=>rfl) (hb hx)
    ·exact ao.none
   ·rename_i h0 h
    split
    ·rename_i s k1 i k2 j hs hi0 hj
     exact ao.gchk fun hb=>ao.of fun hx=>key ht' he hsz hs (fun η ρ hE=>aN hE hi0) (fun η ρ hE=>aN hE hj) (hb hx)
    ·exact ao.none
   ·exact ao.none
  ·exact ao.none
 ·exact ao.none
def D3 (F:List AF) (t:TC):Nat→List Lf→Option (List t.den×List (List Lf)×List Nat)
 | 0,[]=>some ([],[],[])
 | 0,_::_=>none
 | m+1,ls=>match bZ F t ls with
  | some (x,l,K,r)=>match D3 F t m r with
   | some (xs,ll,K2)=>some (x::xs,l::ll,K++K2)
   | none=>none
  | none=>none
theorem NJ {t:TC} {η:Vn} : ∀ {m:Nat} {ls:List Lf} {xs:List t.den} {ll:List (List Lf)} {K:List Nat},D3 F t m ls=some (xs,ll,K) →
  xs.length=m∧ll.length=m∧aw η ls=cellsOf t.ty xs (ll.map fun l=>aO t (aS η l)) ∧
  ∀ (w:World) (c:bD) (K' : List Nat),am w c (F.map (AF.ha η))→(∀ k∈K,k∈K')→cp (bT w (fun b=>c b∈K') t.ty) xs (ll.map fun l=>aO t (aS η l))
 | 0,[],xs,ll,K,h=>by
  simp only [D3,Wn,W5] at h
  obtain ⟨rfl,rfl,rfl⟩:=h
  exact ⟨rfl,rfl,rfl,fun _ _ _ _ _=>trivial⟩
 | 0,_::_,xs,ll,K,h=>by simp [D3] at h
 | m+1,ls,xs,ll,K,h=>by
  simp only [D3] at h
  split at h
  ·rename_i x l K1 r h1
   split at h
   ·rename_i xs' ll' K2 h2
    simp only [Wn,W5] at h
    obtain ⟨rfl,rfl,rfl⟩:=h
    obtain ⟨c1,f1⟩:=dY (η:=η) t h1
    obtain ⟨e1,e2,c2,f2⟩:=NJ (η:=η) h2
    refine ⟨by simp [e1],by simp [e2],?_,fun w c K' hF hK=>⟨?_,?_⟩⟩
    ·simp only [XH,cellsOf]
     rw [c1,c2]
    ·simp_all
    simp_all
   ·cases h
  ·cases h
def Ef (ls:List Lf):Nat→List Lf
 | 0=>[]
 | m+1=>ls++Ef ls m
def EE (Θ:Tb) (E:SE) (n N:Nat) (t:TypeId) (m:Nat) (ps:Array (Nat×Operand)) (F:List AF) (k:Out→Option R):Option R:=match Θ t with
 | some ⟨.slice e,_,_,_,_⟩=>match Θ e,uo E ps.toList with
  | some ie,some vals=>match m with
   | 0=>bif vals.isEmpty&&Nat.ble 2 N&&Nat.blt e 1048576 then k ⟨.lf (.sl n),[.own ie.tc e N [] [] n],[]⟩ else none
   | m+1=>match xm (fun i=>some (i * ie.sz,ie.sz)) (Ef ie.zl (m+1)) vals with
    | some ls=>match D3 F ie.tc (m+1) ls,nq ie.zl ie.sz with
     | some (xs,_,K),some (_,[])=>bif Nat.beq ie.sz ie.tc.ty.sz&&Nat.ble 2 N&&Nat.ble ((m+1) * ie.sz) 16777216&&Nat.ble 1 ie.sz&&Nat.blt e 1048576 then k ⟨.lf (.sl n),[.own ie.tc e N K xs n],[]⟩ else none
     | _,_=>none
    | none=>none
  | _,_=>none
 | _=>none
theorem xx {η:Vn} {ls:List Lf} : ∀ m:Nat,aw η (Ef ls m)=(List.range (m * (aw η ls).length)).map (fun j=>(aw η ls).getD (j % (aw η ls).length) default)
 | 0=>by simp [Ef,aw]
 | m+1=>by
  have ih:=xx (η:=η) (ls:=ls) m
  simp only [Ef,bd,ih]
  rw [show (m+1) * (aw η ls).length=(aw η ls).length+m * (aw η ls).length by grind,List.range_add,Zy]
  congr 1
  ·apply aac
   intro j
   by_cases hj:j<(aw η ls).length
   ·simp [hj,Nat.mod_eq_of_lt hj]
   ·simp [hj]
  simp_all
theorem RA (hΘ:Θ.ok P) {m:Nat} {ps:Array (Nat×Operand)} (ho:o.op = .buildSlice t m ps) (k:Out→Option R):ao ex P o E F n (EE Θ E n N t m ps F k) k:=by
 unfold EE
 split
 ·rename_i e _ _ _ _ ht
  have ht' : P.underlying t=some (.slice e):=(hΘ t _ ht).2.1
  split
  ·rename_i ie vals he hp
   split
   ·refine ao.bif fun hc=>ao.of fun hx η ρ hE=>?_
    simp only [Wp] at hc
    have hv:vals=[]:=List.isEmpty_iff.1 hc.1.1
    have hps:ps = #[]:=by
     have:=qC (η:=η) hE hp
     simp_all
    refine (Eo (K:=[]) (ty:=ie.tc.ty) ho ht' (hΘ e ie he).1 hps hc.1.2).map (fun hh=>⟨η.setH n hh,η.setH_agr n hh⟩) (fun hh=>?_) fun hh=>?_
    ·simp [AV.val,Lf.val,Vn.setH_at]
    ·simp [AF.ha,Vn.setH_at,eD (gq hc.2)]
   ·rename_i m
    split
    ·rename_i ls hls
     split
     ·rename_i xs ll K q hd hcut
      refine ao.bif fun hc=>ao.of fun hx η ρ hE=>?_
      simp only [Wp] at hc
      obtain ⟨⟨⟨⟨hsz,hN⟩,hsm⟩,h1⟩,hel⟩:=hc
      obtain ⟨g1,_,g3,g4⟩:=hΘ e ie he
      obtain ⟨e2,l3⟩:=jY hcut
      rw [XE] at e2
      subst e2
      have l3:=l3 η
      obtain ⟨d1,d2,d3,d4⟩:=NJ (η:=η) hd
      have hpos:=Wt h1
      have hH' : ∀ w c,am w c (F.map (AF.ha η))→am w c (uD ie.tc.ty K xs (ll.map fun l=>aO ie.tc (aS η l))++F.map (AF.ha η)):=by
       intro w c hH
       refine am.append ?_ hH
       have hr:=d4 w c K hH (fun _ hk=>hk)
       clear d1 d2 d3 d4 hd hls
       revert hr
       generalize (ll.map fun l=>aO ie.tc (aS η l))=ys
       intro hr
       induction xs generalizing ys with
       | nil=>cases ys <;> exact am.nil _ _
       | cons x xs ih=>
        cases ys with
        | nil=>exact am.nil _ _
        | cons y ys=>exact (qp ie.tc.ty x y hr.1).append (ih ys hr.2)
      have hpaid:pw (uD ie.tc.ty K xs (ll.map fun l=>aO ie.tc (aS η l))++F.map (AF.ha η)) (uD ie.tc.ty K xs (ll.map fun l=>aO ie.tc (aS η l))):=by
       have gen : ∀ (A B:List HA),(∀ a∈A,a∈B)→pw B A:=by
        intro A B
        induction A with
        | nil=>intro _; trivial
        | cons a A ih=>
         intro h
         obtain ⟨j,hj⟩:=agC.1 (h a W7)
         exact ⟨.inl ⟨j,a,hj,vG⟩,ih fun b hb=>h b (Wq _ hb)⟩
       grind
      have hfill:=xZ (η:=η) hls
      rw [xx,l3] at hfill
      have hzc:ie.zv.cells.toList=aw η ie.zl:=by grind
      refine ((ya (cells:=aw η ls) (ty:=ie.tc.ty) (K:=K) (xs:=xs) (ys:=ll.map fun l=>aO ie.tc (aS η l)) ho ht' g1 (Wo hsz) hsm ?_ (qC hE hp) ?_ (by simp [d1]) (by simp [d2]) d3.symm hpaid hN).from hH').map (fun hh=>⟨η.setH n hh,η.setH_agr n hh⟩) (fun hh=>?_) fun hh=>?_
      ·refine Yb ?_
       grind
      ·grind
      ·simp [AV.val,Lf.val,Vn.setH_at]
      ·simp [AF.ha,Vn.setH_at,eD (gq hel)]
     ·exact ao.none
    ·exact ao.none
  ·exact ao.none
 ·exact ao.none
end
end
end Go.Sm
