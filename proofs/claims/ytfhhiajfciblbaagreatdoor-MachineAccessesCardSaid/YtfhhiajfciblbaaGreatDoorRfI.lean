/- Laws for the row. No condition. -/
import Derived.Test.YtfhhiajfciblbaaGreatDoorSimR
import Derived.Test.YtfhhiajfciblbaaGreatDoorRfHd
import Derived.Laws.Strings
namespace Go.Sm
set_option linter.unusedSectionVars false
variable {y x z:Operand} {t' kt:TypeId} {N h m:Nat} {Gq:TypeId→Bool} {op:BinOp}
section
variable [X:XTab] [G:GTab]
def TC.eqD:(t:TC)→t.den→t.den→Bool
 | .sc (.int _),a,b=>(show Int from a)==(show Int from b)
 | .sc .bool,a,b=>(show Bool from a)==(show Bool from b)
 | .sc .str,a,b=>(show List UInt8 from a)==(show List UInt8 from b)
 | .pair a b,x,y=>a.eqD x.1 y.1&&b.eqD x.2 y.2
 | _,_,_=>false
def du (k v:TC) (x:k.den) (xs:List (k.den×v.den)):Option v.den:=(xs.find? fun p=>k.eqD x p.1).map (·.2)
def cR (k v:TC) (x:k.den) (y:v.den) (xs:List (k.den×v.den)):List (k.den×v.den):=xj (fun p=>k.eqD x p.1) (x,y) xs
def Cr (Θ:Tb) (t:TypeId) (s:SC):Bool:=match Θ t,s with
 | some ⟨.int k,_,_,_,_⟩, .int k' => decide (k' = k)
 | some ⟨.bool,_,_,_,_⟩, .bool=>true
 | some ⟨.str,_,_,_,_⟩, .str=>true
 | _,_=>false
def dR (Θ:Tb):List (TypeId×Nat)→TC→Nat→Bool
 | [(ft,off)], .sc s,pos=>Nat.beq off pos&&Cr Θ ft s
 | (ft,off)::f2::fs, .pair (.sc s) b,pos=>Nat.beq off pos&&Cr Θ ft s&&dR Θ (f2::fs) b (pos+1)
 | _,_,_=>false
theorem Fq {Θ:Tb} {ft:TypeId} {off pos:Nat} {s:SC} {x y:s.den} {fs:List (TypeId×Nat)} {r r' : List Lf} {e:Bool} (h1:Nat.beq off pos=true) (h2:Cr Θ ft s=true) (hr:oU Θ fs r r' (pos+1)=some e):oU Θ ((ft,off)::fs) (.c s x::r) (.c s y::r') pos=some ((TC.sc s).eqD x y&&e):=by
 obtain rfl:=Wo h1
 unfold Cr at h2
 split at h2
 ·rename_i hi
  simp only [oU,hi,hr,ai8,Xa,afO,TC.eqD]
 ·rename_i hi
  simp only [oU,hi,hr,Xa,afO,TC.eqD]
 ·rename_i hi
  simp only [oU,hi,hr,Xa,afO,TC.eqD]
 ·cases h2
theorem KO {Θ:Tb} : ∀ {k:TC} {fs:List (TypeId×Nat)} {pos:Nat} {x y:k.den} {n:Nat},dR Θ fs k pos=true→oU Θ fs (jL k x n) (jL k y n) pos=some (k.eqD x y)
 | .sc s,[(ft,off)],pos,x,y,n,h=>by
  simp only [dR,Wp] at h
  have:=Fq (Θ:=Θ) (x:=x) (y:=y) (fs:=[]) (r:=[]) (r' := []) (e:=true) h.1 h.2 (by simp [oU])
  rw [afx] at this
  exact this
 | .pair (.sc s) b,(ft,off)::f2::fs,pos,x,y,n,h=>by
  rw [dR,Wp,Wp] at h
  exact Fq (x:=x.1) (y:=y.1) h.1.1 h.1.2 (KO (k:=b) (x:=x.2) (y:=y.2) (n:=n+(TC.sc s).nh) h.2)
 | .sc s,[],_,_,_,_,h=>by simp [dR] at h
 | .sc s,_::_::_,_,_,_,_,h=>by simp [dR] at h
 | .pair (.sc s) b,[],_,_,_,_,h=>by simp [dR] at h
 | .pair (.sc s) b,[_],_,_,_,_,h=>by simp [dR] at h
 | .pair (.arr _ _) b,fs,_,_,_,_,h=>by rcases fs with _ | ⟨_,_ | _⟩ <;> simp [dR] at h
 | .pair .unit b,fs,_,_,_,_,h=>by rcases fs with _ | ⟨_,_ | _⟩ <;> simp [dR] at h
 | .pair (.pair _ _) b,fs,_,_,_,_,h=>by rcases fs with _ | ⟨_,_ | _⟩ <;> simp [dR] at h
 | .pair (.slice _) b,fs,_,_,_,_,h=>by rcases fs with _ | ⟨_,_ | _⟩ <;> simp [dR] at h
 | .pair (.st _) b,fs,_,_,_,_,h=>by rcases fs with _ | ⟨_,_ | _⟩ <;> simp [dR] at h
 | .pair (.ext _) b,fs,_,_,_,_,h=>by rcases fs with _ | ⟨_,_ | _⟩ <;> simp [dR] at h
 | .pair .node b,fs,_,_,_,_,h=>by rcases fs with _ | ⟨_,_ | _⟩ <;> simp [dR] at h
 | .pair (.mp _ _) b,fs,_,_,_,_,h=>by rcases fs with _ | ⟨_,_ | _⟩ <;> simp [dR] at h
 | .arr _ _,fs,_,_,_,_,h=>by rcases fs with _ | ⟨_,_ | _⟩ <;> simp [dR] at h
 | .unit,fs,_,_,_,_,h=>by rcases fs with _ | ⟨_,_ | _⟩ <;> simp [dR] at h
 | .slice _,fs,_,_,_,_,h=>by rcases fs with _ | ⟨_,_ | _⟩ <;> simp [dR] at h
 | .st _,fs,_,_,_,_,h=>by rcases fs with _ | ⟨_,_ | _⟩ <;> simp [dR] at h
 | .ext _,fs,_,_,_,_,h=>by rcases fs with _ | ⟨_,_ | _⟩ <;> simp [dR] at h
 | .node,fs,_,_,_,_,h=>by rcases fs with _ | ⟨_,_ | _⟩ <;> simp [dR] at h
 | .mp _ _,fs,_,_,_,_,h=>by rcases fs with _ | ⟨_,_ | _⟩ <;> simp [dR] at h
theorem Jd : ∀ {k:TC} {x y:k.den},k.eqD x y=true→x=y
 | .sc (.int _),x,y,h=>by simpa [TC.eqD] using h
 | .sc .bool,x,y,h=>by simpa [TC.eqD] using h
 | .sc .str,x,y,h=>by simpa [TC.eqD] using h
 | .sc .fnc,_,_,h=>by cases h
 | .pair a b,x,y,h=>by
  simp only [TC.eqD,Wp] at h
  exact Prod.ext (Jd h.1) (Jd h.2)
 | .arr _ _,_,_,h=>by cases h
 | .unit,_,_,h=>by cases h
 | .slice _,_,_,h=>by cases h
 | .st _,_,_,h=>by cases h
 | .ext _,_,_,h=>by cases h
 | .node,_,_,h=>by cases h
 | .mp _ _,_,_,h=>by cases h
section
variable {R:Type} {P:Program} {o:Oper} {E:SE} {F:List AF} {n:Nat} {Θ:Tb} {ex:Option Bool}
theorem ai4 (hΘ:Θ.ok P) {t:TypeId} {s:SC} (h:Cr Θ t s=true) (x:s.den) : ∃ D,P.underlying t=some D∧lP D=false∧MapKept.IsKey D (s.val x):=by
 unfold Cr at h
 split at h
 ·rename_i k _ _ _ _ k' hi
  have hfit:=(hΘ t _ hi).2.1
  obtain rfl:=Yd h
  exact ⟨_,hfit,rfl,rfl⟩
 ·rename_i hi
  exact ⟨_,(hΘ t _ hi).2.1,rfl,trivial⟩
 ·rename_i hi
  exact ⟨_,(hΘ t _ hi).2.1,rfl,trivial⟩
 ·cases h
abbrev Ro (em:Bool) (d:Nat) (xs:Array Value) (f:Field):Sem (ForInStep PUnit):=if f.name ≠ "_" then do
  let v ← part f.type xs f.offset
  Instr.checkKey em (d+1) f.type v
  pure (ForInStep.yield PUnit.unit)
 else pure (ForInStep.yield PUnit.unit)
theorem afc (hΘ:Θ.ok P) {w:World} {η:Vn} {xs:Array Value} {em:Bool} {d:Nat} : ∀ {fl:List Field} {fs:List (TypeId×Nat)} {k:TC} {x:k.den} {n pos:Nat},fl.map (fun f=>(f.type,f.offset))=fs→fl.all (fun f=>!(f.name == "_"))=true→dR Θ fs k pos=true →
  (∀ j,xs[pos+j]? = (aw η (jL k x n))[j]?)→(forIn fl PUnit.unit fun f (_:PUnit)=>(Ro em d xs f)).run P w = .ok () w:=by
 have one : ∀ {f:Field} {fl:List Field} {s:SC} {x:s.den} {pos:Nat},(f.name == "_")=false→Nat.beq f.offset pos=true→Cr Θ f.type s=true→xs[pos]? = some (s.val x) →
   (forIn fl PUnit.unit fun f (_:PUnit)=>(Ro em d xs f)).run P w = .ok () w →
   (forIn (f::fl) PUnit.unit fun f (_:PUnit)=>(Ro em d xs f)).run P w = .ok () w:=by
  intro f fl s x pos hn ho hs hx ih
  obtain ⟨D,hu,hag,hk⟩:=ai4 hΘ hs x
  have hn' : ¬ f.name = "_" := by simpa using hn
  have p1:(part f.type xs f.offset).run P w = .ok (s.val x) w:=by simp [part,ng hu hag,Wo ho,hx,Result.andThen]
  have p2:(Instr.checkKey em (d+1) f.type (s.val x)).run P w = .ok () w:=MapKept.run_checkKey hu hk em d
  simp_all
 intro fl
 induction fl with
 | nil=>simp_all
 | cons f fl ih=>
  intro fs k x n pos hm hn h hx
  simp only [XH] at hm
  subst hm
  simp only [aas,Wp,YW] at hn
  cases fl with
  | nil=>
   cases k <;> simp only [aaz,dR] at h <;> try cases h
   rename_i s
   simp only [Wp] at h
   have h0:=hx 0
   simp only [Yk,jL,aw,Lf.cells,Zr,aaR] at h0
   exact one hn.1 h.1 h.2 h0 (by simp_all)
  | cons f2 fl=>
   cases k <;> simp only [XH,dR] at h <;> try cases h
   rename_i a b
   cases a <;> simp only [dR] at h <;> try cases h
   rename_i s
   rw [Wp,Wp] at h
   have h0:=hx 0
   simp only [Yk,jL,aw,Lf.cells,Zr,aaR] at h0
   refine one hn.1 h.1.1 h.1.2 h0 (ih (k:=b) (x:=x.2) (n:=n+0) (pos:=pos+1) rfl hn.2 h.2 fun j=>?_)
   have:=hx (j+1)
   rw [show pos+(j+1)=pos+1+j by omega] at this
   simpa [jL,aw,Lf.cells,TC.nh] using this
theorem Aw (n:Nat) (s:SC) (x:s.den) (h:s≠.fnc):Instr.sameBits n (s.val x) (s.val x)=true:=by
 cases s with
 | int k=>simp [SC.val,Instr.sameBits]
 | bool=>simp [SC.val,Instr.sameBits]
 | str=>
  simp only [SC.val,Instr.sameBits]
  exact (MapKept.bytes_beq _ _).2 rfl
 | fnc=>grind
theorem L7 {η:Vn} : ∀ {k:TC} {fs:List (TypeId×Nat)} {pos n:Nat} {x:k.den},dR Θ fs k pos=true→∀ v∈aw η (jL k x n),Instr.sameBits m v v=true:=by
 have ne : ∀ {t:TypeId} {s:SC},Cr Θ t s=true→s≠.fnc:=by
  intro t s h e
  subst e
  unfold Cr at h
  grind
 intro k
 induction k with
 | sc s=>
  intro fs pos n x h v hv
  rcases fs with _ | ⟨⟨ft,off⟩,_ | _⟩ <;> simp only [dR] at h <;> try cases h
  simp only [Wp] at h
  simp only [jL,aw,Lf.cells,Zr,Yv,Wz] at hv
  subst hv
  exact Aw m s x (ne h.2)
 | pair a b _ ih=>
  intro fs pos n x h v hv
  rcases fs with _ | ⟨⟨ft,off⟩,_ | ⟨f2,fs⟩⟩ <;> cases a <;> simp only [dR] at h <;> try cases h
  rename_i s _
  rw [Wp,Wp] at h
  simp only [jL,aw,Lf.cells,Zr,Yv,Xb] at hv
  rcases hv with rfl | hv
  ·exact Aw m s x.1 (ne h.1.2)
  grind
 | _=>
  intro fs pos n x h v hv
  rcases fs with _ | ⟨_,_ | _⟩ <;> simp [dR] at h
theorem xz : ∀ {k:TC} {fs:List (TypeId×Nat)} {pos:Nat},dR Θ fs k pos=true→k.ty.pureB=true:=by
 intro k
 induction k with
 | sc s=>intros; rfl
 | pair a b _ ih=>
  intro fs pos h
  rcases fs with _ | ⟨⟨ft,off⟩,_ | ⟨f2,fs⟩⟩ <;> cases a <;> simp only [dR] at h <;> try cases h
  rw [Wp] at h
  simp only [Ty.pureB,Wp]
  grind
 | _=>
  intro fs pos h
  rcases fs with _ | ⟨_,_ | _⟩ <;> simp [dR] at h
def Ek (Θ:Tb) (Gq:TypeId→Bool) (kt:TypeId) (k:TC):Bool:=match Θ kt,k with
 | some ⟨.int k0,_,_,_,_⟩, .sc (.int k1)=>decide (k1=k0)
 | some ⟨.st fs,_,_,_,_⟩, .pair a b=>Gq kt&&dR Θ fs (.pair a b) 0
 | _,_=>false
theorem Pb (hΘ:Θ.ok P) (hG : ∀ t,Gq t=true→xB P t)  {k v:TC} (h:Ek Θ Gq kt k=true) (x:k.den) (xs:List (k.den×v.den)) :
  KeyRun P kt (om k x) (fun p=>k.eqD x p.1) (fun p:k.den×v.den=>(om k p.1,om v p.2)) xs:=by
 unfold Ek at h
 split at h
 ·rename_i k0 _ _ _ _ k1 hi
  obtain rfl:=Yd h
  exact aiP (g:=fun p=>p.1) (hΘ kt _ hi).2.1 x (fun _ _=>rfl) (fun _ _=>rfl)
 ·rename_i fs _ _ _ _ a b hi
  simp only [Wp] at h
  obtain ⟨g1,g2,g3⟩:=hG kt h.1
  obtain ⟨Fd,hs,hm⟩:=(hΘ kt _ hi).2.1
  have hf:P.fieldsOf kt=Fd:=by simp [Program.fieldsOf,hs]
  rw [hf] at g3
  have hcell : ∀ y:(TC.pair a b).den,om (.pair a b) y = .agg (aw Fs (jL (.pair a b) y 0)).toArray:=by
   intro y
   rw [jk (.pair a b) y [] 0 (fun j h hj=>by simp at hj) (by rw [wT _ (xz h.2)]; grind)]
   simp only [om]
   rw [oT _ (xz h.2) y _ (aO (TC.pair a b) [])]
  refine V0 hs (fun w em=>?_) (fun w p _=>?_) (fun p _ hq=>?_) ?_
  ·rw [hcell]
   rw [show (10000:Nat)=9999+1 from rfl,Instr.checkKey]
   simp only [Sem.run_bind,run_underlying hs,Result.andThen_ok]
   rw [← Array.forIn_toList]
   have:=afc (P:=P) hΘ (w:=w) (η:=Fs) (xs:=(aw Fs (jL (.pair a b) x 0)).toArray) (em:=em) (d:=9998) hm g3 h.2 (x:=x) (n:=0) (fun j=>by simp)
   simp_all
  ·simp only
   rw [hcell,hcell]
   rw [run_equalIn_struct (P:=P) w 9999 kt _ _ (by grind) g2,hf]
   exact wU hΘ (η:=Fs) (d:=9998) hm g3 (KO (n:=0) h.2) (fun j=>by simp) (fun j=>by simp)
  ·simp only at hq ⊢
   rw [Jd hq]
  ·rw [hcell]
   show Instr.sameBits (9999+1) _ _=true
   simp only [Instr.sameBits,W9,agB,W3]
   intro p hp
   obtain ⟨i,hi,e⟩:=agL hp
   rw [List.getElem_zip] at e
   rw [← e]
   exact L7 h.2 _ (List.getElem_mem _)
 ·cases h
theorem afa : ∀ (t:TC),t.ty.pureB=true→∀ (x:t.den) (y:t.ty.Refs),mK t x y=om t x
 | .sc _,_,_,_=>rfl
 | .arr _ _,_,_,_=>rfl
 | .unit,_,_,_=>rfl
 | .pair a b,h,x,y=>by simp only [mK,om]; rw [oT _ h x y (TC.pair a b).ref0]
 | .st a,h,x,y=>by simp only [mK,om]; rw [oT _ h x y a.ref0]
 | .slice _,h,_,_=>by cases h
 | .ext _,_,_,_=>rfl
 | .node,h,_,_=>by cases h
 | .mp _ _,h,_,_=>by cases h
theorem Ms {t:TC} {v:AV} {x:t.den} {l:List Lf} {K:List Nat} (h:qf [] t v=some (x,l,K)) (hp:t.ty.pureB=true) (η:Vn):v.val η=om t x:=by
 rw [(ue (η:=η) h).1,afa t hp]
theorem FH {k:TC} (h:Ek Θ Gq kt k=true):k.ty.pureB=true:=by
 unfold Ek at h
 split at h
 ·rfl
 ·simp only [Wp] at h
  exact xz h.2
 ·cases h
def aad (Θ:Tb) (n N:Nat) (t:TypeId) (k:Out→Option R):Option R:=match Θ t with
 | some ⟨.map kt et,_,_,_,_⟩=>match Θ kt,Θ et with
  | some ik,some ie=>bif Nat.ble 2 N then k ⟨.lf (.mp n),[.mp ik.tc ie.tc N [] n],[]⟩ else none
  | _,_=>none
 | _=>none
theorem ae9 {t:TypeId} (ho:o.op = .makeMap t none) (k:Out→Option R):ao ex P o E F n (aad Θ n N t k) k:=by
 unfold aad
 split
 ·split
  ·refine ao.bif fun hN=>ao.of fun _ η ρ hE=>?_
   refine (R0 ho hN).map (fun b=>⟨η.setH n ⟨some ⟨b,0,none⟩,0,0⟩,η.setH_agr n _⟩) (fun b=>?_) fun b=>?_
   ·simp [AV.val,Lf.val,Vn.setH_at,Hd.blk]
   ·simp [AF.ha,Vn.setH_at,Hd.blk,yI]
  ·exact ao.none
 ·exact ao.none
def Mp (ex:Option Bool) (kc vt:TC) (x:kc.den) (xs:List (kc.den×vt.den)) (ie:TInf) (k:Out→Option R):Option R:=match vt,xs,ie.zl with
 | .sc .bool,xs,[.c .bool b]=>bif ie.d.agg then none else k ⟨.lf (.c .bool ((du kc (.sc .bool) x xs).getD b)),[],[]⟩
 | .sc .fnc,xs,_=>gbind ex (0:Nat) (du kc (.sc .fnc) x xs) fun f=>k ⟨.lf (.c .fnc f),[],[]⟩
 | _,_,_=>none
def Q9 (Θ:Tb) (Gq:TypeId→Bool) (ex:Option Bool) (t:TypeId) (h:Nat) (v:AV) (F:List AF) (k:Out→Option R):Option R:=match Θ t with
 | some ⟨.map kt et,_,_,_,_⟩=>match Θ kt,Θ et with
  | some ik,some ie=>match uP ik.tc ie.tc h F,qf [] ik.tc v with
   | some s,some (x,_,_)=>bif Ek Θ Gq kt ik.tc then Mp ex ik.tc ie.tc x s.xs ie k else none
   | _,_=>none
  | _,_=>none
 | _=>none
theorem Uf {t et:TypeId} {m:Operand} {kc vt:TC} {i:Nat} {x:kc.den} {xs:List (kc.den×vt.den)} {ie:TInf} (hF : .mp kc vt i xs h∈F) (hie:ie.ok P et) (ht:P.underlying t=some (.map kt et)) (ho:o.op = .lookup t m y false) (hm:ev E m=some (.lf (.mp h)))
  (hy : ∀ (η:Vn) (ρ:dm),nA η ρ E→aR ρ y=om kc x) (K:KeyRun P kt (om kc x) (fun p=>kc.eqD x p.1) (fun p:kc.den×vt.den=>(om kc p.1,om vt p.2)) xs) (k:Out→Option R):ao ex P o E F n (Mp ex kc vt x xs ie k) k:=by
 unfold Mp
 split
 ·rename_i xs b hz
  cases hag:ie.d.agg
  rotate_left
  ·exact ao.none
  refine ao.of fun _=>dJ.pure fun η ρ hE=>?_
  obtain ⟨j,hj⟩:=m9 hF η
  have hz' : ie.zv = .bool b:=by simp [TInf.zv,hag,hz,aw,Lf.cells,SC.val]
  have h1:=hie.1
  rw [hz'] at h1
  have:=Z8 (L:=F.map (AF.ha η)) j hj ho ht (by rw [aN hE hm]; rfl) (hy η ρ hE) K h1
  have e:(AV.lf (.c .bool ((du kc (.sc .bool) x xs).getD b))).val η=((xs.find? fun p=>kc.eqD x p.1).map fun p:kc.den×(TC.sc .bool).den=>om (.sc .bool) p.2).getD (.bool b):=by
   simp only [AV.val,Lf.val,du]
   cases xs.find? fun p=>kc.eqD x p.1 <;> rfl
  grind
 ·rename_i xs
  refine ao.gbind fun f hf=>ao.of fun hx=>dJ.pure fun η ρ hE=>?_
  obtain ⟨j,hj⟩:=m9 hF η
  have hf:=hf hx
  simp only [du,YX] at hf
  obtain ⟨a0,h1,rfl⟩:=hf
  exact UC (L:=F.map (AF.ha η)) j hj ho ht (by rw [aN hE hm]; rfl) (hy η ρ hE) K h1
 ·exact ao.none
theorem aaa (hΘ:Θ.ok P) (hG : ∀ t,Gq t=true→xB P t) {t:TypeId} {m:Operand}  {v:AV} (ho:o.op = .lookup t m y false) (h1:ev E m=some (.lf (.mp h))) (h2:ev E y=some v) (k:Out→Option R) :
  ao ex P o E F n (Q9 Θ Gq ex t h v F k) k:=by
 unfold Q9
 split
 ·rename_i kt et _ _ _ _ ht
  split
  ·rename_i ik ie hik hie
   split
   ·rename_i s x _ _ hs hd
    refine ao.bif fun hk=>?_
    exact Uf (jT hs) (hΘ et ie hie) (hΘ t _ ht).2.1 ho h1 (fun η ρ hE=>by rw [aN hE h2]; exact Ms hd (FH hk) η) (Pb hΘ hG hk x s.xs) k
   ·exact ao.none
  ·exact ao.none
 ·exact ao.none
def Hm (Θ:Tb) (Gq:TypeId→Bool) (t:TypeId) (h:Nat) (v1 v2:AV) (F:List AF) (k:Out→Option R):Option R:=match Θ t with
 | some ⟨.map kt et,_,_,_,_⟩=>match Θ kt,Θ et with
  | some ik,some ie=>match uP ik.tc ie.tc h F,qf [] ik.tc v1,qf [] ie.tc v2 with
   | some s,some (x,_,_),some (y,_,_)=>bif Ek Θ Gq kt ik.tc&&ie.tc.ty.pureB then k ⟨.lf (.v undef),[.mp ik.tc ie.tc s.i (cR ik.tc ie.tc x y s.xs) h],[s.i]⟩ else none
   | _,_,_=>none
  | _,_=>none
 | _=>none
theorem K3 (hΘ:Θ.ok P) (hG : ∀ t,Gq t=true→xB P t) {t:TypeId} {m:Operand}  {v1 v2:AV} (ho:o.op = .mapUpdate t m y z∨o.op = .insert t m y z) (h1:ev E m=some (.lf (.mp h))) (h2:ev E y=some v1) (h3:ev E z=some v2)
  (k:Out→Option R):ao ex P o E F n (Hm Θ Gq t h v1 v2 F k) k:=by
 unfold Hm
 split
 ·rename_i kt et _ _ _ _ ht
  split
  ·rename_i ik ie hik hie
   split
   ·rename_i s x _ _ y' _ _ hs hd1 hd2
    refine ao.bif fun hk=>ao.of fun _ η ρ hE=>?_
    simp only [Wp] at hk
    obtain ⟨j,hj⟩:=m9 (jT hs) η
    exact (Vw (L:=F.map (AF.ha η)) (a0:=(x,y')) (q:=fun p=>ik.tc.eqD x p.1) (f:=fun p:ik.tc.den×ie.tc.den=>(om ik.tc p.1,om ie.tc p.2)) j hj ho (hΘ t _ ht).2.1 (by rw [aN hE h1]; rfl) (by rw [aN hE h2]; exact Ms hd1 (FH hk.1) η)
     (by rw [aN hE h3]; exact Ms hd2 hk.2 η) (Pb hΘ hG hk.1 x s.xs)).map (fun _=>⟨η,Vn.agr_refl n η⟩) (fun _=>rfl) (fun _=>rfl)
   ·exact ao.none
  ·exact ao.none
 ·exact ao.none
def cpD (t:TC) (e:TypeId) (N:Nat) (F:List AF) (d:Nat):Option (Nat×Int×Int×Nat×List Nat×List t.den):=match ot d F with
 | some (h,sz,lo,hi)=>bif Nat.beq sz 1 then match gw t e N F (.sl h) with
   | some (ci,K,xs)=>some (h,lo,hi,ci,K,xs)
   | none=>none
  else none
 | none=>match gw t e N F (.sl d) with
  | some (ci,K,xs)=>some (d,0,xs.length,ci,K,xs)
  | none=>none
theorem aj3 {t:TC} {e:TypeId} {F:List AF} {d:Nat} {lo hi:Int} {ci:Nat} {K:List Nat} {xs:List t.den} (hc:cpD t e N F d=some (h,lo,hi,ci,K,xs)) (h1:t.ty.sz=1) (he:Nat.blt e 1048576=true) :
  gw t e N F (.sl h)=some (ci,K,xs)∧∀ (η:Vn) (w:World) (c:bD),am w c (F.map (AF.ha η))→pX (η.h d) (η.h h) 1 lo hi:=by
 unfold cpD at hc
 split at hc
 ·rename_i h' sz lo' hi' hp
  cases hb:Nat.beq sz 1
  ·grind
  ·rw [hb,f9] at hc
   split at hc
   ·rename_i hs
    simp only [Wn,W5] at hc
    obtain ⟨rfl,rfl,rfl,rfl,rfl,rfl⟩:=hc
    obtain rfl:=Wo hb
    exact ⟨hs,fun η w c hH=>hH _ (W6.2 ⟨_,jf hp,rfl⟩)⟩
   ·cases hc
 ·split at hc
  ·rename_i hs
   simp only [Wn,W5] at hc
   obtain ⟨rfl,rfl,rfl,rfl,rfl,rfl⟩:=hc
   refine ⟨hs,fun η w c hH=>?_⟩
   have hown:=gb hs hH
   rw [eD (gq he)] at hown
   obtain ⟨rs,hr,ho,_⟩:=hown
   refine ⟨aeq _,?_,fun hlt=>?_⟩
   ·rcases (ho.plain he).2 with ⟨hv,hn⟩ | ⟨g,cap,cur,hv,_⟩
    ·simp only [Lf.hd,Hd.val,Value.slice.injEq] at hv; omega
    ·simp only [Lf.hd,Hd.val,Value.slice.injEq] at hv; omega
   ·rcases (ho.plain he).2 with ⟨hv,hn⟩ | ⟨g,cap,cur,hv,_⟩
    ·omega
    ·simp only [Lf.hd,Hd.val,Value.slice.injEq] at hv
     refine ⟨g,0,hv.1,?_⟩
     simp [eQ,hv.1]
  ·cases hc
def cpS (t:TC) (F:List AF) (l:Lf):Option (List t.den×Bool):=match l with
 | .sl s=>match ot s F with
  | some (h,sz,lo,hi)=>bif Nat.beq sz 1 then match jj t F (.sl h) with
    | some s2=>some ((s2.xs.take hi.toNat).drop lo.toNat,decide (lo≤hi∧hi≤s2.xs.length))
    | none=>none
   else none
  | none=>match jj t F (.sl s) with
   | some s2=>some (s2.xs,true)
   | none=>none
 | l=>match jj t F l with
  | some s2=>some (s2.xs,true)
  | none=>none
theorem ahG {t:TC} {F:List AF} {l:Lf} {ys:List t.den} {g:Bool} (hc:cpS t F l=some (ys,g)) (h1:t.ty.sz=1) (hg:g=true) (η:Vn):l.val η=(l.hd η).val∧∀ (w:World) (c:bD),am w c (F.map (AF.ha η))→ID w t.ty ys (l.hd η):=by
 unfold cpS at hc
 split at hc
 ·rename_i s
  refine ⟨rfl,fun w c hH=>?_⟩
  split at hc
  ·rename_i h sz lo hi hp
   cases hb:Nat.beq sz 1
   ·grind
   ·rw [hb,f9] at hc
    split at hc
    ·rename_i s2 hs
     simp only [Wn,W5] at hc
     obtain ⟨rfl,rfl⟩:=hc
     obtain rfl:=Wo hb
     exact af8 h1 (D1 (kS hs hH)) (hH _ (W6.2 ⟨_,jf hp,rfl⟩)) (Yd hg)
    ·cases hc
  ·split at hc
   ·rename_i s2 hs
    simp only [Wn,W5] at hc
    obtain ⟨rfl,rfl⟩:=hc
    exact D1 (kS hs hH)
   ·cases hc
 ·split at hc
  ·rename_i s2 hs
   simp only [Wn,W5] at hc
   obtain ⟨rfl,rfl⟩:=hc
   exact ⟨(oi hs η).1,fun w c hH=>D1 (kS hs hH)⟩
  ·cases hc
def Rq (Θ:Tb) (ex:Option Bool) (N:Nat) (t:TypeId) (v1 v2:AV) (F:List AF) (k:Out→Option R):Option R:=match Θ t with
 | some ⟨.slice e,_,_,_,_⟩=>match Θ e,v1,v2 with
  | some ie, .lf (.sl d), .lf l2=>match cpD ie.tc e N F d,cpS ie.tc F l2 with
   | some (h,lo,hi,ci,K,xs),some (ys,g)=>bif Nat.beq ie.sz 1&&Nat.beq ie.tc.ty.sz 1&&ie.tc.ty.pureB&&Nat.ble 2 ci&&Nat.blt e 1048576 then
     gchk ex (decide (lo≤hi∧hi≤xs.length)&&g) (k ⟨gt .i64 ((min (hi - lo).toNat ys.length:Nat):Int),[.own ie.tc e ci K (xs.take lo.toNat++ys.take (min (hi - lo).toNat ys.length)++xs.drop (lo.toNat+min (hi - lo).toNat ys.length)) h],[ci]⟩) else none
   | _,_=>none
  | _,_,_=>none
 | _=>none
theorem Yj (hΘ:Θ.ok P) {t:TypeId}  {v1 v2:AV} (ho:o.op = .call { callee:=.builtin .copy,args:=#[x,y],argTypes:=#[t,t'] }) (h1:ev E x=some v1) (h2:ev E y=some v2) (k:Out→Option R) :
  ao ex P o E F n (Rq Θ ex N t v1 v2 F k) k:=by
 unfold Rq
 split
 ·rename_i e _ _ _ _ ht
  split
  ·rename_i ie d l2 he
   split
   ·rename_i h lo hi ci K xs ys g hs1 hs2
    refine ao.bif fun hc=>ao.gchk fun hr=>ao.of fun hx η ρ hE=>?_
    simp only [Wp] at hc hr
    obtain ⟨⟨⟨⟨hsz,h1'⟩,hp⟩,hci⟩,hel⟩:=hc
    have e1:=aN hE h1
    have e2:=aN hE h2
    simp only [AV.val] at e1 e2
    obtain ⟨g1,g2⟩:=aj3 hs1 (Wo h1') hel
    obtain ⟨g3,g4⟩:=ahG hs2 (Wo h1') (hr hx).2 η
    rw [g3] at e2
    have hH' : ∀ w c,am w c (F.map (AF.ha η))→am w c (.own ie.tc.ty e ci K xs (η.h h)::F.map (AF.ha η)):=fun w c hH=>by
     have h0:=gb g1 hH
     rw [eD (gq hel)] at h0
     exact am.cons h0 hH
    have:=(aeS (o:=o) (ρ:=ρ) (L:=.own ie.tc.ty e ci K xs (η.h h)::F.map (AF.ha η)) hp h1' 0 rfl (fun w c hL=>g2 η w c fun A hA=>hL A (Wq _ hA)) (fun w c hL=>g4 w c fun A hA=>hL A (Wq _ hA)) ho (hΘ t _ ht).2.1 (hΘ e ie he).1 hsz e1 e2 (hr hx).1 hci hel).from hH'
    refine this.map (fun _=>⟨η,η.agr_refl n⟩) (fun _=>rfl) fun _=>?_
    simp only [XH,aaz,AF.ha]
    rw [eD (gq hel)]
   ·exact ao.none
  ·exact ao.none
 ·exact ao.none
def Ez (Θ:Tb) (E:SE) (ex:Option Bool) (n:Nat) (t:TypeId) (l:Lf) (lo hi:Option Operand) (F:List AF) (k:Out→Option R) (alt:Option R):Option R:=match Θ t,l,lo,hi with
 | some ⟨.slice e,_,_,_,_⟩, .sl h,some h0,none=>match Θ e with
  | some ie=>match gw ie.tc e 0 F (.sl h),ev E h0 with
   | some (ci,K,xs),some (.lf (.c (.int _) i))=>bif Nat.beq ie.sz 1&&Nat.beq ie.sz ie.tc.ty.sz&&Nat.blt e 1048576&&bw n h then
     gchk ex (decide (0≤i∧i≤(xs.length:Int)∧(xs.length:Int)≤xs.length)) (k ⟨.lf (.sl n),[.rep ie.tc (ci::K) ((xs.take (xs.length:Int).toNat).drop i.toNat) n, .prt n h 1 i xs.length],[]⟩) else alt
   | _,_=>alt
  | none=>alt
 | _,_,_,_=>alt
theorem SH (hΘ:Θ.ok P) {t:TypeId} {l:Lf} {lo hi:Option Operand} (ho:o.op = .slice t x lo hi none) (h1:ev E x=some (.lf l)) (k:Out→Option R) {alt:Option R} (halt:ao ex P o E F n alt k):ao ex P o E F n (Ez Θ E ex n t l lo hi F k alt) k:=by
 unfold Ez
 split
 ·rename_i e _ _ _ _ h h0 ht
  split
  ·rename_i ie he
   split
   ·rename_i ci K xs kk i hs hi
    cases hc:(Nat.beq ie.sz 1&&Nat.beq ie.sz ie.tc.ty.sz&&Nat.blt e 1048576&&bw n h)
    ·exact halt
    ·simp only [f9]
     refine ao.gchk fun hb=>ao.of fun hx η ρ hE=>?_
     simp only [Wp] at hc
     obtain ⟨⟨⟨hs1,hsz⟩,hel⟩,hout⟩:=hc
     have h2:=aN hE h1
     simp only [AV.val,Lf.val] at h2
     have:=(MM (o:=o) (ρ:=ρ) (L:=.own ie.tc.ty e ci K xs (η.h h)::F.map (AF.ha η)) 0 rfl ho (hΘ t _ ht).2.1 (hΘ e ie he).1 (Wo hsz) hs1 h2 (aN hE hi) (hb hx) hel).from (fun w c hH=>am.cons (by
      have:=gb hs hH
      rwa [eD (gq hel)] at this) hH)
     refine this.map (fun _=>⟨η.setH n ((η.h h).cut i.toNat (xs.length:Int).toNat ie.sz),η.setH_agr n _⟩) (fun _=>?_) fun _=>?_
     ·simp [AV.val,Lf.val,Vn.setH_at]
     ·simp only [XH,aaz,AF.ha,Vn.setH_at]
      rw [(η.setH_agr n _ h hout).1]
   ·exact halt
  ·exact halt
 ·exact halt
def Rt (Θ:Tb) (ex:Option Bool) (n N:Nat) (t t' : TypeId) (v1 v2:AV) (F:List AF) (k:Out→Option R):Option R:=match Θ t,Θ t' with
 | some ⟨.slice e,_,_,_,_⟩,some ⟨.str,_,_,_,_⟩=>match Θ e,v1,v2 with
  | some ie, .lf l1, .lf (.c .str a)=>match gw (.sc (.int .u8)) e N F l1,ie.zl with
   | some (ci,K,xs),[.c (.int .u8) z]=>bif (show Int from z)==0 && !ie.d.agg&&Nat.beq ie.sz 1&&Nat.beq ie.by_ 1&&Nat.ble 2 ci&&Nat.blt e 1048576 then
     gchk ex (aK xs.length (show List UInt8 from a).length ie.by_) (k ⟨.lf (.sl n),[.own (.sc (.int .u8)) e ci K (xs++(show List UInt8 from a).map fun b=>(b.toNat:Int)) n],[ci]⟩) else none
   | _,_=>none
  | _,_,_=>none
 | _,_=>none
theorem XQ (hΘ:Θ.ok P) {t:TypeId}  {v1 v2:AV} (ho:o.op = .call { callee:=.builtin .append,args:=#[x,y],argTypes:=#[t,t'] }) (h1:ev E x=some v1) (h2:ev E y=some v2) (k:Out→Option R) :
  ao ex P o E F n (Rt Θ ex n N t t' v1 v2 F k) k:=by
 unfold Rt
 split
 ·rename_i e _ _ _ _ _ _ _ _ ht ht'
  split
  ·rename_i ie l1 a he
   split
   ·rename_i ci K xs z hs1 hz
    refine ao.bif fun hc=>ao.gchk fun hr=>ao.of fun hx η ρ hE=>?_
    simp only [Wp,YW,abd] at hc
    obtain ⟨⟨⟨⟨⟨hz0,hag⟩,hsz⟩,hby⟩,hci⟩,hel⟩:=hc
    have e1:=aN hE h1
    have e2:=aN hE h2
    simp only [AV.val] at e1 e2
    rw [qo hs1 η] at e1
    have hzv:ie.zv = .int .u8 0:=by
     simp only [TInf.zv,hag,hz,no,aw,Lf.cells,SC.val,Zr,agm]
     grind
    have hti:=(hΘ e ie he).1
    rw [hzv] at hti
    have hH' : ∀ w c,am w c (F.map (AF.ha η))→am w c (.own CF e ci K xs (l1.hd η)::F.map (AF.ha η)):=fun w c hH=>by
     have h0:=gb hs1 hH
     rw [eD (gq hel)] at h0
     exact am.cons h0 hH
    have hr' := hr hx
    have:=(FV (o:=o) (ρ:=ρ) (L:=.own CF e ci K xs (l1.hd η)::F.map (AF.ha η)) 0 rfl ho (hΘ t _ ht).2.1 (hΘ t' _ ht').2.1 hti hsz hby e1 e2 hr' hci hel).from hH'
    refine this.map (fun h' => ⟨η.setH n h',η.setH_agr n h'⟩) (fun h' => ?_) fun h' => ?_
    ·simp [AV.val,Lf.val,Vn.setH_at]
    ·simp only [XH,aaz,AF.ha,Vn.setH_at]
     rw [eD (gq hel)]
   ·exact ao.none
  ·exact ao.none
 ·exact ao.none
end
end
section
variable [X:XTab] [G:GTab]
def Pa.flat : {t u:TC}→Pa t u→Bool
 | _,_, .here=>true
 | _,_, .fst p=>p.flat
 | _,_, .snd p=>p.flat
 | _,_, .inn p=>p.flat
 | _,_, .nd _=>false
 | _,_, .el _=>false
theorem wz : {t u:TC}→(p:Pa t u)→p.flat=true→u.ty.pureB=true→(x:t.den)→(y:u.den)→(yo:t.ty.Refs)→(r:u.ty.Refs) →
  ∃ A M B,t.ty.fill x yo=A++M++B∧A.length=p.off∧M.length=u.ty.sz∧t.ty.fill (p.put x y) yo=A++u.ty.fill y r++B
 | t,_, .here,_,hp,x,y,yo,r=>⟨[],t.ty.fill x yo,[],by simp,rfl,Ty.fill_length _ _ _,by simp only [Pa.put,Yv,XE]; exact oT t.ty hp y yo r⟩
 | _,_,@Pa.fst a b u p,hf,hp,x,y,yo,r=>by
  obtain ⟨A,M,B,h1,h2,h3,h4⟩:=wz p hf hp x.1 y yo.1 r
  refine ⟨A,M,B++b.ty.fill x.2 yo.2,?_,h2,h3,?_⟩
  ·show a.ty.fill x.1 yo.1++b.ty.fill x.2 yo.2=_
   grind
  ·show a.ty.fill (p.put x.1 y) yo.1++b.ty.fill x.2 yo.2=_
   grind
 | _,_,@Pa.snd a b u p,hf,hp,x,y,yo,r=>by
  obtain ⟨A,M,B,h1,h2,h3,h4⟩:=wz p hf hp x.2 y yo.2 r
  refine ⟨a.ty.fill x.1 yo.1++A,M,B,?_,?_,h3,?_⟩
  ·show a.ty.fill x.1 yo.1++b.ty.fill x.2 yo.2=_
   grind
  ·rw [Wu,Ty.fill_length,h2]; rfl
  ·show a.ty.fill x.1 yo.1++b.ty.fill (p.put x.2 y) yo.2=_
   grind
 | _,_, .inn p,hf,hp,x,y,yo,r=>wz p hf hp x y yo r
theorem zY {w:World} {S:Nat→Prop} {d:Nat→List Nat} : {t u:TC}→(p:Pa t u)→p.flat=true→u.ty.pureB=true→(x:t.den)→(y:u.den)→(ε:EI)→(π:List Nat)→(yo:t.ty.Refs)→bK w S d t.ty ε π x yo→bK w S d t.ty ε π (p.put x y) yo
 | _,_, .here,_,hp,_,y,ε,π,yo,_=>sH _ ε π y yo hp
 | _,_, .fst p,hf,hp,x,y,ε,π,yo,h=>⟨zY p hf hp x.1 y _ _ yo.1 h.1,h.2⟩
 | _,_, .snd p,hf,hp,x,y,ε,π,yo,h=>⟨h.1,zY p hf hp x.2 y _ _ yo.2 h.2⟩
 | _,_, .inn p,hf,hp,x,y,ε,π,yo,h=>zY p hf hp x y ε π yo h
section
variable {R:Type} {P:Program} {o:Oper} {E:SE} {F:List AF} {n:Nat} {Θ:Tb} {ex:Option Bool}
def DB (Θ:Tb) (ex:Option Bool) (t:TypeId) (h:Nat) (te:TC) (i:Int) (u:TC) (p:Pa te u) (v:AV) (F:List AF) (k:Out→Option R) (alt:Option R):Option R:=match Θ t,mY te h F,v.lvs with
 | some inf,some ⟨some (e,ci),K,xs⟩,some ls=>match fG e&&p.flat&&u.ty.pureB,bZ F u ls with
  | true,some (y,_,_,[])=>bif Nat.beq inf.sz u.ty.sz then gbind ex te.dft (ac xs i) fun x=>k ⟨.lf (.v undef),[.own te e ci K (xs.set i.toNat (p.put x y)) h],[ci]⟩ else none
  | _,_=>alt
 | _,_,_=>alt
theorem P6 (hΘ:Θ.ok P) {t:TypeId} {te:TC} {i:Int} {u:TC} {p:Pa te u} {v:AV} (ho:o.op = .store t x z) (h1:ev E x=some (.lf (.rp h te i u p))) (h2:ev E z=some v) (k:Out→Option R) {alt:Option R} (halt:ao ex P o E F n alt k) :
  ao ex P o E F n (DB Θ ex t h te i u p v F k alt) k:=by
 unfold DB
 split
 ·rename_i inf e ci K xs ls hi hs hl
  split
  ·rename_i y l Kd hg hd
   refine ao.bif fun hsz=>ao.gbind fun d hdv=>ao.of fun hx η ρ hE=>?_
   simp only [Wp] at hg
   obtain ⟨⟨htr,hfl⟩,hp⟩:=hg
   have hsz:=Wo hsz
   obtain ⟨g1,_⟩:=hΘ t inf hi
   obtain ⟨i1,i2,i3⟩:=nN (hdv hx)
   have hm:(eh te.ty e ci K xs (η.h h))∈F.map (AF.ha η):=W6.2 ⟨_,gK hs,rfl⟩
   rw [jE htr] at hm
   obtain ⟨j,hj⟩:=List.getElem?_of_mem hm
   have hcl:=(dY (η:=η) u hd).1
   simp only [aw,XE] at hcl
   have hlen:(aw η ls).length=u.ty.sz:=by rw [hcl]; exact Ty.fill_length _ _ _
   have hoff:p.off+(aw η ls).length≤te.ty.sz:=by
    obtain ⟨A,M,B,q1,q2,q3,_⟩:=wz p hfl hp d y (aO te []) (aO u [])
    have:=XZ List.length q1
    rw [Ty.fill_length] at this
    grind
   have hp' : aR ρ x = .pointer (some (eQ (η.h h) (i.toNat * te.ty.sz+p.off))):=aN hE h1
   refine (MU (L:=F.map (AF.ha η)) j hj ho g1 hp' (aN hE h2) (v.lvs_cells hl η) (by grind) (W3.2 (og (AV.lvs_one hl))) hoff i2 (xn:=p.put d y) (fun yo=>?_) (fun w S dd ε π yo hT=>zY p hfl hp d y ε π yo hT)).map (fun _=>⟨η,Vn.agr_refl n η⟩) (fun _=>rfl) (fun _=>by simp [AF.ha,jE htr])
   obtain ⟨A,M,B,q1,q2,q3,q4⟩:=wz p hfl hp d y yo (aO u (aS η l))
   rw [q4,q1,hcl,← q2]
   grind
  ·exact halt
 ·exact halt
end
end
section
variable [X:XTab] [G:GTab]
section
variable {R:Type} {P:Program} {o:Oper} {E:SE} {F:List AF} {n:Nat} {Θ:Tb} {ex:Option Bool}
def aaG (Θ:Tb) (op:BinOp) (t:TypeId) (a b:Bool) (k:Out→Option R):Option R:=match op,Θ t with
  | .eql,some ⟨.bool,_,_,_,_⟩=>k (bC (eI (a==b)))
  | .neq,some ⟨.bool,_,_,_,_⟩=>k (bC (eI (a != b)))
  | _,_=>none
theorem afq (hΘ:Θ.ok P) {t:TypeId}  {a b:Bool} (ho:o.op = .binOp op t x y t') (h1:ev E x=some (eI a)) (h2:ev E y=some (eI b)) (k:Out→Option R):ao ex P o E F n (aaG Θ op t a b k) k:=by
  unfold aaG
  split
  · rename_i ht
    exact ao.of fun hx=>(dJ.pure fun η ρ hE=>Tf ho (hΘ t _ ht).2.1 (aN hE h1) (aN hE h2))
  · rename_i ht
    exact ao.of fun hx=>(dJ.pure fun η ρ hE=>Tl ho (hΘ t _ ht).2.1 (aN hE h1) (aN hE h2))
  · exact ao.none
def W0 (ex:Option Bool) (op:BinOp) (a b:List UInt8) (k:Out→Option R):Option R:=match op with
  | .add=>gchk ex (decide (a.length+b.length≤9223372036854775807)) (k (bC (xY (a++b))))
  | .eql=>k (bC (eI (a==b)))
  | .neq=>k (bC (eI (!(a==b))))
  | .lss=>k (bC (eI (Op.bytesLess a b)))
  | .leq=>k (bC (eI (Op.bytesLess a b||a==b)))
  | .gtr=>k (bC (eI (!(Op.bytesLess a b||a==b))))
  | .geq=>k (bC (eI (!(Op.bytesLess a b))))
  | _=>none
theorem ac5 {ρ:dm} {L:List HA} {t:TypeId}  {a b:List UInt8} {v:Value} (ho:o.op = .binOp op t x y t') (hx:aR ρ x = .string ⟨a.toArray⟩) (hy:aR ρ y = .string ⟨b.toArray⟩)
    (hr : ∀ w,(Op.stringOp op ⟨a.toArray⟩ ⟨b.toArray⟩).run P w = .ok v w):br P ρ o L v:=fun ev w c he _=>by
  subst he
  have hg : ∀ w,(eqGuard op t x y (.string ⟨a.toArray⟩) (.string ⟨b.toArray⟩)).run P w = .ok () w:=fun w=>by cases op <;> rfl
  have hb:binOp op t (.string ⟨a.toArray⟩) (.string ⟨b.toArray⟩)=Op.stringOp op ⟨a.toArray⟩ ⟨b.toArray⟩:=by cases op <;> rfl
  simp [execOp,ho,hx,hy,hg,hb,hr,Result.andThen]
theorem aeX {t:TypeId}  {a b:List UInt8} (ho:o.op = .binOp op t x y t') (h1:ev E x=some (xY a)) (h2:ev E y=some (xY b)) (k:Out→Option R):ao ex P o E F n (W0 ex op a b k) k:=by
  have e : ∀ l:List UInt8,(⟨l.toArray⟩:ByteArray).toList=l:=fun l=>ByteArray.toList_mk l
  cases op <;> simp only [W0] <;> first
    | exact ao.none
    | (refine ao.of fun hx=>(dJ.pure fun η ρ hE=>ac5 ho (aN hE h1) (aN hE h2) fun w=>?_); simp [Op.stringOp,AV.val,Lf.val]; done)
    | (refine ao.gchk fun hb=>ao.of fun hx=>(dJ.pure fun η ρ hE=>ac5 ho (aN hE h1) (aN hE h2) fun w=>?_)
       have hb' := Yd (hb hx)
       have hs : ∀ l:List UInt8,(⟨l.toArray⟩:ByteArray).size=l.length:=fun l=>by rfl
       have hle : ¬ (((⟨a.toArray⟩:ByteArray).size+(⟨b.toArray⟩:ByteArray).size:Nat):Int) > IntKind.i64.max:=by
         rw [hs,hs]; simp [IntKind.max,IntKind.signed,IntKind.bits]; omega
       have hab:(⟨a.toArray⟩:ByteArray)++⟨b.toArray⟩=⟨(a++b).toArray⟩:=ByteArray.ext (by simp)
       simp only [Op.stringOp,if_neg hle,Sem.run_pure,AV.val,Lf.val]
       rw [hab])
def X3 (Θ:Tb) (op:BinOp) (t:TypeId) (m:Nat) (s:SC) (a b:List s.den) (G:TypeId→Bool) (k:Out→Option R):Option R:=match op,Θ t,s,a,b with
  | .eql,some ⟨.arr m' e,_,_,_,_⟩, .int kk,a,b=>match Θ e with
    | some ⟨.int k',1,_,_,_⟩=>bif Nat.beq m m' && G t then (if k' = kk then k (bC (eI (xP m a b))) else none) else none
    | _=>none
  | .neq,some ⟨.arr m' e,_,_,_,_⟩, .int kk,a,b=>match Θ e with
    | some ⟨.int k',1,_,_,_⟩=>bif Nat.beq m m' && G t then (if k' = kk then k (bC (eI (!(xP m a b)))) else none) else none
    | _=>none
  | _,_,_,_,_=>none
def y3 (mx:Bool) (a b:AV) (k:Out→Option R):Option R:=match a,b with
  | .lf (.c (.int k1) x), .lf (.c (.int k2) y)=>if k1=k2 then k (bC (gt k1 (bif mx then (if y > x then y else x) else (if y<x then y else x)))) else none
  | _,_=>none
theorem Wb {mx:Bool} {ts:Array TypeId} {a b:AV} (ho:o.op = .call { callee:=.builtin (bif mx then .max else .min),args:=#[x,y],argTypes:=ts }) (h1:ev E x=some a) (h2:ev E y=some b) (k:Out→Option R):ao ex P o E F n (y3 mx a b k) k:=by
  unfold y3
  split
  · rename_i k1 a k2 b
    split
    · rename_i hk
      subst hk
      refine ao.of fun hx=>(dJ.pure fun η ρ hE=>?_)
      cases mx
      · exact akz ho (aN hE h1) (aN hE h2)
      · exact akV ho (aN hE h1) (aN hE h2)
    · exact ao.none
  · exact ao.none
def sM4 (a b c d:AV) (k:Out→Option R):Option R:=match a,b,c,d with
  | .lf (.c (.int .i64) x), .lf (.c (.int .i64) y), .lf (.c (.int .i64) z), .lf (.c (.int .i64) u)=>k (bC (gt .i64 (w8 x y z u)))
  | _,_,_,_=>none
theorem ag6 {ts:Array TypeId} {u:Operand} {a b c d:AV} (ho:o.op = .call { callee:=.builtin .min,args:=#[x,y,z,u],argTypes:=ts }) (h1:ev E x=some a) (h2:ev E y=some b) (h3:ev E z=some c) (h4:ev E u=some d) (k:Out→Option R):ao ex P o E F n (sM4 a b c d k) k:=by
  unfold sM4
  split
  · exact ao.of fun hx=>(dJ.pure fun η ρ hE=>ag4 ho (aN hE h1) (aN hE h2) (aN hE h3) (aN hE h4))
  · exact ao.none
structure Cx where
  Γ:Ct
  Θ:Tb
  G:TypeId→Bool
  D:List DCtr
  W:Bool
  I:It
  B:Nat
  K:Option (List Nat)
  O:List Nat
structure Cx.ok (C:Cx) (P:Program):Prop where
  Γ:C.Γ.ok P
  Θ:C.Θ.ok P
  G : ∀ t,C.G t=true→xB P t
  D : ∀ d∈C.D,DCtr.sound P d
  I:C.I.ok P
def Cx.at (C:Cx) (B:Nat):Cx:=⟨C.Γ,C.Θ,C.G,C.D,C.W,C.I,B,C.K,C.O⟩
def Cx.dk (C:Cx) (K:Option (List Nat)) (O:List Nat):Cx:=⟨C.Γ,C.Θ,C.G,C.D,C.W,C.I,C.B,K,O⟩
theorem Cx.dk_ok {C:Cx} {P:Program} (h:C.ok P) (K:Option (List Nat)) (O:List Nat):(C.dk K O).ok P:=⟨h.Γ,h.Θ,h.G,h.D,h.I⟩
theorem Cx.at_ok {C:Cx} {P:Program} (h:C.ok P) (B:Nat):(C.at B).ok P:=⟨h.Γ,h.Θ,h.G,h.D,h.I⟩
theorem UN {ρ:dm} {L:List HA} {t e:TypeId} {a b:Operand} {k:IntKind} {by_:Nat} {z:Value} {x y:List Int} (ho:o.op = .binOp .neq t a b t') (ht:P.underlying t=some (.array m e)) (he:P.underlying e=some (.int k)) (hi:TI P e 1 by_ z)
    (hg:P.eqGuardType P.depth t=false) (hx:aR ρ a = .agg ((tA m k).fill x ()).toArray) (hy:aR ρ b = .agg ((tA m k).fill y ()).toArray):br P ρ o L (.bool (!(xP m x y))):=fun ev w c hev _=>by
  subst hev
  have htihi:=hi; clear hi
  obtain ⟨i,hi,_,hs,_⟩:=htihi.get
  have h1:(eqGuard .neq t a b (.agg ((tA m k).fill x ()).toArray) (.agg ((tA m k).fill y ()).toArray)).run P w = .ok () w:=run_eqGuard_agg w .neq t a b _ _ hg
  have h2:(binOp .neq t (.agg ((tA m k).fill x ()).toArray) (.agg ((tA m k).fill y ()).toArray)).run P w = .ok (.bool (!(xP m x y))) w:=by
    rw [run_neq_struct,Dm 9998 x y ht he hi hs]; rfl
  simp only [execOp,ho,hx,hy,Sem.run_bind,h1,h2,Result.andThen_ok,Sem.run_pure]
theorem af5 {C:Cx} (hC:C.ok P) {t:TypeId}   {s:SC} {a b:List s.den} (ho:o.op = .binOp op t x y t') (h1:ev E x=some (.lf (.ar m s a))) (h2:ev E y=some (.lf (.ar m s b))) (k:Out→Option R) :
    ao ex P o E F n (X3 C.Θ op t m s a b C.G k) k:=by
  unfold X3
  split
  · rename_i m' e _ _ _ _ kk a b ht
    split
    · rename_i k' _ _ _ he
      refine ao.bif fun hc=>?_
      simp only [Wp] at hc
      obtain rfl:=Wo hc.1
      split
      · rename_i hk
        subst hk
        refine ao.of fun hx=>(dJ.pure fun η ρ hE=>?_)
        exact Us ho (hC.Θ t _ ht).2.1 (hC.Θ e _ he).2.1 (hC.Θ e _ he).1 (hC.G t hc.2).1 (aN hE h1) (aN hE h2)
      · exact ao.none
    · exact ao.none
  · rename_i m' e _ _ _ _ kk a b ht
    split
    · rename_i k' _ _ _ he
      refine ao.bif fun hc=>?_
      simp only [Wp] at hc
      obtain rfl:=Wo hc.1
      split
      · rename_i hk
        subst hk
        refine ao.of fun hx=>(dJ.pure fun η ρ hE=>?_)
        exact UN ho (hC.Θ t _ ht).2.1 (hC.Θ e _ he).2.1 (hC.Θ e _ he).1 (hC.G t hc.2).1 (aN hE h1) (aN hE h2)
      · exact ao.none
    · exact ao.none
  · exact ao.none
def Ch (C:Cx) (ex:Option Bool) (n N:Nat) (E:SE) (F:List AF) (op:Op) (k:Out→Option R):Option R:=match op with
  | .move x=>match ev E x with
    | some v=>k (bC v)
    | none=>none
  | .assign x=>match ev E x with
    | some v=>k (bC v)
    | none=>none
  | .binOp b t x y _=>match ev E x,ev E y with
    | some (.lf (.c (.int k1) a1)),some (.lf (.c (.int k2) a2))=>match b with
      | .shl=>TX ex .shl k1 a1 a2 k
      | .shr=>TX ex .shr k1 a1 a2 k
      | b=>if k2=k1 then Ya ex b k1 a1 a2 k else none
    | some (.lf (.c .bool a1)),some (.lf (.c .bool a2))=>aaG C.Θ b t a1 a2 k
    | some (.lf (.c .str a1)),some (.lf (.c .str a2))=>W0 ex b a1 a2 k
    | some (.lf (.ar m1 s1 a1)),some (.lf (.ar m2 s2 a2))=>if h:s2=s1∧m2=m1 then X3 C.Θ b t m1 s1 a1 (zs h.1 a2) C.G k else none
    | some (.ag l1),some (.ag l2)=>TV C.Θ C.G b t l1 l2 k
    | some (.lf l),some (.lf .nl)=>Px C.Θ b t l F k
    | _,_=>none
  | .unOp u _ x=>match ev E x with
    | some v=>sUn u v k
    | none=>none
  | .convert s d x=>match ev E x with
    | some (.lf (.sl h))=>Dd C.Θ s d (.sl h) F k
    | some (.lf .nl)=>Dd C.Θ s d .nl F k
    | some (.lf (.c .str a))=>Jo C.Θ ex n N s d a k
    | some v=>PW C.Θ s d v k
    | none=>none
  | .extract x i=>match ev E x with
    | some v=>BF v i k
    | none=>none
  | .alloc t=>Ld C.Θ n N t k
  | .box _ x=>match ev E x with
    | some v=>WT n N v k
    | none=>none
  | .build t ps=>JC C.Θ E t ps k
  | .buildSlice t m ps=>Ds C.Θ E n N t m ps F k (EE C.Θ E n N t m ps F k)
  | .nilCheck x=>match ev E x with
    | some v=>aap v k
    | none=>none
  | .makeFunc fn first cap=>Qs E fn first.toList cap.toList k
  | .load t (.global g)=>Kg C.Θ t g k
  | .load t x=>match ev E x with
    | some (.lf (.gp g te i u p))=>LU C.Θ ex n t g te i u p k
    | some (.lf (.bp b off))=>KN C.Θ t b off F k
    | some (.lf (.bq b off m s j))=>Lb C.Θ ex t b off m s j F k
    | some (.lf (.rp h te i u p))=>match oI te h F with
      | some s=>JK C.Θ ex t te i u p s k
      | none=>J6 C.Θ ex n t h te i u p F k
    | _=>none
  | .store t x y=>match ev E x,ev E y with
    | some (.lf (.bp b off)),some v=>Es C.Θ t b off v F k
    | some (.lf (.bq b off m s j)),some v=>DW C.Θ ex t b off m s j v F k
    | some (.lf (.rp h te i u p)),some v=>match oI te h F with
      | some s=>EF C.Θ ex t h te i u p v s k
      | none=>match zI te h F with
        | some s=>D7 C.Θ ex t h te i u p v s F k
        | none=>DB C.Θ ex t h te i u p v F k (Ex C.Θ ex t h te i u p v F k)
    | _,_=>none
  | .fieldAddr t x f=>match ev E x with
    | some (.lf l)=>LW C.Θ t f l k
    | _=>none
  | .field t x f=>match ev E x with
    | some v=>EJ C.Θ t f v k
    | _=>none
  | .indexAddr t (.global g) ix=>match ev E ix with
    | some (.lf (.c (.int _) i))=>PD C.Θ ex t g i k
    | _=>none
  | .indexAddr t x ix=>match C.Θ t,ev E x,ev E ix with
    | some ⟨.slice _,_,_,_,_⟩,some (.lf (.sl h)),some (.lf (.c (.int _) i))=>Q4 C.Θ ex t h i F k (Qo C.Θ ex t (.sl h) i F k)
    | some ⟨.slice _,_,_,_,_⟩,some (.lf l),some (.lf (.c (.int _) i))=>Qo C.Θ ex t l i F k
    | some ⟨.arr _ _,_,_,_,_⟩,some (.lf l),some (.lf (.c (.int _) i))=>Tj C.Θ ex t l i k
    | _,_,_=>none
  | .index t x ix=>match ev E x,ev E ix with
    | some (.lf (.ars te xs)),some (.lf (.c (.int _) i))=>DQ C.Θ ex t te xs i k
    | some v,some (.lf (.c (.int _) i))=>D0 C.Θ ex t v i k
    | _,_=>none
  | .makeSlice t x y=>match ev E x,ev E y with
    | some v1,some v2=>Mc C.Θ ex n N t x y v1 v2 k (Sf C.Θ ex n N t x y v1 v2 k)
    | _,_=>none
  | .slice t x lo hi none=>match ev E x with
    | some (.lf (.c .str s))=>DM C.Θ E ex t s lo hi k
    | some (.lf (.bp b 0))=>Dt C.Θ E ex n t b lo hi F k
    | some (.lf l)=>Ee C.Θ E ex n t l lo hi F k (Ez C.Θ E ex n t l lo hi F k (IE C.Θ E ex n t l lo hi F k))
    | _=>none
  | .slice t x none (some hi) (some mx)=>match ev E x with
    | some (.lf l)=>DX C.Θ E ex n t l hi mx F k
    | _=>none
  | .slice t x (some lo) (some hi) (some mx)=>match ev E x with
    | some (.lf l)=>DC C.Θ E ex n t l lo hi mx F k
    | _=>none
  | .makeMap t none=>aad C.Θ n N t k
  | .lookup t x y false=>match ev E x,ev E y with
    | some (.lf (.mp h)),some v=>Q9 C.Θ C.G ex t h v F k
    | _,_=>none
  | .mapUpdate t x y z=>match ev E x,ev E y,ev E z with
    | some (.lf (.mp h)),some v1,some v2=>Hm C.Θ C.G t h v1 v2 F k
    | _,_,_=>none
  | .insert t x y z=>match ev E x,ev E y,ev E z with
    | some (.lf (.mp h)),some v1,some v2=>Hm C.Θ C.G t h v1 v2 F k
    | _,_,_=>none
  | .call c=>match c.callee,c.args.toList,c.argTypes.toList with
    | .builtin .len,[x],[t]=>match ev E x with
      | some (.lf (.sl h))=>P0 C.Θ t h F k (Rg C.Θ t (.lf (.sl h)) F k)
      | some v=>Rg C.Θ t v F k
      | none=>none
    | .builtin .append,[x,y],[t,t']=>match ev E x,ev E y with
      | some v1,some v2=>bif Nat.beq t' t then Rz C.Θ ex n N t v1 v2 F k (abf C.Θ ex n N t v1 v2 F k) else (Rt C.Θ ex n N t t' v1 v2 F k)
      | _,_=>none
    | .builtin .copy,[x,y],[t,_]=>match ev E x,ev E y with
      | some v1,some v2=>Rq C.Θ ex N t v1 v2 F k
      | _,_=>none
    | .builtin .max,[x,y],_=>match ev E x,ev E y with
      | some v1,some v2=>y3 true v1 v2 k
      | _,_=>none
    | .builtin .min,[x,y],_=>match ev E x,ev E y with
      | some v1,some v2=>y3 false v1 v2 k
      | _,_=>none
    | .builtin .min,[x,y,z,u],_=>match ev E x,ev E y,ev E z,ev E u with
      | some v1,some v2,some v3,some v4=>sM4 v1 v2 v3 v4 k
      | _,_,_,_=>none
    | .value f,xs,_=>match ev E f with
      | some v=>KI C.I C.Γ C.D E ex n N v xs F k
      | none=>none
    | _,_,_=>none
  | _=>none
theorem rN (c:Call) {f:Callee} {xs:List Operand} {ts:List TypeId} (h1:c.callee=f) (h2:c.args.toList=xs) (h3:c.argTypes.toList=ts):c = { callee:=f,args:=xs.toArray,argTypes:=ts.toArray }:=by
  cases c; simp at h1 h2 h3; subst h1 h2 h3; simp
theorem Iz {C:Cx} (hC:C.ok P) (k:Out→Option R):ao ex P o E F n (Ch C ex n N E F o.op k) k:=by
  unfold Ch
  split
  · rename_i x ho
    split
    · rename_i v hv; exact ao.of fun hx=>(dJ.pure fun η ρ hE=>aj2 ho (aN hE hv))
    · exact ao.none
  · rename_i x ho
    split
    · rename_i v hv; exact ao.of fun hx=>(dJ.pure fun η ρ hE=>XU ho (aN hE hv))
    · exact ao.none
  · rename_i b t x y t' ho
    split
    · rename_i k1 a1 k2 a2 h1 h2
      split
      · exact Ou ho h1 h2 k
      · exact Ou ho h1 h2 k
      · split
        · rename_i hk; subst hk; exact aex ho h1 h2 k
        · exact ao.none
    · rename_i h1 h2; exact afq hC.Θ ho h1 h2 k
    · rename_i h1 h2; exact aeX ho h1 h2 k
    · rename_i h1 h2
      split
      · rename_i he
        obtain ⟨rfl,rfl⟩:=he
        exact af5 hC ho h1 h2 k
      · exact ao.none
    · rename_i h1 h2; exact ZY hC.Θ hC.G ho h1 h2 k
    · rename_i h1 h2; exact ZS hC.Θ ho h1 h2 k
    · exact ao.none
  · rename_i ho
    split
    · rename_i hv; exact ajX ho hv k
    · exact ao.none
  · rename_i ho
    split
    · rename_i hv; exact FC hC.Θ ho hv k
    · rename_i hv; exact FC hC.Θ ho hv k
    · rename_i hv; exact Up hC.Θ ho hv k
    · rename_i hv; exact aaq hC.Θ ho hv k
    · exact ao.none
  · rename_i ho
    split
    · rename_i hv; exact M4 ho hv k
    · exact ao.none
  · rename_i ho; exact US hC.Θ ho k
  · rename_i ho
    split
    · rename_i hv; exact agW ho hv k
    · exact ao.none
  · rename_i ho; exact Vs hC.Θ ho k
  · rename_i ho; exact S7 hC.Θ ho k (RA hC.Θ ho k)
  · rename_i ho
    split
    · rename_i hv; exact afj ho hv k
    · exact ao.none
  · rename_i ho; exact ZG ho k
  · rename_i ho; exact Ua hC.Θ ho k
  · rename_i ho
    split
    · rename_i hv; exact U5 hC.Θ ho hv k
    · rename_i hv; exact VC hC.Θ ho hv k
    · rename_i hv; exact V8 hC.Θ ho hv k
    · rename_i hv
      split
      · rename_i hs; exact VA hC.Θ hs ho hv k
      · exact Uo hC.Θ ho hv k
    · exact ao.none
  · rename_i ho
    split
    · rename_i h1 h2; exact Pr hC.Θ ho h1 h2 k
    · rename_i h1 h2; exact Qd hC.Θ ho h1 h2 k
    · rename_i h1 h2
      split
      · rename_i hs; exact Ry hC.Θ hs ho h1 h2 k
      · split
        · rename_i hs; exact Qi hC.Θ hs ho h1 h2 k
        · exact P6 hC.Θ ho h1 h2 k (TY hC.Θ ho h1 h2 k)
    · exact ao.none
  · rename_i ho
    split
    · rename_i hv; exact Uk hC.Θ ho hv k
    · exact ao.none
  · rename_i ho
    split
    · rename_i hv; exact Sh hC.Θ ho hv k
    · exact ao.none
  · rename_i ho
    split
    · rename_i h2; exact aah hC.Θ ho h2 k
    · exact ao.none
  · rename_i ho
    split
    · rename_i h1 h2; exact WO hC.Θ ho h1 h2 k (Pj hC.Θ ho h1 h2 k)
    · rename_i h1 h2; exact Pj hC.Θ ho h1 h2 k
    · rename_i h1 h2; exact Yz hC.Θ ho h1 h2 k
    · exact ao.none
  · rename_i ho
    split
    · rename_i h1 h2; exact R4 hC.Θ ho h1 h2 k
    · rename_i h1 h2; exact PZ hC.Θ ho h1 h2 k
    · exact ao.none
  · rename_i ho
    split
    · rename_i h1 h2; exact Um hC.Θ ho h1 h2 k (X6 hC.Θ ho h1 h2 k)
    · exact ao.none
  · rename_i ho
    split
    · rename_i hv; exact S9 hC.Θ ho hv k
    · rename_i hv; exact PV hC.Θ ho hv k
    · rename_i hv; exact Qj hC.Θ ho hv k (SH hC.Θ ho hv k (UI hC.Θ ho hv k))
    · exact ao.none
  · rename_i ho
    split
    · rename_i hv; exact QR hC.Θ ho hv k
    · exact ao.none
  · rename_i ho
    split
    · rename_i hv; exact Rm hC.Θ ho hv k
    · exact ao.none
  · rename_i ho; exact ae9 ho k
  · rename_i ho
    split
    · rename_i h1 h2; exact aaa hC.Θ hC.G ho h1 h2 k
    · exact ao.none
  · rename_i ho
    split
    · rename_i h1 h2 h3; exact K3 hC.Θ hC.G (.inl ho) h1 h2 h3 k
    · exact ao.none
  · rename_i ho
    split
    · rename_i h1 h2 h3; exact K3 hC.Θ hC.G (.inr ho) h1 h2 h3 k
    · exact ao.none
  · rename_i c ho
    split
    · rename_i x t h1 h2 h3
      have hc:=rN c h1 h2 h3
      split
      · rename_i hv; exact Wx hC.Θ (by rw [ho,hc]) hv k (N7 hC.Θ (by rw [ho,hc]) hv k)
      · rename_i hv; exact N7 hC.Θ (by rw [ho,hc]) hv k
      · exact ao.none
    · rename_i x y t t' h1 h2 h3
      have hc:=rN c h1 h2 h3
      split
      · rename_i hv1 hv2
        cases ht:Nat.beq t' t
        · rw [no]
          exact XQ hC.Θ (by rw [ho,hc]) hv1 hv2 k
        · obtain rfl:=Wo ht
          exact Xl hC.Θ (by rw [ho,hc]) hv1 hv2 k (aff hC.Θ (by rw [ho,hc]) hv1 hv2 k)
      · exact ao.none
    · rename_i x y t t' h1 h2 h3
      have hc:=rN c h1 h2 h3
      split
      · rename_i hv1 hv2; exact Yj hC.Θ (by rw [ho,hc]) hv1 hv2 k
      · exact ao.none
    · rename_i x y ts h1 h2
      have hc:=rN c h1 h2 rfl
      split
      · rename_i hv1 hv2; exact Wb (mx:=true) (by rw [ho,hc]; rfl) hv1 hv2 k
      · exact ao.none
    · rename_i x y ts h1 h2
      have hc:=rN c h1 h2 rfl
      split
      · rename_i hv1 hv2; exact Wb (mx:=false) (by rw [ho,hc]; rfl) hv1 hv2 k
      · exact ao.none
    · rename_i x y z u ts h1 h2
      have hc:=rN c h1 h2 rfl
      split
      · rename_i hv1 hv2 hv3 hv4; exact ag6 (by rw [ho,hc]) hv1 hv2 hv3 hv4 k
      · exact ao.none
    · rename_i f h1
      have hc:=rN c h1 rfl rfl
      split
      · rename_i hv
        exact VM (ts:=c.argTypes) hC.I hC.Γ hC.D (xs:=c.args) (by grind) hv k
      · exact ao.none
    · exact ao.none
  · exact ao.none
end
end
end Go.Sm
