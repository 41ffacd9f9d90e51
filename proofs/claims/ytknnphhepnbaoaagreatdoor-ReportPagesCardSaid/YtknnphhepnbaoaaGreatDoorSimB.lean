/-
  What a heap holds, as a list of assertions with colours of blocks; steps that keep them; the rules for operations and control. Nothing of a program is named here; no condition.
-/
import Derived.Test.YtknnphhepnbaoaaGreatDoorSimA
namespace Go.Sm
abbrev Env:=Nat→Value
abbrev Col:=Nat→Nat
def upd (ρ:Env) (d:Nat) (v:Value):Env:=fun t=>cond (Nat.beq t d) v (ρ t)
def evo (ρ:Env):Operand→Value
  | .tmp t=>ρ t
  | .const v=>v
  | .global g=>.pointer (some ⟨g,0,none⟩)
  | .func f=>.func (.func f) #[] #[]
structure Rel (n:Nat) (ρ:Env) (a:Act):Prop where
  defers:a.defers=[]
  size:a.tmps.size=n
  val : ∀ t,a.tmps.getD t undef=ρ t
theorem Rel.eval {n:Nat} {ρ:Env} {a:Act} (h:Rel n ρ a):a.eval=evo ρ:=by
  funext x; cases x <;> simp [Act.eval,evo,h.val]
theorem Rel.put {n:Nat} {ρ:Env} {a:Act} (h:Rel n ρ a) {d:Nat} (hd:Nat.blt d n=true) (v:Value):Rel n (upd ρ d v) (a.put (some d) v):=by
  have hd' : d<n:=Nat.le_of_ble_eq_true hd
  refine ⟨h.defers,by simp [Act.put,h.size],fun t=>?_⟩
  have hv:=h.val t
  simp only [Act.put,upd,Array.getD_eq_getD_getElem?,Array.getElem?_setIfInBounds] at hv ⊢
  by_cases ht:t=d
  · subst ht; simp [h.size,hd']
  · have:Nat.beq t d=false:=by
      cases hb:Nat.beq t d
      · rfl
      · exact absurd (Nat.eq_of_beq_eq_true hb) ht
    rw [if_neg (fun e=>ht e.symm),this]
    exact hv
noncomputable def oldc (S:Nat→Prop):Col:=open Classical in fun b=>if S b then 1 else 0
theorem oldc_le (S:Nat→Prop) (b:Nat):oldc S b=0∨oldc S b=1:=by
  unfold oldc; split <;> simp
def Same3 (w w' : World):Prop:=w'.os=w.os∧w'.tape=w.tape∧w'.output=w.output
theorem Same3.refl (w:World):Same3 w w:=⟨rfl,rfl,rfl⟩
theorem Same3.trans {a b c:World} (h:Same3 a b) (k:Same3 b c):Same3 a c:=⟨k.1.trans h.1,k.2.1.trans h.2.1,k.2.2.trans h.2.2⟩
def OwnR (w:World) (e:TypeId) (sz:Nat) (v:Value) (n:Nat) (xs:List Value):Prop:=
  xs.length=n * sz∧((v = .slice none 0 0∧n=0) ∨
   ∃ (g cap:Nat) (cur:Array Value) (ty:TypeId) (fz:Nat×Nat),v = .slice (some ⟨g,0,none⟩) n cap∧w.heap[g]? = some (.cells cur ty fz)∧((ty=e∧fz=(0,0))∨(1048576≤e∧cur.size≤fz.1)) ∧
     n≤cap∧cap≤maxLen∧cur.size=cap * sz∧cur.toList.take (n * sz)=xs)
theorem ownR_of {w:World} {base:Nat} {e:TypeId} {sz:Nat} {v:Value} {n:Nat} {xs:List Value} (h:w.ownsRow base e sz v n xs):OwnR w e sz v n xs:=
  ⟨h.1,h.2.imp id fun ⟨g,cap,cur,hv,_,hg,h1,h2,h3,h4⟩=>⟨g,cap,cur,e,(0,0),hv,hg, .inl ⟨rfl,rfl⟩,h1,h2,h3,h4⟩⟩
theorem OwnR.plain {w:World} {e:TypeId} {sz:Nat} {v:Value} {n:Nat} {xs:List Value} (h:OwnR w e sz v n xs) (he:Nat.blt e 1048576=true):w.ownsRow 0 e sz v n xs:=
  ⟨h.1,h.2.imp id fun ⟨g,cap,cur,ty,fz,hv,hg,hm,h1,h2,h3,h4⟩=>by
    have he' : e+1≤1048576:=Nat.le_of_ble_eq_true he
    rcases hm with ⟨rfl,rfl⟩ | ⟨hge,_⟩
    · exact ⟨g,cap,cur,hv,Nat.zero_le _,hg,h1,h2,h3,h4⟩
    · exact absurd (Nat.le_trans he' hge) (Nat.not_succ_le_self e)⟩
theorem OwnR.lt {w:World} {e:TypeId} {sz:Nat} {v:Value} {n:Nat} {xs:List Value} (h:OwnR w e sz v n xs) : ∀ g,v.ownBlock=some g→g<w.heap.size:=by
  intro g hg
  rcases h.2 with ⟨rfl,_⟩ | ⟨g',cap,cur,ty,fz,rfl,hgg,_⟩
  · simp [Value.ownBlock] at hg
  · simp only [Value.ownBlock,Option.some.injEq] at hg
    subst hg
    exact (Array.getElem?_eq_some_iff.1 hgg).1
theorem OwnR.same {w w' : World} {e:TypeId} {sz:Nat} {v:Value} {n:Nat} {cells:List Value} (h:OwnR w e sz v n cells)
    (hb : ∀ g,v.ownBlock=some g→g<w.heap.size→w'.heap[g]? = w.heap[g]?):OwnR w' e sz v n cells:=by
  refine ⟨h.1,?_⟩
  rcases h.2 with h2 | ⟨g,cap,cur,ty,fz,rfl,hg,hrest⟩
  · exact .inl h2
  · exact .inr ⟨g,cap,cur,ty,fz,rfl,(hb g rfl (Array.getElem?_eq_some_iff.1 hg).1).trans hg,hrest⟩
inductive HA:Type 1
  | rep (t:Ty) (K:List Nat) (xs:List t.den) (v:Hd)
  | own (t:Ty) (e:TypeId) (i:Nat) (K:List Nat) (xs:List t.den) (v:Hd)
  | box (i b:Nat) (cs:List Value)
  | elem (t:Ty) (K:List Nat) (x:t.den) (p:Addr)
  | old (w0:World) (c0:Col)
  | pure (p:Prop)
  | gl (g n:Nat) (cs:List Value)
def HA.holds (w:World) (c:Col):HA→Prop
  | .rep t K xs v=>RepR w (fun b=>c b∈K) (.slice t) xs v
  | .own t e i K xs v=>∃ ys,RepAll (RepR w (fun b=>c b∈K) t) xs ys∧OwnR w e t.sz v.val xs.length (cellsOf t xs ys)∧∀ g,v.val.ownBlock=some g→c g=i
  | .box i b cs=>(∃ ty,w.heap[b]? = some (.cells cs.toArray ty (0,0)))∧c b=i
  | .elem t K x p=>∃ y b off arr ty fz,p=⟨b,off,none⟩∧c b∈K∧w.heap[b]? = some (.cells arr ty fz)∧off+t.sz≤arr.size ∧
      (arr.toList.drop off).take t.sz=t.fill x y∧RepR w (fun b=>c b∈K) t x y
  | .old w0 c0=>w0.heap.size≤w.heap.size∧(∀ b,b<w0.heap.size→c0 b≤1→w.heap[b]? = w0.heap[b]? ∧ c b=c0 b)∧(∀ b,b<w.heap.size→(b<w0.heap.size→2≤c0 b)→2≤c b)∧Same3 w0 w
  | .pure p=>p
  | .gl g n cs=>(∃ ty fz,w.heap[g]? = some (.cells cs.toArray ty fz))∧c g≤1∧n≤maxLen
def HA.uses:HA→List Nat
  | .rep _ K _ _=>K
  | .own _ _ i K _ _=>i::K
  | .box i _ _=>[i]
  | .elem _ K _ _=>K
  | .old _ _=>[0,1]
  | .pure _=>[]
  | .gl _ _ _=>[0,1]
structure Stp (κ:List Nat) (w:World) (c:Col) (w' : World) (c' : Col):Prop where
  size:w.heap.size≤w'.heap.size
  col : ∀ b,b<w.heap.size→c b∉κ→c' b=c b
  same : ∀ b,b<w.heap.size→c b∉κ→w'.heap[b]? = w.heap[b]?
  two : ∀ b,b<w'.heap.size→(b<w.heap.size→c b∈κ∧2≤c b)→2≤c' b
  env:Same3 w w'
theorem Stp.mk0 {κ:List Nat} {w:World} {c:Col} {w' : World} {c' : Col} (size:w.heap.size≤w'.heap.size) (col : ∀ b,b<w.heap.size→c' b=c b) (same : ∀ b,b<w.heap.size→c b∉κ→w'.heap[b]? = w.heap[b]?)
    (two : ∀ b,w.heap.size≤b→b<w'.heap.size→2≤c' b) (env:Same3 w w'):Stp κ w c w' c' :=
  ⟨size,fun b hb _=>col b hb,same,fun b hb h=>if hlt:b<w.heap.size then (col b hlt).symm ▸ (h hlt).2 else two b (by omega) hb,env⟩
theorem Stp.refl (w:World) (c:Col):Stp [] w c w c:=.mk0 (Nat.le_refl _) (fun _ _=>rfl) (fun _ _ _=>rfl) (fun b h1 h2=>by omega) (Same3.refl w)
theorem Stp.keeps {κ:List Nat} {w:World} {c:Col} {w' : World} {c' : Col} (h:Stp κ w c w' c') {K:List Nat} (hK : ∀ k∈K,k∉κ) :
    Keeps w w' (fun b=>c b∈K) (fun b=>c' b∈K):=fun b hb hc=>⟨by show c' b∈K; rw [h.col b hb (hK _ hc)]; exact hc,h.same b hb (hK _ hc)⟩
theorem HA.stp {κ:List Nat} {w:World} {c:Col} {w' : World} {c' : Col} (hs:Stp κ w c w' c'):(A:HA)→(∀ k∈A.uses,k∉κ)→A.holds w c→A.holds w' c'
  | .rep t K xs v,hK,h=>RepR.keep (hs.keeps hK) (.slice t) xs v h
  | .own t e i K xs v,hK,⟨ys,h1,h2,h3⟩=>by
    have hi:i∉κ:=hK i (by simp [HA.uses])
    have hlt : ∀ g,v.val.ownBlock=some g→g<w.heap.size:=fun g hg=>h2.lt g hg
    exact ⟨ys,h1.mono (RepR.keep (hs.keeps (fun k hk=>hK k (by simp [HA.uses,hk]))) t),h2.same (fun g hg hl=>hs.same g hl (by rw [h3 g hg]; exact hi)),
      fun g hg=>by rw [hs.col g (hlt g hg) (by rw [h3 g hg]; exact hi)]; exact h3 g hg⟩
  | .box i b cs,hK,⟨⟨ty,hb⟩,hc⟩=>by
    have hlt:b<w.heap.size:=(Array.getElem?_eq_some_iff.1 hb).1
    exact ⟨⟨ty,(hs.same b hlt (by rw [hc]; exact hK i (by simp [HA.uses]))).trans hb⟩,by rw [hs.col b hlt (by rw [hc]; exact hK i (by simp [HA.uses]))]; exact hc⟩
  | .elem t K x p,hK,⟨y,b,off,arr,ty,fz,hp,hc,hb,h1,h2,h3⟩=>by
    have hlt:b<w.heap.size:=(Array.getElem?_eq_some_iff.1 hb).1
    exact ⟨y,b,off,arr,ty,fz,hp,by rw [hs.col b hlt (hK _ hc)]; exact hc,(hs.same b hlt (hK _ hc)).trans hb,h1,h2,RepR.keep (hs.keeps hK) t x y h3⟩
  | .old w0 c0,hK,⟨h1,h2,h5,h6⟩=>by
    refine ⟨Nat.le_trans h1 hs.size,fun b hb h01=>?_,fun b hb hb' => ?_,h6.trans hs.env⟩
    · obtain ⟨h3,h4⟩:=h2 b hb h01
      have hlt:b<w.heap.size:=Nat.lt_of_lt_of_le hb h1
      have hn:c b∉κ:=by
        rw [h4]
        rcases (show c0 b=0∨c0 b=1 by omega) with e | e <;> rw [e] <;> exact hK _ (by simp [HA.uses])
      exact ⟨(hs.same b hlt hn).trans h3,by rw [hs.col b hlt hn]; exact h4⟩
    · by_cases hlt:b<w.heap.size
      · have h2' := h5 b hlt hb'
        by_cases hk:c b∈κ
        · exact hs.two b hb fun _=>⟨hk,h2'⟩
        · rw [hs.col b hlt hk]; exact h2'
      · exact hs.two b hb fun h=>absurd h hlt
  | .pure _,_,h=>h
  | .gl g n cs,hK,⟨⟨ty,fz,hb⟩,hc,hn⟩=>by
    have hlt:g<w.heap.size:=(Array.getElem?_eq_some_iff.1 hb).1
    have hk:c g∉κ:=by
      rcases (show c g=0∨c g=1 by omega) with e | e <;> rw [e] <;> exact hK _ (by simp [HA.uses])
    exact ⟨⟨ty,fz,(hs.same g hlt hk).trans hb⟩,by rw [hs.col g hlt hk]; exact hc,hn⟩
def Heap (w:World) (c:Col) (L:List HA):Prop:=∀ A∈L,A.holds w c
theorem Heap.nil (w:World) (c:Col):Heap w c []:=fun _ h=>by simp at h
theorem Heap.cons {w:World} {c:Col} {A:HA} {L:List HA} (h:A.holds w c) (hL:Heap w c L):Heap w c (A::L):=fun B hB=>by
  rcases List.mem_cons.1 hB with rfl | hB
  · exact h
  · exact hL B hB
theorem Heap.append {w:World} {c:Col} {L L' : List HA} (h:Heap w c L) (h' : Heap w c L'):Heap w c (L++L'):=fun A hA=>by
  rcases List.mem_append.1 hA with hA | hA
  · exact h A hA
  · exact h' A hA
theorem Heap.at {w:World} {c:Col} {L:List HA} (h:Heap w c L) {k:Nat} {A:HA} (hk:L[k]? = some A):A.holds w c:=h A (List.mem_of_getElem? hk)
theorem Heap.sub {w:World} {c:Col} {L:List HA} (h:Heap w c L) (is:List Nat) {L' : List HA} (he:is.filterMap (L[·]?)=L'):Heap w c L' := by
  subst he
  intro A hA
  obtain ⟨i,_,hi⟩:=List.mem_filterMap.1 hA
  exact h.at hi
def apart (κ:List Nat) (A:HA):Bool:=A.uses.all fun k=>κ.all fun j=>!(Nat.beq k j)
def keep (κ:List Nat) (L:List HA):List HA:=L.filter (apart κ)
theorem Heap.stp {κ:List Nat} {w:World} {c:Col} {w' : World} {c' : Col} (hs:Stp κ w c w' c') {L:List HA} (h:Heap w c L):Heap w' c' (keep κ L):=by
  intro A hA
  simp only [keep,List.mem_filter] at hA
  refine HA.stp hs A (fun k hk hκ=>?_) (h A hA.1)
  have:=List.all_eq_true.1 (List.all_eq_true.1 hA.2 k hk) k hκ
  simp at this
theorem Heap.stp0 {w:World} {c:Col} {w' : World} {c' : Col} (hs:Stp [] w c w' c') {L:List HA} (h:Heap w c L):Heap w' c' L:=
  fun A hA=>HA.stp hs A (by simp) (h A hA)
def OpOk (P:Program) (ρ:Env) (o:Oper) (L:List HA) (κ:List Nat) {Y:Type} (val:Y→Value) (Φ:Y→List HA):Prop:=
  ∀ (a:Act) (ev:Operand→Value) (w:World) (c:Col) (next:Act→World→Prop) (Q:Exit→Act→World→Prop),ev=evo ρ→Heap w c L →
    (∀ y w' c',Stp κ w c w' c' → Heap w' c' (Φ y)→next (a.put o.dst (val y)) w') →
    o.upon P a next Q ((execOp ev o).run P w)
def PureOk (P:Program) (ρ:Env) (o:Oper) (L:List HA) (v:Value):Prop:=
  ∀ (ev:Operand→Value) (w:World) (c:Col),ev=evo ρ→Heap w c L→(execOp ev o).run P w = .ok (.value v) w
theorem PureOk.op {P:Program} {ρ:Env} {o:Oper} {L:List HA} {v:Value} (h:PureOk P ρ o L v):OpOk P ρ o L [] (fun _:Unit=>v) (fun _=>[]):=by
  intro a ev w c next Q ha hL hk
  rw [h ev w c ha hL]
  exact hk () w c (Stp.refl w c) (Heap.nil _ _)
def Sim (P:Program) (n:Nat) (cd:Code) (Q:Exit→Act→World→Prop) (ρ:Env) (L:List HA):Prop:=
  ∀ a w c,Rel n ρ a→Heap w c L→cd.wp P Q a w
section
variable {P:Program} {n:Nat} {Q:Exit→Act→World→Prop} {ρ:Env} {L:List HA} {ops:Array Oper} {rest:List Oper} {o:Oper}
end
end Go.Sm
