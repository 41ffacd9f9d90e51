/-
  A region whose order is drawn: each operation is looked at once, whatever the order. Nothing of a program is named here; no condition.
-/
import Derived.Test.YtknnphhepnbaoaaGreatDoorSimE
namespace Go.Sm
structure OSp:Type 1 where
 ex:Bool
 d:Nat
 pre:List Nat
 Y:Type
 val:Y→Value
 Φ:Y→List HA
 κ:List Nat
 eat:List Nat
 tl:List (Nat×(Y→Value))
def Tells {Y:Type} (ρ:Env) (tl:List (Nat×(Y→Value))) (y:Y):Prop:=∀ p∈tl,ρ p.1=p.2 y
def OSp.ok (s:OSp) (ρ:Env) (w:World) (c:Col):Prop:=(s.ex=true→∃ y,ρ s.d=s.val y∧Tells ρ s.tl y∧Heap w c (s.Φ y))∧(s.ex=false→ρ s.d=undef)
def Ob (P:Program) (o:Oper) (s:OSp) (es:List OSp):List Nat→Env→List HA→Prop
 | [],ρ,L=>OpOk P ρ o L s.κ s.val (fun y=>.pure (Tells ρ s.tl y)::s.Φ y)
 | j::js,ρ,L=>match es[j]? with
  | none=>False
  | some e=>(e.ex=true→∀ y,Ob P o s es js (upd ρ e.d (e.val y)) (e.Φ y++L))∧(e.ex=false→Ob P o s es js (upd ρ e.d undef) L)
def preds (o:Oper):List Nat:=(o.after.toList.filter (Region.binds .any)).map (·.on)
def mem (j:Nat) (l:List Nat):Bool:=l.any fun k=>Nat.beq j k
theorem mem_iff {j:Nat} {l:List Nat}:mem j l=true↔j∈l:=by
 simp only [mem,List.any_eq_true]
 exact ⟨fun ⟨k,hk,he⟩=>(Nat.eq_of_beq_eq_true he) ▸ hk,fun h=>⟨j,h,by simp⟩⟩
def clOk (l:List Oper) (cl:List (List Nat)):Bool:=
 (List.range l.length).all fun i=>match l[i]?,cl[i]? with
  | some o,some c=>(preds o).all (fun j=>Nat.blt j i)&&c.all fun j=>mem j (preds o)||(preds o).any fun k=>match cl[k]? with | some ck=>mem j ck | none=>false
  | _,_=>false
def opReads (o:Oper) (es:List OSp) (pre:List Nat):Bool:=
 o.op.operands.toList.all fun x=>match x with
  | .tmp t=>!(es.any fun e=>Nat.beq t e.d)||pre.any fun j=>match es[j]? with | some e=>Nat.beq t e.d | none=>false
  | _=>true
def tlOk (s:OSp) (es:List OSp):Bool:=s.tl.all fun p=>s.pre.any fun j=>match es[j]? with | some e=>Nat.beq p.1 e.d | none=>false
def notSelect (o:Oper):Bool:=match o.op with | .select .. => false | _=>true
def gdOk (n:Nat) (o:Oper) (s:OSp) (es:List OSp) (c:List Nat):Prop:=
 match o.guard with
 | none=>s.ex=true
 | some (j,want)=>mem j c=true∧∃ e b,es[j]? = some e∧Nat.blt e.d n=true∧(∀ y,e.val y = .bool b)∧s.ex=(e.ex&&(b==want))
def dstOk (n:Nat) (o:Oper) (s:OSp):Prop:=(o.dst=some s.d∧Nat.blt s.d n=true)∨(o.dst=none∧Nat.ble n s.d=true∧∀ y,s.val y=undef)
def AllOb (P:Program) (n:Nat) (es:List OSp) (ρ:Env) (B:Nat→List HA):List Oper→List OSp→List (List Nat)→Nat→Prop
 | o::l,s::ss,c::cs,i=>(dstOk n o s∧notSelect o=true∧s.pre.all (fun j=>mem j c)=true∧opReads o es s.pre=true∧tlOk s es=true∧gdOk n o s es c∧(s.ex=true→Ob P o s es s.pre ρ (B i)))∧AllOb P n es ρ B l ss cs (i+1)
 | _,[],_,_=>True
 | _,_,_,_=>False
theorem AllOb.at {P:Program} {n:Nat} {es:List OSp} {ρ:Env} {B:Nat→List HA} : ∀ {l:List Oper} {ss:List OSp} {cs:List (List Nat)} {m i:Nat} {o:Oper} {s:OSp},AllOb P n es ρ B l ss cs m→l[i]? = some o→ss[i]? = some s →
  ∃ c,cs[i]? = some c∧dstOk n o s∧notSelect o=true∧s.pre.all (fun j=>mem j c)=true∧opReads o es s.pre=true∧tlOk s es=true∧gdOk n o s es c∧(s.ex=true→Ob P o s es s.pre ρ (B (m+i)))
 | o' :: l,s' :: ss,c' :: cs,m,0,o,s,h,ho,hs=>by
  simp at ho hs; subst ho; subst hs
  exact ⟨c',rfl,h.1⟩
 | o' :: l,s' :: ss,c' :: cs,m,i+1,o,s,h,ho,hs=>by
  simp at ho hs
  obtain ⟨c,hc,hr⟩:=AllOb.at h.2 ho hs
  rw [show m+1+i=m+(i+1) by omega] at hr
  exact ⟨c,by simpa using hc,hr⟩
 | _,[],_,_,i,_,_,_,_,hs=>by simp at hs
 | [],s::ss,cs,_,i,_,_,h,_,_=>by cases cs <;> exact h.elim
 | o::l,s::ss,[],_,i,_,_,h,_,_=>h.elim
def Aparts (κ eat:List Nat):Nat→List OSp→Prop
 | _,[]=>True
 | k,e::r=>(mem k eat=true∨∀ y,(e.Φ y).all (apart κ)=true)∧Aparts κ eat (k+1) r
def behind (cl:List (List Nat)) (i:Nat):List Nat:=(List.range cl.length).filter fun k=>match cl[k]? with | some c=>mem i c | none=>false
def AllAp (es:List OSp) (cl:List (List Nat)):List OSp→Nat→Prop
 | [],_=>True
 | s::r,i=>(s.κ=[]∨Aparts s.κ (i::(s.eat++behind cl i)) 0 es)∧AllAp es cl r (i+1)
theorem Aparts.at {κ eat:List Nat} : ∀ {es:List OSp} {k j:Nat} {e:OSp},Aparts κ eat k es→es[j]? = some e→mem (k+j) eat=true∨∀ y,(e.Φ y).all (apart κ)=true
 | e' :: r,k,0,e,h,he=>by simp at he; subst he; exact h.1
 | e' :: r,k,j+1,e,h,he=>by
  simp at he
  have:=Aparts.at h.2 he
  rwa [show k+1+j=k+(j+1) by omega] at this
 | [],_,_,_,_,he=>by simp at he
theorem AllAp.at {es:List OSp} {cl:List (List Nat)} : ∀ {ss:List OSp} {k i:Nat} {s:OSp},AllAp es cl ss k→ss[i]? = some s→s.κ=[]∨Aparts s.κ ((k+i)::(s.eat++behind cl (k+i))) 0 es
 | e' :: r,k,0,e,h,he=>by simp at he; subst he; exact h.1
 | e' :: r,k,j+1,e,h,he=>by
  simp at he
  have:=AllAp.at h.2 he
  rwa [show k+1+j=k+(j+1) by omega] at this
 | [],_,_,_,_,he=>by simp at he
section
variable {P:Program} {n:Nat} {Q:Exit→Act→World→Prop}
def cnt (f:Nat→Bool):Nat→Nat
 | 0=>0
 | k+1=>cnt f k+cond (f k) 1 0
theorem cnt_same {f g:Nat→Bool} : ∀ {k:Nat},(∀ j,j<k→f j=g j)→cnt f k=cnt g k
 | 0,_=>rfl
 | k+1,h=>by simp only [cnt,cnt_same (k:=k) fun j hj=>h j (by omega),h k (by omega)]
theorem cnt_dec {f g:Nat→Bool} {i:Nat} (hf:f i=true) (hg:g i=false) : ∀ {k:Nat},i<k→(∀ j,j<k→j≠i→f j=g j)→cnt f k=cnt g k+1
 | k+1,hi,h=>by
  simp only [cnt]
  by_cases he:i=k
  ·subst he
   rw [cnt_same (k:=i) fun j hj=>h j (by omega) (by omega),hf,hg]; rfl
  ·rw [cnt_dec hf hg (k:=k) (by omega) fun j hj hne=>h j (by omega) hne,h k (by omega) (by omega)]; omega
theorem cnt_zero {f:Nat→Bool} : ∀ {k:Nat},cnt f k=0→∀ i,i<k→f i=false
 | k+1,h,i,hi=>by
  simp only [cnt] at h
  by_cases he:i=k
  ·subst he; cases hf:f i
   ·rfl
   ·rw [hf] at h; simp at h
  ·exact cnt_zero (k:=k) (by omega) i (by omega)
def unl (listed:Array Bool) (i:Nat):Bool:=!(listed.getD i false)
theorem cl_some {l:List Oper} {cl:List (List Nat)} (hcl:clOk l cl=true) {k:Nat} (hk:k<l.length) : ∃ c,cl[k]? = some c:=by
 have h:=List.all_eq_true.1 hcl k (List.mem_range.2 hk)
 simp only [show l[k]? = some l[k] by simp [hk]] at h
 cases hc:cl[k]? with
 | none=>simp [hc] at h
 | some c=>exact ⟨c,rfl⟩
def Down (l:List Oper) (listed:Array Bool):Prop:=∀ (i:Nat) (o:Oper),l[i]? = some o→listed.getD i false=true→∀ j∈preds o,listed.getD j false=true
theorem clos_listed {l:List Oper} {cl:List (List Nat)} (hcl:clOk l cl=true) {listed:Array Bool} (hd:Down l listed) : ∀ (i:Nat) (o:Oper) (c:List Nat),l[i]? = some o→cl[i]? = some c →
  (∀ j∈preds o,listed.getD j false=true)→∀ j∈c,listed.getD j false=true:=by
 intro i
 induction i using Nat.strongRecOn with
 | _ i ih=>
  intro o c ho hc hp j hj
  have hlt:i<l.length:=(List.getElem?_eq_some_iff.1 ho).1
  have h:=List.all_eq_true.1 hcl i (List.mem_range.2 hlt)
  simp only [ho,hc,Bool.and_eq_true] at h
  have h2:=List.all_eq_true.1 h.2 j hj
  simp only [Bool.or_eq_true] at h2
  rcases h2 with h2 | h2
  ·exact hp j (mem_iff.1 h2)
  ·obtain ⟨k,hk,hm⟩:=List.any_eq_true.1 h2
   have hki:k<i:=Nat.le_of_ble_eq_true (List.all_eq_true.1 h.1 k hk)
   cases hck:cl[k]? with
   | none=>simp [hck] at hm
   | some ck=>
    simp only [hck] at hm
    have hkl:k<l.length:=by omega
    exact ih k hki l[k] ck (by simp [hkl]) hck (hd k l[k] (by simp [hkl]) (hp k hk)) j (mem_iff.1 hm)
theorem getD_tf {listed:Array Bool} {i:Nat} (h:i<listed.size) (b:Bool):listed.getD i b=listed.getD i false:=by
 simp [h]
theorem set_get {listed:Array Bool} {i j:Nat} (h:i<listed.size):(listed.setIfInBounds i true).getD j false=(Nat.beq j i||listed.getD j false):=by
 by_cases hij:i=j
 ·subst hij; simp [h]
 ·have:Nat.beq j i=false:=by
   cases hb:Nat.beq j i
   ·rfl
   ·exact absurd (Nat.eq_of_beq_eq_true hb).symm hij
  rw [getD_set_ne false hij,this]; rfl
theorem ready_spec {l:List Oper} {listed:Array Bool} (hsz:listed.size=l.length) {i:Nat} (h:i∈Region.ready .any l.toArray listed) :
  ∃ o,l[i]? = some o∧listed.getD i false=false∧∀ j∈preds o,listed.getD j false=true:=by
 rw [mem_ready] at h
 obtain ⟨h0,o,ho,hall⟩:=h
 have ho' : l[i]? = some o:=by simpa using ho
 have hlt:i<l.length:=(List.getElem?_eq_some_iff.1 ho').1
 refine ⟨o,ho',by rw [← getD_tf (by omega) true]; exact h0,fun j hj=>?_⟩
 obtain ⟨e,he,rfl⟩:=List.mem_map.1 hj
 simp only [List.mem_filter] at he
 exact hall e (by simpa using he.1) he.2
theorem none_ready {l:List Oper} {cl:List (List Nat)} (hcl:clOk l cl=true) {listed:Array Bool} (hsz:listed.size=l.length) (h:Region.ready .any l.toArray listed=[]) :
  ∀ i,i<l.length→listed.getD i false=true:=by
 intro i
 induction i using Nat.strongRecOn with
 | _ i ih=>
  intro hi
  cases hb:listed.getD i false
  ·exfalso
   have hmem:i∈Region.ready .any l.toArray listed:=by
    rw [mem_ready]
    have ho:l[i]? = some l[i]:=by simp [hi]
    refine ⟨by rw [getD_tf (by omega)]; exact hb,l[i],by simp [hi],fun e he hbd=>?_⟩
    have hc:=List.all_eq_true.1 hcl i (List.mem_range.2 hi)
    simp only [ho] at hc
    cases hci:cl[i]? with
    | none=>simp [hci] at hc
    | some c=>
     simp only [hci,Bool.and_eq_true] at hc
     have hlt:e.on<i:=Nat.le_of_ble_eq_true (List.all_eq_true.1 hc.1 e.on (List.mem_map.2 ⟨e,List.mem_filter.2 ⟨by simpa using he,hbd⟩,rfl⟩))
     exact ih e.on hlt (by omega)
   rw [h] at hmem
   simp at hmem
  ·rfl
theorem down_set {l:List Oper} {listed:Array Bool} (hsz:listed.size=l.length) (hd:Down l listed) {i:Nat} {o:Oper} (ho:l[i]? = some o) (hp : ∀ j∈preds o,listed.getD j false=true) :
  Down l (listed.setIfInBounds i true):=by
 have hlt:i<l.length:=(List.getElem?_eq_some_iff.1 ho).1
 intro k o' ho' hk j hj
 rw [set_get (by omega)] at hk ⊢
 by_cases hki:k=i
 ·subst hki
  rw [ho] at ho'
  simp only [Option.some.injEq] at ho'
  subst ho'
  rw [hp j hj]; simp
 ·have:Nat.beq k i=false:=by
   cases hb:Nat.beq k i
   ·rfl
   ·exact absurd (Nat.eq_of_beq_eq_true hb) hki
  rw [this] at hk
  rw [hd k o' ho' (by simpa using hk) j hj]; simp
def seqFrom (l:List Oper) (cl:List (List Nat)) (p:Nat):Bool:=(List.range l.length).all fun i=>Nat.blt i p||match cl[i]? with | some c=>(List.range i).all fun j=>mem j c | none=>false
theorem drop_get {l:List Oper} {k:Nat} (hk:k<l.length):l.drop k=l[k]::l.drop (k+1):=by rw [List.drop_eq_getElem_cons hk]
theorem any_sound {l:List Oper} {cl:List (List Nat)} (hcl:clOk l cl=true) {p:Nat} (hseq:seqFrom l cl p=true) (hpl:p≤l.length)
  (J:Array Bool→Act→World→Prop) (hJend : ∀ listed a w,J listed a w→(∀ i,i<p→listed.getD i false=true)→(∀ i,p≤i→listed.getD i false=false)→wpList P l.toArray Q (l.drop p) a w)
  (hJ : ∀ listed a w i o,J listed a w→Down l listed→listed.size=l.length→i<p→l[i]? = some o→listed.getD i false=false→(∀ j∈preds o,listed.getD j false=true) →
   wpOp P l.toArray Q i (J (listed.setIfInBounds i true)) a w) :
  ∀ (fuel:Nat) (listed:Array Bool) (a:Act) (w:World),listed.size=l.length→Down l listed→cnt (unl listed) l.length≤fuel →
   ((J listed a w∧∀ i,p≤i→listed.getD i false=false)∨∃ k,p≤k∧k≤l.length∧(∀ i,listed.getD i false=decide (i<k))∧wpList P l.toArray Q (l.drop k) a w) →
   wpAny P .any l.toArray Q fuel listed a w:=by
 intro fuel
 induction fuel with
 | zero=>
  intro listed a w hsz hd hc hst
  have hall : ∀ i,i<l.length→listed.getD i false=true:=fun i hi=>by
   have:=cnt_zero (Nat.le_zero.1 hc) i hi
   simpa [unl] using this
  have hready:Region.ready .any l.toArray listed=[]:=by
   cases hr:Region.ready .any l.toArray listed with
   | nil=>rfl
   | cons x xs=>
    obtain ⟨o,ho,hf,_⟩:=ready_spec hsz (i:=x) (by rw [hr]; simp)
    rw [hall x (List.getElem?_eq_some_iff.1 ho).1] at hf
    cases hf
  refine ⟨hready,?_⟩
  rcases hst with ⟨hj,hrest⟩ | ⟨k,hpk,hkl,hk,hw⟩
  ·have hpe:p=l.length:=by
    rcases Nat.lt_or_ge p l.length with h | h
    ·have:=hall p h; rw [hrest p (Nat.le_refl _)] at this; cases this
    ·omega
   have:=hJend listed a w hj (fun i hi=>hall i (by omega)) hrest
   rw [hpe,List.drop_length] at this
   exact this
  ·have hke:k=l.length:=by
    rcases Nat.lt_or_ge k l.length with h | h
    ·have:=hall k h; rw [hk k] at this; simp at this
    ·omega
   rw [hke,List.drop_length] at hw
   exact hw
 | succ fuel ih=>
  intro listed a w hsz hd hc hst
  have hst' : (J listed a w∧(∀ i,p≤i→listed.getD i false=false)∧∃ i,i<p∧listed.getD i false=false) ∨
    ∃ k,p≤k∧k≤l.length∧(∀ i,listed.getD i false=decide (i<k))∧wpList P l.toArray Q (l.drop k) a w:=by
   rcases hst with ⟨hj,hrest⟩ | h
   ·by_cases hex : ∃ i,i<p∧listed.getD i false=false
    ·exact .inl ⟨hj,hrest,hex⟩
    ·have hall : ∀ i,i<p→listed.getD i false=true:=fun i hi=>by
      cases hb:listed.getD i false
      ·exact absurd ⟨i,hi,hb⟩ hex
      ·rfl
     refine .inr ⟨p,Nat.le_refl _,hpl,fun i=>?_,hJend listed a w hj hall hrest⟩
     by_cases hi:i<p
     ·rw [hall i hi]; simp [hi]
     ·rw [hrest i (by omega)]; simp [hi]
   ·exact .inr h
  have hdec : ∀ i,i<l.length→listed.getD i false=false→cnt (unl (listed.setIfInBounds i true)) l.length≤fuel:=by
   intro i hi hf
   have:=cnt_dec (f:=unl listed) (g:=unl (listed.setIfInBounds i true)) (i:=i) (by simp [unl,hf]) (by simp only [unl]; rw [set_get (by omega)]; simp) hi (fun j _ hne=>by
    simp only [unl]
    rw [getD_set_ne false (Ne.symm hne)])
   omega
  rcases hst' with ⟨hj,hrest,i0,hi0,hf0⟩ | ⟨k,hpk,hkl,hk,hw⟩
  ·refine ⟨fun hr=>absurd (none_ready hcl hsz hr i0 (by omega)) (by rw [hf0]; simp),fun i hi=>?_⟩
   obtain ⟨o,ho,hf,hp⟩:=ready_spec hsz hi
   have hlt:i<l.length:=(List.getElem?_eq_some_iff.1 ho).1
   have hip:i<p:=by
    rcases Nat.lt_or_ge i p with h | h
    ·exact h
    ·exfalso
     have hs:=List.all_eq_true.1 hseq i (List.mem_range.2 hlt)
     have:Nat.blt i p=false:=by
      cases hb:Nat.blt i p
      ·rfl
      ·have:=Nat.le_of_ble_eq_true hb; omega
     rw [this] at hs
     cases hci:cl[i]? with
     | none=>simp [hci] at hs
     | some c=>
      simp only [hci,Bool.false_or] at hs
      have hm:=List.all_eq_true.1 hs i0 (List.mem_range.2 (by omega))
      have:=clos_listed hcl hd i o c ho hci hp i0 (mem_iff.1 hm)
      rw [hf0] at this; cases this
   refine wpOp_mono (fun a' w' hj' => ih _ a' w' (by simpa using hsz) (down_set hsz hd ho hp) (hdec i hlt hf) (.inl ⟨hj',fun j hpj=>?_⟩)) (hJ listed a w i o hj hd hsz hip ho hf hp)
   rw [getD_set_ne false (by omega)]; exact hrest j hpj
  ·refine ⟨fun hr=>?_,fun i hi=>?_⟩
   ·have hke:k=l.length:=by
     rcases Nat.lt_or_ge k l.length with h | h
     ·have:=none_ready hcl hsz hr k h; rw [hk k] at this; simp at this
     ·omega
    rw [hke,List.drop_length] at hw
    exact hw
   ·obtain ⟨o,ho,hf,hp⟩:=ready_spec hsz hi
    have hlt:i<l.length:=(List.getElem?_eq_some_iff.1 ho).1
    have hik:i=k:=by
     rw [hk i] at hf
     have hge:k≤i:=by simpa using hf
     rcases Nat.lt_or_ge k i with h | h
     ·exfalso
      have hs:=List.all_eq_true.1 hseq i (List.mem_range.2 hlt)
      have:Nat.blt i p=false:=by
       cases hb:Nat.blt i p
       ·rfl
       ·have:=Nat.le_of_ble_eq_true hb; omega
      rw [this] at hs
      cases hci:cl[i]? with
      | none=>simp [hci] at hs
      | some c=>
       simp only [hci,Bool.false_or] at hs
       have hm:=List.all_eq_true.1 hs k (List.mem_range.2 h)
       have:=clos_listed hcl hd i o c ho hci hp k (mem_iff.1 hm)
       rw [hk k] at this; simp at this
     ·omega
    subst hik
    rw [drop_get hlt] at hw
    have hoe:l[i]=o:=by
     have:=List.getElem?_eq_getElem hlt
     rw [ho] at this
     simpa using this.symm
    rw [hoe] at hw
    have hnext : ∀ a' w',wpList P l.toArray Q (l.drop (i+1)) a' w' → wpAny P .any l.toArray Q fuel (listed.setIfInBounds i true) a' w' := fun a' w' hw' =>
     ih _ a' w' (by simpa using hsz) (down_set hsz hd ho hp) (hdec i hlt hf) (.inr ⟨i+1,by omega,by omega,fun j=>by
      rw [set_get (by omega),hk j]
      by_cases hj:j=i
      ·subst hj; simp
      ·have:Nat.beq j i=false:=by
        cases hb:Nat.beq j i
        ·rfl
        ·exact absurd (Nat.eq_of_beq_eq_true hb) hj
       rw [this]
       by_cases h:j<i
       ·simp [h,show j<i+1 by omega]
       ·simp [h,show ¬ j<i+1 by omega],hw'⟩)
    unfold wpOp
    rw [show l.toArray[i]? = some o by simpa using ho]
    unfold wpList at hw
    simp only
    split
    ·rename_i hwd
     rw [if_pos hwd] at hw
     exact hw.imp (fun h=>Oper.wp_mono hnext h) id
    ·rename_i hwd
     rw [if_neg hwd] at hw
     exact hnext _ _ hw
theorem yields_of {ρ:Env} {a:Act} (ha:Rel n ρ a) {l:List Oper} {j d:Nat} {o:Oper} (ho:l[j]? = some o) (hd:o.dst=some d) (hlt:Nat.blt d n=true) :
  yielded l.toArray a.tmps j=match ρ d with | .bool b=>some b | _=>none:=by
 have hlt' : d<a.tmps.size:=by rw [ha.size]; exact Nat.le_of_ble_eq_true hlt
 have hv:=ha.val d
 simp only [yielded,List.getElem?_toArray,ho,Option.bind_some,hd]
 simp only [Array.getD_eq_getD_getElem?,Array.getElem?_eq_getElem hlt',Option.getD_some] at hv ⊢
 rw [hv]
 cases ρ d <;> rfl
theorem stp_drew {w:World} {c:Col}:Stp [] w c { w with drawn:=w.drawn+1 } c:=.mk0 (Nat.le_refl _) (fun _ _=>rfl) (fun _ _ _=>rfl) (fun _ h1 h2=>absurd (Nat.lt_of_le_of_lt h1 h2) (Nat.lt_irrefl _)) ⟨rfl,rfl,rfl⟩
theorem rep_false (k i:Nat):(Array.replicate k false).getD i false=false:=by
 rw [Array.getD_eq_getD_getElem?,Array.getElem?_replicate]; split <;> rfl
theorem cnt_le (f:Nat→Bool) : ∀ k,cnt f k≤k
 | 0=>by simp [cnt]
 | k+1=>by
  have:=cnt_le f k
  simp only [cnt]
  cases f k
  ·exact Nat.le_succ_of_le this
  ·exact Nat.succ_le_succ this
end
section
variable {P:Program} {n:Nat} {Q:Exit→Act→World→Prop} {ρ:Env} {L:List HA} {o:Oper}
theorem all_cons {es:List OSp} {l:List Oper} {s:OSp} {ss:List OSp} {c:List Nat} {cs:List (List Nat)} {B:Nat→List HA} {i:Nat} (Li:List HA) (hB:B i=Li) (h1:dstOk n o s) (h3:notSelect o=true) (h4:s.pre.all (fun j=>mem j c)=true) (h5:opReads o es s.pre=true) (h5' : tlOk s es=true)
  (h6:gdOk n o s es c) (h7:s.ex=true→Ob P o s es s.pre ρ Li) (h:AllOb P n es ρ B l ss cs (i+1)):AllOb P n es ρ B (o::l) (s::ss) (c::cs) i:=⟨⟨h1,h3,h4,h5,h5',h6,hB ▸ h7⟩,h⟩
end
end Go.Sm
