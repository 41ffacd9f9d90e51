/-
  From what a row says of its input and of the variables that it lists to the assertions of the walks, and back. Nothing of a program is named here; no condition.
-/
import Derived.ProofKit
import Derived.SizedLaws
import Derived.LaidLaws
import Derived.Test.YtknnphhepnbaoaaGreatDoorJoinT
namespace Go.Sm
open Go.ChangeShapes Go.WideShapes Go.ChangeAt Go.RowKit Go.WideElems
set_option linter.unusedSectionVars false
section
variable [X:XTab] [G:GTab]
section
variable {P:Program} {H:Type} {enc:TypeId×Value→H} {W:World} {Θ:Tb}
theorem cells1 {v:Value} (h : ∀ cs,v≠.agg cs):v.cells.toList=[v]:=by
 cases v <;> first | rfl | exact absurd rfl (h _)
theorem okWide_agg {r:Reach} {b0:Nat} {t:TypeId} {v:Value} (ht:(∃ F,P.underlying t=some (.struct F))∨∃ n e,P.underlying t=some (.array n e)) (h:Value.okWide P W r b0 t v) : ∃ cs,v = .agg cs:=by
 rcases ht with ⟨F,ht⟩ | ⟨n,e,ht⟩ <;> simp only [Value.okWide,ht] at h <;> obtain ⟨cs,h,_⟩:=h <;> exact ⟨cs,h⟩
theorem mtc_kind {Θ:Tb} {n:Nat} {t:TypeId} {tc:TC} (h:mtc Θ n t tc=true) : ∃ i,Θ t=some i∧((∃ s,tc = .sc s∧scB i.d s=true)∨(∃ m s m' e,tc = .arr m s∧i.d = .arr m' e)∨(∃ te e,tc = .slice te∧i.d = .slice e)∨∃ fs,i.d = .st fs∧((∃ a b,tc = .pair a b)∨∃ a,tc = .st a)):=by
 cases n with
 | zero=>simp [mtc] at h
 | succ n=>
  simp only [mtc] at h
  split at h
  ·rename_i i hi
   refine ⟨i,hi,?_⟩
   split at h
   ·rename_i m e m' s hd
    exact .inr (.inl ⟨_,_,_,_,rfl,hd⟩)
   ·rename_i e te hd
    exact .inr (.inr (.inl ⟨_,_,rfl,hd⟩))
   ·rename_i fs hd
    refine .inr (.inr (.inr ⟨_,hd,?_⟩))
    simp only [Bool.and_eq_true] at h
    have h1:=h.1
    unfold stB at h1
    split at h1
    ·exact .inr ⟨_,rfl⟩
    ·rename_i tc' _ _ _ _ _ _
     unfold fldB at h1
     split at h1
     ·rename_i hh; cases hh
     ·exact .inl ⟨_,_,rfl⟩
     ·cases h1
    ·cases h1
   ·exact .inl ⟨_,rfl,h⟩
   ·cases h
  ·cases h
theorem came_any (hΘ:Θ.ok P) {r:Reach} {b0 n:Nat} {t:TypeId} {tc:TC} {v:Value} {d:DataW H} {ps:List MemPlace} (hm:mtc Θ n t tc=true) (hval:Value.okWide P W r b0 t v)
  (h:DataW.Trod enc P W 0 (fun _=>true) true t v d ps) : ∃ (x:tc.den) (y:tc.ty.Refs),v=valOf tc x y∧RepR W allS tc.ty x y∧WfD tc x:=by
 obtain ⟨fuel,hf⟩:=h
 have hrd:=read_any hΘ n t tc fuel _ _ hm hf
 obtain ⟨i,hi,hk⟩:=mtc_kind hm
 have hfit:=(hΘ t i hi).2.1
 have agg:(∃ cs,v = .agg cs)→∀ {l:List Value},v.cells.toList=l→v = .agg l.toArray:=fun hv l hl=>by
  obtain ⟨cs,rfl⟩:=hv
  rw [← hl]; rfl
 have one:(∀ cs,v≠.agg cs)→∀ {u},v.cells.toList=[u]→v=u:=fun hv u hu=>by
  rw [cells1 hv] at hu
  exact (List.cons.inj hu).1
 rcases hk with ⟨s,rfl,hs⟩ | ⟨m,s,m',e,rfl,hd⟩ | ⟨te,e,rfl,hd⟩ | ⟨fs,hd,⟨a,b,rfl⟩ | ⟨a,rfl⟩⟩
 ·obtain ⟨x,y,hcs,hr,hw⟩:=hrd
  refine ⟨x,y,one ?_ hcs,hr,hw⟩
  generalize i.d=d at hs hfit
  cases s with
  | int k=>
   cases d <;> simp only [scB,decide_eq_true_eq] at hs <;> try cases hs
   obtain ⟨k,rfl⟩:=okWide_int (show P.underlying t=some (.int _) from hfit) hval; intro cs hh; cases hh
  | bool=>
   cases d <;> simp only [scB] at hs <;> try cases hs
   obtain ⟨k,rfl⟩:=okWide_bool (show P.underlying t=some .bool from hfit) hval; intro cs hh; cases hh
  | str=>
   cases d <;> simp only [scB] at hs <;> try cases hs
   obtain ⟨k,rfl⟩:=okWide_string (show P.underlying t=some .string from hfit) hval; intro cs hh; cases hh
  | fnc=>cases d <;> simp only [scB] at hs <;> cases hs
 ·obtain ⟨x,y,hcs,hr,hw⟩:=hrd
  rw [hd] at hfit
  exact ⟨x,y,agg (okWide_agg (.inr ⟨m',e,hfit⟩) hval) hcs,hr,hw⟩
 ·obtain ⟨x,y,hcs,hr,hw⟩:=hrd
  rw [hd] at hfit
  obtain ⟨a,len,cap,rfl⟩:=okWide_slice hfit hval
  exact ⟨x,y,one (fun _ hh=>by cases hh) hcs,hr,hw⟩
 ·obtain ⟨x,y,hcs,hr,hw⟩:=hrd
  rw [hd] at hfit
  obtain ⟨F,hu,_⟩:=hfit
  exact ⟨x,y,agg (okWide_agg (.inl ⟨F,hu⟩) hval) hcs,hr,hw⟩
 ·obtain ⟨x,y,hcs,hr,hw⟩:=hrd
  rw [hd] at hfit
  obtain ⟨F,hu,_⟩:=hfit
  exact ⟨x,y,agg (okWide_agg (.inl ⟨F,hu⟩) hval) hcs,hr,hw⟩
theorem refs_hds:(t:TC)→(y:t.ty.Refs)→(l:List Hd)→refsOf t (hdsOf t y++l)=y
 | .sc _,_,_=>rfl
 | .arr _ _,_,_=>rfl
 | .unit,_,_=>rfl
 | .pair a b,y,l=>by
  simp only [refsOf,hdsOf,List.append_assoc]
  rw [refs_hds a y.1]
  have:List.drop a.nh (hdsOf a y.1++(hdsOf b y.2++l))=hdsOf b y.2++l:=by
   rw [← hdsOf_len a y.1,List.drop_left]
  rw [this,refs_hds b y.2]
 | .slice _,_,_=>rfl
 | .st t,y,l=>refs_hds t y l
 | .ext _,_,_=>rfl
def WfP:(tcs:List TC)→DenP (tcs.map PC.d)→Prop
 | [],_=>True
 | [t],x=>WfD t x
 | t::t' :: r,x=>WfD t x.1∧WfP (t' :: r) x.2
def mtcs (Θ:Tb) (n:Nat):List TypeId→List TC→Bool
 | [],[]=>true
 | t::ts,tc::tcs=>mtc Θ n t tc&&mtcs Θ n ts tcs
 | _,_=>false
theorem came_all (hΘ:Θ.ok P) {r:Reach} {b0 n:Nat} : ∀ {ts:List TypeId} {tcs:List TC} {vs:List Value} {ds:List (DataW H)} {ps:List MemPlace} (q:Nat),mtcs Θ n ts tcs=true→(∀ (j:Nat) t v,ts[j]? = some t→vs[j]? = some v→Value.okWide P W r b0 t v) →
  DataW.TrodAll enc P W 0 (fun _=>true) true ts vs ds ps→∃ (x:DenP (tcs.map PC.d)) (l:List Hd),l.length=nhP (tcs.map PC.d)∧vs=valsP (tcs.map PC.d) x l∧Heap W (oldc allS) (factsP (tcs.map PC.d) x l q)∧WfP tcs x
 | [],[],vs,ds,ps,q,_,_,h=>by
  cases vs <;> cases ds <;> simp only [DataW.TrodAll] at h
  exact ⟨(),[],rfl,rfl,Heap.nil _ _,trivial⟩
 | [],_::_,_,_,_,_,hm,_,_=>by simp [mtcs] at hm
 | _::_,[],_,_,_,_,hm,_,_=>by simp [mtcs] at hm
 | t::ts,tc::tcs,vs,ds,ps,q,hm,hv,h=>by
  obtain ⟨v,vs',d,ds',p,p',rfl,rfl,rfl,h1,h2⟩:=trodAll_cons h
  simp only [mtcs,Bool.and_eq_true] at hm
  obtain ⟨x,y,hx,hr,hw⟩:=came_any hΘ hm.1 (hv 0 t v rfl rfl) h1
  have hr1:RepR W (fun b=>oldc allS b∈[1]) tc.ty x y:=RepR.keep (fun b _ _=>⟨oldc_all b,rfl⟩) tc.ty x y hr
  match ts,tcs,hm.2,h2 with
  | [],[],_,h2=>
   cases vs' <;> cases ds' <;> simp only [DataW.TrodAll] at h2
   have e:refsOf tc (hdsOf tc y)=y:=by simpa using refs_hds tc y []
   refine ⟨x,hdsOf tc y,?_,?_,?_,hw⟩
   ·show _=tc.nh+0; rw [hdsOf_len]; rfl
   ·show [v]=[valOf tc x (refsOf tc (hdsOf tc y))]; rw [e,hx]
   ·show Heap W _ (facts tc.ty [1] x (refsOf tc (hdsOf tc y))); rw [e]; exact facts_of _ _ _ hr1
  | t' :: ts,tc' :: tcs,hm2,h2=>
   obtain ⟨x2,l2,e1,e2,e3,e4⟩:=came_all hΘ (ts:=t' :: ts) (tcs:=tc' :: tcs) (q+0) hm2 (fun j t v ht hv' => hv (j+1) t v (by simpa using ht) (by simpa using hv')) h2
   have e:refsOf tc (hdsOf tc y++l2)=y:=refs_hds tc y l2
   have ed:(hdsOf tc y++l2).drop tc.nh=l2:=by rw [← hdsOf_len tc y,List.drop_left]
   refine ⟨(x,x2),hdsOf tc y++l2,?_,?_,?_,⟨hw,e4⟩⟩
   ·show (hdsOf tc y++l2).length=tc.nh+nhP ((tc' :: tcs).map PC.d)
    rw [List.length_append,hdsOf_len,e1]
   ·show _=valOf tc x (refsOf tc (hdsOf tc y++l2))::valsP ((tc' :: tcs).map PC.d) x2 ((hdsOf tc y++l2).drop tc.nh)
    rw [e,ed,← e2,hx]
   ·show Heap W _ (facts tc.ty [1] x (refsOf tc (hdsOf tc y++l2))++factsP ((tc' :: tcs).map PC.d) x2 ((hdsOf tc y++l2).drop tc.nh) (q+0))
    rw [e,ed]
    exact (facts_of _ _ _ hr1).append e3
theorem postC_below {w0:World} {S:Nat→Prop} {Y:Type} {val:Y→Value} {facts:Y→List HA} {e:Ending} {w' : World} (h:PostC w0 (oldc S) val facts e w'):(∃ y,e = .returned (val y))∧Below w0.heap.size w0 w' := by
 obtain ⟨y,c',he,henv,hsz,hold,_,_⟩:=h
 exact ⟨⟨y,he⟩,henv.1,henv.2.1,henv.2.2,hsz,fun k hk=>(hold k hk (by rcases oldc_le S k with h | h <;> omega)).1⟩
theorem trodAll_below {W' : World} (hl:laidOutB P=true) (hB:Below W.heap.size W W') : ∀ {ts:List TypeId} {vs:List Value} {ds:List (DataW H)} {ps:List MemPlace},ts.all (fun t=>P.readableRec t&&decide (t<P.types.size))=true →
  DataW.TrodAll enc P W 0 (fun _=>true) true ts vs ds ps→(∀ x∈ps,x.block<W.heap.size)→DataW.TrodAll enc P W' 0 (fun b=>decide (b<W.heap.size)) true ts vs ds ps
 | [],vs,ds,ps,_,h,_=>by
  cases vs <;> cases ds <;> simp_all [DataW.TrodAll]
 | t::ts,vs,ds,ps,hts,h,hlt=>by
  obtain ⟨v,vs',d,ds',p,q,rfl,rfl,rfl,h1,h2⟩:=trodAll_cons h
  simp only [List.all_cons,Bool.and_eq_true,decide_eq_true_eq] at hts
  exact ⟨p,q,Below.trod hl hts.1.1 hts.1.2 h1 hB fun x hx=>hlt x (List.mem_append_left _ hx),
   trodAll_below hl hB (by simpa using hts.2) h2 fun x hx=>hlt x (List.mem_append_right _ hx),rfl⟩
def backL (Θ:Tb) (B:TypeId→DataW Unit→Option (List Value)):List (TypeId×Nat)→List (DataW Unit)→Nat→Option (List Value×Nat)
 | [],[],pos=>some ([],pos)
 | f::fs,d::ds,pos=>bif Nat.beq f.2 pos then (match Θ f.1 with
  | some i=>match B f.1 d,backL Θ B fs ds (pos+i.sz) with
   | some a,some b=>some (a++b.1,b.2)
   | _,_=>none
  | none=>none) else none
 | _,_,_=>none
def back (Θ:Tb):Nat→TypeId→DataW Unit→Option (List Value)
 | 0,_,_=>none
 | n+1,t,d=>match Θ t with
  | none=>none
  | some i=>match i.d,d with
   | .int k, .lit (.int k' m)=>bif scB (.int k) (.int k') then some [.int k' m] else none
   | .bool, .lit (.bool b)=>some [.bool b]
   | .str, .lit (.string s)=>some [.string ⟨s.toArray⟩]
   | .arr m e, .agg ds=>match Θ e with
    | some ie=>match backL Θ (back Θ n) ((List.range m).map fun j=>(e,j * ie.sz)) ds 0 with
     | some r=>bif Nat.beq r.2 i.sz then some r.1 else none
     | none=>none
    | none=>none
   | .st fs, .agg ds=>match backL Θ (back Θ n) fs ds 0 with
    | some r=>bif Nat.beq r.2 i.sz then some r.1 else none
    | none=>none
   | _,_=>none
theorem cellsOf_i (hΘ:Θ.ok P) {t:TypeId} {i:TInf} (h:Θ t=some i):P.cellsOf t=i.sz:=
 cellsOf_sz hΘ (by simp only [szIs,h]; exact Nat.beq_refl _)
theorem backL_ok (hΘ:Θ.ok P) {B:TypeId→DataW Unit→Option (List Value)} {T:TypeId→List Value→DataW Unit→Prop} (hB : ∀ t d a cs,B t d=some a→T t cs d→cs=a) {cs:List Value} :
  ∀ (fs:List (TypeId×Nat)) (ds:List (DataW Unit)) (pos:Nat) (r:List Value×Nat),backL Θ B fs ds pos=some r→(∀ (j:Nat) f d,fs[j]? = some f→ds[j]? = some d→T f.1 ((cs.drop f.2).take (P.cellsOf f.1)) d)→pos≤r.2∧(cs.drop pos).take (r.2 - pos)=r.1
 | [],[],pos,r,h,_=>by simp only [backL,Option.some.injEq] at h; subst h; simp
 | [],_::_,_,_,h,_=>by simp [backL] at h
 | _::_,[],_,_,h,_=>by simp [backL] at h
 | f::fs,d::ds,pos,r,h,hT=>by
  simp only [backL] at h
  cases hb:Nat.beq f.2 pos
  ·simp [hb] at h
  ·have hp:=Nat.eq_of_beq_eq_true hb
   simp only [hb,cond_true] at h
   split at h
   ·rename_i i hi
    split at h
    ·rename_i a b ha hbr
     obtain ⟨h1,h2⟩:=backL_ok hΘ hB fs ds (pos+i.sz) b hbr fun j f' d' hf hd=>hT (j+1) f' d' (by simpa using hf) (by simpa using hd)
     have h3:=hB _ _ _ _ ha (hT 0 f d rfl rfl)
     rw [cellsOf_i hΘ hi,hp] at h3
     simp only [Option.some.injEq] at h
     subst h
     refine ⟨by show pos≤b.2; omega,?_⟩
     show (cs.drop pos).take (b.2 - pos)=a++b.1
     rw [show b.2 - pos=i.sz+(b.2 - (pos+i.sz)) by omega,List.take_add,h3,List.drop_drop,h2]
    ·cases h
   ·cases h
theorem mapM_lit {α:Type} {f:α→Option (DataW Unit×List MemPlace)} {l:List α} {xs:List (DataW Unit×List MemPlace)} (h:l.mapM f=some xs):xs.length=l.length∧∀ (j:Nat) a d,l[j]? = some a→(xs.map (·.1))[j]? = some d→∃ p,f a=some (d,p):=by
 obtain ⟨h1,h2⟩:=mapM_at h
 refine ⟨h1,fun j a d ha hd=>?_⟩
 obtain ⟨b,hb,hf⟩:=h2 j a ha
 rw [List.getElem?_map,hb] at hd
 cases hd
 exact ⟨b.2,hf⟩
theorem back_ok (hΘ:Θ.ok P) {en:TypeId×Value→Unit} {held:Bool} : ∀ (n:Nat) (t:TypeId) (d:DataW Unit) (a cs:List Value) ,back Θ n t d=some a→(∃ fuel p,DataW.trod en P W 0 (fun _=>true) held fuel t cs=some (d,p))→cs=a
 | 0,_,_,_,_,h,_=>by simp [back] at h
 | n+1,t,d,a,cs,h,⟨fuel,p,ht⟩=>by
  have ih:=back_ok hΘ (en:=en) (held:=held) n
  cases fuel with
  | zero=>simp [DataW.trod] at ht
  | succ fuel=>
  simp only [back] at h
  split at h
  ·cases h
  ·rename_i i hi
   have hfit:=(hΘ t i hi).2.1
   split at h
   ·rename_i k k' m hd
    rw [hd] at hfit
    have hu:P.underlying t=some (.int k):=hfit
    cases hk:scB (.int k) (.int k') <;> simp only [hk,cond_true,cond_false] at h
    ·cases h
    ·simp only [scB,decide_eq_true_eq] at hk
     subst hk
     cases h
     unfold DataW.trod at ht
     rw [hu] at ht
     match cs,ht with
     | [.int k2 z],ht=>
      simp only at ht
      split at ht
      ·rename_i hc
       obtain ⟨rfl,_⟩:=hc
       cases ht; rfl
      ·cases ht
   ·rename_i b hd
    rw [hd] at hfit
    have hu:P.underlying t=some .bool:=hfit
    cases h
    unfold DataW.trod at ht
    rw [hu] at ht
    match cs,ht with
    | [.bool b'],ht=>cases ht; rfl
   ·rename_i s hd
    rw [hd] at hfit
    have hu:P.underlying t=some .string:=hfit
    cases h
    unfold DataW.trod at ht
    rw [hu] at ht
    match cs,ht with
    | [.string z],ht=>
     simp only at ht
     split at ht
     ·cases ht; rfl
     ·cases ht
   ·rename_i m e ds hd
    rw [hd] at hfit
    have hu:P.underlying t=some (.array m e):=hfit
    split at h
    ·rename_i ie hie
     split at h
     ·rename_i r hr
      cases hz:Nat.beq r.2 i.sz <;> simp only [hz,cond_true,cond_false] at h
      ·cases h
      ·cases h
       have hz:=Nat.eq_of_beq_eq_true hz
       unfold DataW.trod at ht
       rw [hu] at ht
       simp only at ht
       split at ht
       ·rename_i hlen
        rw [cellsOf_i hΘ hi] at hlen
        simp only [Option.map_eq_some_iff,Prod.mk.injEq,DataW.agg.injEq] at ht
        obtain ⟨xs,hxs,hds,_⟩:=ht
        obtain ⟨h1,h2⟩:=mapM_lit hxs
        obtain ⟨_,h3⟩:=backL_ok hΘ (T:=fun t cs d=>∃ fuel p,DataW.trod en P W 0 (fun _=>true) held fuel t cs=some (d,p)) (fun t d a cs ha hT=>ih t d a cs ha hT) (cs:=cs) _ ds 0 r hr fun j f d hf hd=>by
         rw [List.getElem?_map,Option.map_eq_some_iff] at hf
         obtain ⟨j',hj',rfl⟩:=hf
         have hjm:j<m:=by
          have:=(List.getElem?_eq_some_iff.1 hj').1
          simpa using this
         rw [List.getElem?_range hjm] at hj'
         cases hj'
         obtain ⟨p,hp⟩:=h2 j j d (List.getElem?_range hjm) (by rw [hds]; exact hd)
         rw [cellsOf_i hΘ hie] at hp ⊢
         exact ⟨_,p,hp⟩
        rw [← h3,hz,List.drop_zero,Nat.sub_zero,← hlen,List.take_length]
       ·cases ht
     ·cases h
    ·cases h
   ·rename_i fs ds hd
    rw [hd] at hfit
    obtain ⟨Fd,hu,hfs⟩:=hfit
    split at h
    ·rename_i r hr
     cases hz:Nat.beq r.2 i.sz <;> simp only [hz,cond_true,cond_false] at h
     ·cases h
     ·cases h
      have hz:=Nat.eq_of_beq_eq_true hz
      unfold DataW.trod at ht
      rw [hu] at ht
      simp only at ht
      split at ht
      ·rename_i hlen
       rw [cellsOf_i hΘ hi] at hlen
       simp only [Option.map_eq_some_iff,Prod.mk.injEq,DataW.agg.injEq] at ht
       obtain ⟨xs,hxs,hds,_⟩:=ht
       obtain ⟨h1,h2⟩:=mapM_lit hxs
       obtain ⟨_,h3⟩:=backL_ok hΘ (T:=fun t cs d=>∃ fuel p,DataW.trod en P W 0 (fun _=>true) held fuel t cs=some (d,p)) (fun t d a cs ha hT=>ih t d a cs ha hT) (cs:=cs) fs ds 0 r hr fun j f d hf hd=>by
        rw [← hfs,List.getElem?_map,Option.map_eq_some_iff] at hf
        obtain ⟨fd,hfd,rfl⟩:=hf
        obtain ⟨p,hp⟩:=h2 j fd d hfd (by rw [hds]; exact hd)
        exact ⟨_,p,hp⟩
       rw [← h3,hz,List.drop_zero,Nat.sub_zero,← hlen,List.take_length]
      ·cases ht
    ·cases h
   ·cases h
theorem laid_at {w:World} : ∀ {l:List (String×DataW Unit)} {ps:List MemPlace} {j:Nat} {n:String} {d:DataW Unit},DataW.LaidVars P w l ps→l[j]? = some (n,d) →
  ∃ g t cs fuel p,P.globalNamed n=some g∧(P.globals[g]?).map (·.type)=some t∧w.var? P n=some cs∧DataW.trod (fun _=>()) P w 0 (fun _=>true) false fuel t cs.toList=some (d,p)
 | [],_,_,_,_,_,h=>by simp at h
 | (n,d)::r,ps,0,n',d',hv,h=>by
  obtain ⟨g,t,cs,fuel,p,q,h1,h2,h3,h4,_,_⟩:=hv
  simp only [List.getElem?_cons_zero,Option.some.injEq,Prod.mk.injEq] at h
  obtain ⟨rfl,rfl⟩:=h
  exact ⟨g,t,cs,fuel,p,h1,h2,h3,h4⟩
 | (n,d)::r,ps,j+1,n',d',hv,h=>by
  obtain ⟨g,t,cs,fuel,p,q,_,_,_,_,hq,_⟩:=hv
  exact laid_at hq (by simpa using h)
theorem var_block {w:World} {n:String} {g:Nat} {cs:Array Value} (hg:P.globalNamed n=some g) (h:w.var? P n=some cs) : ∃ ty fz,w.heap[g]? = some (.cells cs ty fz):=by
 unfold World.var? at h
 rw [hg] at h
 simp only [Option.bind_some] at h
 split at h
 ·rename_i cs' ty fz hb
  cases h
  exact ⟨ty,fz,hb⟩
 ·cases h
theorem laid_back (hΘ:Θ.ok P) {l:List (String×DataW Unit)} {j k g:Nat} {t:TypeId} {n:String} {d:DataW Unit} {cs:List Value} (h:laidMet P l W) (hj:l[j]? = some (n,d)) (hg:P.globalNamed n=some g) (ht:(P.globals[g]?).map (·.type)=some t)
  (hb:back Θ k t d=some cs) : ∃ ty fz,W.heap[g]? = some (.cells cs.toArray ty fz):=by
 obtain ⟨ps,hv,_⟩:=h
 obtain ⟨g',t',cs',fuel,p,h1,h2,h3,h4⟩:=laid_at hv hj
 obtain rfl:=Option.some.inj (hg.symm.trans h1)
 obtain rfl:=Option.some.inj (ht.symm.trans h2)
 have:=back_ok hΘ k t d cs cs'.toList hb ⟨fuel,p,h4⟩
 obtain ⟨ty,fz,h5⟩:=var_block hg h3
 exact ⟨ty,fz,by rw [h5,← this]⟩
end
end
theorem returns_laid {H:Type} {enc:TypeId×Value→H} {a:Assume} {C:Checked} {os:Os} {f:FuncId} {fn:Func} {s:ChangeSpec} {conds:List PathCond} {apart fresh handsOn again:Bool} {L:World→Array Value→Prop}
  (hX : ∀ (w w' : World) (args:Array Value),w.heap=w'.heap→L w args→L w' args)
  (own:ownKnob C.prog.godebug=none) (started:os.Started) (noInit:C.prog.inits.idxOf? f=none) (hfn:C.prog.funcs[f]? = some fn)
  (witness : ∃ (w:World) (tape:Tape) (i:Input),w.os=os∧(w.forCall tape i).Shaped C.prog∧i.vars=[]∧Input.okWide C.prog (w.forCall tape i) .any w.heap.size f i ∧
   ((s.pre enc C.prog fn conds apart (w.forCall tape i).memory i.args∧L (w.forCall tape i).memory i.args)∧sizedMet enc C.prog fn (OpenSpec.ofChange s) apart (w.forCall tape i).memory i.args)∧a.holds C.prog (lone (Frame.enter C.prog f i.args .normal) [] (w.forCall tape i)))
  (contract : ∀ (W:World) (base:Nat) (args:Array Value) (ds gs:List (DataW H)) (before:List MemPlace),
   (∀ (j:Nat) t v,fn.params[j]? = some t→args[j]? = some v→Value.okWide C.prog W .any base t v) →
   DataW.Whole enc C.prog fn.params.toList s.vars apart W args.toList ds gs before→L W args→W.ShapedOpen C.prog →
   (DataW.weightsEach C.prog (fn.params.toList++s.plain.varTypes C.prog) (ds++gs)).all (· ≤ reachBytes)=true →
   Calls C.prog f args W fun e W' => ∃ v,e = .returned v∧s.post enc C.prog fn apart fresh handsOn again W args v W') :
  ReturnsInHanded a C os f .any (fun w args=>(s.pre enc C.prog fn conds apart w args∧L w args)∧sizedMet enc C.prog fn (OpenSpec.ofChange s) apart w args) (s.post enc C.prog fn apart fresh handsOn again):=by
 refine returnsInHanded_of_calls own started noInit witness ?_
 intro w tape i _ hsh _ hok hpre _
 obtain ⟨_,_,_,fn',hfn',_,_,_,_,hval⟩:=hok
 obtain rfl:fn' = fn:=Option.some.inj (hfn'.symm.trans hfn)
 obtain ⟨⟨⟨ds,gs,before,hw,_⟩,hx⟩,hz⟩:=hpre
 have hw' := DataW.Whole.of_heap (w' := w.forCall tape i) (by rfl) hw
 refine (contract (w.forCall tape i) w.heap.size i.args ds gs before hval hw' (hX _ _ _ (by rfl) hx) hsh (hz.weights hw)).mono fun e W' ⟨v,he,hp⟩=>?_
 subst he
 exact ChangeSpec.post_blind hp
end Go.Sm
