/-
  The symbolic evaluator: slices made, appended to and cut; values put together. Nothing of a program is named here; no condition.
-/
import Derived.Test.YtknnphhepnbaoaaGreatDoorRfE
namespace Go.Sm
set_option linter.unusedSectionVars false
section
variable [X:XTab] [G:GTab]
section
variable {R:Type} {P:Program} {o:Oper} {E:SE} {F:List AF} {n:Nat} {Θ:Tb} {ex:Option Bool}
def sLen (Θ:Tb) (t:TypeId) (v:AV) (F:List AF) (k:Out→Option R):Option R:=match Θ t with
 | some ⟨.slice e,_,_,_,_⟩=>match Θ e,v with
  | some ie, .lf l=>match lfI ie.tc F l with
   | some s=>k (pureO (intL .i64 s.xs.length))
   | none=>match l with
    | .sl h=>match prtI h F with
     | some (_,_,lo,hi)=>k (pureO (intL .i64 (hi - lo)))
     | none=>none
    | _=>none
  | _,_=>none
 | some ⟨.str,_,_,_,_⟩=>match v with
  | .lf (.c .str x)=>k (pureO (intL .i64 x.length))
  | _=>none
 | _=>none
theorem p_len_str {ρ:Env} {L:List HA} {t:TypeId} {x:Operand} {s:List UInt8} (ho:o.op = .call { callee:=.builtin .len,args:=#[x],argTypes:=#[t] }) (ht:P.underlying t=some .string) (hx:evo ρ x = .string ⟨s.toArray⟩) :
  PureOk P ρ o L (.int .i64 s.length):=fun ev w c he _=>by
 subst he
 have hs:(ByteArray.mk s.toArray).size=s.length:=by simp [ByteArray.size]
 simp [execOp,ho,hx,resolve,invoke,builtin,Builtin.len_,run_underlying ht,goInt,Result.andThen]
 exact congrArg (fun (m:Nat)=>(m:Int)) hs
theorem sLen_ok (hΘ:Θ.ok P) {t:TypeId} {x:Operand} {v:AV} (ho:o.op = .call { callee:=.builtin .len,args:=#[x],argTypes:=#[t] }) (h1:ev E x=some v) (k:Out→Option R):Snd ex P o E F n (sLen Θ t v F k) k:=by
 unfold sLen
 split
 ·rename_i e _ _ _ _ ht
  split
  ·rename_i ie l he
   split
   ·rename_i s hs
    refine Snd.of fun hx=>(OpS.pure fun η ρ hE=>?_)
    refine PureOk.from (L' := .rep ie.tc.ty s.all s.xs (l.hd η)::F.map (AF.ha η)) ?_ (fun w c hH=>Heap.cons (lfI_rep hs hH) hH)
    have h2:=ev_ok hE h1
    simp only [AV.val] at h2 ⊢
    rw [(lfI_val hs η).1] at h2
    exact p_len_rep 0 rfl ho (hΘ t _ ht).2.1 h2
   ·split
    ·rename_i h _
     split
     ·rename_i h0 sz lo hi hp
      refine Snd.of fun hx=>(OpS.pure fun η ρ hE ev w c hev hH=>?_)
      have hpt:PrtOf (η.h h) (η.h h0) sz lo hi:=hH _ (List.mem_map.2 ⟨_,prtI_mem hp,rfl⟩)
      have h3:=p_len (L:=F.map (AF.ha η)) ho (hΘ t _ ht).2.1 (ev_ok hE h1) ev w c hev hH
      rw [h3]
      simp only [AV.val,Lf.val,hpt.2.1]
     ·exact Snd.none
    ·exact Snd.none
  ·exact Snd.none
 ·rename_i _ _ _ _ ht
  split
  ·refine Snd.of fun hx=>(OpS.pure fun η ρ hE=>?_)
   exact p_len_str ho (hΘ t _ ht).2.1 (ev_ok hE h1)
  ·exact Snd.none
 ·exact Snd.none
def sApp (Θ:Tb) (ex:Option Bool) (n N:Nat) (t:TypeId) (v1 v2:AV) (F:List AF) (k:Out→Option R):Option R:=match Θ t with
 | some ⟨.slice e,_,_,_,_⟩=>match Θ e,v1,v2 with
  | some ie, .lf l1, .lf l2=>match ownI ie.tc e N F l1,lfI ie.tc F l2 with
   | some (ci,K,xs),some s2=>bif Nat.beq ie.sz ie.tc.ty.sz&&Nat.ble 1 ie.sz&&Nat.beq ie.zv.cells.size ie.sz&&Nat.ble 2 ci&&Nat.blt e 1048576&&(bif ie.tc.ty.pureB then true else (K++s2.all).all (fun k=>!(Nat.beq k ci))) then
     gchk ex (appOk xs.length s2.xs.length ie.by_) (k ⟨.lf (.sl n),[.own ie.tc e ci (bif ie.tc.ty.pureB then K else K++s2.all) (xs++s2.xs) n],[ci]⟩) else none
   | _,_=>none
  | _,_,_=>none
 | _=>none
theorem sApp_ok (hΘ:Θ.ok P) {N:Nat} {t:TypeId} {x y:Operand} {v1 v2:AV} (ho:o.op = .call { callee:=.builtin .append,args:=#[x,y],argTypes:=#[t,t] }) (h1:ev E x=some v1) (h2:ev E y=some v2) (k:Out→Option R) :
  Snd ex P o E F n (sApp Θ ex n N t v1 v2 F k) k:=by
 unfold sApp
 split
 ·rename_i e _ _ _ _ ht
  split
  ·rename_i ie l1 l2 he
   split
   ·rename_i ci K xs s2 hs1 hs2
    refine Snd.bif fun hc=>Snd.gchk fun hr=>Snd.of fun hx η ρ hE=>?_
    simp only [Bool.and_eq_true] at hc
    obtain ⟨⟨⟨⟨⟨hsz,h0⟩,hzs⟩,hci⟩,hel⟩,hK⟩:=hc
    have e1:=ev_ok hE h1
    have e2:=ev_ok hE h2
    simp only [AV.val] at e1 e2
    rw [ownI_val hs1 η] at e1
    rw [(lfI_val hs2 η).1] at e2
    have hH' : ∀ w c,Heap w c (F.map (AF.ha η))→Heap w c (.own ie.tc.ty e ci K xs (l1.hd η) :: .rep ie.tc.ty s2.all s2.xs (l2.hd η)::F.map (AF.ha η)):=fun w c hH=>
     Heap.cons (ownI_own hs1 hH) (Heap.cons (lfI_rep hs2 hH) hH)
    cases hp:ie.tc.ty.pureB
    ·rw [hp,cond_false] at hK
     have:=(ok_append (o:=o) (ρ:=ρ) (L:=.own ie.tc.ty e ci K xs (l1.hd η) :: .rep ie.tc.ty s2.all s2.xs (l2.hd η)::F.map (AF.ha η)) 0 1 rfl _ rfl weak_same ho (hΘ t _ ht).2.1 (hΘ e ie he).1 (Nat.eq_of_beq_eq_true hsz) hzs h0 e1 e2 (hr hx) hci hK rfl hel).from hH'
     refine this.map (fun hh=>⟨η.setH n hh,η.setH_agr n hh⟩) (fun hh=>?_) fun hh=>?_
     ·simp [AV.val,Lf.val,Vn.setH_at]
     ·simp [AF.ha,Vn.setH_at]
    ·have:=(ok_append_q (o:=o) (ρ:=ρ) (L:=.own ie.tc.ty e ci K xs (l1.hd η) :: .rep ie.tc.ty s2.all s2.xs (l2.hd η)::F.map (AF.ha η)) hp 0 1 rfl _ rfl weak_same ho (hΘ t _ ht).2.1 (hΘ e ie he).1 (Nat.eq_of_beq_eq_true hsz) hzs h0 e1 e2 (hr hx) hci hel).from hH'
     refine this.map (fun hh=>⟨η.setH n hh,η.setH_agr n hh⟩) (fun hh=>?_) fun hh=>?_
     ·simp [AV.val,Lf.val,Vn.setH_at]
     ·simp [AF.ha,Vn.setH_at]
   ·exact Snd.none
  ·exact Snd.none
 ·exact Snd.none
theorem PaidL.append {L:List HA} : ∀ {l l' : List HA},PaidL L l→PaidL L l' → PaidL L (l++l')
 | [],_,_,h=>h
 | _::_,_,⟨h1,h2⟩,h=>⟨h1,h2.append h⟩
theorem paid_nil {L:List HA} {η:Vn} {K' : List Nat} : ∀ (t:TC) {ls:List Lf} {z:t.den} {l:List Lf} {K:List Nat} {r:List Lf},datL [] t ls=some (z,l,K,r)→PaidL L (facts t.ty K' z (refsOf t (hdsL η l)))
 | .sc _,_,_,_,_,_,_=>trivial
 | .arr _ _,_,_,_,_,_,_=>trivial
 | .unit,_,_,_,_,_,_=>trivial
 | .ext _,_,_,_,_,_,_=>trivial
 | .st t,_,_,_,_,_,h=>paid_nil (η:=η) t h
 | .slice t,[],_,_,_,_,h=>by simp [datL] at h
 | .slice t,a::ls,z,l,K,r,h=>by
  simp only [datL] at h
  split at h
  ·rename_i s hs
   simp only [Option.some.injEq,Prod.mk.injEq] at h
   obtain ⟨rfl,rfl,rfl,rfl⟩:=h
   cases a with
   | sl m=>simp [lfI,slI] at hs
   | nl=>
    simp only [lfI,Option.some.injEq] at hs
    subst hs
    exact ⟨.inr free_rep,trivial⟩
   | _=>simp [lfI] at hs
  ·cases h
 | .pair a b,ls,z,l,K,r,h=>by
  simp only [datL] at h
  split at h
  ·rename_i x1 l1 K1 r1 h1
   split at h
   ·rename_i x2 l2 K2 r2 h2
    simp only [Option.some.injEq,Prod.mk.injEq] at h
    obtain ⟨rfl,rfl,rfl,rfl⟩:=h
    have hn:(hdsL η l1).length=a.nh:=by simp [hdsL,datL_nh a h1]
    have e1:refsOf a (hdsL η (l1++l2))=refsOf a (hdsL η l1):=by
     rw [show hdsL η (l1++l2)=hdsL η l1++hdsL η l2 by simp [hdsL],refsOf_left a _ _ hn]
    have e2:refsOf b ((hdsL η (l1++l2)).drop a.nh)=refsOf b (hdsL η l2):=by
     rw [show hdsL η (l1++l2)=hdsL η l1++hdsL η l2 by simp [hdsL],List.drop_append,List.drop_eq_nil_of_le (by omega),show a.nh - (hdsL η l1).length=0 by omega]
     rfl
    simp only [facts,refsOf]
    rw [e1,e2]
    exact (paid_nil a h1).append (paid_nil b h2)
   ·cases h
  ·cases h
def sameOp:Operand→Operand→Bool
 | .tmp a, .tmp b=>Nat.beq a b
 | .const (.int _ a), .const (.int _ b)=>a==b
 | _,_=>false
def sMake (Θ:Tb) (ex:Option Bool) (n N:Nat) (t:TypeId) (x y:Operand) (v1 v2:AV) (k:Out→Option R):Option R:=match Θ t,v1,v2 with
 | some ⟨.slice e,_,_,_,_⟩, .lf (.c (.int _) a), .lf (.c (.int _) _)=>match Θ e with
  | some ie=>match datL [] ie.tc ie.zl with
   | some (z,_,_,[])=>bif Nat.beq ie.sz ie.tc.ty.sz&&Nat.ble 2 N&&sameOp x y then
      gchk ex (decide (0≤a∧a * ie.by_≤281474976710656∧a≤maxLen)) (k ⟨.lf (.sl n),[.own ie.tc e N [] (List.replicate a.toNat z) n],[]⟩) else none
   | _=>none
  | none=>none
 | _,_,_=>none
theorem sMake_ok (hΘ:Θ.ok P) {N:Nat} {t:TypeId} {x y:Operand} {v1 v2:AV} (ho:o.op = .makeSlice t x y) (h1:ev E x=some v1) (h2:ev E y=some v2) (k:Out→Option R):Snd ex P o E F n (sMake Θ ex n N t x y v1 v2 k) k:=by
 unfold sMake
 split
 ·rename_i e _ _ _ _ k1 a k2 b ht
  split
  ·rename_i ie he
   split
   ·rename_i z l Kz hz
    refine Snd.bif fun hc=>Snd.gchk fun hb=>Snd.of fun hx η ρ hE=>?_
    simp only [Bool.and_eq_true] at hc
    obtain ⟨⟨hsz,hN⟩,hso⟩:=hc
    have e1:=ev_ok hE h1
    have e2:=ev_ok hE h2
    simp only [AV.val,Lf.val] at e1 e2
    have hab:b=a:=by
     unfold sameOp at hso
     split at hso
     ·obtain rfl:=Nat.eq_of_beq_eq_true hso
      rw [e1] at e2
      simp only [Value.int.injEq] at e2
      exact e2.2.symm
     ·simp only [evo,Value.int.injEq] at e1 e2
      exact e2.2.symm.trans ((eq_of_beq hso).symm.trans e1.2)
     ·cases hso
    subst hab
    obtain ⟨g1,_,g3,g4⟩:=hΘ e ie he
    have hcell:=(datL_ok (η:=η) ie.tc hz).1
    simp only [cellsL,List.append_nil] at hcell
    refine (ok_makeSlice (K:=[]) ho (hΘ t _ ht).2.1 g1 (Nat.eq_of_beq_eq_true hsz) (v:=z) (r:=refsOf ie.tc (hdsL η l)) ?_ (paid_nil ie.tc hz) e1 e2 (hb hx) hN).map (fun hh=>⟨η.setH n hh,η.setH_agr n hh⟩) (fun hh=>?_) fun hh=>?_
    ·rw [g3,← g4 η,hcell]
    ·simp [AV.val,Lf.val,Vn.setH_at]
    ·simp [AF.ha,Vn.setH_at]
   ·exact Snd.none
  ·exact Snd.none
 ·exact Snd.none
def fillF (place:Nat→Option (Nat×Nat)) (ls:List Lf):List (Nat×List Lf)→Option (List Lf)
 | []=>some ls
 | (i,new)::rest=>match place i with
  | none=>none
  | some (off,size)=>match cut off size ls,cutAt new size with
   | some (a,_,r),some (_,[])=>fillF place (a++new++r) rest
   | _,_=>none
theorem fillF_ok {place:Nat→Option (Nat×Nat)} {η:Vn} : ∀ {vals:List (Nat×List Lf)} {ls ls' : List Lf},fillF place ls vals=some ls' → fillL place (cellsL η ls) (vals.map fun p=>(p.1,cellsL η p.2))=some (cellsL η ls')
 | [],ls,ls',h=>by simp only [fillF,Option.some.injEq] at h; subst h; rfl
 | (i,new)::rest,ls,ls',h=>by
  simp only [fillF] at h
  cases hp:place i with
  | none=>rw [hp] at h; cases h
  | some os=>
   obtain ⟨off,size⟩:=os
   rw [hp] at h
   simp only at h
   split at h
   ·rename_i a m r q hc hs
    obtain ⟨e,hl⟩:=cut_ok hc
    obtain ⟨l1,l2⟩:=hl η
    obtain ⟨e2,l3⟩:=cutAt_ok hs
    rw [List.append_nil] at e2
    subst e2
    have l3:=l3 η
    have ih:=fillF_ok (η:=η) h
    simp only [List.map_cons,fillL,hp]
    have hb:(Nat.beq (cellsL η new).length size&&Nat.ble (off+(cellsL η new).length) (cellsL η ls).length)=true:=by
     rw [Bool.and_eq_true]
     refine ⟨by simp [l3],Nat.ble_eq_true_of_le ?_⟩
     rw [e,cellsL_append,cellsL_append]
     simp only [List.length_append]
     omega
    rw [hb,cond_true]
    rw [cellsL_append,cellsL_append] at ih
    rw [← ih]
    congr 2
    ·congr 1
     rw [e,cellsL_append,cellsL_append,List.append_assoc,List.take_append,List.take_of_length_le (by omega),show off - (cellsL η a).length=0 by omega]
     simp
    ·rw [e,cellsL_append,cellsL_append,List.append_assoc,List.drop_append,List.drop_eq_nil_of_le (by omega),List.nil_append,List.drop_append,List.drop_eq_nil_of_le (by omega),List.nil_append,
      show off+(cellsL η new).length - (cellsL η a).length - (cellsL η m).length=0 by omega,List.drop_zero]
   ·cases h
def partsF (E:SE):List (Nat×Operand)→Option (List (Nat×List Lf))
 | []=>some []
 | (i,x)::r=>match ev E x with
  | some v=>match v.lvs,partsF E r with
   | some ls,some l=>some ((i,ls)::l)
   | _,_=>none
  | none=>none
theorem partsF_ok {η:Vn} {ρ:Env} (hE:EnvOk η ρ E) : ∀ {ps:List (Nat×Operand)} {l:List (Nat×List Lf)},partsF E ps=some l→ps.map (fun p=>(p.1,(evo ρ p.2).cells.toList))=l.map fun p=>(p.1,cellsL η p.2)
 | [],l,h=>by simp only [partsF,Option.some.injEq] at h; subst h; rfl
 | (i,x)::r,l,h=>by
  simp only [partsF] at h
  split at h
  ·rename_i v hv
   split at h
   ·rename_i ls l' hl hr
    simp only [Option.some.injEq] at h
    subst h
    simp only [List.map_cons,partsF_ok hE hr,ev_ok hE hv,v.lvs_cells hl η]
   ·cases h
  ·cases h
def plF (Θ:Tb):List (TypeId×Nat)→Option (List (Nat×Nat))
 | []=>some []
 | (t,off)::r=>match Θ t,plF Θ r with
  | some i,some l=>some ((off,i.sz)::l)
  | _,_=>none
theorem plF_ok (hΘ:Θ.ok P) : ∀ {Fd:List Field} {l:List (Nat×Nat)},plF Θ (Fd.map fun f=>(f.type,f.offset))=some l→PlOk P Fd l
 | [],l,h=>by simp only [List.map_nil,plF,Option.some.injEq] at h; subst h; trivial
 | f::r,l,h=>by
  simp only [List.map_cons,plF] at h
  split at h
  ·rename_i i l' hi hr
   simp only [Option.some.injEq] at h
   subst h
   exact ⟨rfl,⟨_,_,(hΘ _ _ hi).1⟩,plF_ok hΘ hr⟩
  ·cases h
def setAll {s:SC} (m:Nat):List s.den→List (Nat×List Lf)→Option (List s.den)
 | xs,[]=>some xs
 | xs,(i,[.c s' v])::r=>if h:s' = s then bif Nat.blt i m then setAll m (xs.set i (castD h v)) r else none else none
 | _,_=>none
theorem setAll_ok {s:SC} {m:Nat} {η:Vn} : ∀ {vals:List (Nat×List Lf)} {xs ys:List s.den},setAll m xs vals=some ys→xs.length=m→fillL (fun j=>some (j * 1,1)) ((TC.arr m s).ty.fill xs ()) (vals.map fun p=>(p.1,cellsL η p.2))=some ((TC.arr m s).ty.fill ys ())
 | [],xs,ys,h,_=>by simp only [setAll,Option.some.injEq] at h; subst h; rfl
 | (i,ls)::r,xs,ys,h,hl=>by
  cases ls with
  | nil=>simp [setAll] at h
  | cons a ls=>
   cases ls with
   | cons _ _=>cases a <;> simp [setAll] at h
   | nil=>
    cases a <;> simp only [setAll] at h <;> try cases h
    split at h
    ·rename_i he
     subst he
     rename_i sc v
     cases hb:Nat.blt i m
     ·rw [hb] at h; cases h
     ·rw [hb] at h
      simp only [cond_true] at h
      have hi:i<m:=Nat.le_of_ble_eq_true hb
      have ih:=setAll_ok (η:=η) h (by simpa using hl)
      simp only [List.map_cons,fillL,cellsL,Lf.cells,List.append_nil,List.length_singleton]
      have hb2:(Nat.beq 1 1&&Nat.ble (i * 1+1) ((TC.arr m sc).ty.fill xs ()).length)=true:=by
       rw [Bool.and_eq_true]
       refine ⟨rfl,Nat.ble_eq_true_of_le ?_⟩
       rw [Ty.fill_length]
       show i * 1+1≤m
       omega
      rw [hb2,cond_true,← ih]
      congr 1
      apply List.ext_getElem?
      intro j
      simp only [Ty.fill,castD,List.getElem?_append,List.length_append,List.length_take,List.length_map,List.length_range,List.length_singleton]
      rw [Nat.mul_one,Nat.min_eq_left (show i≤m by omega)]
      by_cases c1:j<i
      ·simp [c1,show j<i+1 by omega,show j<m by omega,List.getElem?_set,show i≠j by omega]
      ·by_cases c2:j=i
       ·subst c2; simp [hi,List.getElem?_set,hl]
       ·simp only [c1,show ¬ j<i+1 by omega,if_false,List.getElem?_drop,show i+1+(j - (i+1))=j by omega]
        by_cases c3:j<m
        ·simp [c3,List.getElem?_set,show i≠j by omega]
        ·simp [c3]
    ·cases h
def sBuild (Θ:Tb) (E:SE) (t:TypeId) (ps:Array (Nat×Operand)) (k:Out→Option R):Option R:=match Θ t,partsF E ps.toList with
 | some ⟨.st fs,_,_,zl,_⟩,some vals=>match plF Θ fs with
  | some pl=>match fillF (fun j=>pl[j]?) zl vals with
   | some ls=>k (pureO (.ag ls))
   | none=>none
  | none=>none
 | some ⟨.arr m e,_,_,[.ar m' s z],_⟩,some vals=>match Θ e with
  | some ie=>match setAll m (List.replicate m s.dft) vals with
   | some ys=>bif Nat.beq m m' && z.isEmpty&&Nat.beq ie.sz 1 then k (pureO (.lf (.ar m s ys))) else none
   | none=>none
  | none=>none
 | _,_=>none
theorem sBuild_ok (hΘ:Θ.ok P) {t:TypeId} {ps:Array (Nat×Operand)} (ho:o.op = .build t ps) (k:Out→Option R):Snd ex P o E F n (sBuild Θ E t ps k) k:=by
 unfold sBuild
 split
 ·rename_i fs _ _ zl _ vals ht hp
  split
  ·rename_i pl hpl
   split
   ·rename_i ls hls
    refine Snd.of fun hx=>(OpS.pure fun η ρ hE=>?_)
    obtain ⟨g1,⟨Fd,g2,g5⟩,g3,g4⟩:=hΘ t _ ht
    subst g5
    refine p_build_struct ho g2 g1 (plF_ok hΘ hpl) (partsF_ok hE hp) ?_
    have:=fillF_ok (η:=η) hls
    rw [g3,← g4 η]
    exact this
   ·exact Snd.none
  ·exact Snd.none
 ·rename_i m e _ _ m' s z _ vals ht hp
  split
  ·rename_i ie he
   split
   ·rename_i ys hys
    refine Snd.bif fun hc=>Snd.of fun hx=>(OpS.pure fun η ρ hE=>?_)
    simp only [Bool.and_eq_true] at hc
    obtain ⟨⟨hm,hz⟩,hs1⟩:=hc
    obtain rfl:=Nat.eq_of_beq_eq_true hm
    obtain ⟨g1,g2,g3,g4⟩:=hΘ t _ ht
    have hti:=(hΘ e ie he).1
    rw [Nat.eq_of_beq_eq_true hs1] at hti
    refine p_build_array ho g2 g1 hti (partsF_ok hE hp) ?_
    have:=setAll_ok (η:=η) hys (by simp)
    rw [g3,← g4 η]
    have hz' : z=[]:=List.isEmpty_iff.1 hz
    subst hz'
    have e0:cellsL η [Lf.ar m s []]=(TC.arr m s).ty.fill (List.replicate m s.dft) ():=by
     simp only [cellsL,Lf.cells,List.append_nil,Ty.fill]
     apply List.ext_getElem?
     intro j
     by_cases hj:j<m
     ·simp [hj,List.getElem?_replicate]
     ·simp [hj]
    rw [e0]
    exact this
   ·exact Snd.none
  ·exact Snd.none
 ·exact Snd.none
end
end
end Go.Sm
