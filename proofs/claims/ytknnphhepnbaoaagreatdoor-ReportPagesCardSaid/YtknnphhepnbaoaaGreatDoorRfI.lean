/-
  The symbolic evaluator: one operation. Nothing of a program is named here; no condition.
-/
import Derived.Laws.Strings
import Derived.Test.YtknnphhepnbaoaaGreatDoorRfHc
namespace Go.Sm
set_option linter.unusedSectionVars false
section
variable [X:XTab] [G:GTab]
section
variable {R:Type} {P:Program} {o:Oper} {E:SE} {F:List AF} {n:Nat} {Θ:Tb} {ex:Option Bool}
def binB (Θ:Tb) (op:BinOp) (t:TypeId) (a b:Bool) (k:Out→Option R):Option R:=match op,Θ t with
  | .eql,some ⟨.bool,_,_,_,_⟩=>k (pureO (boolL (a==b)))
  | .neq,some ⟨.bool,_,_,_,_⟩=>k (pureO (boolL (a != b)))
  | _,_=>none
theorem binB_ok (hΘ:Θ.ok P) {op:BinOp} {t t' : TypeId} {x y:Operand} {a b:Bool} (ho:o.op = .binOp op t x y t') (h1:ev E x=some (boolL a)) (h2:ev E y=some (boolL b)) (k:Out→Option R):Snd ex P o E F n (binB Θ op t a b k) k:=by
  unfold binB
  split
  · rename_i ht
    exact Snd.of fun hx=>(OpS.pure fun η ρ hE=>p_eql_bool ho (hΘ t _ ht).2.1 (ev_ok hE h1) (ev_ok hE h2))
  · rename_i ht
    exact Snd.of fun hx=>(OpS.pure fun η ρ hE=>p_neq_bool ho (hΘ t _ ht).2.1 (ev_ok hE h1) (ev_ok hE h2))
  · exact Snd.none
def binS (ex:Option Bool) (op:BinOp) (a b:List UInt8) (k:Out→Option R):Option R:=match op with
  | .add=>gchk ex (decide (a.length+b.length≤9223372036854775807)) (k (pureO (strL (a++b))))
  | .eql=>k (pureO (boolL (a==b)))
  | .neq=>k (pureO (boolL (!(a==b))))
  | .lss=>k (pureO (boolL (Op.bytesLess a b)))
  | .leq=>k (pureO (boolL (Op.bytesLess a b||a==b)))
  | .gtr=>k (pureO (boolL (!(Op.bytesLess a b||a==b))))
  | .geq=>k (pureO (boolL (!(Op.bytesLess a b))))
  | _=>none
theorem p_str {ρ:Env} {L:List HA} {op:BinOp} {t t' : TypeId} {x y:Operand} {a b:List UInt8} {v:Value} (ho:o.op = .binOp op t x y t') (hx:evo ρ x = .string ⟨a.toArray⟩) (hy:evo ρ y = .string ⟨b.toArray⟩)
    (hr : ∀ w,(Op.stringOp op ⟨a.toArray⟩ ⟨b.toArray⟩).run P w = .ok v w):PureOk P ρ o L v:=fun ev w c he _=>by
  subst he
  have hg : ∀ w,(eqGuard op t x y (.string ⟨a.toArray⟩) (.string ⟨b.toArray⟩)).run P w = .ok () w:=fun w=>by cases op <;> rfl
  have hb:binOp op t (.string ⟨a.toArray⟩) (.string ⟨b.toArray⟩)=Op.stringOp op ⟨a.toArray⟩ ⟨b.toArray⟩:=by cases op <;> rfl
  simp [execOp,ho,hx,hy,hg,hb,hr,Result.andThen]
theorem binS_ok {op:BinOp} {t t' : TypeId} {x y:Operand} {a b:List UInt8} (ho:o.op = .binOp op t x y t') (h1:ev E x=some (strL a)) (h2:ev E y=some (strL b)) (k:Out→Option R):Snd ex P o E F n (binS ex op a b k) k:=by
  have e : ∀ l:List UInt8,(⟨l.toArray⟩:ByteArray).toList=l:=fun l=>ByteArray.toList_mk l
  cases op <;> simp only [binS] <;> first
    | exact Snd.none
    | (refine Snd.of fun hx=>(OpS.pure fun η ρ hE=>p_str ho (ev_ok hE h1) (ev_ok hE h2) fun w=>?_); simp [Op.stringOp,AV.val,Lf.val]; done)
    | (refine Snd.gchk fun hb=>Snd.of fun hx=>(OpS.pure fun η ρ hE=>p_str ho (ev_ok hE h1) (ev_ok hE h2) fun w=>?_)
       have hb' := of_decide_eq_true (hb hx)
       have hs : ∀ l:List UInt8,(⟨l.toArray⟩:ByteArray).size=l.length:=fun l=>by simp [ByteArray.size]
       have hle : ¬ (((⟨a.toArray⟩:ByteArray).size+(⟨b.toArray⟩:ByteArray).size:Nat):Int) > IntKind.i64.max:=by
         rw [hs,hs]; simp [IntKind.max,IntKind.signed,IntKind.bits]; omega
       have hab:(⟨a.toArray⟩:ByteArray)++⟨b.toArray⟩=⟨(a++b).toArray⟩:=ByteArray.ext (by simp)
       simp only [Op.stringOp,if_neg hle,Sem.run_pure,AV.val,Lf.val]
       rw [hab])
def binA (Θ:Tb) (op:BinOp) (t:TypeId) (m:Nat) (s:SC) (a b:List s.den) (G:TypeId→Bool) (k:Out→Option R):Option R:=match op,Θ t,s,a,b with
  | .eql,some ⟨.arr m' e,_,_,_,_⟩, .int kk,a,b=>match Θ e with
    | some ⟨.int k',1,_,_,_⟩=>bif Nat.beq m m' && G t then (if k' = kk then k (pureO (boolL (arrEq m a b))) else none) else none
    | _=>none
  | .neq,some ⟨.arr m' e,_,_,_,_⟩, .int kk,a,b=>match Θ e with
    | some ⟨.int k',1,_,_,_⟩=>bif Nat.beq m m' && G t then (if k' = kk then k (pureO (boolL (!(arrEq m a b)))) else none) else none
    | _=>none
  | _,_,_,_,_=>none
def sMM (mx:Bool) (a b:AV) (k:Out→Option R):Option R:=match a,b with
  | .lf (.c (.int k1) x), .lf (.c (.int k2) y)=>if k1=k2 then k (pureO (intL k1 (bif mx then (if y > x then y else x) else (if y<x then y else x)))) else none
  | _,_=>none
theorem sMM_ok {mx:Bool} {ts:Array TypeId} {x y:Operand} {a b:AV} (ho:o.op = .call { callee:=.builtin (bif mx then .max else .min),args:=#[x,y],argTypes:=ts }) (h1:ev E x=some a) (h2:ev E y=some b) (k:Out→Option R):Snd ex P o E F n (sMM mx a b k) k:=by
  unfold sMM
  split
  · rename_i k1 a k2 b
    split
    · rename_i hk
      subst hk
      refine Snd.of fun hx=>(OpS.pure fun η ρ hE=>?_)
      cases mx
      · exact p_min ho (ev_ok hE h1) (ev_ok hE h2)
      · exact p_max ho (ev_ok hE h1) (ev_ok hE h2)
    · exact Snd.none
  · exact Snd.none
structure Cx where
  Γ:Ct
  Θ:Tb
  G:TypeId→Bool
  D:List DCtr
  W:Bool
structure Cx.ok (C:Cx) (P:Program):Prop where
  Γ:C.Γ.ok P
  Θ:C.Θ.ok P
  G : ∀ t,C.G t=true→EqOk P t
  D : ∀ d∈C.D,DCtr.sound P d
theorem p_neq_arr {ρ:Env} {L:List HA} {t t' e:TypeId} {a b:Operand} {m:Nat} {k:IntKind} {by_:Nat} {z:Value} {x y:List Int} (ho:o.op = .binOp .neq t a b t') (ht:P.underlying t=some (.array m e)) (he:P.underlying e=some (.int k)) (hi:TI P e 1 by_ z)
    (hg:P.eqGuardType P.depth t=false) (hx:evo ρ a = .agg ((tA m k).fill x ()).toArray) (hy:evo ρ b = .agg ((tA m k).fill y ()).toArray):PureOk P ρ o L (.bool (!(arrEq m x y))):=fun ev w c hev _=>by
  subst hev
  have htihi:=hi; clear hi
  obtain ⟨i,hi,_,hs,_⟩:=htihi.get
  have h1:(eqGuard .neq t a b (.agg ((tA m k).fill x ()).toArray) (.agg ((tA m k).fill y ()).toArray)).run P w = .ok () w:=run_eqGuard_agg w .neq t a b _ _ hg
  have h2:(binOp .neq t (.agg ((tA m k).fill x ()).toArray) (.agg ((tA m k).fill y ()).toArray)).run P w = .ok (.bool (!(arrEq m x y))) w:=by
    rw [run_neq_struct,run_eq_arr 9998 x y ht he hi hs]; rfl
  simp only [execOp,ho,hx,hy,Sem.run_bind,h1,h2,Result.andThen_ok,Sem.run_pure]
theorem binA_ok {C:Cx} (hC:C.ok P) {op:BinOp} {t t' : TypeId} {x y:Operand} {m:Nat} {s:SC} {a b:List s.den} (ho:o.op = .binOp op t x y t') (h1:ev E x=some (.lf (.ar m s a))) (h2:ev E y=some (.lf (.ar m s b))) (k:Out→Option R) :
    Snd ex P o E F n (binA C.Θ op t m s a b C.G k) k:=by
  unfold binA
  split
  · rename_i m' e _ _ _ _ kk a b ht
    split
    · rename_i k' _ _ _ he
      refine Snd.bif fun hc=>?_
      simp only [Bool.and_eq_true] at hc
      obtain rfl:=Nat.eq_of_beq_eq_true hc.1
      split
      · rename_i hk
        subst hk
        refine Snd.of fun hx=>(OpS.pure fun η ρ hE=>?_)
        exact p_eql_arr ho (hC.Θ t _ ht).2.1 (hC.Θ e _ he).2.1 (hC.Θ e _ he).1 (hC.G t hc.2).1 (ev_ok hE h1) (ev_ok hE h2)
      · exact Snd.none
    · exact Snd.none
  · rename_i m' e _ _ _ _ kk a b ht
    split
    · rename_i k' _ _ _ he
      refine Snd.bif fun hc=>?_
      simp only [Bool.and_eq_true] at hc
      obtain rfl:=Nat.eq_of_beq_eq_true hc.1
      split
      · rename_i hk
        subst hk
        refine Snd.of fun hx=>(OpS.pure fun η ρ hE=>?_)
        exact p_neq_arr ho (hC.Θ t _ ht).2.1 (hC.Θ e _ he).2.1 (hC.Θ e _ he).1 (hC.G t hc.2).1 (ev_ok hE h1) (ev_ok hE h2)
      · exact Snd.none
    · exact Snd.none
  · exact Snd.none
def semOp (C:Cx) (ex:Option Bool) (n N:Nat) (E:SE) (F:List AF) (op:Op) (k:Out→Option R):Option R:=match op with
  | .move x=>match ev E x with
    | some v=>k (pureO v)
    | none=>none
  | .assign x=>match ev E x with
    | some v=>k (pureO v)
    | none=>none
  | .binOp b t x y _=>match ev E x,ev E y with
    | some (.lf (.c (.int k1) a1)),some (.lf (.c (.int k2) a2))=>match b with
      | .shl=>shfI ex .shl k1 a1 a2 k
      | .shr=>shfI ex .shr k1 a1 a2 k
      | b=>if k2=k1 then binI ex b k1 a1 a2 k else none
    | some (.lf (.c .bool a1)),some (.lf (.c .bool a2))=>binB C.Θ b t a1 a2 k
    | some (.lf (.c .str a1)),some (.lf (.c .str a2))=>binS ex b a1 a2 k
    | some (.lf (.ar m1 s1 a1)),some (.lf (.ar m2 s2 a2))=>if h:s2=s1∧m2=m1 then binA C.Θ b t m1 s1 a1 (castDL h.1 a2) C.G k else none
    | some (.ag l1),some (.ag l2)=>binSt C.Θ C.G b t l1 l2 k
    | some (.lf l),some (.lf .nl)=>sNilQ C.Θ b t l F k
    | _,_=>none
  | .unOp u _ x=>match ev E x with
    | some v=>sUn u v k
    | none=>none
  | .convert s d x=>match ev E x with
    | some (.lf (.sl h))=>sConvB C.Θ s d (.sl h) F k
    | some (.lf .nl)=>sConvB C.Θ s d .nl F k
    | some (.lf (.c .str a))=>sConvS C.Θ ex n N s d a k
    | some v=>sConv C.Θ s d v k
    | none=>none
  | .extract x i=>match ev E x with
    | some v=>sExtract v i k
    | none=>none
  | .alloc t=>sAlloc C.Θ n N t k
  | .box _ x=>match ev E x with
    | some v=>sBox n N v k
    | none=>none
  | .build t ps=>sBuild C.Θ E t ps k
  | .buildSlice t m ps=>sBuildS C.Θ E n N t m ps F k
  | .nilCheck x=>match ev E x with
    | some v=>sNil v k
    | none=>none
  | .makeFunc fn first cap=>sFunc E fn first.toList cap.toList k
  | .load t (.global g)=>sLoadA C.Θ t g k
  | .load t x=>match ev E x with
    | some (.lf (.gp g te i u p))=>sLoadG C.Θ ex n t g te i u p k
    | some (.lf (.bp b off))=>sLoadB C.Θ t b off F k
    | some (.lf (.bq b off m s j))=>sLoadQ C.Θ ex t b off m s j F k
    | some (.lf (.rp h te i u p))=>sLoadR C.Θ ex n t h te i u p F k
    | _=>none
  | .store t x y=>match ev E x,ev E y with
    | some (.lf (.bp b off)),some v=>sStoreB C.Θ t b off v F k
    | some (.lf (.bq b off m s j)),some v=>sStoreQ C.Θ ex t b off m s j v F k
    | some (.lf (.rp h te i u p)),some v=>sStoreR C.Θ ex t h te i u p v F k
    | _,_=>none
  | .fieldAddr t x f=>match ev E x with
    | some (.lf l)=>sField C.Θ t f l k
    | _=>none
  | .field t x f=>match ev E x with
    | some v=>sFieldV C.Θ t f v k
    | _=>none
  | .indexAddr t (.global g) ix=>match ev E ix with
    | some (.lf (.c (.int _) i))=>sIdxG C.Θ ex t g i k
    | _=>none
  | .indexAddr t x ix=>match C.Θ t,ev E x,ev E ix with
    | some ⟨.slice _,_,_,_,_⟩,some (.lf l),some (.lf (.c (.int _) i))=>sIdx C.Θ ex t l i F k
    | some ⟨.arr _ _,_,_,_,_⟩,some (.lf l),some (.lf (.c (.int _) i))=>sElem C.Θ ex t l i k
    | _,_,_=>none
  | .index t x ix=>match ev E x,ev E ix with
    | some (.lf (.ars te xs)),some (.lf (.c (.int _) i))=>sIndexA C.Θ ex t te xs i k
    | some v,some (.lf (.c (.int _) i))=>sIndexV C.Θ ex t v i k
    | _,_=>none
  | .makeSlice t x y=>match ev E x,ev E y with
    | some v1,some v2=>sMake C.Θ ex n N t x y v1 v2 k
    | _,_=>none
  | .slice t x lo hi none=>match ev E x with
    | some (.lf (.c .str s))=>sSliceS C.Θ E ex t s lo hi k
    | some (.lf (.bp b 0))=>sSliceA C.Θ E ex n t b lo hi F k
    | some (.lf l)=>sSlice C.Θ E ex n t l lo hi F k
    | _=>none
  | .slice t x none (some hi) (some mx)=>match ev E x with
    | some (.lf l)=>sSlice3 C.Θ E ex n t l hi mx F k
    | _=>none
  | .slice t x (some lo) (some hi) (some mx)=>match ev E x with
    | some (.lf l)=>sSliceP C.Θ E ex n t l lo hi mx F k
    | _=>none
  | .call c=>match c.callee,c.args.toList,c.argTypes.toList with
    | .builtin .len,[x],[t]=>match ev E x with
      | some v=>sLen C.Θ t v F k
      | none=>none
    | .builtin .append,[x,y],[t,t']=>match ev E x,ev E y with
      | some v1,some v2=>bif Nat.beq t' t then sApp C.Θ ex n N t v1 v2 F k else none
      | _,_=>none
    | .builtin .max,[x,y],_=>match ev E x,ev E y with
      | some v1,some v2=>sMM true v1 v2 k
      | _,_=>none
    | .builtin .min,[x,y],_=>match ev E x,ev E y with
      | some v1,some v2=>sMM false v1 v2 k
      | _,_=>none
    | .value f,xs,_=>match ev E f with
      | some v=>sCall C.Γ C.D E ex n N v xs F k
      | none=>none
    | _,_,_=>none
  | _=>none
theorem call_eq (c:Call) {f:Callee} {xs:List Operand} {ts:List TypeId} (h1:c.callee=f) (h2:c.args.toList=xs) (h3:c.argTypes.toList=ts):c = { callee:=f,args:=xs.toArray,argTypes:=ts.toArray }:=by
  cases c; simp at h1 h2 h3; subst h1 h2 h3; simp
theorem semOp_ok {C:Cx} (hC:C.ok P) {N:Nat} (k:Out→Option R):Snd ex P o E F n (semOp C ex n N E F o.op k) k:=by
  unfold semOp
  split
  · rename_i x ho
    split
    · rename_i v hv; exact Snd.of fun hx=>(OpS.pure fun η ρ hE=>p_move ho (ev_ok hE hv))
    · exact Snd.none
  · rename_i x ho
    split
    · rename_i v hv; exact Snd.of fun hx=>(OpS.pure fun η ρ hE=>p_assign ho (ev_ok hE hv))
    · exact Snd.none
  · rename_i b t x y t' ho
    split
    · rename_i k1 a1 k2 a2 h1 h2
      split
      · exact shfI_ok ho h1 h2 k
      · exact shfI_ok ho h1 h2 k
      · split
        · rename_i hk; subst hk; exact binI_ok ho h1 h2 k
        · exact Snd.none
    · rename_i h1 h2; exact binB_ok hC.Θ ho h1 h2 k
    · rename_i h1 h2; exact binS_ok ho h1 h2 k
    · rename_i h1 h2
      split
      · rename_i he
        obtain ⟨rfl,rfl⟩:=he
        exact binA_ok hC ho h1 h2 k
      · exact Snd.none
    · rename_i h1 h2; exact binSt_ok hC.Θ hC.G ho h1 h2 k
    · rename_i h1 h2; exact sNilQ_ok hC.Θ ho h1 h2 k
    · exact Snd.none
  · rename_i ho
    split
    · rename_i hv; exact sUn_ok ho hv k
    · exact Snd.none
  · rename_i ho
    split
    · rename_i hv; exact sConvB_ok hC.Θ ho hv k
    · rename_i hv; exact sConvB_ok hC.Θ ho hv k
    · rename_i hv; exact sConvS_ok hC.Θ ho hv k
    · rename_i hv; exact sConv_ok hC.Θ ho hv k
    · exact Snd.none
  · rename_i ho
    split
    · rename_i hv; exact sExtract_ok ho hv k
    · exact Snd.none
  · rename_i ho; exact sAlloc_ok hC.Θ ho k
  · rename_i ho
    split
    · rename_i hv; exact sBox_ok ho hv k
    · exact Snd.none
  · rename_i ho; exact sBuild_ok hC.Θ ho k
  · rename_i ho; exact sBuildS_ok hC.Θ ho k
  · rename_i ho
    split
    · rename_i hv; exact sNil_ok ho hv k
    · exact Snd.none
  · rename_i ho; exact sFunc_ok ho k
  · rename_i ho; exact sLoadA_ok hC.Θ ho k
  · rename_i ho
    split
    · rename_i hv; exact sLoadG_ok hC.Θ ho hv k
    · rename_i hv; exact sLoadB_ok hC.Θ ho hv k
    · rename_i hv; exact sLoadQ_ok hC.Θ ho hv k
    · rename_i hv; exact sLoadR_ok hC.Θ ho hv k
    · exact Snd.none
  · rename_i ho
    split
    · rename_i h1 h2; exact sStoreB_ok hC.Θ ho h1 h2 k
    · rename_i h1 h2; exact sStoreQ_ok hC.Θ ho h1 h2 k
    · rename_i h1 h2; exact sStoreR_ok hC.Θ ho h1 h2 k
    · exact Snd.none
  · rename_i ho
    split
    · rename_i hv; exact sField_ok hC.Θ ho hv k
    · exact Snd.none
  · rename_i ho
    split
    · rename_i hv; exact sFieldV_ok hC.Θ ho hv k
    · exact Snd.none
  · rename_i ho
    split
    · rename_i h2; exact sIdxG_ok hC.Θ ho h2 k
    · exact Snd.none
  · rename_i ho
    split
    · rename_i h1 h2; exact sIdx_ok hC.Θ ho h1 h2 k
    · rename_i h1 h2; exact sElem_ok hC.Θ ho h1 h2 k
    · exact Snd.none
  · rename_i ho
    split
    · rename_i h1 h2; exact sIndexA_ok hC.Θ ho h1 h2 k
    · rename_i h1 h2; exact sIndexV_ok hC.Θ ho h1 h2 k
    · exact Snd.none
  · rename_i ho
    split
    · rename_i h1 h2; exact sMake_ok hC.Θ ho h1 h2 k
    · exact Snd.none
  · rename_i ho
    split
    · rename_i hv; exact sSliceS_ok hC.Θ ho hv k
    · rename_i hv; exact sSliceA_ok hC.Θ ho hv k
    · rename_i hv; exact sSlice_ok hC.Θ ho hv k
    · exact Snd.none
  · rename_i ho
    split
    · rename_i hv; exact sSlice3_ok hC.Θ ho hv k
    · exact Snd.none
  · rename_i ho
    split
    · rename_i hv; exact sSliceP_ok hC.Θ ho hv k
    · exact Snd.none
  · rename_i c ho
    split
    · rename_i x t h1 h2 h3
      have hc:=call_eq c h1 h2 h3
      split
      · rename_i hv; exact sLen_ok hC.Θ (by rw [ho,hc]) hv k
      · exact Snd.none
    · rename_i x y t t' h1 h2 h3
      have hc:=call_eq c h1 h2 h3
      split
      · rename_i hv1 hv2
        refine Snd.bif fun ht=>?_
        obtain rfl:=Nat.eq_of_beq_eq_true ht
        exact sApp_ok hC.Θ (by rw [ho,hc]) hv1 hv2 k
      · exact Snd.none
    · rename_i x y ts h1 h2
      have hc:=call_eq c h1 h2 rfl
      split
      · rename_i hv1 hv2; exact sMM_ok (mx:=true) (by rw [ho,hc]; rfl) hv1 hv2 k
      · exact Snd.none
    · rename_i x y ts h1 h2
      have hc:=call_eq c h1 h2 rfl
      split
      · rename_i hv1 hv2; exact sMM_ok (mx:=false) (by rw [ho,hc]; rfl) hv1 hv2 k
      · exact Snd.none
    · rename_i f h1
      have hc:=call_eq c h1 rfl rfl
      split
      · rename_i hv
        exact sCall_ok (ts:=c.argTypes) hC.Γ hC.D (xs:=c.args) (by rw [ho]; cases c; simp at h1; subst h1; rfl) hv k
      · exact Snd.none
    · exact Snd.none
  · exact Snd.none
end
end
end Go.Sm
