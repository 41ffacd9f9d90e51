/- Laws for the row. No condition. -/
import Derived.Laws.Strings
import Derived.Test.YtgghcmbaidihjaaGreatDoorRfTb
namespace Go.Sm
set_option linter.unusedSectionVars false
section
variable [X:XTab] [G:GTab] [Yc:GCx]
section
variable {R:Type} {P:Program} {o:Oper} {E:SE} {F:List AF} {n:Nat} {Θ:Tb} {ex:Option Bool}
def aax(Θ:Tb)(op:BinOp)(t:TypeId)(a b:Bool)(k:Out->Option R):Option R:=match op,Θ t with
  |.eql,some ⟨.bool,_,_,_,_⟩=>k (bc (eD (a==b)))
  |.neq,some ⟨.bool,_,_,_,_⟩=>k (bc (eD (a != b)))
  |_,_=>none
theorem akA(hΘ:Θ.ok P){op:BinOp}{t t':TypeId}{x y:Operand}{a b:Bool}(ho:o.op=.binOp op t x y t')(h1:ev E x=some (eD a))(h2:ev E y=some (eD b))(k:Out->Option R):aq ex P o E F n (aax Θ op t a b k) k:=by
  unfold aax;split
  · rename_i ht
    exact aq.of λhx=>(dc.pure λη ρ hE=>Wb ho (hΘ t _ ht).2.1 (aH hE h1) (aH hE h2))
  · rename_i ht
    exact aq.of λhx=>(dc.pure λη ρ hE=>VQ ho (hΘ t _ ht).2.1 (aH hE h1) (aH hE h2))
  ·exact aq.none
def adw(ex:Option Bool)(op:BinOp)(a b:List UInt8)(k:Out->Option R):Option R:=match op with
  |.add=>gchk ex (decide (a.length+b.length<=9223372036854775807)) (k (bc (xR (a++b))))
  |.eql=>k (bc (eD (a==b)))
  |.neq=>k (bc (eD (!(a==b))))
  |.lss=>k (bc (eD (Op.bytesLess a b)))
  |.leq=>k (bc (eD (Op.bytesLess a b||a==b)))
  |.gtr=>k (bc (eD (!(Op.bytesLess a b||a==b))))
  |.geq=>k (bc (eD (!(Op.bytesLess a b))))
  |_=>none
theorem ag0{ρ:cV}{L:List HA}{op:BinOp}{t t':TypeId}{x y:Operand}{a b:List UInt8}{v:Value}(ho:o.op=.binOp op t x y t')(hx:aJ ρ x=.string ⟨a.toArray⟩)(hy:aJ ρ y=.string ⟨b.toArray⟩)
    (hr:∀w,(Op.stringOp op ⟨a.toArray⟩ ⟨b.toArray⟩).run P w=.ok v w):aX P ρ o L v:=λev w c he _=>by
  subst he;have hg:∀w,(eqGuard op t x y (.string ⟨a.toArray⟩) (.string ⟨b.toArray⟩)).run P w=.ok () w:=λw=>by cases op<;>rfl
  have hb:binOp op t (.string ⟨a.toArray⟩) (.string ⟨b.toArray⟩)=Op.stringOp op ⟨a.toArray⟩ ⟨b.toArray⟩:=by cases op<;>rfl
  simp[execOp,ho,hx,hy,hg,hb,hr,Result.andThen]
theorem akO{op:BinOp}{t t':TypeId}{x y:Operand}{a b:List UInt8}(ho:o.op=.binOp op t x y t')(h1:ev E x=some (xR a))(h2:ev E y=some (xR b))(k:Out->Option R):aq ex P o E F n (adw ex op a b k) k:=by
  have e:∀l:List UInt8,(⟨l.toArray⟩:ByteArray).toList=l:=λl=>ByteArray.toList_mk l;cases op<;>simp only[adw]<;>first
    |exact aq.none
    |(refine aq.of λhx=>(dc.pure λη ρ hE=>ag0 ho (aH hE h1) (aH hE h2) λw=>?_);simp[Op.stringOp,AV.val,Lf.val];done)
    | (refine aq.gchk λhb=>aq.of λhx=>(dc.pure λη ρ hE=>ag0 ho (aH hE h1) (aH hE h2) λw=>?_)
       have hb':=aaq (hb hx)
       have hs:∀l:List UInt8,(⟨l.toArray⟩:ByteArray).size=l.length:=λl=>by rfl
       have hle:¬(((⟨a.toArray⟩:ByteArray).size+(⟨b.toArray⟩:ByteArray).size:Nat):Int)>IntKind.i64.max:=by grind[IntKind.max,IntKind.signed,IntKind.bits]
       have hab:(⟨a.toArray⟩:ByteArray)++⟨b.toArray⟩=⟨(a++b).toArray⟩:=ByteArray.ext (by simp)
       grind[Op.stringOp,AV.val,Lf.val,Sem.run_pure])
def adi(Θ:Tb)(op:BinOp)(t:TypeId)(m:Nat)(s:SC)(a b:List s.den)(G:TypeId->Bool)(k:Out->Option R):Option R:=match op,Θ t,s,a,b with
  | .eql,some ⟨.arr m' e,_,_,_,_⟩,.int kk,a,b=>match Θ e with
    |some ⟨.int k',1,_,_,_⟩=>bif Nat.beq m m'&&G t then(if k'=kk then k (bc (eD (kV m a b)))else none)else none
    |_=>none
  | .neq,some ⟨.arr m' e,_,_,_,_⟩,.int kk,a,b=>match Θ e with
    |some ⟨.int k',1,_,_,_⟩=>bif Nat.beq m m'&&G t then(if k'=kk then k (bc (eD (!(kV m a b))))else none)else none
    |_=>none
  |_,_,_,_,_=>none
def sMM(mx:Bool)(a b:AV)(k:Out->Option R):Option R:=match a,b with
  |.lf (.c (.int k1) x),.lf (.c (.int k2) y)=>if k1=k2 then k (bc (fL k1 (bif mx then(if y>x then y else x)else(if y<x then y else x))))else none
  |_,_=>none
theorem Yf{mx:Bool}{ts:Array TypeId}{x y:Operand}{a b:AV}(ho:o.op=.call { callee:=.builtin (bif mx then .max else .min),args:=#[x,y],argTypes:=ts})(h1:ev E x=some a)(h2:ev E y=some b)(k:Out->Option R):aq ex P o E F n (sMM mx a b k) k:=by
  unfold sMM;split
  · rename_i k1 a k2 b
    split
    · rename_i hk
      subst hk
      refine aq.of λhx=>(dc.pure λη ρ hE=>?_)
      cases mx
      ·exact aqv ho (aH hE h1) (aH hE h2)
      ·exact aqx ho (aH hE h1) (aH hE h2)
    ·exact aq.none
  ·exact aq.none
def sM4(a b c d:AV)(k:Out->Option R):Option R:=match a,b,c,d with
  |.lf (.c (.int .i64) x),.lf (.c (.int .i64) y),.lf (.c (.int .i64) z),.lf (.c (.int .i64) u)=>k (bc (fL .i64 (yE x y z u)))
  |_,_,_,_=>none
theorem aot{ts:Array TypeId}{x y z u:Operand}{a b c d:AV}(ho:o.op=.call { callee:=.builtin .min,args:=#[x,y,z,u],argTypes:=ts})(h1:ev E x=some a)(h2:ev E y=some b)(h3:ev E z=some c)(h4:ev E u=some d)(k:Out->Option R):aq ex P o E F n (sM4 a b c d k) k:=by
  unfold sM4;split
  ·exact aq.of λhx=>(dc.pure λη ρ hE=>anT ho (aH hE h1) (aH hE h2) (aH hE h3) (aH hE h4))
  ·exact aq.none
structure Cx where
  Γ:Ct
  Θ:Tb
  G:TypeId->Bool
  D:List DCtr
  W:Bool
  I:It
  B:Nat
  K:Option (List Nat)
  O:List Nat
  Y:Option Inl
  T:FuncId->Option (Inl->Inl)
structure Cx.ok(C:Cx)(P:Program):Prop where
  Γ:C.Γ.ok P
  Θ:C.Θ.ok P
  G:∀t,C.G t=true->yM P t
  D:∀d∈C.D,DCtr.sound P d
  I:C.I.ok P
  Y:∀J,C.Y=some J->J.yields P
  T:∀f T,C.T f=some T->Yc.ex=[]/\∀(Y:GCx) (J:Inl),Inl.yields (Yc:=Y) P J->Inl.sound (Yc:=Y) P f (T J)
def Cx.at(C:Cx)(B:Nat):Cx:={ C with B:=B}
def Cx.dk(C:Cx)(K:Option (List Nat))(O:List Nat):Cx:={ C with K:=K,O:=O}
theorem Cx.dk_ok{C:Cx}{P:Program}(h:C.ok P)(K:Option (List Nat))(O:List Nat):(C.dk K O).ok P:=⟨h.Γ,h.Θ,h.G,h.D,h.I,h.Y,h.T⟩
theorem Cx.at_ok{C:Cx}{P:Program}(h:C.ok P)(B:Nat):(C.at B).ok P:=⟨h.Γ,h.Θ,h.G,h.D,h.I,h.Y,h.T⟩
theorem Yg{ρ:cV}{L:List HA}{t t' e:TypeId}{a b:Operand}{m:Nat}{k:IntKind}{by_:Nat}{z:Value}{x y:List Int}(ho:o.op=.binOp .neq t a b t')(ht:P.underlying t=some (.array m e))(he:P.underlying e=some (.int k))(hi:TI P e 1 by_ z)
    (hg:P.eqGuardType P.depth t=false) (hx:aJ ρ a=.agg ((tA m k).fill x ()).toArray) (hy:aJ ρ b=.agg ((tA m k).fill y ()).toArray):aX P ρ o L (.bool (!(kV m x y))):=λev w c hev _=>by
  subst hev;have htihi:=hi;clear hi;obtain⟨i,hi,_,hs,_⟩:=htihi.get;have h1:(eqGuard .neq t a b (.agg ((tA m k).fill x ()).toArray) (.agg ((tA m k).fill y ()).toArray)).run P w=.ok () w:=run_eqGuard_agg w .neq t a b _ _ hg;have h2:(binOp .neq t (.agg ((tA m k).fill x ()).toArray) (.agg ((tA m k).fill y ()).toArray)).run P w=.ok (.bool (!(kV m x y))) w:=by rw[run_neq_struct,DS 9998 x y ht he hi hs];rfl
  grind[execOp,Sem.run_bind,Result.andThen_ok,Sem.run_pure]
theorem aji{C:Cx}(hC:C.ok P){op:BinOp}{t t':TypeId}{x y:Operand}{m:Nat}{s:SC}{a b:List s.den}(ho:o.op=.binOp op t x y t')(h1:ev E x=some (.lf (.ar m s a)))(h2:ev E y=some (.lf (.ar m s b)))(k:Out->Option R) :
    aq ex P o E F n (adi C.Θ op t m s a b C.G k) k:=by
  unfold adi;split
  · rename_i m' e _ _ _ _ kk a b ht
    split
    · rename_i k' _ _ _ he
      refine aq.bif λhc=>?_
      simp only[Y5]at hc
      obtain rfl:=f9 hc.1
      split
      · rename_i hk
        subst hk
        refine aq.of λhx=>(dc.pure λη ρ hE=>?_)
        exact Wo ho (hC.Θ t _ ht).2.1 (hC.Θ e _ he).2.1 (hC.Θ e _ he).1 (hC.G t hc.2).1 (aH hE h1) (aH hE h2)
      ·exact aq.none
    ·exact aq.none
  · rename_i m' e _ _ _ _ kk a b ht
    split
    · rename_i k' _ _ _ he
      refine aq.bif λhc=>?_
      simp only[Y5]at hc
      obtain rfl:=f9 hc.1
      split
      · rename_i hk
        subst hk
        refine aq.of λhx=>(dc.pure λη ρ hE=>?_)
        exact Yg ho (hC.Θ t _ ht).2.1 (hC.Θ e _ he).2.1 (hC.Θ e _ he).1 (hC.G t hc.2).1 (aH hE h1) (aH hE h2)
      ·exact aq.none
    ·exact aq.none
  ·exact aq.none
def Ef(C:Cx)(ex:Option Bool)(n N:Nat)(E:SE)(F:List AF)(op:Op)(k:Out->Option R):Option R:=match op with
  | .move x=>match ev E x with
    |some v=>k (bc v)
    |none=>none
  | .assign x=>match ev E x with
    |some v=>k (bc v)
    |none=>none
  | .binOp b t x y _=>match ev E x,ev E y with
    | some (.lf (.c (.int k1) a1)),some (.lf (.c (.int k2) a2))=>match b with
      |.shl=>VN ex .shl k1 a1 a2 k
      |.shr=>VN ex .shr k1 a1 a2 k
      |b=>if k2=k1 then Z5 ex b k1 a1 a2 k else none
    |some (.lf (.c .bool a1)),some (.lf (.c .bool a2))=>aax C.Θ b t a1 a2 k
    |some (.lf (.c .str a1)),some (.lf (.c .str a2))=>adw ex b a1 a2 k
    |some (.lf (.ar m1 s1 a1)),some (.lf (.ar m2 s2 a2))=>if h:s2=s1/\m2=m1 then adi C.Θ b t m1 s1 a1 (uA h.1 a2) C.G k else none
    |some (.ag l1),some (.ag l2)=>Tk C.Θ C.G b t l1 l2 k
    |some (.lf l),some (.lf .nl)=>T8 C.Θ b t l F k
    |_,_=>none
  | .unOp u _ x=>match ev E x with
    |some v=>sUn u v k
    |none=>none
  | .convert s d x=>match ev E x with
    |some (.lf (.sl h))=>Ej C.Θ s d (.sl h) F k
    |some (.lf .nl)=>Ej C.Θ s d .nl F k
    |some (.lf (.c .str a))=>N4 C.Θ ex n N s d a k
    |some v=>T7 C.Θ s d v k
    |none=>none
  | .extract x i=>match ev E x with
    |some v=>CQ v i k
    |none=>none
  |.alloc t=>KP C.Θ n N t k
  | .box _ x=>match ev E x with
    |some v=>aeb n N v k
    |none=>none
  |.build t ps=>OF C.Θ E t ps k
  |.buildSlice t m ps=>E3 C.Θ E n N t m ps F k (EW C.Θ E n N t m ps F k)
  | .nilCheck x=>match ev E x with
    |some v=>ac2 v k
    |none=>none
  |.makeFunc fn first cap=>Ud E fn first.toList cap.toList k
  |.load t (.global g)=>Ov C.Θ t g k
  | .load t x=>match ev E x with
    |some (.lf (.gp g te i u p))=>KN C.Θ ex n t g te i u p k
    |some (.lf (.bp b off))=>Mq C.Θ t b off F k
    |some (.lf (.bq b off m s j))=>NO C.Θ ex t b off m s j F k
    | some (.lf (.rp h te i u p))=>match m7 te h F with
      |some s=>Lj C.Θ ex t te i u p s k
      |none=>LP C.Θ ex t h te i u p F k (LG C.Θ ex n t h te i u p F k)
    |_=>none
  | .store t x y=>match ev E x,ev E y with
    |some (.lf (.bp b off)),some v=>ES C.Θ t b off v F k
    |some (.lf (.bq b off m s j)),some v=>Fo C.Θ ex t b off m s j v F k
    | some (.lf (.rp h te i u p)),some v=>match m7 te h F with
      |some s=>FE C.Θ ex t h te i u p v s k
      | none=>match Bm te h F with
        |some s=>FK C.Θ ex t h te i u p v s F k
        |none=>FO C.Θ ex t h te i u p v F k (E6 C.Θ ex t h te i u p v F k)
    |_,_=>none
  | .fieldAddr t x f=>match ev E x with
    |some (.lf l)=>L3 C.Θ t f l k
    |_=>none
  | .field t x f=>match ev E x with
    |some v=>E9 C.Θ t f v k
    |_=>none
  | .indexAddr t (.global g) ix=>match ev E ix with
    |some (.lf (.c (.int _) i))=>VT C.Θ ex t g i k
    |_=>none
  | .indexAddr t x ix=>match C.Θ t,ev E x,ev E ix with
    |some ⟨.slice _,_,_,_,_⟩,some (.lf (.sl h)),some (.lf (.c (.int _) i))=>TH C.Θ ex t h i F k (RI C.Θ ex t (.sl h) i F k)
    |some ⟨.slice _,_,_,_,_⟩,some (.lf l),some (.lf (.c (.int _) i))=>RI C.Θ ex t l i F k
    |some ⟨.arr _ _,_,_,_,_⟩,some (.lf l),some (.lf (.c (.int _) i))=>R9 C.Θ ex t l i k
    |_,_,_=>none
  | .index t x ix=>match ev E x,ev E ix with
    |some (.lf (.ars te xs)),some (.lf (.c (.int _) i))=>Fm C.Θ ex t te xs i k
    |some v,some (.lf (.c (.int _) i))=>EE C.Θ ex t v i k
    |_,_=>none
  | .makeSlice t x y=>match ev E x,ev E y with
    |some v1,some v2=>Lr C.Θ ex n N t x y v1 v2 k (Rt C.Θ ex n N t x y v1 v2 k)
    |_,_=>none
  | .slice t x lo hi none=>match ev E x with
    |some (.lf (.c .str s))=>Fg C.Θ E ex t s lo hi k
    |some (.lf (.bp b off))=>FM C.Θ E ex n t b off lo hi F k
    |some (.lf l)=>EQ C.Θ E ex n t l lo hi F k (EM C.Θ E ex n t l lo hi F k (La C.Θ E ex n t l lo hi F k))
    |_=>none
  | .slice t x none (some hi) (some mx)=>match ev E x with
    |some (.lf l)=>EF C.Θ E ex n t l hi mx F k
    |_=>none
  | .slice t x (some lo) (some hi) (some mx)=>match ev E x with
    |some (.lf l)=>EG C.Θ E ex n t l lo hi mx F k
    |_=>none
  | .sliceToArrayPointer t x=>match ev E x with
    |some (.lf (.sl h))=>SU C.Θ ex t h F k
    |_=>none
  |.makeMap t none=>acC C.Θ n N t k
  | .lookup t x y false=>match ev E x,ev E y with
    |some (.lf (.mp h)),some v=>TE C.Θ C.G ex t h v F k
    |_,_=>none
  | .mapUpdate t x y z=>match ev E x,ev E y,ev E z with
    |some (.lf (.mp h)),some v1,some v2=>Iy C.Θ C.G t h v1 v2 F k
    |_,_,_=>none
  | .insert t x y z=>match ev E x,ev E y,ev E z with
    |some (.lf (.mp h)),some v1,some v2=>Iy C.Θ C.G t h v1 v2 F k
    |_,_,_=>none
  | .makeInterface t x=>match ev E x with
    |some v=>adc C.Θ t v k
    |none=>none
  | .typeAssert x _ t true=>match ev E x with
    |some v=>acf C.Θ t v k
    |none=>none
  | .call c=>match c.callee,c.args.toList,c.argTypes.toList with
    | .builtin .len,[x],[t]=>match ev E x with
      |some (.lf (.sl h))=>RA C.Θ t h F k (R1 C.Θ t (.lf (.sl h)) F k)
      |some v=>R1 C.Θ t v F k
      |none=>none
    | .builtin .append,[x,y],[t,t']=>match ev E x,ev E y with
      | some v1,some v2=>bif Nat.beq t' t then Vh C.Θ ex n N t v1 v2 F k (aeA C.Θ ex n N t v1 v2 F k)else(match v2 with
        |.lf (.c (.int .i64) _)=>V7 C.Θ ex n N t t' v1 v2 F k
        |_=>RN C.Θ ex n N t t' v1 v2 F k)
      |_,_=>none
    | .builtin .copy,[x,y],[t,_]=>match ev E x,ev E y with
      |some (.lf (.sl d)),some (.lf (.c .str l))=>LF C.Θ ex t d l F k
      |some v1,some v2=>Vz C.Θ ex N t v1 v2 F k
      |_,_=>none
    | .builtin .max,[x,y],_=>match ev E x,ev E y with
      |some v1,some v2=>sMM true v1 v2 k
      |_,_=>none
    | .builtin .min,[x,y],_=>match ev E x,ev E y with
      |some v1,some v2=>sMM false v1 v2 k
      |_,_=>none
    | .builtin .min,[x,y,z,u],_=>match ev E x,ev E y,ev E z,ev E u with
      |some v1,some v2,some v3,some v4=>sM4 v1 v2 v3 v4 k
      |_,_,_,_=>none
    | .value f,xs,_=>match ev E f with
      |some v=>Kr C.Y C.I C.Γ C.D E ex n N v xs F k
      |none=>none
    |_,_,_=>none
  |_=>none
theorem rd(c:Call){f:Callee}{xs:List Operand}{ts:List TypeId}(h1:c.callee=f)(h2:c.args.toList=xs)(h3:c.argTypes.toList=ts):c = { callee:=f,args:=xs.toArray,argTypes:=ts.toArray}:=by cases c;simp at h1 h2 h3;subst h1 h2 h3;simp
theorem NS{C:Cx}(hC:C.ok P){N:Nat}(k:Out->Option R):aq ex P o E F n (Ef C ex n N E F o.op k) k:=by
  unfold Ef;split
  · rename_i x ho
    split
    ·rename_i v hv;exact aq.of λhx=>(dc.pure λη ρ hE=>amt ho (aH hE hv))
    ·exact aq.none
  · rename_i x ho
    split
    ·rename_i v hv;exact aq.of λhx=>(dc.pure λη ρ hE=>ab9 ho (aH hE hv))
    ·exact aq.none
  · rename_i b t x y t' ho
    split
    ·grind[aje,alg,aq.none]
    ·rename_i h1 h2;exact akA hC.Θ ho h1 h2 k
    ·rename_i h1 h2;exact akO ho h1 h2 k
    · rename_i h1 h2
      split
      · rename_i he
        obtain⟨rfl,rfl⟩:=he
        exact aji hC ho h1 h2 k
      ·exact aq.none
    ·rename_i h1 h2;exact ac0 hC.Θ hC.G ho h1 h2 k
    ·rename_i h1 h2;exact acd hC.Θ ho h1 h2 k
    ·exact aq.none
  ·grind[aoB,aq.none]
  · rename_i ho
    split
    ·rename_i hv;exact Gm hC.Θ ho hv k
    ·rename_i hv;exact Gm hC.Θ ho hv k
    ·rename_i hv;exact Xs hC.Θ ho hv k
    ·rename_i hv;exact ae8 hC.Θ ho hv k
    ·exact aq.none
  ·grind[OM,aq.none]
  ·rename_i ho;exact XG hC.Θ ho k
  ·grind[alh,aq.none]
  ·rename_i ho;exact WJ hC.Θ ho k
  ·rename_i ho;exact UB hC.Θ ho k (V3 hC.Θ ho k)
  ·grind[akU,aq.none]
  ·rename_i ho;exact YH ho k
  ·rename_i ho;exact WG hC.Θ ho k
  · rename_i ho
    split
    ·rename_i hv;exact W2 hC.Θ ho hv k
    ·rename_i hv;exact X5 hC.Θ ho hv k
    ·rename_i hv;exact XF hC.Θ ho hv k
    · rename_i hv
      split
      ·rename_i hs;exact Xb hC.Θ hs ho hv k
      ·exact Yd hC.Θ ho hv k (Xu hC.Θ ho hv k)
    ·exact aq.none
  · rename_i ho
    split
    ·rename_i h1 h2;exact Ss hC.Θ ho h1 h2 k
    ·rename_i h1 h2;exact Tc hC.Θ ho h1 h2 k
    · rename_i h1 h2
      split
      ·rename_i hs;exact S7 hC.Θ hs ho h1 h2 k
      · split
        ·rename_i hs;exact V6 hC.Θ hs ho h1 h2 k
        ·exact Rs hC.Θ ho h1 h2 k (Rz hC.Θ ho h1 h2 k)
    ·exact aq.none
  · rename_i ho
    split
    ·rename_i hv;exact Xi hC.Θ ho hv k
    ·exact aq.none
  · rename_i ho
    split
    ·rename_i hv;exact R3 hC.Θ ho hv k
    ·exact aq.none
  · rename_i ho
    split
    ·rename_i h2;exact YN hC.Θ ho h2 k
    ·exact aq.none
  · rename_i ho
    split
    ·rename_i h1 h2;exact acX hC.Θ ho h1 h2 k (P9 hC.Θ ho h1 h2 k)
    ·rename_i h1 h2;exact P9 hC.Θ ho h1 h2 k
    ·rename_i h1 h2;exact aar hC.Θ ho h1 h2 k
    ·exact aq.none
  · rename_i ho
    split
    ·rename_i h1 h2;exact S3 hC.Θ ho h1 h2 k
    ·rename_i h1 h2;exact RT hC.Θ ho h1 h2 k
    ·exact aq.none
  · rename_i ho
    split
    ·rename_i h1 h2;exact Yu hC.Θ ho h1 h2 k (acO hC.Θ ho h1 h2 k)
    ·exact aq.none
  · rename_i ho
    split
    ·rename_i hv;exact U7 hC.Θ ho hv k
    ·rename_i hv;exact RO hC.Θ ho hv k
    ·rename_i hv;exact Us hC.Θ ho hv k (SM hC.Θ ho hv k (WX hC.Θ ho hv k))
    ·exact aq.none
  · rename_i ho
    split
    ·rename_i hv;exact VM hC.Θ ho hv k
    ·exact aq.none
  · rename_i ho
    split
    ·rename_i hv;exact TM hC.Θ ho hv k
    ·exact aq.none
  · rename_i ho
    split
    ·rename_i hv;exact ZS hC.Θ ho hv k
    ·exact aq.none
  ·rename_i ho;exact ajx ho k
  · rename_i ho
    split
    ·rename_i h1 h2;exact ab1 hC.Θ hC.G ho h1 h2 k
    ·exact aq.none
  · rename_i ho
    split
    ·rename_i h1 h2 h3;exact Kt hC.Θ hC.G (.inl ho) h1 h2 h3 k
    ·exact aq.none
  · rename_i ho
    split
    ·rename_i h1 h2 h3;exact Kt hC.Θ hC.G (.inr ho) h1 h2 h3 k
    ·exact aq.none
  · rename_i ho
    split
    ·rename_i h1;exact akT hC.Θ ho h1 k
    ·exact aq.none
  · rename_i ho
    split
    ·rename_i h1;exact akH hC.Θ ho h1 k
    ·exact aq.none
  · rename_i c ho
    split
    · rename_i x t h1 h2 h3
      have hc:=rd c h1 h2 h3
      split
      ·rename_i hv;exact ZV hC.Θ (by rw[ho,hc]) hv k (Q7 hC.Θ (by rw[ho,hc]) hv k)
      ·rename_i hv;exact Q7 hC.Θ (by rw[ho,hc]) hv k
      ·exact aq.none
    · rename_i x y t t' h1 h2 h3
      have hc:=rd c h1 h2 h3
      split
      · rename_i hv1 hv2
        cases ht:Nat.beq t' t
        · rw[Zr]
          split
          ·exact ac7 hC.Θ (by rw[ho,hc]) hv1 hv2 k
          ·exact aaj hC.Θ (by rw[ho,hc]) hv1 hv2 k
        · obtain rfl:=f9 ht
          exact ZG hC.Θ (by rw[ho,hc]) hv1 hv2 k (ajN hC.Θ (by rw[ho,hc]) hv1 hv2 k)
      ·exact aq.none
    · rename_i x y t t' h1 h2 h3
      have hc:=rd c h1 h2 h3
      split
      ·rename_i hv1 hv2;exact WE hC.Θ (by rw[ho,hc]) hv1 hv2 k
      ·rename_i hv1 hv2;exact aeN hC.Θ (by rw[ho,hc]) hv1 hv2 k
      ·exact aq.none
    · rename_i x y ts h1 h2
      have hc:=rd c h1 h2 rfl
      grind[Yf,aq.none]
    · rename_i x y ts h1 h2
      have hc:=rd c h1 h2 rfl
      grind[Yf,aq.none]
    · rename_i x y z u ts h1 h2
      have hc:=rd c h1 h2 rfl
      grind[aot,aq.none]
    · rename_i f h1
      have hc:=rd c h1 rfl rfl
      split
      · rename_i hv
        exact XU (ts:=c.argTypes) hC.Y hC.I hC.Γ hC.D (xs:=c.args) (by grind) hv k
      ·exact aq.none
    ·exact aq.none
  ·exact aq.none
end
end
section
variable [X:XTab] [G:GTab] [Yc:GCx]
def uni:List Nat->List Nat->List Nat
  |[],b=>b
  |x::r,b=>bif bQ x b then uni r b else x::uni r b
def agh:List Oper->List (List Nat)->List (List Nat)
  |[],acc=>acc
  |o::r,acc=>agh r (acc++[(rJ o).foldr (λk s=>uni (k::acc.getD k []) s) []])
def gP(draw:Bool)(l:List Oper):List (List Nat):=bif draw then agh l []else(List.range l.length).map List.range
def Yt:List (Nat×Bool)->List (Nat×Bool)->Bool
  |[],[]=>true
  |(a,x)::r,(b,y)::s=>Nat.beq a b&&(x==y)&&Yt r s
  |_,_=>false
def mF(a:List (Nat×Bool)):List (Nat×Bool)->Bool
  |[]=>Yt a []
  |p::r=>Yt a (p::r)||mF a r
theorem MG:∀{a b:List (Nat×Bool)},Yt a b=true->a=b
  |[],[],_=>rfl
  | (a,x)::r,(b,y)::s,h=>by
    simp only[Yt,Y5,ajk]at h;rw[f9 h.1.1,h.1.2,MG h.2]
  |[],_::_,h=>by cases h
  |_::_,[],h=>by cases h
structure Ent where
  d:Option Tmp
  g:List (Nat×Bool)
  ex:Option Bool
  u:Out
def PF:Option Bool->Bool
  |none=>true
  |some b=>b
theorem FY{e:Option Bool}:fH e↔PF e=true:=by cases e<;>simp[fH,PF]
def yO(cl:List Nat)(g:List (Nat×Bool)):List Ent->Nat->SE
  |[],_=>[]
  | e::r,j=>match e.d with
    |some d=>bif bQ j cl&&mF e.g g then(d,e.u.av)::yO cl g r (j+1)else yO cl g r (j+1)
    |none=>yO cl g r (j+1)
def rz(l:List Oper):List Nat:=l.filterMap λo=>o.dst
def mO(ds:List Nat)(E:SE):SE:=match E with
  |[]=>[]
  |(t,v)::r=>bif bQ t ds then mO ds r else(t,v)::mO ds r
def fY(κ:List Nat)(f:AF):Bool:=κ.any λk=>bQ k f.uses
def nJ(cls:List (List Nat))(m i:Nat):Bool:=!(Nat.beq m i) && !(bQ i (cls.getD m []))
def yG(cls:List (List Nat))(i:Nat):List Oper->Nat->List Nat
  |[],_=>[]
  | o::r,m=>match o.dst with
    |some d=>bif nJ cls m i then d::yG cls i r (m+1)else yG cls i r (m+1)
    |none=>yG cls i r (m+1)
def qp(cls:List (List Nat))(i:Nat)(clj:List Nat)(j:Nat)(f:AF):List Ent->Nat->Bool
  |[],_=>false
  |e::r,m=>(!(e.u.κ.isEmpty)&&nJ cls m i && !(Nat.beq m j) && !(bQ m clj)&&fY e.u.κ f)||qp cls i clj j f r (m+1)
def CB(cls:List (List Nat))(i:Nat)(cl:List Nat)(g:List (Nat×Bool))(all:List Ent):List Ent->Nat->List AF
  |[],_=>[]
  |e::r,j=>(bif bQ j cl&&mF e.g g then e.u.fs.filter (λf=>!(qp cls i (cls.getD j []) j f all 0))else [])++CB cls i cl g all r (j+1)
def PC.mut:PC->Bool
  |.own _ _=>true
  |.box m _ _=>m
  |.prt _ _=>true
  |_=>false
def xq(C:Cx)(o:Oper):Bool:=match o.op with
  |.store _ _ _=>true
  |.mapUpdate _ _ _ _=>true
  |.insert _ _ _ _=>true
  | .buildSlice t _ _=>match C.Θ t with
    |some ⟨.slice e,_,_,_,_⟩=>eM (X.tr e)
    |_=>false
  | .call c=>match c.callee with
    |.builtin .append=>true
    |.builtin .copy=>true
    |.value (.func f)=>(match C.I f with|some J=>J.rw_|none=>false)||(C.Γ f).any λc=>c.ps.any PC.mut
    |.value _=>C.W
    |_=>false
  |_=>false
def ams(op:Op):Option Nat:=match op with
  | .call c=>match c.callee,c.args.toList with
    |.builtin .append,.tmp t::_=>some t
    |_,_=>none
  |_=>none
def agZ(ops:List Oper):Nat->Nat->Bool
  |0,_=>false
  | k+1,t=>ops.any λp=>match p.dst,p.op with
    |some d,.buildSlice _ _ _=>Nat.beq t d
    | some d,op=>Nat.beq t d&&match ams op with
      |some t'=>agZ ops k t'
      |none=>false
    |none,_=>false
def al9(op:Op):Bool:=match op with
  |.buildSlice _ _ _=>true
  |_=>false
def aq2(ops:List Oper)(op:Op):Bool:=match op with
  | .store _ (.tmp t) _=>ops.any λp=>match p.dst,p.op with
    |some d,.alloc _=>Nat.beq t d
    |_,_=>false
  |_=>false
def ud(ops:List Oper)(o:Oper):Bool:=al9 o.op||aq2 ops o.op||match ams o.op with
  |some t=>agZ ops 3 t
  |none=>false
def vN(C:Cx)(cls:List (List Nat))(ops:List Oper)(i:Nat):List Oper->Nat->Bool
  |[],_=>false
  |o::r,m=>(Nat.blt i m&&xq C o&&ud ops o&&nJ cls m i)||vN C cls ops i r (m+1)
def Du(N:Nat)(f:AF):Bool:=f.uses.all λk=>Nat.blt k N
def rT(C:Cx)(cls:List (List Nat))(ops:List Oper)(i:Nat):List Oper->Nat->Bool
  |[],_=>false
  |o::r,m=>(Nat.blt i m&&xq C o && !(ud ops o)&&nJ cls m i)||rT C cls ops i r (m+1)
def afF(f:AF):Bool:=f.uses.all λk=>Nat.ble k 1
def I3(K:Option (List Nat))(N:Nat)(f:AF):Bool:=match K with
  |none=>afF f
  |some kd=>Du N f && !(fY kd f)
def qB(C:Cx)(N:Nat)(cls:List (List Nat))(ops:List Oper)(F:List AF)(i:Nat)(g:List (Nat×Bool))(es:List Ent):List AF:=
  let L:=CB cls i (cls.getD i []) g es es 0++F.filter (λf=>!(qp cls i [] ops.length f es 0))
  bif rT C cls ops i ops 0 then L.filter (I3 C.K N)else bif vN C cls ops i ops 0 then L.filter (Du N)else L
def AX(cls:List (List Nat))(ops:List Oper)(E:SE)(i:Nat)(g:List (Nat×Bool))(es:List Ent):SE:=yO (cls.getD i []) g es 0++mO (yG cls i ops 0) E
def Ev(es:List Ent):Option (Nat×Bool)->Option (List (Nat×Bool)×Option Bool)
  |none=>some ([],none)
  | some (j,want)=>match es[j]? with
    | some e=>match e.u.av with
      | .lf (.c .bool b)=>
        let lit:=bif want then b else !b
        some ((j,want)::e.g,some (match e.ex with|none=>lit|some x=>x&&lit))
      |_=>none
    |none=>none
def vF(t:Nat):List Ent->Nat->Option (Nat×Ent)
  |[],_=>none
  | e::r,j=>match e.d with
    |some d=>bif Nat.beq t d then some (j,e)else vF t r (j+1)
    |none=>vF t r (j+1)
def We(eg:List (Nat×Bool))(jc:Nat)(side:Bool)(g:List (Nat×Bool)):Bool:=match eg with
  |(j',s)::g'=>Nat.beq j' jc&&(s==side)&&mF g' g
  |[]=>false
def If(cl:List Nat)(g:List (Nat×Bool))(es:List Ent)(jc:Nat)(side:Bool):Operand->Option Bool
  |.const (.bool b)=>some b
  | .tmp t=>match vF t es 0 with
    | some (j,e)=>bif bQ j cl&&(mF e.g g||We e.g jc side g)then match e.u.av with
        |.lf (.c .bool b)=>some b
        |_=>none
      else none
    |none=>none
  |_=>none
def HT(cl:List Nat)(g:List (Nat×Bool))(es:List Ent)(c a b:Operand):Option Bool:=match c with
  | .tmp t=>match vF t es 0 with
    | some (jc,e)=>bif bQ jc cl&&mF e.g g then match e.u.av,If cl g es jc true a,If cl g es jc false b with
        |.lf (.c .bool x),some p,some q=>some (bif x then p else q)
        |_,_,_=>none
      else none
    |none=>none
  |_=>none
def Ah{R:Type}(C:Cx)(n N:Nat)(cls:List (List Nat))(ops:List Oper)(E:SE)(F:List AF):List Oper->Nat->List Ent->(List Ent->Option R)->Option R
  |[],_,es,k=>k es
  | o::r,i,es,k=>match Ev es o.guard with
    |none=>none
    | some (g,ex)=>match o.op with
      | .pick c a b=>match HT (cls.getD i []) g es c a b with
        |some v=>Ah C n N cls ops E F r (i+1) (es++[⟨o.dst,g,ex,bc (eD v)⟩]) k
        |none=>none
      | op=>match bQ i C.O,ex with
        | true,some b=>bif b then Ef C none (n+64*i) (N+512*i) (AX cls ops E i [] es) (qB C N cls ops F i [] es) op (λu=>Ah C n N cls ops E F r (i+1) (es++[⟨o.dst,[],none,u⟩]) k)
          else Ah C n N cls ops E F r (i+1) (es++[⟨o.dst,g,ex,bc (eD false)⟩]) k
        |_,_=>Ef C ex (n+64*i) (N+512*i) (AX cls ops E i g es) (qB C N cls ops F i g es) op (λu=>Ah C n N cls ops E F r (i+1) (es++[⟨o.dst,g,ex,u⟩]) k)
def vX(C:Cx)(P:Program)(n N:Nat)(cls:List (List Nat))(ops:List Oper)(E:SE)(F:List AF)(o:Oper)(i:Nat)(es:List Ent)(e:Ent):Prop:=
  e.d=o.dst/\(Ev es o.guard=some (e.g,e.ex)\/((∃g,Ev es o.guard=some (g,some true))/\e.g=[]/\e.ex=none)) /\
  ((∃c a b v,o.op=.pick c a b/\HT (cls.getD i []) e.g es c a b=some v/\e.u=bc (eD v)) \/
   (fH e.ex->dc P o (AX cls ops E i e.g es) (qB C N cls ops F i e.g es) (n+64*i) e.u))
theorem Wz{R:Type}{P:Program}{C:Cx}(hC:C.ok P){n N:Nat}{cls:List (List Nat)}{ops:List Oper}{E:SE}{F:List AF}{k:List Ent->Option R}{r:R} :
    ∀{l:List Oper} {i:Nat} {es:List Ent},Ah C n N cls ops E F l i es k=some r->ops.drop i=l->es.length=i->(∀j o e,ops[j]?=some o->es[j]?=some e->vX C P n N cls ops E F o j (es.take j) e) ->
    ∃es',k es'=some r/\es'.length=i+l.length/\∀j o e,ops[j]?=some o->es'[j]?=some e->vX C P n N cls ops E F o j (es'.take j) e
  |[],i,es,h,hd,hl,hall=>⟨es,h,by simpa using hl,hall⟩
  | o::l,i,es,h,hd,hl,hall=>by
    simp only[Ah]at h;have ho:ops[i]?=some o:=by have:=aae (·[0]?) hd;grind
    have hd':ops.drop (i+1)=l:=by have:=aae (List.drop 1) hd;simpa[adg]using this
    have next:∀{g:List (Nat×Bool)} {ex:Option Bool} {u:Out},(Ev es o.guard=some (g,ex)\/((∃g,Ev es o.guard=some (g,some true))/\g=[]/\ex=none)) ->
        ((∃c a b v,o.op=.pick c a b/\HT (cls.getD i []) g es c a b=some v/\u=bc (eD v))\/(fH ex->dc P o (AX cls ops E i g es) (qB C N cls ops F i g es) (n+64*i) u)) ->
        Ah C n N cls ops E F l (i+1) (es++[⟨o.dst,g,ex,u⟩]) k=some r ->
        ∃es',k es'=some r/\es'.length=i+(o::l).length/\∀j o e,ops[j]?=some o->es'[j]?=some e->vX C P n N cls ops E F o j (es'.take j) e:=by
      intro g ex u hg hu hr;obtain⟨es',h1,h2,h3⟩:=Wz hC hr hd' (by simp[hl]) (λj o' e hj he=>by
        by_cases hji:j<i
        ·grind
        · have hlt:=(aaw.1 he).1
          simp only[ZD,aal]at hlt
          have hji':j=i:=by omega
          subst hji'
          rw[abV (by omega),show j-es.length=0 by omega]at he
          simp only[acM,no]at he
          subst he
          rw[ho]at hj
          simp only[no]at hj
          subst hj
          rw[ahB (by omega),aaU (by omega)]
          exact⟨rfl,hg,hu⟩)
      grind
    split at h
    ·cases h
    · rename_i g ex hg
      split at h
      · rename_i c a b hop
        split at h
        · rename_i v hv
          exact next (.inl hg) (.inl ⟨c,a,b,v,hop,hv,rfl⟩) h
        ·cases h
      · have norm:Ef C ex (n+64*i) (N+512*i) (AX cls ops E i g es) (qB C N cls ops F i g es) o.op (λu=>Ah C n N cls ops E F l (i+1) (es++[⟨o.dst,g,ex,u⟩]) k)=some r ->
            ∃es',k es'=some r/\es'.length=i+(o::l).length/\∀j o e,ops[j]?=some o->es'[j]?=some e->vX C P n N cls ops E F o j (es'.take j) e:=λh'=>by
          obtain⟨u,hu,hs⟩:=NS (P:=P) (o:=o) hC (ex:=ex) (n:=n+64*i) (N:=N+512*i) (E:=AX cls ops E i g es) (F:=qB C N cls ops F i g es) (λu=>Ah C n N cls ops E F l (i+1) (es++[⟨o.dst,g,ex,u⟩]) k) r h';grind
        cases hm:bQ i C.O
        ·grind
        · rw [hm]at h
          cases ex with
          |none=>grind
          | some b=>
            simp only at h;cases b with
            | true=>
              simp only[Ze]at h;obtain⟨u,hu,hs⟩:=NS (P:=P) (o:=o) hC (ex:=none) (n:=n+64*i) (N:=N+512*i) (E:=AX cls ops E i [] es) (F:=qB C N cls ops F i [] es) (λu=>Ah C n N cls ops E F l (i+1) (es++[⟨o.dst,[],none,u⟩]) k) r (by assumption);exact next (.inr ⟨⟨g,hg⟩,rfl,rfl⟩) (.inr hs) hu
            | false=>
              simp only[Zr]at h;exact next (.inl hg) (.inr λhx=>by cases hx) h
def okN(n:Nat)(cl:List Nat)(m:Nat):Bool:=Nat.blt m n||cl.any λi=>Nat.ble (n+64*i) m&&Nat.blt m (n+64*i+64)
def Lf.okN(n:Nat)(cl:List Nat)(l:Lf):Bool:=match l with
  |.sl h=>Go.Sm.okN n cl h
  |.rp h _ _ _ _=>Go.Sm.okN n cl h
  |.bp b _=>Go.Sm.okN n cl b
  |.bq b _ _ _ _=>Go.Sm.okN n cl b
  |.clo _ bs=>bs.all (Go.Sm.okN n cl)
  |.mp h=>Go.Sm.okN n cl h
  |_=>true
def E0(n:Nat)(cl:List Nat):List Lf->Bool
  |[]=>true
  |l::r=>l.okN n cl&&E0 n cl r
mutual
def AV.okN(n:Nat)(cl:List Nat):AV->Bool
  |.lf l=>l.okN n cl
  |.ag ls=>E0 n cl ls
  |.tu vs=>AV.okNs n cl vs
def AV.okNs(n:Nat)(cl:List Nat):List AV->Bool
  |[]=>true
  |v::r=>v.okN n cl&&AV.okNs n cl r
end
def AF.okN(n:Nat)(cl:List Nat):AF->Bool
  |.rep _ _ _ h=>Go.Sm.okN n cl h
  |.own _ _ _ _ _ h=>Go.Sm.okN n cl h
  |.box _ b cs=>Go.Sm.okN n cl b&&E0 n cl cs
  |.isn h _=>Go.Sm.okN n cl h
  |.ag B=>Nat.ble B n
  |.prt h' h _ _ _=>Go.Sm.okN n cl h'&&Go.Sm.okN n cl h
  |.pbx h' h _ _ _=>Go.Sm.okN n cl h'&&Go.Sm.okN n cl h
  |.hol _ _ _ _ h _ cs=>Go.Sm.okN n cl h&&E0 n cl cs
  |.mp _ _ _ _ h=>Go.Sm.okN n cl h
  |.pt _ _ _ _ _ h _=>Go.Sm.okN n cl h
theorem ge{n:Nat}{cl:List Nat}{m i:Nat}(h:okN n cl m=true)(hi:i∉cl):out (n+64*i) m=true:=by
  simp only[okN,abl]at h;simp only[out,abl];rcases h with h|h
  · left
    have:m+1<=n:=Zh h
    exact aah (by omega)
  · obtain⟨j,hj,hb⟩:=aeL.1 h
    simp only[Y5]at hb
    have h1:=Zh hb.1
    have h2:m+1<=n+64*j+64:=Zh hb.2
    have hne:i≠j:=λe=>hi (e▸hj)
    rcases abD i j with h3|h3
    ·right;exact aah (by omega)
    ·left;exact aah (by omega)
theorem Lf.okN_free{n:Nat}{cl:List Nat}{i:Nat}(hi:i∉cl):(l:Lf)->l.okN n cl=true->l.free (n+64*i)=true
  |.sl _,h=>ge h hi
  |.rp _ _ _ _ _,h=>ge h hi
  |.bp _ _,h=>ge h hi
  |.bq _ _ _ _ _,h=>ge h hi
  |.clo _ _,h=>Zy.2 λb hb=>ge (Zy.1 h b hb) hi
  |.mp _,h=>ge h hi
  |.gp _ _ _ _ _,_=>rfl
  |.ars _ _,_=>rfl
  |.c _ _,_=>rfl
  |.ar _ _ _,_=>rfl
  |.nl,_=>rfl
  |.xt _ _,_=>rfl
  |.fn _,_=>rfl
  |.yl,_=>rfl
  |.v _,_=>rfl
theorem vJ{n:Nat}{cl:List Nat}{i:Nat}(hi:i∉cl):∀{ls:List Lf},E0 n cl ls=true->ua (n+64*i) ls=true
  |[],_=>rfl
  | l::r,h=>by
    simp only[E0,Y5]at h;simp only[ua,l.okN_free hi h.1,vJ hi h.2,aea]
mutual
theorem AV.okN_free{n:Nat}{cl:List Nat}{i:Nat}(hi:i∉cl):(v:AV)->v.okN n cl=true->v.free (n+64*i)=true
  |.lf l,h=>by simp only[AV.free];exact l.okN_free hi h
  |.ag ls,h=>by simp only[AV.free];exact vJ hi h
  |.tu vs,h=>by simp only[AV.free];exact AV.okNs_free hi vs h
theorem AV.okNs_free{n:Nat}{cl:List Nat}{i:Nat}(hi:i∉cl):(vs:List AV)->AV.okNs n cl vs=true->AV.frees (n+64*i) vs=true
  |[],_=>rfl
  | v::r,h=>by
    simp only[AV.okNs,Y5]at h;simp only[AV.frees,AV.okN_free hi v h.1,AV.okNs_free hi r h.2,aea]
end
theorem AF.okN_free{n:Nat}{cl:List Nat}{i:Nat}(hi:i∉cl):(f:AF)->f.okN n cl=true->f.free (n+64*i)=true
  |.rep _ _ _ _,h=>ge h hi
  |.own _ _ _ _ _ _,h=>ge h hi
  | .box _ b cs,h=>by
    simp only[AF.okN,Y5]at h;simp only[AF.free,ge h.1 hi,vJ hi h.2,aea]
  |.isn _ _,h=>ge h hi
  |.ag _,h=>aah (alC (Zh h) (Nat.le_add_right _ _))
  |.mp _ _ _ _ _,h=>ge h hi
  |.pt _ _ _ _ _ _ _,h=>ge h hi
  | .prt _ _ _ _ _,h=>by
    simp only[AF.okN,Y5]at h;simp only[AF.free,ge h.1 hi,ge h.2 hi,aea]
  | .pbx _ _ _ _ _,h=>by
    simp only[AF.okN,Y5]at h;simp only[AF.free,ge h.1 hi,ge h.2 hi,aea]
  | .hol _ _ _ _ _ _ _,h=>by
    simp only[AF.okN,Y5]at h;simp only[AF.free,ge h.1 hi,vJ hi h.2,aea]
def al8(C:Cx)(n N nt:Nat)(cls:List (List Nat))(ops:List Oper)(es:List Ent)(i:Nat):Bool:=match ops[i]?,es[i]? with
  |some o,some e=>e.u.av.okN n (i::cls.getD i [])&&e.u.fs.all (AF.okN n (i::cls.getD i []))&&(e.u.κ.isEmpty||(xq C o&&e.u.κ.all (λk=>Nat.ble 2 k)&&match e.ex with|none=>true|some _=>false)) &&
      (match e.d with|some d=>Nat.blt d nt|none=>true)&&(match C.K with|none=>true|some kd=>ud ops o||e.u.κ.all (λk=>Nat.ble N k||bQ k kd)||(List.range i).all (λj=>!(nJ cls i j)))&&(!(ud ops o)||e.u.κ.all (λk=>Nat.ble N k)||(List.range i).all (λj=>!(nJ cls i j)))&&(match o.guard with|some (j,_)=>bQ j (cls.getD i [])&&(match es[j]? with|some e'=>e'.d.isSome|none=>false)|none=>true)
  |_,_=>false
def u0:List Nat->Bool
  |[]=>true
  |a::r=>!(bQ a r)&&u0 r
def j7(n:Nat)(E:SE)(F:List AF):Bool:=E.all (λp=>p.2.okN n [])&&F.all (AF.okN n [])
def ux(C:Cx)(n N nt:Nat)(draw:Bool)(cls:List (List Nat))(ops:List Oper)(E:SE)(F:List AF)(es:List Ent):Bool:=
  (!draw||Fh ops cls)&&cls.all (λc=>c.all λj=>Nat.blt j ops.length)&&u0 (rz ops)&&j7 n E F&&(List.range ops.length).all (al8 C n N nt cls ops es)
end
section
variable [X:XTab] [G:GTab] [Yc:GCx]
theorem oD{E E':SE}{t:Nat}{v:AV}(h:bN (E++E') t=some v):bN E t=some v\/bN E' t=some v:=by
 induction E with
 |nil=>exact .inr h
 |cons p r ih=>
  simp only[acI,bN]at h|-;grind
theorem lL{E:SE}{t:Nat}{v:AV}(h:bN E t=some v):(t,v)∈E:=by
 induction E with
 |nil=>simp[bN]at h
 |cons p r ih=>
  grind[bN,Nat.beq,Option.some.injEq,Nat.eq_of_beq_eq_true]
theorem Cz{cl:List Nat}{g:List (Nat×Bool)}{d:Nat}{v:AV}:∀{es:List Ent} {j0:Nat},(d,v)∈yO cl g es j0->∃j e,es[j]?=some e/\e.d=some d/\v=e.u.av/\bQ (j0+j) cl=true/\mF e.g g=true
 |[],_,h=>by simp[yO]at h
 | e::r,j0,h=>by
  have again:(d,v)∈yO cl g r (j0+1)->∃j e',(e::r)[j]?=some e'/\e'.d=some d/\v=e'.u.av/\bQ (j0+j) cl=true/\mF e'.g g=true:=λh=>by obtain⟨j,e',h1,h2,h3,h4,h5⟩:=Cz h;exact⟨j+1,e',by simpa using h1,h2,h3,by grind,h5⟩
  simp only[yO]at h;split at h
  ·rename_i d' hd;cases hb:(bQ j0 cl&&mF e.g g)
   ·grind
   ·rw[hb]at h;simp only[Ze]at h;rcases aaa.1 h with h|h
    ·simp only[ZC]at h;obtain⟨rfl,rfl⟩:=h;simp only[Y5]at hb;exact⟨0,e,rfl,hd,rfl,hb.1,hb.2⟩
    grind
  grind
theorem wW{cls:List (List Nat)}{i:Nat}{clj:List Nat}{j:Nat}{f:AF}:∀{es:List Ent} {m0:Nat},qp cls i clj j f es m0=false->∀{m:Nat} {e:Ent},es[m]?=some e->nJ cls (m0+m) i=true->m0+m≠j->bQ (m0+m) clj=false->fY e.u.κ f=false
 |[],_,_,m,e,he,_,_,_=>by simp at he
 | e'::r,m0,h,0,e,he,hm,hj,hc=>by
  simp at he;subst he;simp only[qp,abW]at h;rw[abj]at hm hj hc;have hb:Nat.beq m0 j=false:=by
   cases hb:Nat.beq m0 j
   ·rfl
   simp_all
  grind[fY]
 |e'::r,m0,h,m+1,e,he,hm,hj,hc=>by simp only[qp,abW]at h;simp at he;rw[show m0+(m+1)=m0+1+m by omega]at hm hj hc;exact wW h.2 he hm hj hc
theorem C4{cls:List (List Nat)}{i:Nat}{cl:List Nat}{g:List (Nat×Bool)}{all:List Ent}{f:AF}:∀{es:List Ent} {j0:Nat},f∈CB cls i cl g all es j0 ->
  ∃j e,es[j]?=some e/\f∈e.u.fs/\bQ (j0+j) cl=true/\mF e.g g=true/\qp cls i (cls.getD (j0+j) []) (j0+j) f all 0=false
 |[],_,h=>by simp[CB]at h
 | e::r,j0,h=>by
  simp only[CB,aad]at h;rcases h with h|h
  ·cases hb:(bQ j0 cl&&mF e.g g)
   ·grind
   ·rw[hb]at h;simp only[Ze,aa0,abc]at h;simp only[Y5]at hb;exact⟨0,e,rfl,h.1,hb.1,hb.2,h.2⟩
  ·obtain⟨j,e',h1,h2,h3,h4,h5⟩:=C4 h;exact⟨j+1,e',by simpa using h1,h2,by grind,h4,by grind⟩
theorem DG{ds:List Nat}{E:SE}{t:Nat}{v:AV}(h:bN (mO ds E) t=some v):bN E t=some v/\bQ t ds=false:=by
 induction E with
 |nil=>simp[mO,bN]at h
 | cons p r ih=>
  simp only[mO]at h;cases hb:bQ p.1 ds
  ·rw[hb]at h;simp only[Zr,bN]at h|-;cases ht:Nat.beq t p.1
   ·grind
   simp_all
  ·rw[hb]at h;simp only[Ze]at h;have:=ih h;refine⟨?_,this.2⟩;simp only[bN];cases ht:Nat.beq t p.1
   ·exact this.1
   simp_all
def chT(es:List Ent)(g:List (Nat×Bool)):Prop:=∀p∈g,∃e b,es[p.1]?=some e/\e.u.av=eD b/\b=p.2
theorem x7:∀{a b:List (Nat×Bool)},mF a b=true->∀p∈a,p∈b
 |a,[],h=>by simp only[mF]at h;rw[MG h];grind
 |a,q::r,h=>by
  simp only[mF,abl]at h;rcases h with h|h
  ·rw[MG h];grind
  ·exactλp hp=>Zf _ (x7 h p hp)
section
variable {C:Cx} {P:Program} {n N nt:Nat} {cls:List (List Nat)} {ops:List Oper} {E:SE} {F:List AF} {es:List Ent}
theorem T3(hlen:es.length=ops.length)(hall:∀j o e,ops[j]?=some o->es[j]?=some e->vX C P n N cls ops E F o j (es.take j) e):∀(i:Nat) (e:Ent),es[i]?=some e->(fH e.ex↔chT es e.g):=by
 intro i;induction i using Nat.strongRecOn with
 | _ i ih=>
  intro e he;have hi:=(aaw.1 he).1;have ho:ops[i]?=some (ops[i]'(by omega)):=ZB _;obtain⟨_,hg,_⟩:=hall i _ e ho he;rcases hg with hg|⟨_,hg1,hg2⟩
  rotate_left
  ·rw[hg1,hg2];exact⟨λ_ p hp=>by simp at hp,λ_=>trivial⟩
  unfold Ev at hg;split at hg
  ·simp only[no,ZC]at hg;obtain⟨h1,h2⟩:=hg;rw[<-h1,<-h2];exact⟨λ_ p hp=>by simp at hp,λ_=>trivial⟩
  ·rename_i j want _;split at hg
   ·rename_i e' he';split at hg
    ·rename_i b hb;simp only[no,ZC]at hg;obtain⟨h1,h2⟩:=hg;have hji:j<i:=by
      grind
     have hej:es[j]?=some e':=by grind
     have:=ih j hji e' hej;rw[<-h1,<-h2];have hlit:((bif want then b else !b)=true)↔b=want:=by grind
     constructor
     ·intro hx p hp;have hx':PF e'.ex=true/\(bif want then b else !b)=true:=by
       grind[fH,PF]
      rcases aaa.1 hp with rfl|hp
      ·grind
      ·exact this.1 (FY.2 hx'.1) p hp
     ·intro hc;obtain⟨e2,b2,h3,h4,h5⟩:=hc (j,want) ZO;rw[hej]at h3;simp only[no]at h3;subst h3;rw[hb]at h4;have hbb:b=b2:=by grind
      have hex:=FY.1 (this.2 λp hp=>hc p (Zf _ hp));have hl:=hlit.2 (hbb.trans h5);cases hee:e'.ex with
      |none=>exact hl
      |some x=>rw[hee]at hex;simp only[PF]at hex;show(x&&_)=true;grind
    ·cases hg
   ·cases hg
theorem IL{es:List Ent}{e e':Ent}(h1:fH e.ex↔chT es e.g)(h2:fH e'.ex↔chT es e'.g)(hs:mF e'.g e.g=true)(hx:fH e.ex):fH e'.ex:=
 h2.2 λp hp=>h1.1 hx p (x7 hs p hp)
def RJ[Rd](B nt:Nat)(cls:List (List Nat))(ops:List Oper)(E:SE)(F:List AF)(es:List Ent)(L0:List HA)(β:Vn)(listed:Nat->Bool)(a:Act)(w:World):Prop:=
 ∃(η:Vn) (c:aS) (ρ:cV),Rel nt ρ a Rd.ds/\(∀t v,bN E t=some v->(∀m o,ops[m]?=some o->listed m=true->o.dst≠some t)->ρ t=v.val η) /\
  (∀j e,es[j]?=some e->listed j=true->∀d,e.d=some d->(fH e.ex->ρ d=e.u.av.val η)/\(¬fH e.ex->ρ d=undef)) /\
  (∀f∈F,(∀m e,es[m]?=some e->listed m=true->fH e.ex->fY e.u.κ f=false)->(f.ha η).holds w c) /\
  ((∀A∈L0,A.holds w c)/\∀m,m<B->η.b m=β.b m/\η.h m=β.h m) /\
  (∀j e,es[j]?=some e->listed j=true->fH e.ex->∀f∈e.u.fs,(∀m e',es[m]?=some e'->listed m=true->fH e'.ex->m≠j->bQ m (cls.getD j [])=false->fY e'.u.κ f=false)->(f.ha η).holds w c)
theorem qf{κ:List Nat}{f:AF}(h:fY κ f=false):∀k∈f.uses,k∉κ:=by intro k hk hκ;have:=ako.1 h k hκ;exact this (mem_iff.2 hk)
theorem FZ{i:Nat}{o:Oper}{d:Nat}(ho:ops[i]?=some o)(hd:o.dst=some d):d∈rz ops:=
 List.mem_filterMap.2 ⟨o,aa2 ho,hd⟩
theorem NI:∀{l:List Oper} {i j:Nat} {o o':Oper} {d d':Nat},u0 (rz l)=true->l[i]?=some o->l[j]?=some o'->o.dst=some d->o'.dst=some d'->i≠j->d≠d'
 |[],_,_,_,_,_,_,_,h,_,_,_,_=>by simp at h
 |q::l,0,0,_,_,_,_,_,_,_,_,_,hne=>absurd rfl hne
 |q::l,0,j+1,o,o',d,d',h,ho,ho',hd,hd',_=>by grind[rz,u0,Bool.not_eq_true',FZ,mem_iff]
 |q::l,i+1,0,o,o',d,d',h,ho,ho',hd,hd',_=>by grind[rz,u0,Bool.not_eq_true',FZ,mem_iff]
 | q::l,i+1,j+1,o,o',d,d',h,ho,ho',hd,hd',hne=>by
  simp at ho ho';refine NI (l:=l) ?_ ho ho' hd hd' (by omega);cases hq:q.dst with
  |none=>simpa[rz,hq]using h
  |some dq=>
   have:rz (q::l)=dq::rz l:=by simp[rz,hq]
   rw[this]at h;simp only[u0,Y5]at h;exact h.2
theorem nM{draw:Bool}(h:ux C n N nt draw cls ops E F es=true){i:Nat}{o:Oper}{e:Ent}(ho:ops[i]?=some o)(he:es[i]?=some e) :
  e.u.av.okN n (i::cls.getD i [])=true/\(∀f∈e.u.fs,f.okN n (i::cls.getD i [])=true)/\(e.u.κ=[]\/(xq C o=true/\(∀k∈e.u.κ,2<=k)/\e.ex=none))/\(∀d,e.d=some d->Nat.blt d nt=true) /\
  (∀j w,o.guard=some (j,w)->bQ j (cls.getD i [])=true/\∃e' d,es[j]?=some e'/\e'.d=some d)/\(ud ops o=true->(∃j,j<i/\nJ cls i j=true)->∀k∈e.u.κ,N<=k)/\(∀kd,C.K=some kd->ud ops o=false->(∃j,j<i/\nJ cls i j=true)->∀k∈e.u.κ,N<=k\/k∈kd):=by
 simp only[ux,Y5]at h;have hi:=(aaw.1 ho).1;have h1:=Zy.1 h.2 i (adp.2 hi);simp only[al8,ho,he,Y5]at h1;obtain⟨⟨⟨⟨⟨⟨a1,a2⟩,a3⟩,a4⟩,a8⟩,a6⟩,a5⟩:=h1;refine⟨a1,Zy.1 a2,?_,?_,?_,(λhs hj k hk=>by
  obtain⟨j,hj1,hj2⟩:=hj;rw[hs]at a6;simp only[acF,ajF,abl]at a6;rcases a6 with a6|a6
  ·simp_all
  grind),(λkd hK hs hj k hk=>by
  obtain⟨j,hj1,hj2⟩:=hj;rw[hK]at a8;simp only[hs,ajF,abl]at a8;rcases a8 with a8|a8
  ·have:=Zy.1 a8 k hk;simp only[abl]at this;exact this.imp Zh mem_iff.1
  grind)⟩
 ·grind[Nat.le_of_ble_eq_true,List.all_eq_true]
 ·grind
 ·intro j w hg;rw[hg]at a5;grind[Option.isSome_iff_exists]
theorem GA{cls:List (List Nat)}{i:Nat}{d:Nat}:∀{l:List Oper} {m0 m:Nat} {o:Oper},l[m]?=some o->o.dst=some d->nJ cls (m0+m) i=true->d∈yG cls i l m0
 |[],_,_,_,h,_,_=>by simp at h
 |q::l,m0,0,o,h,hd,hm=>by grind[yG]
 |q::l,m0,m+1,o,h,hd,hm=>by simp at h;have:=GA (m0:=m0+1) h hd (by rwa [show m0+1+m=m0+(m+1)by omega]);simp only[yG];grind
theorem Qo{cls:List (List Nat)}{i:Nat}{ops:List Oper}:∀{l:List Oper} {m0:Nat},rT C cls ops i l m0=false->∀{m:Nat} {o:Oper},l[m]?=some o->i<m0+m->nJ cls (m0+m) i=true->xq C o=true->ud ops o=true
 |[],_,_,m,o,h,_,_=>by simp at h
 |q::r,m0,h,0,o,ho,hi,hm=>by simp at ho;subst ho;simp only[rT,abW]at h;simp_all
 |q::r,m0,h,m+1,o,ho,hi,hm=>by simp only[rT,abW]at h;simp at ho;rw[show m0+(m+1)=m0+1+m by omega]at hi hm;exact Qo h.2 ho hi hm
theorem Mu{cls:List (List Nat)}{i:Nat}{ops:List Oper}:∀{l:List Oper} {m0:Nat},vN C cls ops i l m0=false->∀{m:Nat} {o:Oper},l[m]?=some o->i<m0+m->nJ cls (m0+m) i=true->xq C o=true->ud ops o=false
 |[],_,_,m,o,h,_,_=>by simp at h
 |q::r,m0,h,0,o,ho,hi,hm=>by simp at ho;subst ho;simp only[vN,abW]at h;simp_all
 |q::r,m0,h,m+1,o,ho,hi,hm=>by simp only[vN,abW]at h;simp at ho;rw[show m0+(m+1)=m0+1+m by omega]at hi hm;exact Mu h.2 ho hi hm
theorem adt{draw:Bool}(hb:ux C n N nt draw cls ops E F es=true)(hlen:es.length=ops.length)(hall:∀j o e,ops[j]?=some o->es[j]?=some e->vX C P n N cls ops E F o j (es.take j) e)
  {listed:Nat->Bool} {i:Nat} {e:Ent} (he:es[i]?=some e) (hx:fH e.ex) (hf:listed i=false) (hcl:∀j,bQ j (cls.getD i [])=true->listed j=true)
  (hun:∀m,m<ops.length->listed m=true->bQ i (cls.getD m [])=false) {η:Vn} {ρ:cV} {w:World} {c:aS}
  (hE:∀t v,bN E t=some v->(∀m o,ops[m]?=some o->listed m=true->o.dst≠some t)->ρ t=v.val η)
  (hV:∀j e,es[j]?=some e->listed j=true->∀d,e.d=some d->(fH e.ex->ρ d=e.u.av.val η)/\(¬fH e.ex->ρ d=undef))
  (hB:∀f∈F,(∀m e,es[m]?=some e->listed m=true->fH e.ex->fY e.u.κ f=false)->(f.ha η).holds w c)
  (hR:∀j e,es[j]?=some e->listed j=true->fH e.ex->∀f∈e.u.fs,(∀m e',es[m]?=some e'->listed m=true->fH e'.ex->m≠j->bQ m (cls.getD j [])=false->fY e'.u.κ f=false)->(f.ha η).holds w c) :
  kU η ρ (AX cls ops E i e.g (es.take i))/\aj w c ((qB C N cls ops F i e.g (es.take i)).map (AF.ha η)):=by
 have hch:=T3 hlen hall;have take_get:∀{j:Nat} {e':Ent},(es.take i)[j]?=some e'->es[j]?=some e'/\j<i:=λ{j e'} h=>by grind
 have nohit:∀(f:AF) (clj:List Nat) (j:Nat),qp cls i clj j f (es.take i) 0=false->(rT C cls ops i ops 0=true->I3 C.K N f=true)->(rT C cls ops i ops 0=false->vN C cls ops i ops 0=true->Du N f=true)->∀m e',es[m]?=some e'->listed m=true->m≠j->bQ m clj=false->fY e'.u.κ f=false:=by
  intro f clj j hh hsafe hbel m e' hm hl hj hc;have hml:m<ops.length:=by grind
  have hom:ops[m]?=some ops[m]:=ZB hml;have hmi:m≠i:=λe=>by grind
  have hmay:nJ cls m i=true:=by grind[Nat.beq,absurd,nJ,Nat.eq_of_beq_eq_true,Bool.not_false,Bool.and_self]
  rcases abD m i with h|h
  ·grind[wW]
  ·rcases(nM hb hom hm).2.2.1 with hk|⟨hk,h2,_⟩
   ·rw[hk];rfl
   ·cases hlt:rT C cls ops i ops 0
    ·have hsoft:=Qo hlt hom (by omega) (by grind) hk;cases hls:vN C cls ops i ops 0
     ·grind[Mu]
     ·have hs:=hbel hlt hls;have h3:=(nM hb hom hm).2.2.2.2.2.1 hsoft ⟨i,by omega,hmay⟩;refine ako.2 λk hk' hm' => ?_;have h4:k+1<=N:=Zh (Zy.1 hs k (mem_iff.1 hm'));grind
    ·have hs:=hsafe hlt;refine ako.2 λk hk' hm' => ?_;cases hK:C.K with
     |none=>
      rw[hK]at hs;have:=Zy.1 (show afF f=true from hs) k (mem_iff.1 hm');have:=Zh this;grind
     | some kd=>
      rw[hK]at hs;simp only[I3,Y5,abc]at hs;have h4:k+1<=N:=Zh (Zy.1 hs.1 k (mem_iff.1 hm'));cases hsoft:ud ops ops[m]
      ·rcases(nM hb hom hm).2.2.2.2.2.2 kd hK hsoft ⟨i,by omega,hmay⟩ k hk' with h5|h5
       ·omega
       ·have:=ako.1 hs.2 k h5;exact this hm'
      ·have h3:=(nM hb hom hm).2.2.2.2.2.1 hsoft ⟨i,by omega,hmay⟩ k hk';omega
 constructor
 ·intro t v hl;rcases oD hl with h|h
  ·obtain⟨j,e',h1,h2,rfl,h4,h5⟩:=Cz (lL h);grind[IL]
  ·have h:=DG h;refine hE t v h.1 λm o hom hlm hdm=>?_;have hml:=(aaw.1 hom).1;grind[Nat.beq,absurd,nJ,Nat.eq_of_beq_eq_true,GA,Bool.not_false,Bool.and_self,mem_iff]
 ·intro A hA;obtain⟨f,hfm,rfl⟩:=ZA.1 hA;have hmem:f∈CB cls i (cls.getD i []) e.g (es.take i) (es.take i) 0++F.filter (λf=>!(qp cls i [] ops.length f (es.take i) 0))/\(rT C cls ops i ops 0=true->I3 C.K N f=true)/\(rT C cls ops i ops 0=false->vN C cls ops i ops 0=true->Du N f=true):=by
   unfold qB at hfm;grind
  obtain⟨hmem,hsafe,hbel⟩:=hmem;rcases aad.1 hmem with h|h
  ·obtain⟨j,e',h1,h2,h4,h5,h6⟩:=C4 h;grind[IL]
  ·simp only[aa0,abc]at h;exact hB f h.1 λm e2 hm hl _=>nohit f [] ops.length h.2 hsafe hbel m e2 hm hl (by grind) rfl
end
end
end Go.Sm
