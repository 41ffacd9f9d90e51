/- Laws for the row. No condition. -/
import Derived.Laws.Strings
import Derived.Test.YtfhhiajfciblbaaGreatDoorRfTb
namespace Go.Sm
set_option linter.unusedSectionVars false
variable {x y:Operand} {i m n:Nat} {t t':TypeId} {op:BinOp} {cl:List Nat}
section
variable [X:XTab] [G:GTab]
section
variable {R:Type} {P:Program} {o:Oper} {E:SE} {F:List AF} {n:Nat} {Θ:Tb} {ex:Option Bool}
def aaY(Θ:Tb)(op:BinOp)(t:TypeId)(a b:Bool)(k:Out->Option R):Option R:=match op,Θ t with
  |.eql,some ⟨.bool,_,_,_,_⟩=>k (bk (eK (a==b)))
  |.neq,some ⟨.bool,_,_,_,_⟩=>k (bk (eK (a != b)))
  |_,_=>none
theorem akv(hΘ:Θ.ok P){a b:Bool}(ho:o.op=.binOp op t x y t')(h1:ev E x=some (eK a))(h2:ev E y=some (eK b))(k:Out->Option R):au ex P o E F n (aaY Θ op t a b k) k:=by
  unfold aaY;split
  · rename_i ht
    exact au.of λhx=>(dB.pure λη ρ hE=>Uq ho (hΘ t _ ht).2.1 (aN hE h1) (aN hE h2))
  · rename_i ht
    exact au.of λhx=>(dB.pure λη ρ hE=>VI ho (hΘ t _ ht).2.1 (aN hE h1) (aN hE h2))
  ·exact au.none
def afP(ex:Option Bool)(op:BinOp)(a b:List UInt8)(k:Out->Option R):Option R:=match op with
  |.add=>gchk ex (decide (a.length+b.length<=9223372036854775807)) (k (bk (zh (a++b))))
  |.eql=>k (bk (eK (a==b)))
  |.neq=>k (bk (eK (!(a==b))))
  |.lss=>k (bk (eK (Op.bytesLess a b)))
  |.leq=>k (bk (eK (Op.bytesLess a b||a==b)))
  |.gtr=>k (bk (eK (!(Op.bytesLess a b||a==b))))
  |.geq=>k (bk (eK (!(Op.bytesLess a b))))
  |_=>none
theorem ajO{ρ:dr}{L:List HA}{a b:List UInt8}{v:Value}(ho:o.op=.binOp op t x y t')(hx:aS ρ x=.string ⟨a.toArray⟩)(hy:aS ρ y=.string ⟨b.toArray⟩)
    (hr:∀w,(Op.stringOp op ⟨a.toArray⟩ ⟨b.toArray⟩).run P w=.ok v w):bh P ρ o L v:=λev w c he _=>by
  subst he;have hg:∀w,(eqGuard op t x y (.string ⟨a.toArray⟩) (.string ⟨b.toArray⟩)).run P w=.ok () w:=λw=>by cases op<;>rfl
  have hb:binOp op t (.string ⟨a.toArray⟩) (.string ⟨b.toArray⟩)=Op.stringOp op ⟨a.toArray⟩ ⟨b.toArray⟩:=by cases op<;>rfl
  simp[execOp,ho,hx,hy,hg,hb,hr,Result.andThen]
theorem alP{a b:List UInt8}(ho:o.op=.binOp op t x y t')(h1:ev E x=some (zh a))(h2:ev E y=some (zh b))(k:Out->Option R):au ex P o E F n (afP ex op a b k) k:=by
  have e:∀l:List UInt8,(⟨l.toArray⟩:ByteArray).toList=l:=λl=>ByteArray.toList_mk l;cases op<;>simp only[afP]<;>first
    |exact au.none
    |(refine au.of λhx=>(dB.pure λη ρ hE=>ajO ho (aN hE h1) (aN hE h2) λw=>?_);simp[Op.stringOp,AV.val,Lf.val];done)
    | (refine au.gchk λhb=>au.of λhx=>(dB.pure λη ρ hE=>ajO ho (aN hE h1) (aN hE h2) λw=>?_)
       have hb':=abh (hb hx)
       have hs:∀l:List UInt8,(⟨l.toArray⟩:ByteArray).size=l.length:=λl=>by rfl
       have hle:¬(((⟨a.toArray⟩:ByteArray).size+(⟨b.toArray⟩:ByteArray).size:Nat):Int)>IntKind.i64.max:=by grind[IntKind.max,IntKind.signed,IntKind.bits]
       have hab:(⟨a.toArray⟩:ByteArray)++⟨b.toArray⟩=⟨(a++b).toArray⟩:=ByteArray.ext (by simp)
       grind[Op.stringOp,AV.val,Lf.val,Sem.run_pure])
def ac3(Θ:Tb)(op:BinOp)(t:TypeId)(m:Nat)(s:SC)(a b:List s.den)(G:TypeId->Bool)(k:Out->Option R):Option R:=match op,Θ t,s,a,b with
  | .eql,some ⟨.arr m' e,_,_,_,_⟩,.int kk,a,b=>match Θ e with
    |some ⟨.int k',1,_,_,_⟩=>bif Nat.beq m m'&&G t then(if k'=kk then k (bk (eK (ta m a b)))else none)else none
    |_=>none
  | .neq,some ⟨.arr m' e,_,_,_,_⟩,.int kk,a,b=>match Θ e with
    |some ⟨.int k',1,_,_,_⟩=>bif Nat.beq m m'&&G t then(if k'=kk then k (bk (eK (!(ta m a b))))else none)else none
    |_=>none
  |_,_,_,_,_=>none
def sMM(mx:Bool)(a b:AV)(k:Out->Option R):Option R:=match a,b with
  |.lf (.c (.int k1) x),.lf (.c (.int k2) y)=>if k1=k2 then k (bk (f8 k1 (bif mx then(if y>x then y else x)else(if y<x then y else x))))else none
  |_,_=>none
theorem X3{mx:Bool}{ts:Array TypeId}{a b:AV}(ho:o.op=.call { callee:=.builtin (bif mx then .max else .min),args:=#[x,y],argTypes:=ts})(h1:ev E x=some a)(h2:ev E y=some b)(k:Out->Option R):au ex P o E F n (sMM mx a b k) k:=by
  unfold sMM;split
  · rename_i k1 a k2 b
    split
    · rename_i hk
      subst hk
      refine au.of λhx=>(dB.pure λη ρ hE=>?_)
      cases mx
      ·exact aq3 ho (aN hE h1) (aN hE h2)
      ·exact arD ho (aN hE h1) (aN hE h2)
    ·exact au.none
  ·exact au.none
def sM4(a b c d:AV)(k:Out->Option R):Option R:=match a,b,c,d with
  |.lf (.c (.int .i64) x),.lf (.c (.int .i64) y),.lf (.c (.int .i64) z),.lf (.c (.int .i64) u)=>k (bk (f8 .i64 (Ou x y z u)))
  |_,_,_,_=>none
theorem aoS{ts:Array TypeId}{z u:Operand}{a b c d:AV}(ho:o.op=.call { callee:=.builtin .min,args:=#[x,y,z,u],argTypes:=ts})(h1:ev E x=some a)(h2:ev E y=some b)(h3:ev E z=some c)(h4:ev E u=some d)(k:Out->Option R):au ex P o E F n (sM4 a b c d k) k:=by
  unfold sM4;split
  ·exact au.of λhx=>(dB.pure λη ρ hE=>ao8 ho (aN hE h1) (aN hE h2) (aN hE h3) (aN hE h4))
  ·exact au.none
structure Cx where
  Γ:Ct
  Θ:Tb
  G:TypeId->Bool
  D:List DCtr
  W:Bool
  I:It
  B:Nat
  K:Option (List Nat)
  O:List Nat
structure Cx.ok(C:Cx)(P:Program):Prop where
  Γ:C.Γ.ok P
  Θ:C.Θ.ok P
  G:∀t,C.G t=true->y6 P t
  D:∀d∈C.D,DCtr.sound P d
  I:C.I.ok P
def Cx.at(C:Cx)(B:Nat):Cx:=⟨C.Γ,C.Θ,C.G,C.D,C.W,C.I,B,C.K,C.O⟩
def Cx.dk(C:Cx)(K:Option (List Nat))(O:List Nat):Cx:=⟨C.Γ,C.Θ,C.G,C.D,C.W,C.I,C.B,K,O⟩
theorem Cx.dk_ok{C:Cx}{P:Program}(h:C.ok P)(K:Option (List Nat))(O:List Nat):(C.dk K O).ok P:=⟨h.Γ,h.Θ,h.G,h.D,h.I⟩
theorem Cx.at_ok{C:Cx}{P:Program}(h:C.ok P)(B:Nat):(C.at B).ok P:=⟨h.Γ,h.Θ,h.G,h.D,h.I⟩
theorem YW{ρ:dr}{L:List HA}{e:TypeId}{a b:Operand}{k:IntKind}{by_:Nat}{z:Value}{x y:List Int}(ho:o.op=.binOp .neq t a b t')(ht:P.underlying t=some (.array m e))(he:P.underlying e=some (.int k))(hi:TI P e 1 by_ z)
    (hg:P.eqGuardType P.depth t=false) (hx:aS ρ a=.agg ((tA m k).fill x ()).toArray) (hy:aS ρ b=.agg ((tA m k).fill y ()).toArray):bh P ρ o L (.bool (!(ta m x y))):=λev w c hev _=>by
  subst hev;have htihi:=hi;clear hi;obtain⟨i,hi,_,hs,_⟩:=htihi.get;have h1:(eqGuard .neq t a b (.agg ((tA m k).fill x ()).toArray) (.agg ((tA m k).fill y ()).toArray)).run P w=.ok () w:=run_eqGuard_agg w .neq t a b _ _ hg;have h2:(binOp .neq t (.agg ((tA m k).fill x ()).toArray) (.agg ((tA m k).fill y ()).toArray)).run P w=.ok (.bool (!(ta m x y))) w:=by rw[run_neq_struct,DU 9998 x y ht he hi hs];rfl
  grind[execOp,Sem.run_bind,Result.andThen_ok,Sem.run_pure]
theorem amL{C:Cx}(hC:C.ok P){s:SC}{a b:List s.den}(ho:o.op=.binOp op t x y t')(h1:ev E x=some (.lf (.ar m s a)))(h2:ev E y=some (.lf (.ar m s b)))(k:Out->Option R) :
    au ex P o E F n (ac3 C.Θ op t m s a b C.G k) k:=by
  unfold ac3;split
  · rename_i m' e _ _ _ _ kk a b ht
    split
    · rename_i k' _ _ _ he
      refine au.bif λhc=>?_
      simp only[aas]at hc
      obtain rfl:=amb hc.1
      split
      · rename_i hk
        subst hk
        refine au.of λhx=>(dB.pure λη ρ hE=>?_)
        exact aam ho (hC.Θ t _ ht).2.1 (hC.Θ e _ he).2.1 (hC.Θ e _ he).1 (hC.G t hc.2).1 (aN hE h1) (aN hE h2)
      ·exact au.none
    ·exact au.none
  · rename_i m' e _ _ _ _ kk a b ht
    split
    · rename_i k' _ _ _ he
      refine au.bif λhc=>?_
      simp only[aas]at hc
      obtain rfl:=amb hc.1
      split
      · rename_i hk
        subst hk
        refine au.of λhx=>(dB.pure λη ρ hE=>?_)
        exact YW ho (hC.Θ t _ ht).2.1 (hC.Θ e _ he).2.1 (hC.Θ e _ he).1 (hC.G t hc.2).1 (aN hE h1) (aN hE h2)
      ·exact au.none
    ·exact au.none
  ·exact au.none
def E0(C:Cx)(ex:Option Bool)(n N:Nat)(E:SE)(F:List AF)(op:Op)(k:Out->Option R):Option R:=match op with
  | .move x=>match ev E x with
    |some v=>k (bk v)
    |none=>none
  | .assign x=>match ev E x with
    |some v=>k (bk v)
    |none=>none
  | .binOp b t x y _=>match ev E x,ev E y with
    | some (.lf (.c (.int k1) a1)),some (.lf (.c (.int k2) a2))=>match b with
      |.shl=>Xe ex .shl k1 a1 a2 k
      |.shr=>Xe ex .shr k1 a1 a2 k
      |b=>if k2=k1 then adc ex b k1 a1 a2 k else none
    |some (.lf (.c .bool a1)),some (.lf (.c .bool a2))=>aaY C.Θ b t a1 a2 k
    |some (.lf (.c .str a1)),some (.lf (.c .str a2))=>afP ex b a1 a2 k
    |some (.lf (.ar m1 s1 a1)),some (.lf (.ar m2 s2 a2))=>if h:s2=s1/\m2=m1 then ac3 C.Θ b t m1 s1 a1 (Aj h.1 a2) C.G k else none
    |some (.ag l1),some (.ag l2)=>TG C.Θ C.G b t l1 l2 k
    |some (.lf l),some (.lf .nl)=>TM C.Θ b t l F k
    |_,_=>none
  | .unOp u _ x=>match ev E x with
    |some v=>sUn u v k
    |none=>none
  | .convert s d x=>match ev E x with
    |some (.lf (.sl h))=>Fg C.Θ s d (.sl h) F k
    |some (.lf .nl)=>Fg C.Θ s d .nl F k
    |some (.lf (.c .str a))=>MR C.Θ ex n N s d a k
    |some v=>SR C.Θ s d v k
    |none=>none
  | .extract x i=>match ev E x with
    |some v=>Dp v i k
    |none=>none
  |.alloc t=>Ni C.Θ n N t k
  | .box _ x=>match ev E x with
    |some v=>adY n N v k
    |none=>none
  |.build t ps=>Mg C.Θ E t ps k
  |.buildSlice t m ps=>Fu C.Θ E n N t m ps F k (FN C.Θ E n N t m ps F k)
  | .nilCheck x=>match ev E x with
    |some v=>adw v k
    |none=>none
  |.makeFunc fn first cap=>UB E fn first.toList cap.toList k
  |.load t (.global g)=>NY C.Θ t g k
  | .load t x=>match ev E x with
    |some (.lf (.gp g te i u p))=>Nb C.Θ ex n t g te i u p k
    |some (.lf (.bp b off))=>Nr C.Θ t b off F k
    |some (.lf (.bq b off m s j))=>Nw C.Θ ex t b off m s j F k
    | some (.lf (.rp h te i u p))=>match pA te h F with
      |some s=>MY C.Θ ex t te i u p s k
      |none=>Ly C.Θ ex t h te i u p F k (O9 C.Θ ex n t h te i u p F k)
    |_=>none
  | .store t x y=>match ev E x,ev E y with
    |some (.lf (.bp b off)),some v=>F5 C.Θ t b off v F k
    |some (.lf (.bq b off m s j)),some v=>FB C.Θ ex t b off m s j v F k
    | some (.lf (.rp h te i u p)),some v=>match pA te h F with
      |some s=>F7 C.Θ ex t h te i u p v s k
      | none=>match AX te h F with
        |some s=>FI C.Θ ex t h te i u p v s F k
        |none=>GV C.Θ ex t h te i u p v F k (FT C.Θ ex t h te i u p v F k)
    |_,_=>none
  | .fieldAddr t x f=>match ev E x with
    |some (.lf l)=>Mf C.Θ t f l k
    |_=>none
  | .field t x f=>match ev E x with
    |some v=>aab C.Θ t f v k
    |_=>none
  | .indexAddr t (.global g) ix=>match ev E ix with
    |some (.lf (.c (.int _) i))=>UM C.Θ ex t g i k
    |_=>none
  | .indexAddr t x ix=>match C.Θ t,ev E x,ev E ix with
    |some ⟨.slice _,_,_,_,_⟩,some (.lf (.sl h)),some (.lf (.c (.int _) i))=>Wz C.Θ ex t h i F k (Tx C.Θ ex t (.sl h) i F k)
    |some ⟨.slice _,_,_,_,_⟩,some (.lf l),some (.lf (.c (.int _) i))=>Tx C.Θ ex t l i F k
    |some ⟨.arr _ _,_,_,_,_⟩,some (.lf l),some (.lf (.c (.int _) i))=>Vg C.Θ ex t l i k
    |_,_,_=>none
  | .index t x ix=>match ev E x,ev E ix with
    |some (.lf (.ars te xs)),some (.lf (.c (.int _) i))=>Fl C.Θ ex t te xs i k
    |some v,some (.lf (.c (.int _) i))=>F4 C.Θ ex t v i k
    |_,_=>none
  | .makeSlice t x y=>match ev E x,ev E y with
    |some v1,some v2=>Mp C.Θ ex n N t x y v1 v2 k (VN C.Θ ex n N t x y v1 v2 k)
    |_,_=>none
  | .slice t x lo hi none=>match ev E x with
    |some (.lf (.c .str s))=>Fj C.Θ E ex t s lo hi k
    |some (.lf (.bp b off))=>Fm C.Θ E ex n t b off lo hi F k
    |some (.lf l)=>Gu C.Θ E ex n t l lo hi F k (FW C.Θ E ex n t l lo hi F k (KP C.Θ E ex n t l lo hi F k))
    |_=>none
  | .slice t x none (some hi) (some mx)=>match ev E x with
    |some (.lf l)=>Gi C.Θ E ex n t l hi mx F k
    |_=>none
  | .slice t x (some lo) (some hi) (some mx)=>match ev E x with
    |some (.lf l)=>Fw C.Θ E ex n t l lo hi mx F k
    |_=>none
  | .sliceToArrayPointer t x=>match ev E x with
    |some (.lf (.sl h))=>XI C.Θ ex t h F k
    |_=>none
  |.makeMap t none=>abw C.Θ n N t k
  | .lookup t x y false=>match ev E x,ev E y with
    |some (.lf (.mp h)),some v=>V8 C.Θ C.G ex t h v F k
    |_,_=>none
  | .mapUpdate t x y z=>match ev E x,ev E y,ev E z with
    |some (.lf (.mp h)),some v1,some v2=>JO C.Θ C.G t h v1 v2 F k
    |_,_,_=>none
  | .insert t x y z=>match ev E x,ev E y,ev E z with
    |some (.lf (.mp h)),some v1,some v2=>JO C.Θ C.G t h v1 v2 F k
    |_,_,_=>none
  | .call c=>match c.callee,c.args.toList,c.argTypes.toList with
    | .builtin .len,[x],[t]=>match ev E x with
      |some (.lf (.sl h))=>Wq C.Θ t h F k (VC C.Θ t (.lf (.sl h)) F k)
      |some v=>VC C.Θ t v F k
      |none=>none
    | .builtin .append,[x,y],[t,t']=>match ev E x,ev E y with
      |some v1,some v2=>bif Nat.beq t' t then Uz C.Θ ex n N t v1 v2 F k (ae7 C.Θ ex n N t v1 v2 F k)else(VW C.Θ ex n N t t' v1 v2 F k)
      |_,_=>none
    | .builtin .copy,[x,y],[t,_]=>match ev E x,ev E y with
      |some (.lf (.sl d)),some (.lf (.c .str l))=>NH C.Θ ex t d l F k
      |some v1,some v2=>T7 C.Θ ex N t v1 v2 F k
      |_,_=>none
    | .builtin .max,[x,y],_=>match ev E x,ev E y with
      |some v1,some v2=>sMM true v1 v2 k
      |_,_=>none
    | .builtin .min,[x,y],_=>match ev E x,ev E y with
      |some v1,some v2=>sMM false v1 v2 k
      |_,_=>none
    | .builtin .min,[x,y,z,u],_=>match ev E x,ev E y,ev E z,ev E u with
      |some v1,some v2,some v3,some v4=>sM4 v1 v2 v3 v4 k
      |_,_,_,_=>none
    | .value f,xs,_=>match ev E f with
      |some v=>Lj C.I C.Γ C.D E ex n N v xs F k
      |none=>none
    |_,_,_=>none
  |_=>none
theorem sR(c:Call){f:Callee}{xs:List Operand}{ts:List TypeId}(h1:c.callee=f)(h2:c.args.toList=xs)(h3:c.argTypes.toList=ts):c = { callee:=f,args:=xs.toArray,argTypes:=ts.toArray}:=by cases c;simp at h1 h2 h3;subst h1 h2 h3;simp
theorem KW{C:Cx}(hC:C.ok P){N:Nat}(k:Out->Option R):au ex P o E F n (E0 C ex n N E F o.op k) k:=by
  unfold E0;split
  · rename_i x ho
    split
    ·rename_i v hv;exact au.of λhx=>(dB.pure λη ρ hE=>anv ho (aN hE hv))
    ·exact au.none
  · rename_i x ho
    split
    ·rename_i v hv;exact au.of λhx=>(dB.pure λη ρ hE=>aav ho (aN hE hv))
    ·exact au.none
  · rename_i b t x y t' ho
    split
    ·grind[al1,al0,au.none]
    ·rename_i h1 h2;exact akv hC.Θ ho h1 h2 k
    ·rename_i h1 h2;exact alP ho h1 h2 k
    · rename_i h1 h2
      split
      · rename_i he
        obtain⟨rfl,rfl⟩:=he
        exact amL hC ho h1 h2 k
      ·exact au.none
    ·rename_i h1 h2;exact afa hC.Θ hC.G ho h1 h2 k
    ·rename_i h1 h2;exact aeT hC.Θ ho h1 h2 k
    ·exact au.none
  ·grind[anJ,au.none]
  · rename_i ho
    split
    ·rename_i hv;exact HW hC.Θ ho hv k
    ·rename_i hv;exact HW hC.Θ ho hv k
    ·rename_i hv;exact Yi hC.Θ ho hv k
    ·rename_i hv;exact acW hC.Θ ho hv k
    ·exact au.none
  ·grind[PV,au.none]
  ·rename_i ho;exact aaf hC.Θ ho k
  ·grind[ak4,au.none]
  ·rename_i ho;exact Yv hC.Θ ho k
  ·rename_i ho;exact Xi hC.Θ ho k (Wy hC.Θ ho k)
  ·grind[alV,au.none]
  ·rename_i ho;exact afo ho k
  ·rename_i ho;exact Ze hC.Θ ho k
  · rename_i ho
    split
    ·rename_i hv;exact aae hC.Θ ho hv k
    ·rename_i hv;exact Zy hC.Θ ho hv k
    ·rename_i hv;exact ZA hC.Θ ho hv k
    · rename_i hv
      split
      ·rename_i hs;exact YR hC.Θ hs ho hv k
      ·exact Za hC.Θ ho hv k (YY hC.Θ ho hv k)
    ·exact au.none
  · rename_i ho
    split
    ·rename_i h1 h2;exact VY hC.Θ ho h1 h2 k
    ·rename_i h1 h2;exact VR hC.Θ ho h1 h2 k
    · rename_i h1 h2
      split
      ·rename_i hs;exact VJ hC.Θ hs ho h1 h2 k
      · split
        ·rename_i hs;exact UU hC.Θ hs ho h1 h2 k
        ·exact U3 hC.Θ ho h1 h2 k (US hC.Θ ho h1 h2 k)
    ·exact au.none
  · rename_i ho
    split
    ·rename_i hv;exact Yb hC.Θ ho hv k
    ·exact au.none
  · rename_i ho
    split
    ·rename_i hv;exact Wx hC.Θ ho hv k
    ·exact au.none
  · rename_i ho
    split
    ·rename_i h2;exact afe hC.Θ ho h2 k
    ·exact au.none
  · rename_i ho
    split
    ·rename_i h1 h2;exact aaD hC.Θ ho h1 h2 k (Rn hC.Θ ho h1 h2 k)
    ·rename_i h1 h2;exact Rn hC.Θ ho h1 h2 k
    ·rename_i h1 h2;exact acz hC.Θ ho h1 h2 k
    ·exact au.none
  · rename_i ho
    split
    ·rename_i h1 h2;exact Xf hC.Θ ho h1 h2 k
    ·rename_i h1 h2;exact Tt hC.Θ ho h1 h2 k
    ·exact au.none
  · rename_i ho
    split
    ·rename_i h1 h2;exact Z6 hC.Θ ho h1 h2 k (ab5 hC.Θ ho h1 h2 k)
    ·exact au.none
  · rename_i ho
    split
    ·rename_i hv;exact VA hC.Θ ho hv k
    ·rename_i hv;exact SW hC.Θ ho hv k
    ·rename_i hv;exact Xo hC.Θ ho hv k (WY hC.Θ ho hv k (Y3 hC.Θ ho hv k))
    ·exact au.none
  · rename_i ho
    split
    ·rename_i hv;exact S3 hC.Θ ho hv k
    ·exact au.none
  · rename_i ho
    split
    ·rename_i hv;exact VU hC.Θ ho hv k
    ·exact au.none
  · rename_i ho
    split
    ·rename_i hv;exact abc hC.Θ ho hv k
    ·exact au.none
  ·rename_i ho;exact akd ho k
  · rename_i ho
    split
    ·rename_i h1 h2;exact aa3 hC.Θ hC.G ho h1 h2 k
    ·exact au.none
  · rename_i ho
    split
    ·rename_i h1 h2 h3;exact NG hC.Θ hC.G (.inl ho) h1 h2 h3 k
    ·exact au.none
  · rename_i ho
    split
    ·rename_i h1 h2 h3;exact NG hC.Θ hC.G (.inr ho) h1 h2 h3 k
    ·exact au.none
  · rename_i c ho
    split
    · rename_i x t h1 h2 h3
      have hc:=sR c h1 h2 h3
      split
      ·rename_i hv;exact adr hC.Θ (by rw[ho,hc]) hv k (QI hC.Θ (by rw[ho,hc]) hv k)
      ·rename_i hv;exact QI hC.Θ (by rw[ho,hc]) hv k
      ·exact au.none
    · rename_i x y t t' h1 h2 h3
      have hc:=sR c h1 h2 h3
      split
      · rename_i hv1 hv2
        cases ht:Nat.beq t' t
        · rw[aax]
          exact aaI hC.Θ (by rw[ho,hc]) hv1 hv2 k
        · obtain rfl:=amb ht
          exact aa0 hC.Θ (by rw[ho,hc]) hv1 hv2 k (akZ hC.Θ (by rw[ho,hc]) hv1 hv2 k)
      ·exact au.none
    · rename_i x y t t' h1 h2 h3
      have hc:=sR c h1 h2 h3
      split
      ·rename_i hv1 hv2;exact ZU hC.Θ (by rw[ho,hc]) hv1 hv2 k
      ·rename_i hv1 hv2;exact adM hC.Θ (by rw[ho,hc]) hv1 hv2 k
      ·exact au.none
    · rename_i x y ts h1 h2
      have hc:=sR c h1 h2 rfl
      grind[X3,au.none]
    · rename_i x y ts h1 h2
      have hc:=sR c h1 h2 rfl
      grind[X3,au.none]
    · rename_i x y z u ts h1 h2
      have hc:=sR c h1 h2 rfl
      grind[aoS,au.none]
    · rename_i f h1
      have hc:=sR c h1 rfl rfl
      split
      · rename_i hv
        exact aaj (ts:=c.argTypes) hC.I hC.Γ hC.D (xs:=c.args) (by grind) hv k
      ·exact au.none
    ·exact au.none
  ·exact au.none
end
end
section
variable [X:XTab] [G:GTab]
def uni:List Nat->List Nat->List Nat
  |[],b=>b
  |x::r,b=>bif cq x b then uni r b else x::uni r b
def ahz:List Oper->List (List Nat)->List (List Nat)
  |[],acc=>acc
  |o::r,acc=>ahz r (acc++[(tE o).foldr (λk s=>uni (k::acc.getD k []) s) []])
def iU(draw:Bool)(l:List Oper):List (List Nat):=bif draw then ahz l []else(List.range l.length).map List.range
def ZS:List (Nat×Bool)->List (Nat×Bool)->Bool
  |[],[]=>true
  |(a,x)::r,(b,y)::s=>Nat.beq a b&&(x==y)&&ZS r s
  |_,_=>false
def oA(a:List (Nat×Bool)):List (Nat×Bool)->Bool
  |[]=>ZS a []
  |p::r=>ZS a (p::r)||oA a r
theorem OW:∀{a b:List (Nat×Bool)},ZS a b=true->a=b
  |[],[],_=>rfl
  | (a,x)::r,(b,y)::s,h=>by
    simp only[ZS,aas,air]at h;rw[amb h.1.1,h.1.2,OW h.2]
  |[],_::_,h=>by cases h
  |_::_,[],h=>by cases h
structure Ent where
  d:Option Tmp
  g:List (Nat×Bool)
  ex:Option Bool
  u:Out
def RP:Option Bool->Bool
  |none=>true
  |some b=>b
theorem FJ{e:Option Bool}:ge e↔RP e=true:=by cases e<;>simp[ge,RP]
def zd(cl:List Nat)(g:List (Nat×Bool)):List Ent->Nat->SE
  |[],_=>[]
  | e::r,j=>match e.d with
    |some d=>bif cq j cl&&oA e.g g then(d,e.u.av)::zd cl g r (j+1)else zd cl g r (j+1)
    |none=>zd cl g r (j+1)
def sP(l:List Oper):List Nat:=l.filterMap λo=>o.dst
def oM(ds:List Nat)(E:SE):SE:=match E with
  |[]=>[]
  |(t,v)::r=>bif cq t ds then oM ds r else(t,v)::oM ds r
def lm(κ:List Nat)(f:AF):Bool:=κ.any λk=>cq k f.uses
def pe(cls:List (List Nat))(m i:Nat):Bool:=!(Nat.beq m i) && !(cq i (cls.getD m []))
def yK(cls:List (List Nat))(i:Nat):List Oper->Nat->List Nat
  |[],_=>[]
  | o::r,m=>match o.dst with
    |some d=>bif pe cls m i then d::yK cls i r (m+1)else yK cls i r (m+1)
    |none=>yK cls i r (m+1)
def si(cls:List (List Nat))(i:Nat)(clj:List Nat)(j:Nat)(f:AF):List Ent->Nat->Bool
  |[],_=>false
  |e::r,m=>(!(e.u.κ.isEmpty)&&pe cls m i && !(Nat.beq m j) && !(cq m clj)&&lm e.u.κ f)||si cls i clj j f r (m+1)
def Dk(cls:List (List Nat))(i:Nat)(cl:List Nat)(g:List (Nat×Bool))(all:List Ent):List Ent->Nat->List AF
  |[],_=>[]
  |e::r,j=>(bif cq j cl&&oA e.g g then e.u.fs.filter (λf=>!(si cls i (cls.getD j []) j f all 0))else [])++Dk cls i cl g all r (j+1)
def PC.mut:PC->Bool
  |.own _ _=>true
  |.box m _ _=>m
  |.prt _ _=>true
  |_=>false
def yk(C:Cx)(o:Oper):Bool:=match o.op with
  |.store _ _ _=>true
  |.mapUpdate _ _ _ _=>true
  |.insert _ _ _ _=>true
  | .buildSlice t _ _=>match C.Θ t with
    |some ⟨.slice e,_,_,_,_⟩=>fQ (X.tr e)
    |_=>false
  | .call c=>match c.callee with
    |.builtin .append=>true
    |.builtin .copy=>true
    |.value (.func f)=>(match C.I f with|some J=>J.rw_|none=>false)||(C.Γ f).any λc=>c.ps.any PC.mut
    |.value _=>C.W
    |_=>false
  |_=>false
def aqL(op:Op):Option Nat:=match op with
  | .call c=>match c.callee,c.args.toList with
    |.builtin .append,.tmp t::_=>some t
    |_,_=>none
  |_=>none
def ahj(ops:List Oper):Nat->Nat->Bool
  |0,_=>false
  | k+1,t=>ops.any λp=>match p.dst,p.op with
    |some d,.buildSlice _ _ _=>Nat.beq t d
    | some d,op=>Nat.beq t d&&match aqL op with
      |some t'=>ahj ops k t'
      |none=>false
    |none,_=>false
def aoH(op:Op):Bool:=match op with
  |.buildSlice _ _ _=>true
  |_=>false
def asu(ops:List Oper)(op:Op):Bool:=match op with
  | .store _ (.tmp t) _=>ops.any λp=>match p.dst,p.op with
    |some d,.alloc _=>Nat.beq t d
    |_,_=>false
  |_=>false
def uU(ops:List Oper)(o:Oper):Bool:=aoH o.op||asu ops o.op||match aqL o.op with
  |some t=>ahj ops 3 t
  |none=>false
def wn(C:Cx)(cls:List (List Nat))(ops:List Oper)(i:Nat):List Oper->Nat->Bool
  |[],_=>false
  |o::r,m=>(Nat.blt i m&&yk C o&&uU ops o&&pe cls m i)||wn C cls ops i r (m+1)
def DW(N:Nat)(f:AF):Bool:=f.uses.all λk=>Nat.blt k N
def tj(C:Cx)(cls:List (List Nat))(ops:List Oper)(i:Nat):List Oper->Nat->Bool
  |[],_=>false
  |o::r,m=>(Nat.blt i m&&yk C o && !(uU ops o)&&pe cls m i)||tj C cls ops i r (m+1)
def aiR(f:AF):Bool:=f.uses.all λk=>Nat.ble k 1
def IM(K:Option (List Nat))(N:Nat)(f:AF):Bool:=match K with
  |none=>aiR f
  |some kd=>DW N f && !(lm kd f)
def rZ(C:Cx)(N:Nat)(cls:List (List Nat))(ops:List Oper)(F:List AF)(i:Nat)(g:List (Nat×Bool))(es:List Ent):List AF:=
  let L:=Dk cls i (cls.getD i []) g es es 0++F.filter (λf=>!(si cls i [] ops.length f es 0))
  bif tj C cls ops i ops 0 then L.filter (IM C.K N)else bif wn C cls ops i ops 0 then L.filter (DW N)else L
def A9(cls:List (List Nat))(ops:List Oper)(E:SE)(i:Nat)(g:List (Nat×Bool))(es:List Ent):SE:=zd (cls.getD i []) g es 0++oM (yK cls i ops 0) E
def ED(es:List Ent):Option (Nat×Bool)->Option (List (Nat×Bool)×Option Bool)
  |none=>some ([],none)
  | some (j,want)=>match es[j]? with
    | some e=>match e.u.av with
      | .lf (.c .bool b)=>
        let lit:=bif want then b else !b
        some ((j,want)::e.g,some (match e.ex with|none=>lit|some x=>x&&lit))
      |_=>none
    |none=>none
def wD(t:Nat):List Ent->Nat->Option (Nat×Ent)
  |[],_=>none
  | e::r,j=>match e.d with
    |some d=>bif Nat.beq t d then some (j,e)else wD t r (j+1)
    |none=>wD t r (j+1)
def UP(eg:List (Nat×Bool))(jc:Nat)(side:Bool)(g:List (Nat×Bool)):Bool:=match eg with
  |(j',s)::g'=>Nat.beq j' jc&&(s==side)&&oA g' g
  |[]=>false
def JI(cl:List Nat)(g:List (Nat×Bool))(es:List Ent)(jc:Nat)(side:Bool):Operand->Option Bool
  |.const (.bool b)=>some b
  | .tmp t=>match wD t es 0 with
    | some (j,e)=>bif cq j cl&&(oA e.g g||UP e.g jc side g)then match e.u.av with
        |.lf (.c .bool b)=>some b
        |_=>none
      else none
    |none=>none
  |_=>none
def Ji(cl:List Nat)(g:List (Nat×Bool))(es:List Ent)(c a b:Operand):Option Bool:=match c with
  | .tmp t=>match wD t es 0 with
    | some (jc,e)=>bif cq jc cl&&oA e.g g then match e.u.av,JI cl g es jc true a,JI cl g es jc false b with
        |.lf (.c .bool x),some p,some q=>some (bif x then p else q)
        |_,_,_=>none
      else none
    |none=>none
  |_=>none
def Bb{R:Type}(C:Cx)(n N:Nat)(cls:List (List Nat))(ops:List Oper)(E:SE)(F:List AF):List Oper->Nat->List Ent->(List Ent->Option R)->Option R
  |[],_,es,k=>k es
  | o::r,i,es,k=>match ED es o.guard with
    |none=>none
    | some (g,ex)=>match o.op with
      | .pick c a b=>match Ji (cls.getD i []) g es c a b with
        |some v=>Bb C n N cls ops E F r (i+1) (es++[⟨o.dst,g,ex,bk (eK v)⟩]) k
        |none=>none
      | op=>match cq i C.O,ex with
        | true,some b=>bif b then E0 C none (n+64*i) (N+512*i) (A9 cls ops E i [] es) (rZ C N cls ops F i [] es) op (λu=>Bb C n N cls ops E F r (i+1) (es++[⟨o.dst,[],none,u⟩]) k)
          else Bb C n N cls ops E F r (i+1) (es++[⟨o.dst,g,ex,bk (eK false)⟩]) k
        |_,_=>E0 C ex (n+64*i) (N+512*i) (A9 cls ops E i g es) (rZ C N cls ops F i g es) op (λu=>Bb C n N cls ops E F r (i+1) (es++[⟨o.dst,g,ex,u⟩]) k)
def wK(C:Cx)(P:Program)(n N:Nat)(cls:List (List Nat))(ops:List Oper)(E:SE)(F:List AF)(o:Oper)(i:Nat)(es:List Ent)(e:Ent):Prop:=
  e.d=o.dst/\(ED es o.guard=some (e.g,e.ex)\/((∃g,ED es o.guard=some (g,some true))/\e.g=[]/\e.ex=none)) /\
  ((∃c a b v,o.op=.pick c a b/\Ji (cls.getD i []) e.g es c a b=some v/\e.u=bk (eK v)) \/
   (ge e.ex->dB P o (A9 cls ops E i e.g es) (rZ C N cls ops F i e.g es) (n+64*i) e.u))
theorem ZV{R:Type}{P:Program}{C:Cx}(hC:C.ok P){n N:Nat}{cls:List (List Nat)}{ops:List Oper}{E:SE}{F:List AF}{k:List Ent->Option R}{r:R} :
    ∀{l:List Oper} {i:Nat} {es:List Ent},Bb C n N cls ops E F l i es k=some r->ops.drop i=l->es.length=i->(∀j o e,ops[j]?=some o->es[j]?=some e->wK C P n N cls ops E F o j (es.take j) e) ->
    ∃es',k es'=some r/\es'.length=i+l.length/\∀j o e,ops[j]?=some o->es'[j]?=some e->wK C P n N cls ops E F o j (es'.take j) e
  |[],i,es,h,hd,hl,hall=>⟨es,h,by simpa using hl,hall⟩
  | o::l,i,es,h,hd,hl,hall=>by
    simp only[Bb]at h;have ho:ops[i]?=some o:=by have:=aba (·[0]?) hd;grind
    have hd':ops.drop (i+1)=l:=by have:=aba (List.drop 1) hd;simpa[aec]using this
    have next:∀{g:List (Nat×Bool)} {ex:Option Bool} {u:Out},(ED es o.guard=some (g,ex)\/((∃g,ED es o.guard=some (g,some true))/\g=[]/\ex=none)) ->
        ((∃c a b v,o.op=.pick c a b/\Ji (cls.getD i []) g es c a b=some v/\u=bk (eK v))\/(ge ex->dB P o (A9 cls ops E i g es) (rZ C N cls ops F i g es) (n+64*i) u)) ->
        Bb C n N cls ops E F l (i+1) (es++[⟨o.dst,g,ex,u⟩]) k=some r ->
        ∃es',k es'=some r/\es'.length=i+(o::l).length/\∀j o e,ops[j]?=some o->es'[j]?=some e->wK C P n N cls ops E F o j (es'.take j) e:=by
      intro g ex u hg hu hr;obtain⟨es',h1,h2,h3⟩:=ZV hC hr hd' (by simp[hl]) (λj o' e hj he=>by
        by_cases hji:j<i
        ·grind
        · have hlt:=(abC.1 he).1
          simp only[aaL,acg]at hlt
          have hji':j=i:=by omega
          subst hji'
          rw[adW (by omega),show j-es.length=0 by omega]at he
          simp only[adP,no]at he
          subst he
          rw[ho]at hj
          simp only[no]at hj
          subst hj
          rw[agl (by omega),ab4 (by omega)]
          exact⟨rfl,hg,hu⟩)
      grind
    split at h
    ·cases h
    · rename_i g ex hg
      split at h
      · rename_i c a b hop
        split at h
        · rename_i v hv
          exact next (.inl hg) (.inl ⟨c,a,b,v,hop,hv,rfl⟩) h
        ·cases h
      · have norm:E0 C ex (n+64*i) (N+512*i) (A9 cls ops E i g es) (rZ C N cls ops F i g es) o.op (λu=>Bb C n N cls ops E F l (i+1) (es++[⟨o.dst,g,ex,u⟩]) k)=some r ->
            ∃es',k es'=some r/\es'.length=i+(o::l).length/\∀j o e,ops[j]?=some o->es'[j]?=some e->wK C P n N cls ops E F o j (es'.take j) e:=λh'=>by
          obtain⟨u,hu,hs⟩:=KW (P:=P) (o:=o) hC (ex:=ex) (n:=n+64*i) (N:=N+512*i) (E:=A9 cls ops E i g es) (F:=rZ C N cls ops F i g es) (λu=>Bb C n N cls ops E F l (i+1) (es++[⟨o.dst,g,ex,u⟩]) k) r h';grind
        cases hm:cq i C.O
        ·grind
        · rw [hm]at h
          cases ex with
          |none=>grind
          | some b=>
            simp only at h;cases b with
            | true=>
              simp only[f9]at h;obtain⟨u,hu,hs⟩:=KW (P:=P) (o:=o) hC (ex:=none) (n:=n+64*i) (N:=N+512*i) (E:=A9 cls ops E i [] es) (F:=rZ C N cls ops F i [] es) (λu=>Bb C n N cls ops E F l (i+1) (es++[⟨o.dst,[],none,u⟩]) k) r (by assumption);exact next (.inr ⟨⟨g,hg⟩,rfl,rfl⟩) (.inr hs) hu
            | false=>
              simp only[aax]at h;exact next (.inl hg) (.inr λhx=>by cases hx) h
def okN(n:Nat)(cl:List Nat)(m:Nat):Bool:=Nat.blt m n||cl.any λi=>Nat.ble (n+64*i) m&&Nat.blt m (n+64*i+64)
def Lf.okN(n:Nat)(cl:List Nat)(l:Lf):Bool:=match l with
  |.sl h=>Go.Sm.okN n cl h
  |.rp h _ _ _ _=>Go.Sm.okN n cl h
  |.bp b _=>Go.Sm.okN n cl b
  |.bq b _ _ _ _=>Go.Sm.okN n cl b
  |.clo _ b=>Go.Sm.okN n cl b
  |.mp h=>Go.Sm.okN n cl h
  |_=>true
def GB(n:Nat)(cl:List Nat):List Lf->Bool
  |[]=>true
  |l::r=>l.okN n cl&&GB n cl r
mutual
def AV.okN(n:Nat)(cl:List Nat):AV->Bool
  |.lf l=>l.okN n cl
  |.ag ls=>GB n cl ls
  |.tu vs=>AV.okNs n cl vs
def AV.okNs(n:Nat)(cl:List Nat):List AV->Bool
  |[]=>true
  |v::r=>v.okN n cl&&AV.okNs n cl r
end
def AF.okN(n:Nat)(cl:List Nat):AF->Bool
  |.rep _ _ _ h=>Go.Sm.okN n cl h
  |.own _ _ _ _ _ h=>Go.Sm.okN n cl h
  |.box _ b cs=>Go.Sm.okN n cl b&&GB n cl cs
  |.isn h _=>Go.Sm.okN n cl h
  |.prt h' h _ _ _=>Go.Sm.okN n cl h'&&Go.Sm.okN n cl h
  |.pbx h' h _ _ _=>Go.Sm.okN n cl h'&&Go.Sm.okN n cl h
  |.hol _ _ _ _ h _ cs=>Go.Sm.okN n cl h&&GB n cl cs
  |.mp _ _ _ _ h=>Go.Sm.okN n cl h
  |.pt _ _ _ _ _ h _=>Go.Sm.okN n cl h
theorem gH(h:okN n cl m=true)(hi:i∉cl):bE (n+64*i) m=true:=by
  simp only[okN,acO]at h;simp only[bE,acO];rcases h with h|h
  · left
    have:m+1<=n:=aaA h
    exact abu (by omega)
  · obtain⟨j,hj,hb⟩:=ame.1 h
    simp only[aas]at hb
    have h1:=aaA hb.1
    have h2:m+1<=n+64*j+64:=aaA hb.2
    have hne:i≠j:=λe=>hi (e▸hj)
    rcases abL i j with h3|h3
    ·right;exact abu (by omega)
    ·left;exact abu (by omega)
theorem Lf.okN_free(hi:i∉cl):(l:Lf)->l.okN n cl=true->l.free (n+64*i)=true
  |.sl _,h=>gH h hi
  |.rp _ _ _ _ _,h=>gH h hi
  |.bp _ _,h=>gH h hi
  |.bq _ _ _ _ _,h=>gH h hi
  |.clo _ _,h=>gH h hi
  |.mp _,h=>gH h hi
  |.gp _ _ _ _ _,_=>rfl
  |.ars _ _,_=>rfl
  |.c _ _,_=>rfl
  |.ar _ _ _,_=>rfl
  |.nl,_=>rfl
  |.xt _ _,_=>rfl
  |.fn _,_=>rfl
  |.v _,_=>rfl
theorem wo{n:Nat}{cl:List Nat}{i:Nat}(hi:i∉cl):∀{ls:List Lf},GB n cl ls=true->uL (n+64*i) ls=true
  |[],_=>rfl
  | l::r,h=>by
    simp only[GB,aas]at h;simp only[uL,l.okN_free hi h.1,wo hi h.2,aft]
mutual
theorem AV.okN_free{n:Nat}{cl:List Nat}{i:Nat}(hi:i∉cl):(v:AV)->v.okN n cl=true->v.free (n+64*i)=true
  |.lf l,h=>by simp only[AV.free];exact l.okN_free hi h
  |.ag ls,h=>by simp only[AV.free];exact wo hi h
  |.tu vs,h=>by simp only[AV.free];exact AV.okNs_free hi vs h
theorem AV.okNs_free{n:Nat}{cl:List Nat}{i:Nat}(hi:i∉cl):(vs:List AV)->AV.okNs n cl vs=true->AV.frees (n+64*i) vs=true
  |[],_=>rfl
  | v::r,h=>by
    simp only[AV.okNs,aas]at h;simp only[AV.frees,AV.okN_free hi v h.1,AV.okNs_free hi r h.2,aft]
end
theorem AF.okN_free(hi:i∉cl):(f:AF)->f.okN n cl=true->f.free (n+64*i)=true
  |.rep _ _ _ _,h=>gH h hi
  |.own _ _ _ _ _ _,h=>gH h hi
  | .box _ b cs,h=>by
    simp only[AF.okN,aas]at h;simp only[AF.free,gH h.1 hi,wo hi h.2,aft]
  |.isn _ _,h=>gH h hi
  |.mp _ _ _ _ _,h=>gH h hi
  |.pt _ _ _ _ _ _ _,h=>gH h hi
  | .prt _ _ _ _ _,h=>by
    simp only[AF.okN,aas]at h;simp only[AF.free,gH h.1 hi,gH h.2 hi,aft]
  | .pbx _ _ _ _ _,h=>by
    simp only[AF.okN,aas]at h;simp only[AF.free,gH h.1 hi,gH h.2 hi,aft]
  | .hol _ _ _ _ _ _ _,h=>by
    simp only[AF.okN,aas]at h;simp only[AF.free,gH h.1 hi,wo hi h.2,aft]
def aqA(C:Cx)(n N nt:Nat)(cls:List (List Nat))(ops:List Oper)(es:List Ent)(i:Nat):Bool:=match ops[i]?,es[i]? with
  |some o,some e=>e.u.av.okN n (i::cls.getD i [])&&e.u.fs.all (AF.okN n (i::cls.getD i []))&&(e.u.κ.isEmpty||(yk C o&&e.u.κ.all (λk=>Nat.ble 2 k)&&match e.ex with|none=>true|some _=>false)) &&
      (match e.d with|some d=>Nat.blt d nt|none=>true)&&(match C.K with|none=>true|some kd=>uU ops o||e.u.κ.all (λk=>Nat.ble N k||cq k kd)||(List.range i).all (λj=>!(pe cls i j)))&&(!(uU ops o)||e.u.κ.all (λk=>Nat.ble N k)||(List.range i).all (λj=>!(pe cls i j)))&&(match o.guard with|some (j,_)=>cq j (cls.getD i [])&&(match es[j]? with|some e'=>e'.d.isSome|none=>false)|none=>true)
  |_,_=>false
def vU:List Nat->Bool
  |[]=>true
  |a::r=>!(cq a r)&&vU r
def oE(n:Nat)(E:SE)(F:List AF):Bool:=E.all (λp=>p.2.okN n [])&&F.all (AF.okN n [])
def vE(C:Cx)(n N nt:Nat)(draw:Bool)(cls:List (List Nat))(ops:List Oper)(E:SE)(F:List AF)(es:List Ent):Bool:=
  (!draw||Gs ops cls)&&cls.all (λc=>c.all λj=>Nat.blt j ops.length)&&vU (sP ops)&&oE n E F&&(List.range ops.length).all (aqA C n N nt cls ops es)
end
section
variable [X:XTab] [G:GTab]
theorem qi{E E':SE}{t:Nat}{v:AV}(h:bc (E++E') t=some v):bc E t=some v\/bc E' t=some v:=by
 induction E with
 |nil=>exact .inr h
 |cons p r ih=>
  simp only[acK,bc]at h|-;grind
theorem qE{E:SE}{t:Nat}{v:AV}(h:bc E t=some v):(t,v)∈E:=by
 induction E with
 |nil=>simp[bc]at h
 |cons p r ih=>
  grind[bc,Nat.beq,Option.some.injEq,Nat.eq_of_beq_eq_true]
theorem CT{cl:List Nat}{g:List (Nat×Bool)}{d:Nat}{v:AV}:∀{es:List Ent} {j0:Nat},(d,v)∈zd cl g es j0->∃j e,es[j]?=some e/\e.d=some d/\v=e.u.av/\cq (j0+j) cl=true/\oA e.g g=true
 |[],_,h=>by simp[zd]at h
 | e::r,j0,h=>by
  have again:(d,v)∈zd cl g r (j0+1)->∃j e',(e::r)[j]?=some e'/\e'.d=some d/\v=e'.u.av/\cq (j0+j) cl=true/\oA e'.g g=true:=λh=>by obtain⟨j,e',h1,h2,h3,h4,h5⟩:=CT h;exact⟨j+1,e',by simpa using h1,h2,h3,by grind,h5⟩
  simp only[zd]at h;split at h
  ·rename_i d' hd;cases hb:(cq j0 cl&&oA e.g g)
   ·grind
   ·rw[hb]at h;simp only[f9]at h;rcases aaK.1 h with h|h
    ·simp only[aaE]at h;obtain⟨rfl,rfl⟩:=h;simp only[aas]at hb;exact⟨0,e,rfl,hd,rfl,hb.1,hb.2⟩
    grind
  grind
theorem xi{cls:List (List Nat)}{i:Nat}{clj:List Nat}{j:Nat}{f:AF}:∀{es:List Ent} {m0:Nat},si cls i clj j f es m0=false->∀{m:Nat} {e:Ent},es[m]?=some e->pe cls (m0+m) i=true->m0+m≠j->cq (m0+m) clj=false->lm e.u.κ f=false
 |[],_,_,m,e,he,_,_,_=>by simp at he
 | e'::r,m0,h,0,e,he,hm,hj,hc=>by
  simp at he;subst he;simp only[si,acV]at h;rw[acU]at hm hj hc;have hb:Nat.beq m0 j=false:=by
   cases hb:Nat.beq m0 j
   ·rfl
   simp_all
  grind[lm]
 |e'::r,m0,h,m+1,e,he,hm,hj,hc=>by simp only[si,acV]at h;simp at he;rw[show m0+(m+1)=m0+1+m by omega]at hm hj hc;exact xi h.2 he hm hj hc
theorem Dc{cls:List (List Nat)}{i:Nat}{cl:List Nat}{g:List (Nat×Bool)}{all:List Ent}{f:AF}:∀{es:List Ent} {j0:Nat},f∈Dk cls i cl g all es j0 ->
  ∃j e,es[j]?=some e/\f∈e.u.fs/\cq (j0+j) cl=true/\oA e.g g=true/\si cls i (cls.getD (j0+j) []) (j0+j) f all 0=false
 |[],_,h=>by simp[Dk]at h
 | e::r,j0,h=>by
  simp only[Dk,aa1]at h;rcases h with h|h
  ·cases hb:(cq j0 cl&&oA e.g g)
   ·grind
   ·rw[hb]at h;simp only[f9,ac0,acA]at h;simp only[aas]at hb;exact⟨0,e,rfl,h.1,hb.1,hb.2,h.2⟩
  ·obtain⟨j,e',h1,h2,h3,h4,h5⟩:=Dc h;exact⟨j+1,e',by simpa using h1,h2,by grind,h4,by grind⟩
theorem Er{ds:List Nat}{E:SE}{t:Nat}{v:AV}(h:bc (oM ds E) t=some v):bc E t=some v/\cq t ds=false:=by
 induction E with
 |nil=>simp[oM,bc]at h
 | cons p r ih=>
  simp only[oM]at h;cases hb:cq p.1 ds
  ·rw[hb]at h;simp only[aax,bc]at h|-;cases ht:Nat.beq t p.1
   ·grind
   simp_all
  ·rw[hb]at h;simp only[f9]at h;have:=ih h;refine⟨?_,this.2⟩;simp only[bc];cases ht:Nat.beq t p.1
   ·exact this.1
   simp_all
def chT(es:List Ent)(g:List (Nat×Bool)):Prop:=∀p∈g,∃e b,es[p.1]?=some e/\e.u.av=eK b/\b=p.2
theorem yC:∀{a b:List (Nat×Bool)},oA a b=true->∀p∈a,p∈b
 |a,[],h=>by simp only[oA]at h;rw[OW h];grind
 |a,q::r,h=>by
  simp only[oA,acO]at h;rcases h with h|h
  ·rw[OW h];grind
  ·exactλp hp=>aaw _ (yC h p hp)
section
variable {C:Cx} {P:Program} {n N nt:Nat} {cls:List (List Nat)} {ops:List Oper} {E:SE} {F:List AF} {es:List Ent}
theorem WE(hlen:es.length=ops.length)(hall:∀j o e,ops[j]?=some o->es[j]?=some e->wK C P n N cls ops E F o j (es.take j) e):∀(i:Nat) (e:Ent),es[i]?=some e->(ge e.ex↔chT es e.g):=by
 intro i;induction i using Nat.strongRecOn with
 | _ i ih=>
  intro e he;have hi:=(abC.1 he).1;have ho:ops[i]?=some (ops[i]'(by omega)):=abB _;obtain⟨_,hg,_⟩:=hall i _ e ho he;rcases hg with hg|⟨_,hg1,hg2⟩
  rotate_left
  ·rw[hg1,hg2];exact⟨λ_ p hp=>by simp at hp,λ_=>trivial⟩
  unfold ED at hg;split at hg
  ·simp only[no,aaE]at hg;obtain⟨h1,h2⟩:=hg;rw[<-h1,<-h2];exact⟨λ_ p hp=>by simp at hp,λ_=>trivial⟩
  ·rename_i j want _;split at hg
   ·rename_i e' he';split at hg
    ·rename_i b hb;simp only[no,aaE]at hg;obtain⟨h1,h2⟩:=hg;have hji:j<i:=by
      grind
     have hej:es[j]?=some e':=by grind
     have:=ih j hji e' hej;rw[<-h1,<-h2];have hlit:((bif want then b else !b)=true)↔b=want:=by grind
     constructor
     ·intro hx p hp;have hx':RP e'.ex=true/\(bif want then b else !b)=true:=by
       grind[ge,RP]
      rcases aaK.1 hp with rfl|hp
      ·grind
      ·exact this.1 (FJ.2 hx'.1) p hp
     ·intro hc;obtain⟨e2,b2,h3,h4,h5⟩:=hc (j,want) aaQ;rw[hej]at h3;simp only[no]at h3;subst h3;rw[hb]at h4;have hbb:b=b2:=by grind
      have hex:=FJ.1 (this.2 λp hp=>hc p (aaw _ hp));have hl:=hlit.2 (hbb.trans h5);cases hee:e'.ex with
      |none=>exact hl
      |some x=>rw[hee]at hex;simp only[RP]at hex;show(x&&_)=true;grind
    ·cases hg
   ·cases hg
theorem J8{es:List Ent}{e e':Ent}(h1:ge e.ex↔chT es e.g)(h2:ge e'.ex↔chT es e'.g)(hs:oA e'.g e.g=true)(hx:ge e.ex):ge e'.ex:=
 h2.2 λp hp=>h1.1 hx p (yC hs p hp)
def RJ(B nt:Nat)(cls:List (List Nat))(ops:List Oper)(E:SE)(F:List AF)(es:List Ent)(L0:List HA)(β:Vn)(listed:Nat->Bool)(a:Act)(w:World):Prop:=
 ∃(η:Vn) (c:bu) (ρ:dr),Rel nt ρ a/\(∀t v,bc E t=some v->(∀m o,ops[m]?=some o->listed m=true->o.dst≠some t)->ρ t=v.val η) /\
  (∀j e,es[j]?=some e->listed j=true->∀d,e.d=some d->(ge e.ex->ρ d=e.u.av.val η)/\(¬ge e.ex->ρ d=undef)) /\
  (∀f∈F,(∀m e,es[m]?=some e->listed m=true->ge e.ex->lm e.u.κ f=false)->(f.ha η).holds w c) /\
  ((∀A∈L0,A.holds w c)/\∀m,m<B->η.b m=β.b m/\η.h m=β.h m) /\
  (∀j e,es[j]?=some e->listed j=true->ge e.ex->∀f∈e.u.fs,(∀m e',es[m]?=some e'->listed m=true->ge e'.ex->m≠j->cq m (cls.getD j [])=false->lm e'.u.κ f=false)->(f.ha η).holds w c)
theorem uJ{κ:List Nat}{f:AF}(h:lm κ f=false):∀k∈f.uses,k∉κ:=by intro k hk hκ;have:=ake.1 h k hκ;exact this (mem_iff.2 hk)
theorem GS{o:Oper}{d:Nat}(ho:ops[i]?=some o)(hd:o.dst=some d):d∈sP ops:=
 List.mem_filterMap.2 ⟨o,abY ho,hd⟩
theorem M3:∀{l:List Oper} {i j:Nat} {o o':Oper} {d d':Nat},vU (sP l)=true->l[i]?=some o->l[j]?=some o'->o.dst=some d->o'.dst=some d'->i≠j->d≠d'
 |[],_,_,_,_,_,_,_,h,_,_,_,_=>by simp at h
 |q::l,0,0,_,_,_,_,_,_,_,_,_,hne=>absurd rfl hne
 |q::l,0,j+1,o,o',d,d',h,ho,ho',hd,hd',_=>by grind[sP,vU,Bool.not_eq_true',GS,mem_iff]
 |q::l,i+1,0,o,o',d,d',h,ho,ho',hd,hd',_=>by grind[sP,vU,Bool.not_eq_true',GS,mem_iff]
 | q::l,i+1,j+1,o,o',d,d',h,ho,ho',hd,hd',hne=>by
  simp at ho ho';refine M3 (l:=l) ?_ ho ho' hd hd' (by omega);cases hq:q.dst with
  |none=>simpa[sP,hq]using h
  |some dq=>
   have:sP (q::l)=dq::sP l:=by simp[sP,hq]
   rw[this]at h;simp only[vU,aas]at h;exact h.2
theorem pj{draw:Bool}(h:vE C n N nt draw cls ops E F es=true){o:Oper}{e:Ent}(ho:ops[i]?=some o)(he:es[i]?=some e) :
  e.u.av.okN n (i::cls.getD i [])=true/\(∀f∈e.u.fs,f.okN n (i::cls.getD i [])=true)/\(e.u.κ=[]\/(yk C o=true/\(∀k∈e.u.κ,2<=k)/\e.ex=none))/\(∀d,e.d=some d->Nat.blt d nt=true) /\
  (∀j w,o.guard=some (j,w)->cq j (cls.getD i [])=true/\∃e' d,es[j]?=some e'/\e'.d=some d)/\(uU ops o=true->(∃j,j<i/\pe cls i j=true)->∀k∈e.u.κ,N<=k)/\(∀kd,C.K=some kd->uU ops o=false->(∃j,j<i/\pe cls i j=true)->∀k∈e.u.κ,N<=k\/k∈kd):=by
 simp only[vE,aas]at h;have hi:=(abC.1 ho).1;have h1:=aaB.1 h.2 i (aev.2 hi);simp only[aqA,ho,he,aas]at h1;obtain⟨⟨⟨⟨⟨⟨a1,a2⟩,a3⟩,a4⟩,a8⟩,a6⟩,a5⟩:=h1;refine⟨a1,aaB.1 a2,?_,?_,?_,(λhs hj k hk=>by
  obtain⟨j,hj1,hj2⟩:=hj;rw[hs]at a6;simp only[acd,akq,acO]at a6;rcases a6 with a6|a6
  ·simp_all
  grind),(λkd hK hs hj k hk=>by
  obtain⟨j,hj1,hj2⟩:=hj;rw[hK]at a8;simp only[hs,akq,acO]at a8;rcases a8 with a8|a8
  ·have:=aaB.1 a8 k hk;simp only[acO]at this;exact this.imp aaA mem_iff.1
  grind)⟩
 ·grind[Nat.le_of_ble_eq_true,List.all_eq_true]
 ·grind
 ·intro j w hg;rw[hg]at a5;grind[Option.isSome_iff_exists]
theorem HG{cls:List (List Nat)}{i:Nat}{d:Nat}:∀{l:List Oper} {m0 m:Nat} {o:Oper},l[m]?=some o->o.dst=some d->pe cls (m0+m) i=true->d∈yK cls i l m0
 |[],_,_,_,h,_,_=>by simp at h
 |q::l,m0,0,o,h,hd,hm=>by grind[yK]
 |q::l,m0,m+1,o,h,hd,hm=>by simp at h;have:=HG (m0:=m0+1) h hd (by rwa [show m0+1+m=m0+(m+1)by omega]);simp only[yK];grind
theorem RZ{cls:List (List Nat)}{i:Nat}{ops:List Oper}:∀{l:List Oper} {m0:Nat},tj C cls ops i l m0=false->∀{m:Nat} {o:Oper},l[m]?=some o->i<m0+m->pe cls (m0+m) i=true->yk C o=true->uU ops o=true
 |[],_,_,m,o,h,_,_=>by simp at h
 |q::r,m0,h,0,o,ho,hi,hm=>by simp at ho;subst ho;simp only[tj,acV]at h;simp_all
 |q::r,m0,h,m+1,o,ho,hi,hm=>by simp only[tj,acV]at h;simp at ho;rw[show m0+(m+1)=m0+1+m by omega]at hi hm;exact RZ h.2 ho hi hm
theorem NQ{cls:List (List Nat)}{i:Nat}{ops:List Oper}:∀{l:List Oper} {m0:Nat},wn C cls ops i l m0=false->∀{m:Nat} {o:Oper},l[m]?=some o->i<m0+m->pe cls (m0+m) i=true->yk C o=true->uU ops o=false
 |[],_,_,m,o,h,_,_=>by simp at h
 |q::r,m0,h,0,o,ho,hi,hm=>by simp at ho;subst ho;simp only[wn,acV]at h;simp_all
 |q::r,m0,h,m+1,o,ho,hi,hm=>by simp only[wn,acV]at h;simp at ho;rw[show m0+(m+1)=m0+1+m by omega]at hi hm;exact NQ h.2 ho hi hm
theorem abl{draw:Bool}(hb:vE C n N nt draw cls ops E F es=true)(hlen:es.length=ops.length)(hall:∀j o e,ops[j]?=some o->es[j]?=some e->wK C P n N cls ops E F o j (es.take j) e)
  {listed:Nat->Bool}  {e:Ent} (he:es[i]?=some e) (hx:ge e.ex) (hf:listed i=false) (hcl:∀j,cq j (cls.getD i [])=true->listed j=true)
  (hun:∀m,m<ops.length->listed m=true->cq i (cls.getD m [])=false) {η:Vn} {ρ:dr} {w:World} {c:bu}
  (hE:∀t v,bc E t=some v->(∀m o,ops[m]?=some o->listed m=true->o.dst≠some t)->ρ t=v.val η)
  (hV:∀j e,es[j]?=some e->listed j=true->∀d,e.d=some d->(ge e.ex->ρ d=e.u.av.val η)/\(¬ge e.ex->ρ d=undef))
  (hB:∀f∈F,(∀m e,es[m]?=some e->listed m=true->ge e.ex->lm e.u.κ f=false)->(f.ha η).holds w c)
  (hR:∀j e,es[j]?=some e->listed j=true->ge e.ex->∀f∈e.u.fs,(∀m e',es[m]?=some e'->listed m=true->ge e'.ex->m≠j->cq m (cls.getD j [])=false->lm e'.u.κ f=false)->(f.ha η).holds w c) :
  nQ η ρ (A9 cls ops E i e.g (es.take i))/\aq w c ((rZ C N cls ops F i e.g (es.take i)).map (AF.ha η)):=by
 have hch:=WE hlen hall;have take_get:∀{j:Nat} {e':Ent},(es.take i)[j]?=some e'->es[j]?=some e'/\j<i:=λ{j e'} h=>by grind
 have nohit:∀(f:AF) (clj:List Nat) (j:Nat),si cls i clj j f (es.take i) 0=false->(tj C cls ops i ops 0=true->IM C.K N f=true)->(tj C cls ops i ops 0=false->wn C cls ops i ops 0=true->DW N f=true)->∀m e',es[m]?=some e'->listed m=true->m≠j->cq m clj=false->lm e'.u.κ f=false:=by
  intro f clj j hh hsafe hbel m e' hm hl hj hc;have hml:m<ops.length:=by grind
  have hom:ops[m]?=some ops[m]:=abB hml;have hmi:m≠i:=λe=>by grind
  have hmay:pe cls m i=true:=by grind[Nat.beq,absurd,pe,Nat.eq_of_beq_eq_true,Bool.not_false,Bool.and_self]
  rcases abL m i with h|h
  ·grind[xi]
  ·rcases(pj hb hom hm).2.2.1 with hk|⟨hk,h2,_⟩
   ·rw[hk];rfl
   ·cases hlt:tj C cls ops i ops 0
    ·have hsoft:=RZ hlt hom (by omega) (by grind) hk;cases hls:wn C cls ops i ops 0
     ·grind[NQ]
     ·have hs:=hbel hlt hls;have h3:=(pj hb hom hm).2.2.2.2.2.1 hsoft ⟨i,by omega,hmay⟩;refine ake.2 λk hk' hm' => ?_;have h4:k+1<=N:=aaA (aaB.1 hs k (mem_iff.1 hm'));grind
    ·have hs:=hsafe hlt;refine ake.2 λk hk' hm' => ?_;cases hK:C.K with
     |none=>
      rw[hK]at hs;have:=aaB.1 (show aiR f=true from hs) k (mem_iff.1 hm');have:=aaA this;grind
     | some kd=>
      rw[hK]at hs;simp only[IM,aas,acA]at hs;have h4:k+1<=N:=aaA (aaB.1 hs.1 k (mem_iff.1 hm'));cases hsoft:uU ops ops[m]
      ·rcases(pj hb hom hm).2.2.2.2.2.2 kd hK hsoft ⟨i,by omega,hmay⟩ k hk' with h5|h5
       ·omega
       ·have:=ake.1 hs.2 k h5;exact this hm'
      ·have h3:=(pj hb hom hm).2.2.2.2.2.1 hsoft ⟨i,by omega,hmay⟩ k hk';omega
 constructor
 ·intro t v hl;rcases qi hl with h|h
  ·obtain⟨j,e',h1,h2,rfl,h4,h5⟩:=CT (qE h);grind[J8]
  ·have h:=Er h;refine hE t v h.1 λm o hom hlm hdm=>?_;have hml:=(abC.1 hom).1;grind[Nat.beq,absurd,pe,Nat.eq_of_beq_eq_true,HG,Bool.not_false,Bool.and_self,mem_iff]
 ·intro A hA;obtain⟨f,hfm,rfl⟩:=aaG.1 hA;have hmem:f∈Dk cls i (cls.getD i []) e.g (es.take i) (es.take i) 0++F.filter (λf=>!(si cls i [] ops.length f (es.take i) 0))/\(tj C cls ops i ops 0=true->IM C.K N f=true)/\(tj C cls ops i ops 0=false->wn C cls ops i ops 0=true->DW N f=true):=by
   unfold rZ at hfm;grind
  obtain⟨hmem,hsafe,hbel⟩:=hmem;rcases aa1.1 hmem with h|h
  ·obtain⟨j,e',h1,h2,h4,h5,h6⟩:=Dc h;grind[J8]
  ·simp only[ac0,acA]at h;exact hB f h.1 λm e2 hm hl _=>nohit f [] ops.length h.2 hsafe hbel m e2 hm hl (by grind) rfl
end
end
end Go.Sm
