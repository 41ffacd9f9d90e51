/- Laws for the row. No condition. -/
import Derived.Laws.IdiomCopy
import Derived.Test.YtfhhiajfciblbaaGreatDoorSimG
import Derived.WalkSpells
import Derived.WideMake
import Derived.Lib.AppendStr
import Derived.Laws.Runes
namespace Go.Sm
variable {K σ π:List Nat} {t e0 t' kt e' et u:TypeId} {x y:Operand} {w:World} {sz i by_ off ci j X g:Nat} {z:Value} {S S' S2:Nat→Prop} {cs new vs:List Value} {α A:Type} {d:TypeDesc} {lo hi:Int} {khi:IntKind}
def eQ (h:Hd) (off:Nat):Addr:=match h.a with
 | some a=>⟨a.block,a.off+off,none⟩
 | none=>⟨0,off,none⟩
theorem wV (h:Hd) (x y:Nat) (b o:Nat) (hp:eQ h x=⟨b,o,none⟩):eQ h (x+y)=⟨b,o+y,none⟩:=by
 unfold eQ at hp ⊢
 grind
section
variable {P:Program} {ρ:dm} {L:List HA} {o:Oper} {N:Nat}
def aio (w:World) (c:bD) (t:Ty) (K:List Nat) (x:t.den) (p:Addr):Prop:=∃ y b off arr ty fz,p=⟨b,off,none⟩∧w.heap[b]? = some (.cells arr ty fz)∧off+t.sz≤arr.size ∧
 (arr.toList.drop off).take t.sz=t.fill x y∧bT w (fun b=>c b∈K) t x y
def El (L:List HA) (t:Ty) (K:List Nat) (v:t.den) (h:Hd) (x:Nat):Prop:=∀ w c,am w c L→aio w c t K v (eQ h x)
theorem Ix {ty:Ty} {xs:List ty.den} {h:Hd} {i:Int} {v:ty.den}  (j:Nat) (hj:L[j]? = some (.rep ty K xs h)) (hs:ty.sz=sz) (hv:ac xs i=some v) :
  El L ty K v h (i.toNat * sz):=fun w c hL=>by
 subst hs
 obtain ⟨ys,hr,hn,hle,hm,hc⟩:=hL.at hj
 obtain ⟨h0,hget,hlt⟩:=nN hv
 obtain ⟨y,hy,hry⟩:=hr.get hget
 rcases hc with ⟨ha',hcap⟩ | ⟨b,off,arr,tt,fz,ha',hS,hb,hfit,hcells⟩
 ·omega
 ·refine ⟨y,b,off+i.toNat * ty.sz,arr,tt,fz,by simp [eQ,ha'],hb,?_,?_,hry⟩
  ·have:(i.toNat+1) * ty.sz≤h.cap * ty.sz:=Yq _ (by omega)
   grind
  ·rw [← sv ty hget hy,← hcells,aeR,aev,acV,ZR]
   have:(i.toNat+1) * ty.sz≤xs.length * ty.sz:=Yq _ hlt
   grind
theorem ajr {ty:Ty} {e:TypeId} {xs:List ty.den} {h:Hd} {i:Int} {v:ty.den}  (j:Nat) (hj:L[j]? = some (.own ty e ci K xs h)) (hs:ty.sz=sz) (hv:ac xs i=some v) :
  El L ty K v h (i.toNat * sz):=fun w c hL=>by
 subst hs
 obtain ⟨ys,hr,hown,hcol⟩:=hL.at hj
 obtain ⟨h0,hget,hlt⟩:=nN hv
 obtain ⟨y,hy,hry⟩:=hr.get hget
 have hlen:=hown.1
 rcases hown.2 with ⟨_,hn0⟩ | ⟨g,cap,cur,tt,fz,hval',hg,_,hnc,hcm,hcur,htake⟩
 ·omega
 ·have hha:h.a=some ⟨g,0,none⟩:=by
   grind
  refine ⟨y,g,i.toNat * ty.sz,cur,tt,fz,by simp [eQ,hha],hg,?_,?_,hry⟩
  ·have:(i.toNat+1) * ty.sz≤cap * ty.sz:=Yq _ (by omega)
   grind
  ·rw [← sv ty hget hy,← htake,aeR,acV,ZR]
   have:(i.toNat+1) * ty.sz≤xs.length * ty.sz:=Yq _ hlt
   grind
theorem I4 {t u:Ty} {v:t.den} {v' : u.den} {h:Hd} {x fo:Nat} (pth:Pth t u) (hE:El L t K v h x) (hv:pth.get v=v') (ho:pth.off=fo):El L u K v' h (x+fo):=fun w c hL=>by
 subst hv ho
 obtain ⟨y,b,off,arr,tt,fz,hp,hb,hle,hcs,hr⟩:=hE w c hL
 have hl:=pth.le
 refine ⟨pth.refs y,b,off+pth.off,arr,tt,fz,wV h x _ b off hp,hb,by omega,?_,pth.rep v y hr⟩
 rw [← pth.cells v y,← hcs,aeR,aev,acV,ZR (by omega)]
theorem aj4 {n:Nat} {d:α} {f:α→Value} {hf : ∀ x,(f x).oneCell' = true}  {xs:List α} {h:Hd} {x:Nat} {i:Int} (hE:El L (.arr n α d f hf) K xs h x) (h0:decide (0≤i∧i<n)=true) :
  El L (.one α f hf) K (xs.getD i.toNat d) h (x+i.toNat):=fun w c hL=>by
 obtain ⟨y,b,off,arr,ty,fz,hp,hb,hle,hcs,hr⟩:=hE w c hL
 have hi0:0≤i∧i<n:=Yd h0
 have hlt:i.toNat<n:=by omega
 refine ⟨(),b,off+i.toNat,arr,ty,fz,wV h x _ b off hp,hb,by grind,?_,trivial⟩
 have h1:((arr.toList.drop off).take n)[i.toNat]? = some (f (xs.getD i.toNat d)):=by
  rw [show (arr.toList.drop off).take n=(Ty.arr n α d f hf).fill xs y from hcs]
  simp [Ty.fill,hlt]
 simp only [aew,if_pos hlt,ZT] at h1
 rw [show (Ty.one α f hf).sz=1 from rfl,List.take_one]
 simp only [Ty.fill]
 simp_all
theorem akm {e:TypeId} {ix:Operand} {k:IntKind} {i:Int} {ty:Ty} {xs:List ty.den} {h:Hd} {v:ty.den}   (j:Nat) (hj:L[j]? = some (.rep ty K xs h)) (ho:o.op = .indexAddr t x ix)
  (ht:P.underlying t=some (.slice e)) (hi:TI P e sz by_ z) (hx:aR ρ x=h.val) (hix:aR ρ ix = .int k i) (hv:ac xs i=some v) :
  br P ρ o L (.pointer (some (eQ h (i.toNat * sz)))):=fun ev w c he hL=>by
 subst he
 have htihi:=hi; clear hi
 obtain ⟨inf,hi,_,rfl,_⟩:=htihi.get
 obtain ⟨ys,hr,hn,hle,hm,hc⟩:=hL.at hj
 obtain ⟨h0,hget,hlt⟩:=nN hv
 rcases hc with ⟨ha',hcap⟩ | ⟨b,off,arr,tt,fz,ha',hS,hb,hfit,hcells⟩
 ·omega
 ·have hi0:0≤i∧i<(h.n:Int):=⟨h0,by omega⟩
  simp [execOp,ho,hx,hix,Instr.indexAt,asIntOf,run_underlying ht,sizeOf,typeInfo,hi,ha',hi0,fj,Result.andThen,eQ]
theorem vz {f:α→Value} {hf : ∀ x,(f x).oneCell' = true}  {h:Hd}  {v:α} (hE:El L (.one α f hf) K v h X) (ho:o.op = .load t x)
  (ht:P.underlying t=some d) (hd:lP d=false) (hx:aR ρ x = .pointer (some (eQ h X))):br P ρ o L (f v):=fun ev w c he hL=>
 by
 obtain ⟨y,b,off,arr,ty,fz,hp,hb,hle,hcs,hr⟩:=hE w c hL
 exact RH (L:=.elem (.one α f hf) [c b] v (eQ h X)::L) 0 rfl ho ht hd hx ev w c he (am.cons ⟨y,b,off,arr,ty,fz,hp,by simp,hb,hle,hcs,trivial⟩ hL)
theorem ye {ty:Ty}  {h:Hd}  {xs:List ty.den} (hE:El L (.slice ty) K xs h X) (ho:o.op = .load t x)
  (ht:P.underlying t=some d) (hd:lP d=false) (hx:aR ρ x = .pointer (some (eQ h X))):c9 P ρ o L [] Hd.val (fun h=>[.rep ty K xs h]):=wH fun ev w c ha hL=>by
 obtain ⟨y,b,off,arr,tt,fz,hp,hb,hle,hcs,hr⟩:=hE w c hL
 rw [hp] at hx
 have hc:w.cell? ⟨b,off,none⟩=some (Hd.val y):=by
  rw [mQ hb]
  have:=XZ (·[0]?) hcs
  simpa [Ty.fill,aew] using this
 exact ⟨y,by simp [execOp,ho,ha,hx,vm ht hd hc],am.cons hr (am.nil _ _)⟩
theorem eT {ty:Ty}  {h:Hd}  {v:ty.den}   (hE:El L ty K v h X) (ho:o.op = .load t x)
  (ht:P.underlying t=some d) (hd:lP d=true) (hi:TI P t sz by_ z) (hs:sz=ty.sz) (hx:aR ρ x = .pointer (some (eQ h X))) :
  c9 P ρ o L [] (fun y:ty.Refs=>.agg (ty.fill v y).toArray) (fun y=>facts ty K v y):=wH fun ev w c ha hL=>by
 have htihi:=hi; clear hi
 obtain ⟨i,hi,_,rfl,_⟩:=htihi.get
 obtain ⟨y,b,off,arr,tt,fz,hp,hb,hle,hcs,hr⟩:=hE w c hL
 rw [hp] at hx
 refine ⟨y,?_,qp ty v y hr⟩
 simp [execOp,ho,ha,hx,vI ht hd hi hb (off:=off) (cs:=ty.fill v y) (by grind) (by grind)]
def pp (L:List HA) (K:List Nat) (t:Ty) (v:t.den) (off:Nat) (new:List Value) (v' : t.den):Prop:=∀ w c,am w c L→∀ r,bT w (fun b=>c b∈K) t v r →
 ∃ r',bT w (fun b=>c b∈K) t v' r' ∧ off+new.length≤t.sz∧(t.fill v r).take off++new++(t.fill v r).drop (off+new.length)=t.fill v' r' ∧ ∀ u∈new,u.oneCell' = true
def pO {α:Type} (n:Nat) (d:α) (xs:List α) (i:Nat) (x:α):List α:=(List.range n).map fun j=>if j=i then x else xs.getD j d
theorem ago {n:Nat} {d:α} {f:α→Value} {hf : ∀ x,(f x).oneCell' = true}  {v:List α} {x:α} {i:Int} (h0:decide (0≤i∧i<n)=true) :
  pp L K (.arr n α d f hf) v i.toNat [f x] (pO n d v i.toNat x):=fun _ _ _ _ _=>by
 have hi0:0≤i∧i<n:=Yd h0
 have hlt:i.toNat<n:=by omega
 refine ⟨(),trivial,by grind,?_,by grind⟩
 apply aac
 intro j
 simp only [Ty.fill,pO,XM,List.length_nil,afu]
 simp only [agE,Wu,Xz,ade,agw,XM,List.length_nil]
 rw [ZR (by omega)]
 by_cases h1:j<i.toNat
 ·grind
 ·by_cases h2:j=i.toNat
  ·grind
  ·simp only [h1,show ¬ j<i.toNat+(0+1) by omega,XB,ZT,show i.toNat+1+(j - (i.toNat+(0+1)))=j by omega]
   grind
theorem afm {a b:Ty} {v:a.den×b.den}   {x:a.den} (hs:pp L K a v.1 off new x):pp L K (.pair a b) v off new (x,v.2):=fun w c hL r hr=>by
 obtain ⟨r',h1,h2,h3,h4⟩:=hs w c hL r.1 hr.1
 refine ⟨(r',r.2),⟨h1,hr.2⟩,by grind,?_,h4⟩
 have hl:=a.fill_length v.1 r.1
 simp only [Ty.fill]
 grind
theorem afU {a b:Ty} {v:a.den×b.den} {off':Nat}  {x:b.den} (hs:pp L K b v.2 off new x) (ho:a.sz+off=off'):pp L K (.pair a b) v off' new (v.1,x):=fun w c hL r hr=>by
 subst ho
 obtain ⟨r',h1,h2,h3,h4⟩:=hs w c hL r.2 hr.2
 refine ⟨(r.1,r'),⟨hr.1,h1⟩,by grind,?_,h4⟩
 have hl:=a.fill_length v.1 r.1
 simp only [Ty.fill]
 rw [← h3,Z9,YB,Yr (l:=a.fill v.1 r.1) (by omega),X2 (as:=a.fill v.1 r.1) (by omega),show a.sz+off - (a.fill v.1 r.1).length=off by omega,
  show a.sz+off+new.length - (a.fill v.1 r.1).length=off+new.length by omega]
 simp
theorem ajf {v:Nd} {n:List Value}  {z:Ty.nodeT.den} (h:pp L K Ty.nodeT v.tup off n z):pp L K .node v off n (Nd.of z):=fun w c hL r hr=>by
 obtain ⟨r',p1,q1,e1,o1⟩:=h w c hL ((),(),(),r) ⟨trivial,trivial,trivial,oF.1 hr⟩
 exact ⟨r'.2.2.2,oF.2 p1.2.2.2,q1,e1,o1⟩
theorem AP (t:Ty) : ∀ {xs:List t.den} {ys:List t.Refs} {i:Nat} {x x' : t.den} {y y' : t.Refs} {off:Nat} {new:List Value},xs.length=ys.length→xs[i]? = some x→ys[i]? = some y →
  off+new.length≤t.sz→(t.fill x y).take off++new++(t.fill x y).drop (off+new.length)=t.fill x' y' →
  (cellsOf t xs ys).take (i * t.sz+off)++new++(cellsOf t xs ys).drop (i * t.sz+off+new.length)=cellsOf t (xs.set i x') (ys.set i y')
 | a::xs,b::ys,0,x,x',y,y',off,new,hl,hx,hy,ho,hf=>by
  simp at hx hy; subst hx hy
  have f:=t.fill_length a b
  simp only [List.set_cons_zero,cellsOf,← hf]
  grind
 | a::xs,b::ys,i+1,x,x',y,y',off,new,hl,hx,hy,ho,hf=>by
  simp at hx hy
  have f:=t.fill_length a b
  have ih:=AP t (xs:=xs) (ys:=ys) (i:=i) (by simpa using hl) hx hy ho hf
  simp only [List.set_cons_succ,cellsOf,← ih]
  have e:(i+1) * t.sz=(t.fill a b).length+i * t.sz:=by grind
  rw [e,age,Z9,YB,Yr (l:=t.fill a b) (by omega),X2 (as:=t.fill a b) (by omega),Nat.add_sub_cancel_left,
   show (t.fill a b).length+(i * t.sz+off)+new.length - (t.fill a b).length=i * t.sz+off+new.length by omega]
  simp
 | [],_,_,_,_,_,_,_,_,_,hx,_,_,_=>by simp at hx
 | _::_,[],_,_,_,_,_,_,_,hl,_,_,_,_=>by simp at hl
theorem yF (g:Nat) (t:TypeId) (fz:Nat×Nat) : ∀ (vs:List Value) (o:Nat) (cur:Array Value) (w:World),w.heap[g]? = some (.cells cur t fz)→o+vs.length≤cur.size →
  w.setCells g o vs=w.setRow g (cur.toList.take o++vs++cur.toList.drop (o+vs.length)).toArray
 | [],o,cur,w,hg,_=>by
  have e:(cur.toList.take o++[]++cur.toList.drop (o+([]:List Value).length)).toArray=cur:=by simp
  rw [e,setRow_self w g cur t fz hg]; rfl
 | v::r,o,cur,w,hg,hl=>by
  simp only [XM] at hl
  show (w.setCell ⟨g,o,none⟩ v).setCells g (o+1) r=_
  rw [setCell_eq_setRow w g o cur t fz v hg,yF g t fz r (o+1) _ _ (setRow_heap w g cur _ t fz hg) (by simp; omega),setRow_setRow]
  congr 2
  have h2:=list_seg_step cur.toList o v r (by simp; omega)
  grind
theorem mL (P:Program) (g o:Nat) (t:TypeId) (fz:Nat×Nat) (vs:List Value) (cur:Array Value) (w:World) (hg:w.heap[g]? = some (.cells cur t fz)) (hfz:fz=(0,0)∨cur.size≤fz.1) (hl:o+vs.length≤cur.size) (h1 : ∀ v∈vs,v.oneCell' = true) :
  (storeCells ⟨g,o,none⟩ vs 0).run P w = .ok () (w.setRow g (cur.toList.take o++vs++cur.toList.drop (o+vs.length)).toArray):=by
 have hc : ∀ j,j<vs.length→(w.cell? ⟨g,o+0+j,none⟩).isSome=true:=fun j hj=>by
  have:o+j<cur.size:=by omega
  simp [World.cell?,hg,this]
 have hf : ∀ j,j<vs.length→w.frozen? ⟨g,o+0+j,none⟩=false:=fun j hj=>by
  obtain ⟨lo,hi'⟩:=fz
  simp only [World.frozen?,hg,aaH,ZL]
  grind
 rw [run_storeCells_cells g o vs 0 w hc hf h1,Yk,yF g t fz vs o cur w hg hl]
theorem J5 {e:TypeId} {ty:Ty}   {xs:List ty.den} {h:Hd} {i:Int} {v v' : ty.den} {esz:Nat} {val:Value}  (j:Nat) (hj:L[j]? = some (.own ty e ci K xs h))
  (ho:o.op = .store t x y) (hi:TI P t sz by_ z) (hx:aR ρ x = .pointer (some (eQ h X))) (hX:X=i.toNat * esz+off) (hesz:esz=ty.sz) (hv:ac xs i=some v) (hy:aR ρ y=val) (hval:val.cells=new.toArray) (hl:Nat.beq new.length sz=true)
  (hs:pp L K ty v off new v') (hK:K.all (fun k=>!(Nat.beq k ci))=true):c9 P ρ o L [ci] (fun _:Unit=>undef) (fun _=>[.own ty e ci K (xs.set i.toNat v') h]):=by
 intro a ev w c next Q ha hL hn
 have htihi:=hi; clear hi
 obtain ⟨inf,hi,_,rfl,_⟩:=htihi.get
 subst hesz hX
 obtain ⟨ys,hr,hown,hcol⟩:=hL.at hj
 obtain ⟨h0,hget,hlt⟩:=nN hv
 obtain ⟨y',hy',hry⟩:=hr.get hget
 obtain ⟨r',hr',hfit,hfill,hones⟩:=hs w c hL y' hry
 rcases hown.2 with ⟨_,hn0⟩ | ⟨g,cap,cur,tt,fz,hval',hg,hmark,hnc,hcm,hcur,htake⟩
 ·omega
 have hha:h.a=some ⟨g,0,none⟩:=by
  grind
 have hpat:eQ h (i.toNat * ty.sz+off)=⟨g,i.toNat * ty.sz+off,none⟩:=by simp [eQ,hha]
 have hcg:c g=ci:=hcol g (by rw [hval']; rfl)
 have hlen:=hown.1
 have h1:(i.toNat+1) * ty.sz≤xs.length * ty.sz:=Yq _ hlt
 rw [aaO,agz] at h1
 have h2:xs.length * ty.sz≤cap * ty.sz:=Yq _ hnc
 have hst:=mL P g (i.toNat * ty.sz+off) tt fz new cur w hg (hmark.imp (fun h=>h.2) (fun h=>h.2)) (by omega) hones
 have hrun:(execOp ev o).run P w = .ok .skip (w.setRow g (cur.toList.take (i.toNat * ty.sz+off)++new++cur.toList.drop (i.toNat * ty.sz+off+new.length)).toArray):=by
  simp [execOp,ho,ha,hx,hpat,hy,Instr.storeAt,Instr.sureAddr,storeVar,hval,sizeOf,typeInfo,hi,Wo hl,hst,Result.andThen]
 rw [hrun]
 have hrow:=setRow_heap w g cur (cur.toList.take (i.toNat * ty.sz+off)++new++cur.toList.drop (i.toNat * ty.sz+off+new.length)).toArray tt fz hg
 have hstp:=tY (w:=w) (c:=c) (b:=g) (i:=ci) (cs:=(cur.toList.take (i.toNat * ty.sz+off)++new++cur.toList.drop (i.toNat * ty.sz+off+new.length)).toArray) hcg
 have hno : ∀ k∈K,k∉[ci]:=fun k hk hm=>by
  have:=W3.1 hK k hk
  simp_all
 have hset:=(hr.set i.toNat hr').mono (bT.keep (hstp.keeps hno) ty)
 have hcl:=cT ty hr.length
 have hcs:=AP ty hr.length hget hy' hfit hfill
 refine hn () _ c hstp (am.cons ⟨ys.set i.toNat r',hset,⟨by grind, .inr ⟨g,cap,_,tt,fz,by grind,hrow,hmark.imp id (fun h=>⟨h.1,?_⟩),by grind,hcm,?_,?_⟩⟩,hcol⟩ (am.nil _ _))
 ·grind
 ·grind
 ·have hcl2:cur.toList.length=cap * ty.sz:=by grind
  rw [Y4,← hcs,← htake]
  apply aac
  intro m
  simp only [agE,aew,ZT,Xz,Wu,aaT]
  rw [ZR (show i.toNat * ty.sz+off≤cur.toList.length by omega),ZR (show xs.length * ty.sz≤cur.toList.length by omega),ZR (show i.toNat * ty.sz+off≤xs.length * ty.sz by omega)]
  grind
theorem nM {k:IntKind} {i:Int} {y:Nat} {code:BoundsCode} (h0:0≤i) (h1:i≤y):(Instr.sliceBound (.int k i) y code).run P w = .ok i.toNat w:=by
 simp [Instr.sliceBound,asIntOf,h0,h1,Result.andThen]
def Hd.cut (h:Hd) (lo hi sz:Nat):Hd:=⟨if h.cap=lo then h.a else h.a.map (·.add (lo * sz)),hi - lo,h.cap - lo⟩
theorem xG {e:TypeId} {lo hi:Option Operand} {klo:IntKind} {i j:Int} {ty:Ty}  {xs:List ty.den} {h:Hd}   (k:Nat) (hk:L[k]? = some (.rep ty K xs h)) (ho:o.op = .slice t x lo hi none)
  (ht:P.underlying t=some (.slice e)) (hti:TI P e sz by_ z) (hs:sz=ty.sz) (hx:aR ρ x=h.val) (hlo:lo.elim (i=0) (fun q=>aR ρ q = .int klo i)) (hhi:hi.elim (j=xs.length) (fun q=>aR ρ q = .int khi j))
  (hb:decide (0≤i∧i≤j∧j≤xs.length)=true) :
  c9 P ρ o L [] (fun _:Unit=>(h.cut i.toNat j.toNat sz).val) (fun _=>[.rep ty K ((xs.take j.toNat).drop i.toNat) (h.cut i.toNat j.toNat sz)]):=wH fun ev w c he hL=>by
 have htihi:=hti; clear hti
 obtain ⟨inf,hi',_,rfl,_⟩:=htihi.get
 obtain ⟨h0,hij,hj⟩:=Yd hb
 obtain ⟨ys,hr,hn,hle,hm,hc⟩:=hL.at hk
 refine ⟨(),?_,am.cons ⟨(ys.take j.toNat).drop i.toNat,(hr.take _).drop _,?_⟩ (am.nil _ _)⟩
 ·have b3:(Instr.sliceBounds true h.n h.cap (lo.map (aR ρ)) (hi.map (aR ρ)) none).run P w = .ok (i.toNat,j.toNat,h.cap) w:=by
   have b1 : ∀ q,hi=some q→(Instr.sliceBound (aR ρ q) h.cap .sliceAcap).run P w = .ok j.toNat w:=fun q hq=>by
    subst hq; simp at hhi; rw [hhi]; exact nM (by omega) (by omega)
   have b2 : ∀ q,lo=some q→(Instr.sliceBound (aR ρ q) j.toNat .sliceB).run P w = .ok i.toNat w:=fun q hq=>by
    subst hq; simp at hlo; rw [hlo]; exact nM h0 (by omega)
   cases hi with
   | none=>
    simp at hhi; subst hhi
    cases lo with
    | none=>simp at hlo; subst hlo; simp [Instr.sliceBounds,hn]
    | some q=>have:=b2 q rfl; simp only [W4] at this; simp [Instr.sliceBounds,hn,this,Result.andThen]
   | some q' =>
    have h1:=b1 q' rfl
    cases lo with
    | none=>simp at hlo; subst hlo; simp [Instr.sliceBounds,h1,Result.andThen]
    | some q=>simp [Instr.sliceBounds,h1,b2 q rfl,Result.andThen]
  have:(Instr.slice t h.val (lo.map (aR ρ)) (hi.map (aR ρ)) none).run P w = .ok (h.cut i.toNat j.toNat inf.size).val w:=by
   simp [Instr.slice,run_underlying ht,b3,sizeOf,typeInfo,hi',Hd.cut,Result.andThen]
  simp [execOp,ho,he,hx,Instr.sliceAt,run_underlying ht,this,Result.andThen]
 ·refine ⟨by simp [Hd.cut]; omega,by simp [Hd.cut]; omega,by simp [Hd.cut]; omega,?_⟩
  rcases hc with ⟨ha',hcap⟩ | ⟨b,off,arr,tt,fz,ha',hS,hbb,hfit,hcells⟩
  ·exact .inl ⟨trivial,by simp [Hd.cut,hcap]⟩
  ·right
   by_cases hcap:h.cap=i.toNat
   ·refine ⟨b,off,arr,tt,fz,by simp [Hd.cut,hcap,ha'],hS,hbb,by simp [Hd.cut,hcap]; omega,?_⟩
    have hjn:j.toNat=i.toNat:=by omega
    have e:(xs.take j.toNat).drop i.toNat=[]:=by rw [hjn]; simp
    have e' : (ys.take j.toNat).drop i.toNat=[]:=by rw [hjn]; simp
    rw [e,e']
    simp [cellsOf]
   ·have hm2:h.cap * ty.sz=i.toNat * ty.sz+(h.cap - i.toNat) * ty.sz:=by rw [← aaO]; congr 1; omega
    refine ⟨b,off+i.toNat * inf.size,arr,tt,fz,by simp [Hd.cut,hcap,ha',fj],hS,hbb,?_,?_⟩
    ·simp only [Hd.cut]; rw [hs]; omega
    ·have hl:=hr.length
     have e1:((xs.take j.toNat).drop i.toNat).length=j.toNat - i.toNat:=by simp; omega
     have e2:j.toNat * ty.sz≤xs.length * ty.sz:=Yq _ (by omega)
     rw [e1,rt ty i.toNat (by simp [hl]),jz ty j.toNat hl,← hcells,hs,acV,aeR,aev,ZR e2,← Nat.sub_mul]
end
abbrev aiT (k:IntKind) (a b:Int):Int:=k.wrap (a * 2 ^ (min b.toNat k.bits))
abbrev nF (k:IntKind) (a b:Int):Int:=a.fdiv (2 ^ (min b.toNat k.bits))
def pH (op:BinOp) (k:IntKind) (x y:Int):Int:=match op with
 | .and=>k.wrap (BitVec.ofInt k.bits x &&& BitVec.ofInt k.bits y).toNat
 | .or=>k.wrap (BitVec.ofInt k.bits x ||| BitVec.ofInt k.bits y).toNat
 | .xor=>k.wrap (BitVec.ofInt k.bits x ^^^ BitVec.ofInt k.bits y).toNat
 | .andNot=>k.wrap (BitVec.ofInt k.bits x &&& ~~~(BitVec.ofInt k.bits y)).toNat
 | _=>0
section
variable {P:Program} {ρ:dm} {L:List HA} {o:Oper} {N:Nat}
theorem akw {k k' : IntKind} {a b:Int} (ho:o.op = .binOp .shl t x y t') (hx:aR ρ x = .int k a) (hy:aR ρ y = .int k' b) (h0:decide (0≤b)=true) :
  br P ρ o L (.int k (aiT k a b)):=fun ev w c he _=>by
 have : ¬ b<0:=by grind
 subst he; simp [execOp,ho,hx,hy,cO,binOp,Op.shift,this,Result.andThen]
theorem akQ {op:BinOp} {k:IntKind} {a b:Int} (ho:o.op = .binOp op t x y t') (hop:op = .and∨op = .or∨op = .xor∨op = .andNot) (hx:aR ρ x = .int k a) (hy:aR ρ y = .int k b) :
  br P ρ o L (.int k (pH op k a b)):=fun ev w c he _=>by
 subst he
 rcases hop with rfl | rfl | rfl | rfl <;> simp [execOp,ho,hx,hy,cO,binOp,Op.intBits,pH,Result.andThen]
theorem akd {k k' : IntKind} {a b:Int} (ho:o.op = .binOp .shr t x y t') (hx:aR ρ x = .int k a) (hy:aR ρ y = .int k' b) (h0:decide (0≤b)=true) :
  br P ρ o L (.int k (nF k a b)):=fun ev w c he _=>by
 have : ¬ b<0:=by grind
 subst he; simp [execOp,ho,hx,hy,cO,binOp,Op.shift,this,Result.andThen]
theorem M9 {k:IntKind} {s:List UInt8} {i:Int} {b:UInt8} (ho:o.op = .index t x y) (ht:P.underlying t=some .string) (hx:aR ρ x = .string ⟨s.toArray⟩) (hy:aR ρ y = .int k i) (hv:ac s i=some b) :
  br P ρ o L (.int .u8 (b.toNat:Int)):=fun ev w c he _=>by
 subst he
 obtain ⟨h0,hg,hlt⟩:=nN hv
 have hb:(⟨s.toArray⟩:ByteArray)[i.toNat]? = some b:=by
  have h1:i.toNat<(⟨s.toArray⟩:ByteArray).size:=by simpa [ByteArray.size] using hlt
  rw [getElem?_pos (⟨s.toArray⟩:ByteArray) i.toNat h1]
  have h2:=(XW.1 hg).2
  show some (s.toArray[i.toNat]'(by grind))=some b
  grind
 have hm:(if 0≤i then (⟨s.toArray⟩:ByteArray)[i.toNat]? else none)=some b:=by grind
 simp only [execOp,ho,hx,hy,Instr.index,asIntOf,Sem.run_bind,Sem.run_pure,Result.andThen_ok,run_underlying ht]
 rw [hm]
 rfl
theorem M3 {e:TypeId} {k:IntKind} {n:Nat}  {dd:α} {f:α→Value} {hf : ∀ x,(f x).oneCell' = true} {v:List α} {i:Int}    (ho:o.op = .index t x y) (ht:P.underlying t=some (.array n e))
  (he:P.underlying e=some d) (hd:lP d=false) (hi:TI P e 1 by_ z) (hx:aR ρ x = .agg ((Ty.arr n α dd f hf).fill v ()).toArray) (hy:aR ρ y = .int k i) (h0:decide (0≤i∧i<n)=true):br P ρ o L (f (v.getD i.toNat dd)):=fun ev w c hev _=>by
 subst hev
 have htihi:=hi; clear hi
 obtain ⟨inf,hi,_,hs,_⟩:=htihi.get
 have hi0:0≤i∧i<n:=Yd h0
 have hlt:i.toNat<n:=by omega
 simp [execOp,ho,hx,hy,Instr.index,asIntOf,run_underlying ht,hi0,sizeOf,typeInfo,hi,hs,part,ng he hd,Ty.fill,hlt,Result.andThen]
theorem Tf {a b:Bool} (ho:o.op = .binOp .eql t x y t') (ht:P.underlying t=some .bool) (hx:aR ρ x = .bool a) (hy:aR ρ y = .bool b):br P ρ o L (.bool (a==b)):=fun ev w c he _=>by
 subst he
 have hg:(eqGuard .eql t x y (.bool a) (.bool b)).run P w = .ok () w:=rfl
 have hb:(binOp .eql t (.bool a) (.bool b)).run P w = .ok (.bool (a==b)) w:=by
  simp only [binOp]; simp [run_equal_bool w t a b ht]
 simp only [execOp,ho,hx,hy,Sem.run_bind,hg,hb,Result.andThen_ok,Sem.run_pure]
theorem Tl {a b:Bool} (ho:o.op = .binOp .neq t x y t') (ht:P.underlying t=some .bool) (hx:aR ρ x = .bool a) (hy:aR ρ y = .bool b):br P ρ o L (.bool (a != b)):=fun ev w c he _=>by
 subst he
 have hg:(eqGuard .neq t x y (.bool a) (.bool b)).run P w = .ok () w:=rfl
 have hb:(binOp .neq t (.bool a) (.bool b)).run P w = .ok (.bool (a != b)) w:=by
  simp only [binOp]; simp [run_equal_bool w t a b ht,bne]
 simp only [execOp,ho,hx,hy,Sem.run_bind,hg,hb,Result.andThen_ok,Sem.run_pure]
def Hd.isNil (h:Hd):Bool:=h.a.isNone
theorem O9 {e:TypeId} {h:Hd} (ho:o.op = .binOp .eql t x y t') (ht:P.underlying t=some (.slice e)) (hx:aR ρ x=h.val) (hy:aR ρ y = .slice none 0 0):br P ρ o L (.bool h.isNil):=fun ev w c he _=>by
 subst he
 have hg:(eqGuard .eql t x y h.val (.slice none 0 0)).run P w = .ok () w:=rfl
 simp [execOp,ho,hx,hy,hg,Lib.run_eql_slice_nil w t e h.a h.n h.cap 0 0 ht,Hd.isNil,Result.andThen]
theorem LL {e:TypeId} {h:Hd} (ho:o.op = .binOp .neq t x y t') (ht:P.underlying t=some (.slice e)) (hx:aR ρ x=h.val) (hy:aR ρ y = .slice none 0 0):br P ρ o L (.bool (!h.isNil)):=fun ev w c he _=>by
 subst he
 have hg:(eqGuard .neq t x y h.val (.slice none 0 0)).run P w = .ok () w:=rfl
 simp [execOp,ho,hx,hy,hg,run_neq_slice_nil_any w t e h.a h.n h.cap 0 0 ht,Hd.isNil,Result.andThen]
theorem CW (ty:Ty) (x:ty.den) (y:ty.Refs) : ∀ n:Nat,cellsOf ty (List.replicate n x) (List.replicate n y)=(madeCells (ty.fill x y).toArray (n * ty.sz)).toList
 | 0=>by simp [cellsOf,madeCells]
 | n+1=>by
  have ih:=CW ty x y n
  have hl:=ty.fill_length x y
  rw [afz,afz,eV ty (by simp),ih]
  simp only [madeCells,Array.toList_map,Array.toList_range,cellsOf,XE]
  rw [show (n+1) * ty.sz=n * ty.sz+ty.sz by grind,List.range_add,Zy]
  congr 1
  apply aac
  intro j
  simp only [afG,aa1,aeL]
  by_cases hj:j<ty.sz
  ·simp [hj,hl,Nat.mod_eq_of_lt hj]
  grind
theorem yc {α β:Type} {R:α→β→Prop} {x:α} {y:β} (h:R x y) : ∀ n:Nat,cp R (List.replicate n x) (List.replicate n y)
 | 0=>trivial
 | n+1=>by rw [adE,adE]; exact ⟨h,yc h n⟩
theorem yR {e:TypeId} {kl kc:IntKind} {l:Int} {ty:Ty} {v:ty.den} {r:ty.Refs}    (ho:o.op = .makeSlice t x y) (ht:P.underlying t=some (.slice e)) (hi:TI P e sz by_ z) (hs:sz=ty.sz)
  (hz:z.cells=(ty.fill v r).toArray) (hf:pw L (facts ty K v r)) (hx:aR ρ x = .int kl l) (hy:aR ρ y = .int kc l) (hb:decide (0≤l∧l * by_≤281474976710656∧l≤maxLen)=true) (hN:Nat.ble 2 N=true) :
  c9 P ρ o L [] Hd.val (fun h=>[.own ty e N K (List.replicate l.toNat v) h]):=by
 intro a ev w c next Q ha hL hk
 have htihi:=hi; clear hi
 obtain ⟨inf,hi,hzz,rfl,rfl⟩:=htihi.get
 obtain ⟨h0,hb1,hb2⟩:=Yd hb
 have hm:=run_make (P:=P) w t e inf z ht hi hzz kl kc l l h0 (aeq _) (by grind) (by simp [maxLen] at hb2; omega)
 have hex:(execOp ev o).run P w = .ok (.value (.slice (some ⟨w.heap.size,0,none⟩) l.toNat l.toNat)) (w.alloc (.cells (madeCells z.cells (l.toNat * inf.size)) e)):=by
  simp [execOp,ho,ha,hx,hy,hm,Result.andThen]
 rw [hex]
 have hst:=uf (w:=w) (c:=c) hN (.cells (madeCells z.cells (l.toNat * inf.size)) e)
 have hc:cellsOf ty (List.replicate l.toNat v) (List.replicate l.toNat r)=(madeCells z.cells (l.toNat * inf.size)).toList:=by rw [CW,hz,hs]
 have hr:=bT.keep (hst.keeps (K:=K) (by simp)) ty v r (xS ty v r (hf.heap hL))
 refine hk ⟨some ⟨w.heap.size,0,none⟩,l.toNat,l.toNat⟩ _ _ hst (am.cons ⟨List.replicate l.toNat r,?_,⟨?_, .inr ⟨w.heap.size,l.toNat,madeCells z.cells (l.toNat * inf.size),e,(0,0),by simp,heap_alloc_new w _, .inl ⟨rfl,rfl⟩,by simp,by omega,?_,?_⟩⟩,fun g hg=>?_⟩ (am.nil _ _))
 ·exact yc hr l.toNat
 ·rw [hc]; simp [size_madeCells,hs]
 ·rw [size_madeCells,hs]
 ·rw [hc]
  apply Yr
  simp [size_madeCells,hs]
 ·simp [Value.ownBlock] at hg
  grind
theorem Lg {e:TypeId} {j:Int} {ty:Ty}   {xs:List ty.den} {h:Hd}   (k:Nat) (hk:L[k]? = some (.own ty e' ci K xs h)) (ho:o.op = .slice t x none (some y) none)
  (ht:P.underlying t=some (.slice e)) (hti:TI P e sz by_ z) (hs:sz=ty.sz) (hx:aR ρ x=h.val) (hhi:aR ρ y = .int khi j) (hb:decide (0≤j∧j≤xs.length)=true) :
  c9 P ρ o L [] (fun _:Unit=>(h.cut 0 j.toNat sz).val) (fun _=>[.own ty e' ci K (xs.take j.toNat) (h.cut 0 j.toNat sz)]):=fun a ev w c next Q ha hL hn=>by
 obtain ⟨h0,hj⟩:=Yd hb
 refine xG (L:=.rep ty (ci::K) xs h::L) (i:=0) (klo:=.i64) 0 rfl ho ht hti hs hx rfl hhi (by grind) a ev w c next Q ha (am.cons (zP (hL.at hk)) hL) fun y w' c' hst _=>hn () w' c' hst ?_
 refine am.cons ?_ (am.nil _ _)
 obtain ⟨ys,hr,hown,hcol⟩:(HA.own ty e' ci K xs h).holds w' c' := am.at (hL.stp0 hst) hk
 have hlen:=hr.length
 refine ⟨ys.take j.toNat,hr.take _,?_,fun g hg=>?_⟩
 ·refine ⟨by rw [cT ty (by simp [hlen])],?_⟩
  rcases hown.2 with ⟨h1,h2⟩ | ⟨g,cap,cur,tt,fz,h1,h3,h2,h4,h5,h6,h7⟩
  ·left
   simp only [Hd.val,Value.slice.injEq] at h1
   have:j.toNat=0:=by omega
   simp [Hd.cut,h1,this]
  ·right
   simp only [Hd.val,Value.slice.injEq] at h1
   obtain ⟨a1,a2,a3⟩:=h1
   refine ⟨g,cap,cur,tt,fz,?_,h3,h2,by simp; omega,h5,h6,?_⟩
   ·simp [Hd.cut,a1,a3,fj]; omega
   ·rw [jz ty _ hlen,← h7,acV,Xz,ZR (by omega),ZR (Yq _ (by omega))]
 ·refine hcol g ?_
  rcases hown.2 with ⟨h1,h2⟩ | ⟨g',cap,cur,tt,fz,h1,_⟩
  ·simp only [Hd.val,Value.slice.injEq] at h1
   simp [Hd.cut,h1,Value.ownBlock] at hg
  ·simp only [Hd.val,Value.slice.injEq] at h1
   obtain ⟨a1,a2,a3⟩:=h1
   simp only [Hd.val,Value.ownBlock,a1,Wn]
   simpa [Hd.cut,a1,fj,Value.ownBlock] using hg
def pX (v u:Hd) (sz:Nat) (lo hi:Int):Prop:=0≤lo∧(v.n:Int)=hi - lo∧(lo<hi→∃ b o,v.a=some ⟨b,o,none⟩∧eQ u (lo.toNat * sz)=⟨b,o,none⟩)
theorem E7 {e:TypeId} {ix:Operand} {k:IntKind} {i:Int} {v u:Hd} (hp : ∀ w c,am w c L→pX v u sz lo hi) (ho:o.op = .indexAddr t x ix)
  (ht:P.underlying t=some (.slice e)) (hi' : TI P e sz by_ z) (hx:aR ρ x=v.val) (hix:aR ρ ix = .int k i) (hb:decide (0≤i∧i<hi - lo)=true) :
  br P ρ o L (.pointer (some (eQ u ((lo+i).toNat * sz)))):=fun ev w c he hL=>by
 subst he
 have htihi:=hi'; clear hi'
 obtain ⟨inf,hi',_,rfl,_⟩:=htihi.get
 obtain ⟨h0,hn,hpt⟩:=hp w c hL
 obtain ⟨b0,b1⟩:=Yd hb
 obtain ⟨b,of_,ha,hu⟩:=hpt (by omega)
 have hi0:0≤i∧i<(v.n:Int):=⟨b0,by omega⟩
 have e1:(lo+i).toNat * inf.size=lo.toNat * inf.size+i.toNat * inf.size:=by rw [← aaO]; congr 1; omega
 rw [e1,wV u _ _ b of_ hu]
 simp [execOp,ho,hx,hix,Instr.indexAt,asIntOf,run_underlying ht,sizeOf,typeInfo,hi',ha,hi0,fj,Result.andThen]
theorem ZZ {a b:α} (h:some a=some b):a=b:=by cases h; rfl
end
def lD (π:List Nat) (σ:List Nat):Prop:=∃ l,σ=l++π
theorem eK (π:List Nat):lD π π:=⟨[],rfl⟩
theorem Bt (h:lD π σ):lD π (j::σ):=by
 obtain ⟨l,rfl⟩:=h
 exact ⟨j::l,rfl⟩
theorem KY {k:Nat} (hj:lD (j::π) σ) (hk:lD (k::π) σ):j=k:=by
 obtain ⟨l,rfl⟩:=hj
 obtain ⟨m,hm⟩:=hk
 have e:(l++[j])++π=(m++[k])++π:=by simpa using hm
 have e2:=List.append_cancel_right e
 simp_all
theorem sF (h:lD (j::π) σ):σ≠π:=by
 obtain ⟨l,rfl⟩:=h
 intro e
 have:=XZ List.length e
 grind
theorem bK.ren {w:World} {S S' : Nat→Prop} {d d' : Nat→List Nat} {f:List Nat→List Nat} {π0:List Nat} (hf : ∀ σ k,lD π0 σ→f (k::σ)=k::f σ)
  (hk : ∀ b,S b→lD π0 (d b)→S' b∧d' b=f (d b)):(t:Ty)→(ε:EI)→(π:List Nat)→(x:t.den)→(y:t.Refs)→lD π0 π→bK w S d t ε π x y→bK w S' d' t ε (f π) x y
 | .one _ _ _,_,_,_,_,_,_=>trivial
 | .arr _ _ _ _ _,_,_,_,_,_,_=>trivial
 | .unit,_,_,_,_,_,_=>trivial
 | .pair a b,ε,π,x,y,hu,h=>by
  have h1:=bK.ren hf hk a _ (0::π) _ _ (Bt hu) h.1
  have h2:=bK.ren hf hk b _ (1::π) _ _ (Bt hu) h.2
  rw [hf π 0 hu] at h1
  rw [hf π 1 hu] at h2
  exact ⟨h1,h2⟩
 | .slice t,ε,π,xs,h,hu,hh=>by
  rcases hh with hh | ⟨e,s,he,ys,h1,h2,h3⟩
  ·exact .inl hh
  ·refine .inr ⟨e,s,he,ys,h1,?_,fun j x y hx hy=>?_⟩
   ·obtain ⟨g,cap,cur,g1,g2,g3,g4,g5,g6,g7,g8⟩:=h2
    obtain ⟨k1,k2⟩:=hk g g7 (by grind)
    exact ⟨g,cap,cur,g1,g2,g3,g4,g5,g6,k1,by rw [k2,g8]⟩
   ·have:=bK.ren hf hk t s (j::π) x y (Bt hu) (h3 j x y hx hy)
    grind
theorem bK.re {d d' : Nat→List Nat} {π0:List Nat} (hk : ∀ b,S b→lD π0 (d b)→S' b∧d' b=d b) {t:Ty} {ε:EI}  {x:t.den} {y:t.Refs} (hu:lD π0 π) (h:bK w S d t ε π x y):bK w S' d' t ε π x y:=
 bK.ren (f:=id) (fun _ _ _=>rfl) hk t ε π x y hu h
theorem jG.of (h : ∀ b,S b→S' b):jG w w S S' := fun b _ hb=>⟨h b hb,rfl⟩
def jU (w:World) (S:Nat→Prop) (t:Ty) (s:EI) (xs:List t.den) (ys:List t.Refs):Prop:=∃ d:Nat→List Nat,∀ (j:Nat) (x:t.den) (y:t.Refs),xs[j]? = some x→ys[j]? = some y→bK w S d t s [j] x y
def xD (w:World) (S:Nat→Prop) (t:Ty) (s:EI) (xs:List t.den) (ys:List t.Refs) (k:Nat):Prop:=∃ d:Nat→List Nat,∀ (j:Nat) (x:t.den) (y:t.Refs),j≠k→xs[j]? = some x→ys[j]? = some y→bK w S d t s [j] x y
section
variable {w w' : World} {S S' S1 S2:Nat→Prop} {t:Ty} {s:EI} {xs xs' : List t.den} {ys ys' : List t.Refs}
theorem jU.keep (hk:jG w w' S S') (h:jU w S t s xs ys):jU w' S' t s xs ys:=h.imp fun _ h j x y hx hy=>bK.keep hk t s [j] x y (h j x y hx hy)
theorem xD.keep {k:Nat} (hk:jG w w' S S') (h:xD w S t s xs ys k):xD w' S' t s xs ys k:=h.imp fun _ h j x y hj hx hy=>bK.keep hk t s [j] x y (h j x y hj hx hy)
theorem jU.nil:jU w S t s [] ys:=⟨fun _=>[],fun j x y hx=>by simp at hx⟩
theorem jU.take (n:Nat) (h:jU w S t s xs ys):jU w S t s (xs.take n) (ys.take n):=h.imp fun _ h j x y hx hy=>h j x y (by
  grind) (by
  grind)
theorem jU.one {x:t.den} {y:t.Refs} (h:cM w S t s x y):jU w S t s [x] [y]:=by
 obtain ⟨d,h⟩:=h
 refine ⟨fun b=>d b++[0],fun j x' y' hx hy=>?_⟩
 cases j with
 | zero=>
  simp at hx hy
  subst hx hy
  exact bK.ren (f:=fun σ=>σ++[0]) (π0:=[]) (fun _ _ _=>rfl) (fun b hb _=>⟨hb,rfl⟩) t s [] x y ⟨[],rfl⟩ h
 | succ j=>simp at hx
def ux (n:Nat):List Nat→List Nat
 | []=>[]
 | [j]=>[n+j]
 | k::a::r=>k::ux n (a::r)
theorem MC {n k:Nat} (h:lD [j] σ):ux n (k::σ)=k::ux n σ:=by
 cases σ with
 | nil=>obtain ⟨l,hl⟩:=h; simp at hl
 | cons a r=>rfl
open Classical in
theorem jU.append (hl:ys.length=xs.length) (hd : ∀ b,S1 b→¬ S2 b) (h1 : ∀ b,S1 b→S b) (h2 : ∀ b,S2 b→S b) (ha:jU w S1 t s xs ys) (hb:jU w S2 t s xs' ys'):jU w S t s (xs++xs') (ys++ys'):=by
 obtain ⟨d1,ha⟩:=ha
 obtain ⟨d2,hb⟩:=hb
 refine ⟨fun b=>if S1 b then d1 b else ux xs.length (d2 b),fun j x y hx hy=>?_⟩
 by_cases hj:j<xs.length
 ·rw [aa5 hj] at hx
  rw [aa5 (by omega)] at hy
  exact bK.re (π0:=[j]) (fun b hb _=>⟨h1 b hb,by simp [hb]⟩) (eK _) (ha j x y hx hy)
 ·rw [aaW (by omega)] at hx
  rw [aaW (by omega),hl] at hy
  have:=bK.ren (f:=ux xs.length) (π0:=[j - xs.length]) (S' := S) (d' := fun b=>if S1 b then d1 b else ux xs.length (d2 b)) (fun σ k hu=>MC hu) (fun b hb _=>⟨h2 b hb,by
   have : ¬ S1 b:=fun h=>hd b h hb
   simp [this]⟩) t s _ x y (eK _) (hb _ x y hx hy)
  simp only [ux] at this
  rwa [show xs.length+(j - xs.length)=j by omega] at this
theorem zf {k:Nat} (h:lD [j] σ):(k::σ).dropLast=k::σ.dropLast:=by
 cases σ with
 | nil=>obtain ⟨l,hl⟩:=h; simp at hl
 | cons a r=>rfl
theorem jU.pick {k:Nat} {x:t.den} {y:t.Refs} (hx:xs[k]? = some x) (hy:ys[k]? = some y) (h:jU w S t s xs ys) :
  ∃ Sk:Nat→Prop,(∀ b,Sk b→S b)∧cM w Sk t s x y∧xD w (fun b=>S b∧¬ Sk b) t s xs ys k:=by
 obtain ⟨d,h⟩:=h
 refine ⟨fun b=>S b∧lD [k] (d b),fun b hb=>hb.1,⟨fun b=>(d b).dropLast,?_⟩,d,fun j x' y' hj hx' hy' => ?_⟩
 ·have:=bK.ren (f:=List.dropLast) (π0:=[k]) (S' := fun b=>S b∧lD [k] (d b)) (d' := fun b=>(d b).dropLast) (fun σ _ hu=>zf hu) (fun b hb hu=>⟨⟨hb,hu⟩,rfl⟩) t s [k] x y (eK _) (h k x y hx hy)
  exact this
 ·exact bK.re (π0:=[j]) (fun b hb hu=>⟨⟨hb,fun hc=>hj (KY hu hc.2)⟩,rfl⟩) (eK _) (h j x' y' hx' hy')
open Classical in
theorem xD.put {k:Nat} {x:t.den} {y:t.Refs} (hk:k<xs.length) (hl:ys.length=xs.length) (hd : ∀ b,S1 b→¬ S2 b) (h1 : ∀ b,S1 b→S b) (h2 : ∀ b,S2 b→S b) (h:xD w S1 t s xs ys k) (hx:cM w S2 t s x y):jU w S t s (xs.set k x) (ys.set k y):=by
 obtain ⟨d1,h⟩:=h
 obtain ⟨d2,hx⟩:=hx
 refine ⟨fun b=>if S1 b then d1 b else d2 b++[k],fun j x' y' hx' hy' => ?_⟩
 by_cases hj:j=k
 ·subst hj
  rw [Yc (by omega)] at hx' hy'
  cases hx'; cases hy'
  refine bK.ren (f:=fun σ=>σ++[j]) (π0:=[]) (fun _ _ _=>rfl) (fun b hb _=>⟨h2 b hb,?_⟩) t s [] x y ⟨[],rfl⟩ hx
  have : ¬ S1 b:=fun h=>hd b h hb
  simp [this]
 ·rw [Zd (by omega)] at hx' hy'
  exact bK.re (π0:=[j]) (fun b hb _=>⟨h1 b hb,by simp [hb]⟩) (eK _) (h j x' y' hj hx' hy')
end
def yZ (w:World) (e:TypeId) (sz:Nat) (v:Hd) (n:Nat) (cells:List Value) (g:Nat):Prop:=
 ∃ (cap:Nat) (cur:Array Value),v=⟨some ⟨g,0,none⟩,n,cap⟩∧w.heap[g]? = some (.cells cur e (0,0))∧n≤cap∧cap≤maxLen∧cur.size=cap * sz∧cur.toList.take (n * sz)=cells
theorem cM.split {t:Ty} {e:TypeId} {s:EI} {xs:List t.den} {v:Hd} (h:cM w S (.slice t) (.row e s) xs v):(v=⟨none,0,0⟩∧xs=[])∨∃ ys g,ys.length=xs.length∧yZ w e t.sz v xs.length (cellsOf t xs ys) g∧S g ∧
  jU w (fun b=>S b∧b≠g) t s xs ys:=by
 obtain ⟨d,h⟩:=h
 rcases h with h | ⟨e',s',he,ys,h1,⟨g,cap,cur,g1,g2,g3,g4,g5,g6,g7,g8⟩,h3⟩
 ·exact .inl h
 ·cases he
  refine .inr ⟨ys,g,h1,⟨cap,cur,g1,g2,g3,g4,g5,g6⟩,g7,d,fun j x y hx hy=>?_⟩
  refine bK.re (π0:=[j]) (fun b hb hu=>⟨⟨hb,fun e=>?_⟩,rfl⟩) (eK _) (h3 j x y hx hy)
  subst e
  rw [g8] at hu
  exact sF hu rfl
open Classical in
theorem cM.join {t:Ty} {e:TypeId} {s:EI} {xs:List t.den} {ys:List t.Refs} {v:Hd}  (hl:ys.length=xs.length) (hr:yZ w e t.sz v xs.length (cellsOf t xs ys) g) (hg:S g) (h2 : ∀ b,S2 b→S b) (hn : ¬ S2 g) (hF:jU w S2 t s xs ys) :
  cM w S (.slice t) (.row e s) xs v:=by
 obtain ⟨cap,cur,g1,g2,g3,g4,g5,g6⟩:=hr
 obtain ⟨d,hF⟩:=hF
 refine ⟨fun b=>if S2 b then d b else [], .inr ⟨e,s,rfl,ys,hl,⟨g,cap,cur,g1,g2,g3,g4,g5,g6,hg,by simp [hn]⟩,fun j x y hx hy=>?_⟩⟩
 exact bK.re (π0:=[j]) (fun b hb _=>⟨h2 b hb,by simp [hb]⟩) (eK _) (hF j x y hx hy)
open Classical in
theorem Hol.join {t:Ty} {e:TypeId} {s:EI} {xs:List t.den} {ys:List t.Refs} {v:Hd} {k:Nat}  (he:gz e = .row e0 s) (hl:ys.length=xs.length) (hk:k<xs.length) (hcs:cs.length=t.sz) (hr:yZ w e0 t.sz v xs.length (fA t xs ys k cs) g) (hg:S g) (h2 : ∀ b,S2 b→S b)
  (hn : ¬ S2 g) (hF:xD w S2 t s xs ys k):kG w S t e xs v k cs:=by
 obtain ⟨cap,cur,g1,g2,g3,g4,g5,g6⟩:=hr
 obtain ⟨d,hF⟩:=hF
 refine ⟨fun b=>if S2 b then d b else [],e0,s,ys,he,hl,hk,hcs,⟨g,cap,cur,g1,g2,g3,g4,g5,g6,hg,by simp [hn]⟩,fun j x y hj hx hy=>?_⟩
 exact bK.re (π0:=[j]) (fun b hb _=>⟨h2 b hb,by simp [hb]⟩) (eK _) (hF j x y hj hx hy)
theorem kG.split {t:Ty} {e:TypeId} {xs:List t.den} {v:Hd} {k:Nat}  (h:kG w S t e xs v k cs) : ∃ ys g e0 s,gz e = .row e0 s∧ys.length=xs.length∧k<xs.length∧cs.length=t.sz ∧
  yZ w e0 t.sz v xs.length (fA t xs ys k cs) g∧S g∧xD w (fun b=>S b∧b≠g) t s xs ys k:=by
 obtain ⟨d,e0,s,ys,he,hl,hk,hcs,⟨g,cap,cur,g1,g2,g3,g4,g5,g6,g7,g8⟩,h3⟩:=h
 refine ⟨ys,g,e0,s,he,hl,hk,hcs,⟨cap,cur,g1,g2,g3,g4,g5,g6⟩,g7,d,fun j x y hj hx hy=>?_⟩
 refine bK.re (π0:=[j]) (fun b hb hu=>⟨⟨hb,fun e=>?_⟩,rfl⟩) (eK _) (h3 j x y hj hx hy)
 subst e
 rw [g8] at hu
 exact sF hu rfl
theorem si {t:Ty} {xs:List t.den} {ys:List t.Refs} {k:Nat} {x:t.den} {y:t.Refs} (hl:ys.length=xs.length) (hx:xs[k]? = some x) (hy:ys[k]? = some y):fA t xs ys k (t.fill x y)=cellsOf t xs ys:=by
 have hk:k<xs.length:=(XW.1 hx).1
 have e1:xs=xs.take k++(x::xs.drop (k+1)):=by
  rw [← (XW.1 hx).2,List.getElem_cons_drop,abo]
 have e2:ys=ys.take k++(y::ys.drop (k+1)):=by
  rw [← (XW.1 hy).2,List.getElem_cons_drop,abo]
 unfold fA
 conv=>rhs; rw [e1,e2,eV t (by simp; omega)]
 simp [cellsOf]
theorem sq {t:Ty} {xs:List t.den} {ys:List t.Refs} {k:Nat} {x:t.den} {y:t.Refs} (hl:ys.length=xs.length) (hk:k<xs.length):cellsOf t (xs.set k x) (ys.set k y)=fA t xs ys k (t.fill x y):=by
 rw [← si (k:=k) (x:=x) (y:=y) (by simpa using hl) (by grind) (by grind)]
 unfold fA
 rw [List.take_set_of_le (Xw k),List.take_set_of_le (Xw k),List.drop_set_of_lt (by omega),List.drop_set_of_lt (by omega)]
theorem cM.open {t:Ty} {e:TypeId} {s:EI} {xs:List t.den} {v:Hd} {k:Nat} {x:t.den} (he:gz e = .row e0 s) (hx:xs[k]? = some x) (h:cM w S (.slice t) (gz e) xs v) :
  ∃ (y:t.Refs) (S2:Nat→Prop),(∀ b,S2 b→S b)∧kG w (fun b=>S b∧¬ S2 b) t e xs v k (t.fill x y)∧cM w S2 t s x y:=by
 have hk:k<xs.length:=(XW.1 hx).1
 rw [he] at h
 rcases h.split with ⟨_,rfl⟩ | ⟨ys,g,hl,hr,hg,hF⟩
 ·simp at hk
 ·obtain ⟨y,hy⟩ : ∃ y,ys[k]? = some y:=⟨ys[k]'(by omega),YK _⟩
  obtain ⟨Sk,h1,h2,h3⟩:=hF.pick hx hy
  refine ⟨y,Sk,fun b hb=>(h1 b hb).1,?_,h2⟩
  rw [← si hl hx hy] at hr
  exact Hol.join he hl hk (t.fill_length x y) hr ⟨hg,fun hb=>(h1 g hb).2 rfl⟩ (S2:=fun b=>(S b∧b≠g)∧¬ Sk b) (fun b hb=>⟨hb.1.1,hb.2⟩) (fun hb=>hb.1.2 rfl) h3
theorem kG.close {S1:Nat→Prop} {t:Ty} {e:TypeId} {s:EI} {xs:List t.den} {v:Hd} {k:Nat} {x:t.den} {y:t.Refs} (he:gz e = .row e0 s) (hd : ∀ b,S1 b→¬ S2 b) (h1 : ∀ b,S1 b→S b) (h2 : ∀ b,S2 b→S b)
  (h:kG w S1 t e xs v k (t.fill x y)) (hx:cM w S2 t s x y):cM w S (.slice t) (gz e) (xs.set k x) v:=by
 obtain ⟨ys,g,e0',s',he',hl,hk,hcs,hr,hg,hF⟩:=h.split
 rw [he] at he' ⊢
 cases he'
 rw [← sq hl hk] at hr
 refine cM.join (ys:=ys.set k y) (S2:=fun b=>(S1 b∧b≠g)∨S2 b) (by simpa using hl) (by grind) (h1 g hg) (fun b hb=>hb.elim (fun h=>h1 b h.1) (h2 b)) (fun hb=>hb.elim (fun h=>h.2 rfl) (hd g hg)) ?_
 exact xD.put hk hl (S1:=fun b=>S1 b∧b≠g) (fun b hb=>hd b hb.1) (fun b hb=>.inl hb) (fun b hb=>.inr hb) hF hx
theorem cM.fst {a b:Ty} {ε:EI} {x:a.den×b.den} {y:a.Refs×b.Refs} (h:cM w S (.pair a b) ε x y) : ∃ Sa:Nat→Prop,(∀ g,Sa g→S g)∧cM w Sa a ε.fst x.1 y.1∧cM w (fun g=>S g∧¬ Sa g) b ε.snd x.2 y.2:=by
 obtain ⟨d,h1,h2⟩:=h
 refine ⟨fun g=>S g∧lD [0] (d g),fun g h=>h.1,⟨fun g=>(d g).dropLast,?_⟩,⟨fun g=>(d g).dropLast,?_⟩⟩
 ·exact bK.ren (f:=List.dropLast) (π0:=[0]) (S' := fun g=>S g∧lD [0] (d g)) (d' := fun g=>(d g).dropLast) (fun σ _ hu=>zf hu) (fun g hb hu=>⟨⟨hb,hu⟩,rfl⟩) a _ [0] _ _ (eK _) h1
 ·exact bK.ren (f:=List.dropLast) (π0:=[1]) (S' := fun g=>S g∧¬ (S g∧lD [0] (d g))) (d' := fun g=>(d g).dropLast) (fun σ _ hu=>zf hu) (fun g hb hu=>⟨⟨hb,fun hc=>by have:=KY hu hc.2; omega⟩,rfl⟩) b _ [1] _ _ (eK _) h2
open Classical in
theorem cM.pair {Sa Sb:Nat→Prop} {a b:Ty} {ε:EI} {x:a.den×b.den} {y:a.Refs×b.Refs} (hd : ∀ g,Sa g→¬ Sb g) (h1 : ∀ g,Sa g→S g) (h2 : ∀ g,Sb g→S g) (ha:cM w Sa a ε.fst x.1 y.1) (hb:cM w Sb b ε.snd x.2 y.2):cM w S (.pair a b) ε x y:=by
 obtain ⟨d1,ha⟩:=ha
 obtain ⟨d2,hb⟩:=hb
 refine ⟨fun g=>if Sa g then d1 g++[0] else d2 g++[1],?_,?_⟩
 ·exact bK.ren (f:=fun σ=>σ++[0]) (S' := S) (d' := fun g=>if Sa g then d1 g++[0] else d2 g++[1]) (π0:=[]) (fun _ _ _=>rfl) (fun g hg _=>⟨h1 g hg,by simp [hg]⟩) a _ [] _ _ ⟨[],rfl⟩ ha
 ·refine bK.ren (f:=fun σ=>σ++[1]) (S' := S) (d' := fun g=>if Sa g then d1 g++[0] else d2 g++[1]) (π0:=[]) (fun _ _ _=>rfl) (fun g hg _=>⟨h2 g hg,?_⟩) b _ [] _ _ ⟨[],rfl⟩ hb
  have : ¬ Sa g:=fun h=>hd g h hg
  simp [this]
theorem cM.plain {c:bD}  {t:Ty} {e:TypeId} {s:EI}  {xs:List t.den} {v:Hd} (hp:t.pureB=true) (h:cM w (fun b=>c b=i) (.slice t) (.row e s) xs v):HA.holds w c (.own t e i K xs v):=by
 rcases h.split with ⟨rfl,rfl⟩ | ⟨ys,g,hl,⟨cap,cur,rfl,g2,g3,g4,g5,g6⟩,hg,_⟩
 ·exact BW w c
 ·refine ⟨ys,kP hl fun j x y _ _=>bT.pure t x y hp,⟨cT t hl.symm, .inr ⟨g,cap,cur,e,(0,0),rfl,g2, .inl ⟨rfl,rfl⟩,g3,g4,g5,g6⟩⟩,fun g' hg' => ?_⟩
  simp only [Value.ownBlock,Wn] at hg'
  grind
theorem sH {w:World} {S:Nat→Prop} {d:Nat→List Nat}:(t:Ty)→(ε:EI)→(π:List Nat)→(x:t.den)→(y:t.Refs)→t.pureB=true→bK w S d t ε π x y
 | .one _ _ _,_,_,_,_,_=>trivial
 | .arr _ _ _ _ _,_,_,_,_,_=>trivial
 | .unit,_,_,_,_,_=>trivial
 | .pair a b,ε,π,x,y,h=>by
  simp only [Ty.pureB,Wp] at h
  exact ⟨sH a _ _ _ _ h.1,sH b _ _ _ _ h.2⟩
 | .slice t,_,_,_,_,h=>by cases h
 | .node,_,_,_,_,h=>by cases h
 | .mp _ _,_,_,_,_,h=>by cases h
theorem cM.of_pure {t:Ty} {ε:EI} {x:t.den} {y:t.Refs} (h:t.pureB=true):cM w S t ε x y:=⟨fun _=>[],sH t ε [] x y h⟩
theorem cM.of_plain {c:bD}  {t:Ty} {e:TypeId} {s:EI}  {xs:List t.den} {v:Hd} (hp:t.pureB=true) (he:Nat.blt e 1048576=true) (h:HA.holds w c (.own t e i K xs v)):cM w (fun b=>c b=i) (.slice t) (.row e s) xs v:=by
 obtain ⟨ys,h1,h2,h3⟩:=h
 obtain ⟨a,n,cap⟩:=v
 rcases (h2.plain he).2 with ⟨hv,hn⟩ | ⟨g,cap',cur,hv,_,hg,g3,g4,g5,g6⟩
 ·simp only [Hd.val,Value.slice.injEq] at hv
  obtain ⟨rfl,rfl,rfl⟩:=hv
  exact ⟨fun _=>[], .inl ⟨rfl,Z1 hn⟩⟩
 ·have hcg:=h3 g (by rw [hv]; rfl)
  simp only [Hd.val,Value.slice.injEq] at hv
  obtain ⟨rfl,rfl,rfl⟩:=hv
  exact cM.join (S2:=fun _=>False) h1.length.symm ⟨cap,cur,rfl,hg,g3,g4,g5,g6⟩ hcg (fun _ h=>h.elim) (fun h=>h) ⟨fun _=>[],fun j x y _ _=>sH t s [j] x y hp⟩
theorem cM.nil {t:Ty} {ε:EI}:cM w S (.slice t) ε [] ⟨none,0,0⟩:=⟨fun _=>[], .inl ⟨rfl,rfl⟩⟩
section
variable {P:Program} {ρ:dm} {L:List HA} {o:Oper} {N:Nat}
theorem mA {t:Ty} {xs:List t.den} {ys:List t.Refs} {k:Nat} (hl:ys.length=xs.length) (hk:k<xs.length) (hcs:cs.length=t.sz) :
  (fA t xs ys k cs).length=xs.length * t.sz∧(cellsOf t (xs.take k) (ys.take k)).length=k * t.sz:=by
 have h1:=cT t (xs:=xs.take k) (ys:=ys.take k) (by simp; omega)
 have h2:=cT t (xs:=xs.drop (k+1)) (ys:=ys.drop (k+1)) (by simp; omega)
 simp only [Xz,aaT,ZR (Nat.le_of_lt hk)] at h1 h2
 refine ⟨?_,h1⟩
 simp only [fA,Wu,h1,h2,hcs]
 rw [← Nat.add_one_mul,← aaO]
 grind
theorem kG.at {t:Ty} {e:TypeId} {xs:List t.den} {v:Hd} {k:Nat}  (h:kG w S t e xs v k cs) : ∃ (g:Nat) (cur:Array Value) (e0:TypeId),v.a=some ⟨g,0,none⟩∧w.heap[g]? = some (.cells cur e0 (0,0))∧S g ∧
  k * t.sz+t.sz≤cur.size∧(cur.toList.drop (k * t.sz)).take t.sz=cs∧cs.length=t.sz:=by
 obtain ⟨d,e0,s,ys,he,hl,hk,hcs,⟨g,cap,cur,rfl,g2,g3,g4,g5,g6,g7,g8⟩,h3⟩:=h
 obtain ⟨c1,c2⟩:=mA (cs:=cs) hl hk hcs
 have h1:(k+1) * t.sz≤xs.length * t.sz:=Yq _ hk
 have h2:xs.length * t.sz≤cap * t.sz:=Yq _ g3
 rw [aaO,agz] at h1
 refine ⟨g,cur,e0,rfl,g2,g7,by omega,?_,hcs⟩
 have e1:(cur.toList.drop (k * t.sz)).take t.sz=((cur.toList.take (xs.length * t.sz)).drop (k * t.sz)).take t.sz:=by
  rw [aeR,acV,ZR (by omega)]
 rw [e1,g6]
 unfold fA
 grind
theorem T4 {ty:Ty} {e:TypeId}  {xs:List ty.den} {h:Hd} {k:Nat}  {v:Value}  (j:Nat) (hj:L[j]? = some (.hol ty e i xs h k cs)) (ho:o.op = .load t x) (ht:P.underlying t=some d)
  (hd:lP d=false) (hx:aR ρ x = .pointer (some (eQ h (k * ty.sz+off)))) (hv:cs[off]? = some v):br P ρ o L v:=fun ev w c he hL=>by
 subst he
 obtain ⟨g,cur,e0,h1,h2,_,h4,h5,h6⟩:=kG.at (hL.at hj)
 have hoff:off<ty.sz:=by grind
 have hp:eQ h (k * ty.sz+off)=⟨g,k * ty.sz+off,none⟩:=by simp [eQ,h1]
 have hc:w.cell? ⟨g,k * ty.sz+off,none⟩=some v:=by
  rw [mQ h2,← hv,← h5,aew,if_pos hoff,ZT,Array.getElem?_toList]
 simp [execOp,ho,hx,hp,vm ht hd (v:=v) (w:=w) hc,Result.andThen]
theorem MX {ty:Ty} {e:TypeId}  {xs:List ty.den} {h:Hd} {k:Nat} {cs':List Value}    (j:Nat) (hj:L[j]? = some (.hol ty e i xs h k cs)) (ho:o.op = .load t x) (ht:P.underlying t=some d)
  (hd:lP d=true) (hi:TI P t sz by_ z) (hx:aR ρ x = .pointer (some (eQ h (k * ty.sz+off)))) (hv:(cs.drop off).take sz=cs') (hl:Nat.beq cs'.length sz=true) (hfit:off+sz≤cs.length):br P ρ o L (.agg cs'.toArray):=fun ev w c he hL=>by
 subst he
 have htihi:=hi; clear hi
 obtain ⟨inf,hi,_,rfl,_⟩:=htihi.get
 obtain ⟨g,cur,e0,h1,h2,_,h4,h5,h6⟩:=kG.at (hL.at hj)
 have hp:eQ h (k * ty.sz+off)=⟨g,k * ty.sz+off,none⟩:=by simp [eQ,h1]
 have hcs:(cur.toList.drop (k * ty.sz+off)).take inf.size=cs' := by
  rw [← hv,← h5,aeR,aev,acV,ZR (by omega)]
 simp [execOp,ho,hx,hp,vI ht hd hi h2 (cs:=cs') (off:=k * ty.sz+off) (by grind) (Wo hl),Result.andThen]
theorem Du {A m B C new:List α} {n:Nat} (hA:A.length=n) (hm:off+new.length≤m.length) :
  (A++m++B++C).take (n+off)++new++(A++m++B++C).drop (n+off+new.length)=A++(m.take off++new++m.drop (off+new.length))++B++C:=by
 subst hA
 have e1:(A++m++B++C).take (A.length+off)=A++m.take off:=by
  rw [Yi,Yi,Z9,Yr (by omega),show A.length+off - A.length=off by omega,Z9,show off - m.length=0 by omega,aeO,XE]
 have e2:(A++m++B++C).drop (A.length+off+new.length)=m.drop (off+new.length)++B++C:=by
  rw [Yi,Yi,YB,X2 (by omega),Yv,show A.length+off+new.length - A.length=off+new.length by omega,YB,show off+new.length - m.length=0 by omega,Z3,Yi]
 grind
theorem J2 {ty:Ty} {e:TypeId}  {xs:List ty.den} {h:Hd} {k:Nat} {cs':List Value} {v:Value}  (j:Nat) (hj:L[j]? = some (.hol ty e i xs h k cs)) (ho:o.op = .store t x y) (hi:TI P t sz by_ z)
  (hx:aR ρ x = .pointer (some (eQ h (k * ty.sz+off)))) (hy:aR ρ y=v) (hv:v.cells=vs.toArray) (hl:Nat.beq vs.length sz=true) (hones:vs.all Value.oneCell' = true)
  (hin:Nat.ble (off+vs.length) cs.length=true) (hcs:cs.take off++vs++cs.drop (off+vs.length)=cs'):c9 P ρ o L [i] (fun _:Unit=>undef) (fun _=>[.hol ty e i xs h k cs']):=by
 intro a ev w c next Q ha hL hn
 have htihi:=hi; clear hi
 obtain ⟨inf,hi,_,rfl,_⟩:=htihi.get
 have hle:=Wt hin
 have hH:=hL.at hj
 obtain ⟨d,e0,s,ys,he,hlen,hk,hc0,⟨g,cap,cur,rfl,g2,g3,g4,g5,g6,g7,g8⟩,h3⟩:=(show kG w (fun b=>c b=i) ty e xs h k cs from hH)
 obtain ⟨c1,c2⟩:=mA (cs:=cs) hlen hk hc0
 have m1:(k+1) * ty.sz≤xs.length * ty.sz:=Yq _ hk
 have m2:xs.length * ty.sz≤cap * ty.sz:=Yq _ g3
 rw [aaO,agz] at m1
 have hcur:cur.toList=cellsOf ty (xs.take k) (ys.take k)++cs++cellsOf ty (xs.drop (k+1)) (ys.drop (k+1))++cur.toList.drop (xs.length * ty.sz):=by
  rw [show cellsOf ty (xs.take k) (ys.take k)++cs++cellsOf ty (xs.drop (k+1)) (ys.drop (k+1))=fA ty xs ys k cs from rfl,← g6,abo]
 have hp:eQ ⟨some ⟨g,0,none⟩,xs.length,cap⟩ (k * ty.sz+off)=⟨g,k * ty.sz+off,none⟩:=by simp [eQ]
 have hst:=mL P g (k * ty.sz+off) e0 (0,0) vs cur w g2 (.inl rfl) (by omega) (Af hones)
 have hrun:(execOp ev o).run P w = .ok .skip (w.setRow g (cur.toList.take (k * ty.sz+off)++vs++cur.toList.drop (k * ty.sz+off+vs.length)).toArray):=by
  simp [execOp,ho,ha,hx,hp,hy,Instr.storeAt,Instr.sureAddr,storeVar,hv,sizeOf,typeInfo,hi,Wo hl,hst,Result.andThen]
 rw [hrun]
 have e1:cur.toList.take (k * ty.sz+off)++vs++cur.toList.drop (k * ty.sz+off+vs.length)=cellsOf ty (xs.take k) (ys.take k)++cs' ++ cellsOf ty (xs.drop (k+1)) (ys.drop (k+1))++cur.toList.drop (xs.length * ty.sz):=by
  generalize hC:cur.toList.drop (xs.length * ty.sz)=C at hcur
  rw [hcur,← hcs]
  exact Du c2 hle
 rw [e1]
 have hc' : cs'.length=ty.sz:=by
  rw [← hcs]; simp only [Wu,Xz,aaT]; omega
 obtain ⟨c3,_⟩:=mA (cs:=cs') hlen hk hc'
 have hoth : ∀ (j:Nat) (x:ty.den) (y:ty.Refs),j≠k→xs[j]? = some x→ys[j]? = some y→bK w (fun b=>c b=i∧b≠g) d ty s [j] x y:=fun j x y hjk hx hy=>
  bK.re (π0:=[j]) (fun b hb hu=>⟨⟨hb,fun e=>by
   subst e
   rw [g8] at hu
   exact sF hu rfl⟩,rfl⟩) (eK _) (h3 j x y hjk hx hy)
 refine hn () _ c (tY (i:=i) g7) (am.cons ⟨d,e0,s,ys,he,hlen,hk,hc',⟨g,cap,_,rfl,setRow_heap w g cur _ e0 (0,0) g2,g3,g4,?_,?_,g7,g8⟩,fun j x y hjk hx hy=>?_⟩ (am.nil _ _))
 ·grind
 ·show (fA ty xs ys k cs' ++ cur.toList.drop (xs.length * ty.sz)).take (xs.length * ty.sz)=_
  grind
 ·refine bK.keep (fun b _ hb=>⟨hb.1,?_⟩) ty s _ x y (hoth j x y hjk hx hy)
  simp [World.setRow,af4,show ¬ g=b from fun e=>hb.2 e.symm]
abbrev V1:={ v:Value // v.oneCell' = true }
abbrev iS (n:Nat):Ty:=.arr n V1 ⟨.bool true,rfl⟩ (fun v=>v.1) (fun v=>v.2)
theorem X1 {l:List V1} (h:l.length=sz):(iS sz).fill l ()=l.map (fun v=>v.1):=by
 subst h
 show (List.range l.length).map (fun i=>(l.getD i ⟨.bool true,rfl⟩).1)=_
 apply aac
 grind
theorem xy (sz:Nat) : ∀ (m:Nat) (cells:List Value),qd cells→cells.length=m * sz→∃ rows:List (List V1),rows.length=m∧cellsOf (iS sz) rows (List.replicate m ())=cells
 | 0,cells,_,hl=>⟨[],rfl,by
  have:cells=[]:=Z1 (by simpa using hl)
  subst this
  rfl⟩
 | m+1,cells,ho,hl=>by
  rw [aaO,agz] at hl
  obtain ⟨rows,h1,h2⟩:=xy sz m (cells.drop sz) (fun v hv=>ho v (List.mem_of_mem_drop hv)) (by grind)
  have ht:(cells.take sz).length=sz:=by grind
  refine ⟨(cells.take sz).pmap (fun v h=>(⟨v,h⟩:V1)) (fun v hv=>ho v (agF hv))::rows,by simp [h1],?_⟩
  rw [adE]
  simp only [cellsOf,h2]
  rw [X1 (by grind),List.map_pmap]
  simp
theorem NF {c:bD}  {e:TypeId} {n:Nat} {v:Hd} {cells:List Value}  {rows:List (List V1)} (hr:yZ w e sz v n cells g) (hc:c g=i) (hl:rows.length=n) (hcells:cellsOf (iS sz) rows (List.replicate n ())=cells) :HA.holds w c (.own (iS sz) e i K rows v):=by
 obtain ⟨cap,cur,rfl,g2,g3,g4,g5,g6⟩:=hr
 subst hl
 have hlen:=cT (iS sz) (xs:=rows) (ys:=List.replicate rows.length ()) (by simp)
 refine ⟨List.replicate rows.length (),?_,⟨hlen, .inr ⟨g,cap,cur,e,(0,0),rfl,g2, .inl ⟨rfl,rfl⟩,g3,g4,g5,by grind⟩⟩,fun g' hg' => ?_⟩
 ·exact kP (by simp) fun j x y _ _=>trivial
 ·simp only [Value.ownBlock,Wn] at hg'
  grind
theorem Ll : ∀ l:List Unit,l=List.replicate l.length ()
 | []=>rfl
 | ()::r=>by simp only [XM,adE,afv,ai6]; exact Ll r
theorem NV {c:bD}  {e:TypeId}  {v:Hd} {rows:List (List V1)}  (he:Nat.blt e 1048576=true) (h:HA.holds w c (.own (iS sz) e i K rows v)) :
  (v=⟨none,0,0⟩∧rows=[])∨∃ g,yZ w e sz v rows.length (cellsOf (iS sz) rows (List.replicate rows.length ())) g∧c g=i:=by
 obtain ⟨ys,h1,h2,h3⟩:=h
 have hy:ys=List.replicate rows.length ():=by rw [h1.length]; exact Ll ys
 subst hy
 obtain ⟨a,n,cap⟩:=v
 rcases (h2.plain he).2 with ⟨hv,hn⟩ | ⟨g,cap',cur,hv,_,hg,g3,g4,g5,g6⟩
 ·grind
 ·have hcg:=h3 g (by rw [hv]; rfl)
  simp only [Hd.val,Value.slice.injEq] at hv
  obtain ⟨rfl,rfl,rfl⟩:=hv
  exact .inr ⟨g,⟨cap,cur,rfl,hg,g3,g4,g5,g6⟩,hcg⟩
theorem yZ.rep {c:bD}  {e:TypeId} {n:Nat} {v:Hd} {cells:List Value}  {rows:List (List V1)} (hr:yZ w e sz v n cells g) (hc:c g∈K) (hl:rows.length=n) (hcells:cellsOf (iS sz) rows (List.replicate n ())=cells):HA.holds w c (.rep (iS sz) K rows v):=by
 have:=zP (NF (c:=c) (i:=c g) (K:=[]) hr rfl hl hcells)
 exact bT.keep (fun b _ (hb:c b∈[c g])=>⟨by
  grind,rfl⟩) (.slice (iS sz)) rows v this
theorem LD {e:TypeId} {s:EI} {sx:Operand} {ty:Ty} {i2 N:Nat} {K2:List Nat} {xs ys:List ty.den} {h hx:Hd} (j j' : Nat)
  (hj:L[j]? = some (.tr ty e i K xs h)) (hj' : L[j']? = some (.tr ty e i2 K2 ys hx)) (hei:gz e = .row e0 s)
  (ho:o.op = .call { callee:=.builtin .append,args:=#[sx,x],argTypes:=#[t,t] }) (ht:P.underlying t=some (.slice e0)) (hi:TI P e0 sz by_ z) (hs:sz=ty.sz)
  (hzs:Nat.beq z.cells.size sz=true) (hsz:Nat.ble 1 sz=true) (hse:aR ρ sx=h.val) (hxe:aR ρ x=hx.val)
  (hroom:decide ((xs.length+ys.length) * by_≤140737488355328∧xs.length+ys.length≤maxLen)=true) (hci:Nat.ble 2 i=true) (hN:Nat.ble 2 N=true) (hd:Nat.beq i i2=false) (hd1:Nat.beq i N=false) (hd2:Nat.beq i2 N=false) (he:Nat.blt e0 1048576=true) :
  c9 P ρ o L [i,i2,N] Hd.val (fun h' => [.tr ty e i [] (xs++ys) h']):=by
 classical
 intro a ev w c next Q ha hL hk
 have hne:i≠i2:=afs hd
 have hne1:i≠N:=afs hd1
 have hne2:i2≠N:=afs hd2
 have hci' := Wt hci
 have hN' := Wt hN
 subst hs
 have hT1:cM w (fun b=>c b=i) (.slice ty) (gz e) xs h:=hL.at hj
 have hT2:cM w (fun b=>c b=i2) (.slice ty) (gz e) ys hx:=hL.at hj'
 rw [hei] at hT1 hT2
 obtain ⟨yx,g1,rows1,hl1,hr1,hcl1,hown1,hF1,hg1⟩ : ∃ (yx:List ty.Refs) (g1:Nat) (rows1:List (List V1)),yx.length=xs.length∧rows1.length=xs.length∧cellsOf (iS ty.sz) rows1 (List.replicate xs.length ())=cellsOf ty xs yx ∧
   (∀ c1:bD,c1 g1=N→HA.holds w c1 (.own (iS ty.sz) e0 N [] rows1 h))∧jU w (fun b=>b<w.heap.size∧c b=i∧b≠g1) ty s xs yx∧(g1<w.heap.size→c g1=i):=by
  rcases hT1.split with ⟨rfl,rfl⟩ | ⟨yx,g1,hl,hr,hg,hF⟩
  ·exact ⟨[],w.heap.size,[],rfl,rfl,rfl,fun c1 _=>BW w c1,jU.nil,fun h=>absurd h (Nat.lt_irrefl _)⟩
  ·obtain ⟨rows,h1,h2⟩:=xy ty.sz xs.length (cellsOf ty xs yx) (lj ty) (cT ty hl.symm)
   exact ⟨yx,g1,rows,hl,h1,h2,fun c1 hc=>NF hr hc h1 h2,hF.keep (fun b hb h=>⟨⟨hb,h⟩,rfl⟩),fun _=>hg⟩
 obtain ⟨yy,rows2,hl2,hr2,hcl2,hrep2,hF2⟩ : ∃ (yy:List ty.Refs) (rows2:List (List V1)),yy.length=ys.length∧rows2.length=ys.length∧cellsOf (iS ty.sz) rows2 (List.replicate ys.length ())=cellsOf ty ys yy ∧
   (∀ c1:bD,(∀ b,b<w.heap.size→c b=i2→c1 b=i2)→HA.holds w c1 (.rep (iS ty.sz) [i2] rows2 hx))∧jU w (fun b=>b<w.heap.size∧c b=i2) ty s ys yy:=by
  rcases hT2.split with ⟨rfl,rfl⟩ | ⟨yy,g2,hl,hr,hg,hF⟩
  ·exact ⟨[],[],rfl,rfl,rfl,fun c1 _=>rO w c1,jU.nil⟩
  ·obtain ⟨rows,h1,h2⟩:=xy ty.sz ys.length (cellsOf ty ys yy) (lj ty) (cT ty hl.symm)
   have hg2:g2<w.heap.size:=by
    obtain ⟨cap,cur,_,hh,_⟩:=hr
    grind
   exact ⟨yy,rows,hl,h1,h2,fun c1 hc=>hr.rep (by grind) h1 h2,hF.keep (fun b hb h=>⟨⟨hb,h.1⟩,rfl⟩)⟩
 let c1:bD:=fun b=>if b=g1 then N else c b
 have hL1:am w c1 [.own (iS ty.sz) e0 N [] rows1 h, .rep (iS ty.sz) [i2] rows2 hx]:=by
  refine am.cons (hown1 c1 (by simp [c1])) (am.cons (hrep2 c1 fun b hb hc=>?_) (am.nil _ _))
  grind
 have hroom' : decide ((rows1.length+rows2.length) * by_≤140737488355328∧rows1.length+rows2.length≤maxLen)=true:=by grind
 refine Ay (P:=P) (ρ:=ρ) (o:=o) (L:=[.own (iS ty.sz) e0 N [] rows1 h, .rep (iS ty.sz) [i2] rows2 hx]) (ty:=iS ty.sz) (K:=[]) (K2:=[i2]) rfl 0 1 rfl _ rfl vG ho ht hi rfl hzs hsz hse hxe hroom' hN he a ev w c1 next Q ha hL1 ?_
 intro h' w' c' hst hF
 have hc1 : ∀ b,b<w.heap.size→c b≠i→c1 b=c b:=fun b hb hc=>by
  grind
 have hA : ∀ b,b<w.heap.size→c b=i→b≠g1→c' b=i∧w'.heap[b]? = w.heap[b]? := fun b hb hc hn=>by
  have e1:c1 b=i:=by grind
  have e2:c1 b∉[N]:=by grind
  exact ⟨by rw [hst.col b hb e2,e1],hst.same b hb e2⟩
 have hB : ∀ b,b<w.heap.size→c b=i2→c' b=i2∧w'.heap[b]? = w.heap[b]? := fun b hb hc=>by
  have e1:c1 b=i2:=by grind
  have e2:c1 b∉[N]:=by grind
  exact ⟨by rw [hst.col b hb e2,e1],hst.same b hb e2⟩
 let c2:bD:=fun b=>if c' b=N∨c' b=i2 then i else c' b
 have hstp:Stp [i,i2,N] w c w' c2:=by
  refine ⟨hst.size,fun b hb hn=>?_,fun b hb hn=>?_,fun b hb h=>?_,hst.env⟩
  ·simp only [Xb,afD,aiC,not_or] at hn
   have e1:=hc1 b hb hn.1
   have e2:c' b=c b:=by rw [hst.col b hb (by grind),e1]
   grind
  ·simp only [Xb,afD,aiC,not_or] at hn
   exact hst.same b hb (by grind)
  ·show 2≤(if c' b=N∨c' b=i2 then i else c' b)
   split
   ·exact hci'
   ·by_cases hlt:b<w.heap.size
    ·obtain ⟨_,h2⟩:=h hlt
     by_cases e1:c1 b=N
     ·exact hst.two b hb fun _=>⟨by simp [e1],by omega⟩
     grind
    ·exact hst.two b hb fun h=>absurd h hlt
 refine hk h' w' c2 hstp (am.cons ?_ (am.nil _ _))
 show cM w' (fun b=>c2 b=i) (.slice ty) (gz e) (xs++ys) h'
 rw [hei]
 have hFA:jU w' (fun b=>b<w.heap.size∧c b=i∧b≠g1) ty s xs yx:=hF1.keep fun b _ hb=>⟨hb,(hA b hb.1 hb.2.1 hb.2.2).2⟩
 have hFB:jU w' (fun b=>b<w.heap.size∧c b=i2) ty s ys yy:=hF2.keep fun b _ hb=>⟨hb,(hB b hb.1 hb.2).2⟩
 have hFF:jU w' (fun b=>(b<w.heap.size∧c b=i∧b≠g1)∨(b<w.heap.size∧c b=i2)) ty s (xs++ys) (yx++yy):=jU.append hl1 (fun b h1 h2=>hne (h1.2.1.symm.trans h2.2)) (fun b hb=>.inl hb) (fun b hb=>.inr hb) hFA hFB
 rcases NV he (hF.at (k:=0) rfl) with ⟨hn,hrows⟩ | ⟨g',hr',hg'⟩
 ·have hz:(rows1++rows2).length=0:=by grind
  rw [Wu,hr1,hr2] at hz
  have:xs++ys=[]:=Z1 (by grind)
  rw [this,hn]
  exact cM.nil
 ·have hlen:(rows1++rows2).length=(xs++ys).length:=by grind
  have hcells:cellsOf (iS ty.sz) (rows1++rows2) (List.replicate (rows1++rows2).length ())=cellsOf ty (xs++ys) (yx++yy):=by
   rw [Wu,← List.replicate_append_replicate,eV _ (by simp),eV ty hl1.symm,hr1,hr2,hcl1,hcl2]
  rw [hcells,hlen] at hr'
  refine cM.join (S2:=fun b=>(b<w.heap.size∧c b=i∧b≠g1)∨(b<w.heap.size∧c b=i2)) (by grind) hr' (by simp [c2,hg']) (fun b hb=>?_) (fun hb=>?_) hFF
  ·grind
  grind
theorem aeB {c:bD} {ty:Ty} {e:TypeId}   {xs:List ty.den} {h:Hd} (m sz:Nat) (hm:m≤xs.length) (hT:HA.holds w c (.tr ty e i K xs h)):HA.holds w c (.tr ty e i K (xs.take m) (h.cut 0 m sz)):=by
 obtain ⟨d,hT⟩:=(show cM w (fun b=>c b=i) (.slice ty) (gz e) xs h from hT)
 rcases hT with ⟨rfl,rfl⟩ | ⟨e',s,he,ys,hl,⟨g,cap,cur,rfl,g2,g3,g4,g5,g6,g7,g8⟩,h3⟩
 ·have:m=0:=by simpa using hm
  subst this
  exact ⟨d, .inl ⟨by simp [Hd.cut],by simp⟩⟩
 ·refine ⟨d, .inr ⟨e',s,he,ys.take m,by simp [hl],⟨g,cap,cur,?_,g2,by grind,g4,g5,?_,g7,g8⟩,fun j x y hx hy=>h3 j x y ?_ ?_⟩⟩
  ·simp [Hd.cut,fj]; omega
  ·rw [jz ty _ hl.symm,← g6,acV,Xz,ZR hm,ZR (Yq _ hm)]
  ·grind
  grind
theorem M1 {e:TypeId} {j:Int} {ty:Ty}   {xs:List ty.den} {h:Hd}   (k:Nat) (hk:L[k]? = some (.tr ty e i K xs h)) (ho:o.op = .slice t x none (some y) none)
  (ht:P.underlying t=some (.slice e0)) (hti:TI P e0 sz by_ z) (hs:sz=ty.sz) (hx:aR ρ x=h.val) (hhi:aR ρ y = .int khi j) (hb:decide (0≤j∧j≤xs.length)=true) :
  c9 P ρ o L [] (fun _:Unit=>(h.cut 0 j.toNat sz).val) (fun _=>[.tr ty e i K (xs.take j.toNat) (h.cut 0 j.toNat sz)]):=fun a ev w c next Q ha hL hn=>by
 obtain ⟨h0,hj⟩:=Yd hb
 refine xG (L:=.rep ty (i::K) xs h::L) (i:=0) (klo:=.i64) 0 rfl ho ht hti hs hx rfl hhi (by grind) a ev w c next Q ha (am.cons (J9 (hL.at hk)) hL) fun y w' c' hst _=>hn () w' c' hst ?_
 exact am.cons (aeB j.toNat sz (by omega) (am.at (hL.stp0 hst) hk)) (am.nil _ _)
theorem c9.tree {ty:Ty} {e:TypeId} {s:EI} {N:Nat} {Kn:List Nat} {rows:List (List V1)} {xs:List ty.den} {ys:List ty.Refs} (h:c9 P ρ o L [] Hd.val (fun h=>[.own (iS ty.sz) e0 N K rows h])) (hei:gz e = .row e0 s) (he:Nat.blt e0 1048576=true) (hN:Nat.ble 2 N=true)
  (hl:ys.length=xs.length) (hr:rows.length=xs.length) (hcells:cellsOf (iS ty.sz) rows (List.replicate xs.length ())=cellsOf ty xs ys) (hF : ∀ w c,am w c L→jU w (fun b=>c b∈Kn) ty s xs ys) (hn:cf N Kn=false):c9 P ρ o L Kn Hd.val (fun h=>[.tr ty e N [] xs h]):=by
 classical
 intro a ev w c next Q ha hL hk
 have hF0:=hF w c hL
 have hN' := Wt hN
 have hn' : N∉Kn:=fun hc=>by rw [mem_iff.2 hc] at hn; cases hn
 refine h a ev w c next Q ha hL fun h' w' c' hst hH=>?_
 have hF1:jU w (fun b=>b<w.heap.size∧c b∈Kn) ty s xs ys:=hF0.keep fun b hb h=>⟨⟨hb,h⟩,rfl⟩
 have hF2:jU w' (fun b=>b<w.heap.size∧c b∈Kn) ty s xs ys:=hF1.keep fun b hb h=>⟨h,hst.same b hb (by simp)⟩
 let c2:bD:=fun b=>if b<w.heap.size∧c b∈Kn then N else c' b
 have hstp:Stp Kn w c w' c2:=by
  refine ⟨hst.size,fun b hb hn=>?_,fun b hb _=>hst.same b hb (by simp),fun b hb h=>?_,hst.env⟩
  ·show (if b<w.heap.size∧c b∈Kn then N else c' b)=c b
   rw [if_neg (fun h=>hn h.2)]
   exact hst.col b hb (by simp)
  ·show 2≤(if b<w.heap.size∧c b∈Kn then N else c' b)
   split
   ·exact hN'
   ·rename_i hno
    by_cases hlt:b<w.heap.size
    ·grind
    ·exact hst.two b hb fun h=>absurd h hlt
 refine hk h' w' c2 hstp (am.cons ?_ (am.nil _ _))
 show cM w' (fun b=>c2 b=N) (.slice ty) (gz e) xs h'
 rw [hei]
 rcases NV he (hH.at (k:=0) rfl) with ⟨hnil,hrows⟩ | ⟨g',hr',hg'⟩
 ·have hz:xs.length=0:=by grind
  rw [Z1 hz,hnil]
  exact cM.nil
 ·rw [hr,hcells] at hr'
  refine cM.join (S2:=fun b=>b<w.heap.size∧c b∈Kn) hl hr' ?_ (fun b hb=>by simp [c2,hb]) (fun hb=>?_) hF2
  ·grind
  ·have e1:=hst.col g' hb.1 (by simp)
   grind
end
section
variable {P:Program} {ρ:dm} {L:List HA} {o:Oper} {N:Nat}
def xj {A:Type} (q:A→Bool) (a0:A):List A→List A
 | []=>[a0]
 | a::r=>bif q a then a0::r else a::xj q a0 r
def np:List Bool→List MapEntry→Nat→Option (Nat×Value)
 | b::bs,e::r,i=>bif b then some (i,e.val) else np bs r (i+1)
 | _,_,_=>none
abbrev sJ (l:List MapEntry):List (Value×Value):=l.map fun e=>(e.key,e.val)
structure KeyRun {A:Type} (P:Program) (kt:TypeId) (x:Value) (q:A→Bool) (f:A→Value×Value) (xs:List A):Prop where
 check : ∀ w em,(Instr.checkKey em 10000 kt x).run P w = .ok () w
 find : ∀ w (l:List MapEntry),sJ l=xs.map f→(Instr.findKey kt x l).run P w = .ok (np (xs.map q) l 0) w
 same : ∀ a∈xs,q a=true→(f a).1=x
 stays : ∀ w,(Instr.keyThatStays x x).run P w = .ok x w
theorem zo {A:Type} {q:A→Bool} {f:A→Value×Value} : ∀ {l:List MapEntry} {xs:List A} (i:Nat),sJ l=xs.map f→(np (xs.map q) l i).map (·.2)=(xs.find? q).map fun a=>(f a).2
 | [],[],_,_=>rfl
 | [],_::_,_,h=>by cases h
 | _::_,[],_,h=>by cases h
 | e::r,a::xs,i,h=>by
  simp only [sJ,XH,afv] at h
  simp only [XH,np,List.find?_cons]
  cases q a
  ·exact zo (i+1) h.2
  grind
theorem Ff {A:Type} {q:A→Bool} {f:A→Value×Value} {a0:A} : ∀ {l:List MapEntry} {xs:List A} {i:Nat},sJ l=xs.map f→(∀ a∈xs,q a=true→(f a).1=(f a0).1) →
  match np (xs.map q) l i with
  | some (j,_)=>i≤j∧(∃ e,l[j - i]? = some e∧e.key=(f a0).1)∧sJ (l.modify (j - i) fun e=>{ e with key:=(f a0).1,val:=(f a0).2 })=(xj q a0 xs).map f
  | none=>∀ b,sJ (l++[{ key:=(f a0).1,val:=(f a0).2,born:=b }])=(xj q a0 xs).map f
 | [],[],i,_,_=>fun _=>rfl
 | [],_::_,_,h,_=>by cases h
 | _::_,[],_,h,_=>by cases h
 | e::r,a::xs,i,hl,h=>by
  simp only [sJ,XH,afv] at hl
  simp only [XH,np]
  cases hq:q a
  ·have ih:=Ff (q:=q) (f:=f) (a0:=a0) (l:=r) (xs:=xs) (i:=i+1) hl.2 fun p hp=>h p (Wq _ hp)
   simp only [no]
   cases hf:np (xs.map q) r (i+1) with
   | none=>
    rw [hf] at ih
    intro b
    have:=ih b
    simp only [sJ,Zy,Zr,XH,xj,hq,no] at this ⊢
    grind
   | some p=>
    obtain ⟨j,v'⟩:=p
    rw [hf] at ih
    obtain ⟨h1,⟨e',h2,h3⟩,h4⟩:=ih
    refine ⟨by omega,⟨e',?_,h3⟩,?_⟩
    ·grind
    ·rw [show j - i=(j - (i+1))+1 by omega]
     simp only [List.modify_succ_cons,sJ,XH,xj,hq,no] at h4 ⊢
     rw [h4,hl.1]
  ·simp only [f9,ai7]
   refine ⟨Xw _,⟨e,rfl,?_⟩,?_⟩
   ·grind
   ·simp [sJ,xj,hq,List.modify,hl.2]
theorem we (x v:Value) : ∀ (l:List MapEntry) (j:Nat),(l.modify j fun e=>{ e with key:=x,val:=v }).map (·.born)=l.map (·.born)
 | [],j=>by grind
 | e::r,0=>by grind
 | e::r,j+1=>by simp [List.modify_succ_cons,we x v r j]
theorem Z8 {m:Operand} {b:Nat} {xs:List A} {kx:Value} {q:A→Bool} {f:A→Value×Value}  (k:Nat) (hk:L[k]? = some (.mp i b (xs.map f))) (ho:o.op = .lookup t m x false) (ht:P.underlying t=some (.map kt et))
  (hm:aR ρ m = .map (some b)) (hx:aR ρ x=kx) (K:KeyRun P kt kx q f xs) (hi:TI P et sz by_ z):br P ρ o L (((xs.find? q).map fun a=>(f a).2).getD z):=fun ev w c he hL=>by
 subst he
 have htihi:=hi; clear hi
 obtain ⟨inf,hi,hz,_,_⟩:=htihi.get
 obtain ⟨arr,clock,h1,h2,h3,h4,h5⟩:=(show tj w (fun g=>c g=i) b (xs.map f) from hL.at hk)
 have hv:=zo (q:=q) 0 (show sJ arr.toList=xs.map f from h2)
 have hf:=K.find w arr.toList h2
 rw [← hv]
 cases he:np (xs.map q) arr.toList 0 with
 | none=>
  rw [he] at hf
  simp [execOp,ho,hm,hx,Instr.lookup,run_underlying ht,MapKept.run_getObj_map h1,K.check,hf,Result.andThen,zeroValue,typeInfo,hi,hz]
 | some p=>
  rw [he] at hf
  simp [execOp,ho,hm,hx,Instr.lookup,run_underlying ht,MapKept.run_getObj_map h1,K.check,hf,Result.andThen]
theorem UC {m:Operand} {b:Nat} {xs:List A} {kx:Value} {a0:A} {q:A→Bool} {f:A→Value×Value} (k:Nat) (hk:L[k]? = some (.mp i b (xs.map f))) (ho:o.op = .lookup t m x false) (ht:P.underlying t=some (.map kt et))
  (hm:aR ρ m = .map (some b)) (hx:aR ρ x=kx) (K:KeyRun P kt kx q f xs) (hi:xs.find? q=some a0):br P ρ o L (f a0).2:=fun ev w c he hL=>by
 subst he
 obtain ⟨arr,clock,h1,h2,h3,h4,h5⟩:=(show tj w (fun g=>c g=i) b (xs.map f) from hL.at hk)
 have hv:=zo (q:=q) 0 (show sJ arr.toList=xs.map f from h2)
 rw [hi] at hv
 have hf:=K.find w arr.toList h2
 cases he:np (xs.map q) arr.toList 0 with
 | none=>grind
 | some p=>
  rw [he] at hf hv
  simp only [afO,Wn] at hv
  simp [execOp,ho,hm,hx,Instr.lookup,run_underlying ht,MapKept.run_getObj_map h1,K.check,hf,Result.andThen,hv]
theorem R0 (ho:o.op = .makeMap t none) (hN:Nat.ble 2 N=true):c9 P ρ o L [] (fun b:Nat=>.map (some b)) (fun b=>[.mp N b []]):=fun a ev w c next Q _ _ hk=>by
 have hrun:(execOp ev o).run P w = .ok (.value (.map (some w.heap.size))) (w.alloc (.map #[] 0)):=by
  simp [execOp,ho,Instr.makeMap,Result.andThen]
 rw [hrun]
 exact hk w.heap.size _ _ (uf hN _) (am.cons ⟨#[],0,heap_alloc_new w _,rfl,by simp,by simp,by simp⟩ (am.nil _ _))
theorem Co {c:bD} {b:Nat} {ob:Obj} (hc:c b=i):Stp [i] w c { w with heap:=w.heap.setIfInBounds b ob } c:=by
 refine .mk0 (by simp) (fun _ _=>rfl) (fun b' hb' hn=>?_) (fun b' h1 h2=>by grind) ⟨rfl,rfl⟩
 grind
theorem Vw {m:Operand} {b:Nat} {xs:List A} {a0:A} {q:A→Bool} {f:A→Value×Value} (k:Nat) (hk:L[k]? = some (.mp i b (xs.map f))) (ho:o.op = .mapUpdate t m x y∨o.op = .insert t m x y) (ht:P.underlying t=some (.map kt et))
  (hm:aR ρ m = .map (some b)) (hx:aR ρ x=(f a0).1) (hy:aR ρ y=(f a0).2) (K:KeyRun P kt (f a0).1 q f xs):c9 P ρ o L [i] (fun _:Unit=>undef) (fun _=>[.mp i b ((xj q a0 xs).map f)]):=by
 intro a ev w c next Q ha hL hn
 subst ha
 obtain ⟨arr,clock,h1,h2,h3,h4,h5⟩:=(show tj w (fun g=>c g=i) b (xs.map f) from hL.at hk)
 have hf:=K.find w arr.toList h2
 have hp:=Ff (q:=q) (f:=f) (a0:=a0) (i:=0) (show sJ arr.toList=xs.map f from h2) K.same
 cases he:np (xs.map q) arr.toList 0 with
 | none=>
  rw [he] at hf hp
  have hrun:(execOp (aR ρ) o).run P w = .ok .skip { w with heap:=w.heap.setIfInBounds b (.map (arr.push { key:=(f a0).1,val:=(f a0).2,born:=clock }) (clock+1)) }:=by
   rcases ho with ho | ho <;> simp [execOp,ho,hm,hx,hy,Instr.mapUpdate,run_underlying ht,MapKept.run_getObj_map h1,K.check,hf,Result.andThen,MapKept.run_setObj_map _ h1]
  rw [hrun]
  refine hn () _ c (Co h5) (am.cons ⟨_,_,(MapKept.heap_set h1).1,?_,?_,?_,h5⟩ (am.nil _ _))
  ·grind
  ·grind
  grind
 | some p=>
  obtain ⟨j,v'⟩:=p
  rw [he] at hf hp
  obtain ⟨_,⟨e,e1,e2⟩,e3⟩:=hp
  rw [Nat.sub_zero] at e1 e3
  rw [Array.getElem?_toList] at e1
  have hst:=K.stays w
  have hrun:(execOp (aR ρ) o).run P w = .ok .skip { w with heap:=w.heap.setIfInBounds b (.map (arr.modify j fun e=>{ e with key:=(f a0).1,val:=(f a0).2 }) clock) }:=by
   rcases ho with ho | ho <;> simp [execOp,ho,hm,hx,hy,Instr.mapUpdate,run_underlying ht,MapKept.run_getObj_map h1,K.check,hf,Result.andThen,e1,e2,hst,MapKept.run_setObj_map _ h1]
  rw [hrun]
  refine hn () _ c (Co h5) (am.cons ⟨_,_,(MapKept.heap_set h1).1,?_,?_,?_,h5⟩ (am.nil _ _))
  ·grind
  ·intro e' hm'
   have hb:=we (f a0).1 (f a0).2 arr.toList j
   rw [Array.toList_modify] at hm'
   have:e'.born∈(arr.toList.modify j fun e=>{ e with key:=(f a0).1,val:=(f a0).2 }).map (·.born):=W6.2 ⟨_,hm',rfl⟩
   grind
  ·rw [Array.toList_modify,we]; exact h4
theorem aiP {k:IntKind} (ht:P.underlying kt=some (.int k)) (x:Int) {q:A→Bool} {f:A→Value×Value} {xs:List A} {g:A→Int} (hf : ∀ a∈xs,(f a).1 = .int k (g a)) (hq : ∀ a∈xs,q a=(x==g a)):KeyRun P kt (.int k x) q f xs where
 check w em:=MapKept.run_checkKey ht (by rfl) em 9999
 find w l hl:=by
  have key : ∀ (l:List MapEntry) (xs:List A) (i:Nat),(∀ a∈xs,(f a).1 = .int k (g a))→(∀ a∈xs,q a=(x==g a))→sJ l=xs.map f→Instr.findNow (.int k) (.int k x) l i=some (np (xs.map q) l i):=by
   intro l
   induction l with
   | nil=>intro xs i _ _ h; cases xs <;> rfl
   | cons e r ih=>
    intro xs i hf hq h
    cases xs with
    | nil=>cases h
    | cons p es=>
     simp only [sJ,XH,afv] at h
     obtain ⟨h1,h3⟩:=h
     have e1:e.key = .int k (g p):=by grind
     simp only [Instr.findNow,e1,Instr.sameNow,Xa,XH,np,hq p W7]
     grind
  exact MapKept.run_findKey ht (key l xs 0 hf hq hl)
 same a ha h:=by
  grind
 stays w:=by simp [Instr.keyThatStays,Instr.sameBits,Sem.run_pure]
theorem V0 {Fd:Array Field} (ht:P.underlying kt=some (.struct Fd)) {x:Value} {q:A→Bool} {f:A→Value×Value} {xs:List A} (hc : ∀ w em,(Instr.checkKey em 10000 kt x).run P w = .ok () w)
  (he : ∀ w,∀ a∈xs,(Op.equalIn 10000 kt x (f a).1).run P w = .ok (q a) w) (hs : ∀ a∈xs,q a=true→(f a).1=x) (hb:Instr.sameBits 10000 x x=true):KeyRun P kt x q f xs where
 check:=hc
 find w l hl:=by
  have ask : ∀ (l:List MapEntry) (xs:List A) (i:Nat),(∀ a∈xs,(Op.equalIn 10000 kt x (f a).1).run P w = .ok (q a) w)→sJ l=xs.map f→(Instr.findAsking kt x l i).run P w = .ok (np (xs.map q) l i) w:=by
   intro l
   induction l with
   | nil=>intro xs i _ h; cases xs <;> simp [Instr.findAsking,np]
   | cons e r ih=>
    intro xs i he h
    cases xs with
    | nil=>cases h
    | cons p es=>
     simp only [sJ,XH,afv] at h
     obtain ⟨h1,h3⟩:=h
     have e1:e.key=(f p).1:=by rw [← h1]
     have e2:=he p W7
     rw [← e1] at e2
     have e3:(Op.equal kt x e.key).run P w = .ok (q p) w:=e2
     simp only [Instr.findAsking,Sem.run_bind,e3,Result.andThen_ok,XH,np]
     cases hx:q p
     ·grind
     simp_all
  have h0:=ask l xs 0 (he w) hl
  cases l with
  | nil=>
   simp only [Instr.findKey,Sem.run_bind,run_underlying ht,Result.andThen_ok,Instr.findNow,Sem.run_pure]
   cases xs with
   | nil=>rfl
   | cons _ _=>cases hl
  | cons e r=>
   have hn:Instr.findNow (.struct Fd) x (e::r) 0=none:=by rfl
   simp only [Instr.findKey,Sem.run_bind,run_underlying ht,Result.andThen_ok,hn]
   exact h0
 same:=hs
 stays w:=by simp [Instr.keyThatStays,hb,Sem.run_pure]
end
section
variable {P:Program} {ρ:dm} {L:List HA} {o:Oper}
theorem wy.rep {SK:Nat→Prop} {t:Ty} {e:TypeId} {xs:List t.den} {v:Hd} {m:Int} (h1 : ∀ b,S b→S' b) (h2 : ∀ b,SK b→S' b) (h:wy w S SK t e xs v m):bT w S' (.slice t) xs v:=by
 rcases h with ⟨rfl,rfl⟩ | ⟨d,e0,s,ys,_,hl,hr,hT,hR⟩
 ·exact ⟨[],trivial,rfl,by simp,by simp [maxLen], .inl ⟨trivial,rfl⟩⟩
 ·refine ⟨ys,kP hl fun j x y hx hy=>?_,?_⟩
  ·by_cases hj:(j:Int)<m
   ·exact bK.rep h1 t s [j] x y (hT j x y hj hx hy)
   ·exact bT.keep (jG.of h2) t x y (hR j x y (by omega) hx hy)
  ·obtain ⟨g,cap,cur,rfl,g2,g3,g4,g5,g6,g7,g8⟩:=hr
   exact ⟨rfl,g3,g4, .inr ⟨g,0,cur,e0,(0,0),rfl,h1 g g7,g2,by grind,by simpa using g6⟩⟩
theorem KA {c:bD} {t:Ty} {e:TypeId}   {xs:List t.den} {v:Hd} {m:Int} (h:HA.holds w c (.pt t e i K xs v m)):HA.holds w c (.rep t (i::K) xs v):=
 wy.rep (S:=fun b=>c b=i) (SK:=fun b=>c b∈K) (fun b (hb:c b=i)=>by grind) (fun b hb=>Wq _ hb) h
theorem ags {c:bD} {t:Ty} {e:TypeId} {s:EI}   {xs:List t.den} {v:Hd} (hei:gz e = .row e0 s) (he:Nat.blt e0 1048576=true) (h:HA.holds w c (.own t e0 i K xs v)):HA.holds w c (.pt t e i K xs v 0):=by
 obtain ⟨ys,h1,h2,h3⟩:=h
 obtain ⟨a,n,cap⟩:=v
 rcases (h2.plain he).2 with ⟨hv,hn⟩ | ⟨g,cap',cur,hv,_,hg,g3,g4,g5,g6⟩
 ·simp only [Hd.val,Value.slice.injEq] at hv
  obtain ⟨rfl,rfl,rfl⟩:=hv
  exact .inl ⟨rfl,Z1 hn⟩
 ·have hcg:=h3 g (by rw [hv]; rfl)
  simp only [Hd.val,Value.slice.injEq] at hv
  obtain ⟨rfl,rfl,rfl⟩:=hv
  refine .inr ⟨fun _=>[],e0,s,ys,hei,h1.length.symm,⟨g,cap,cur,rfl,hg,g3,g4,g5,g6,hcg,rfl⟩,fun j x y hj=>by omega,fun j x y _ hx hy=>?_⟩
  have hget : ∀ {xs:List t.den} {ys:List t.Refs} {j:Nat},cp (bT w (fun b=>c b∈K) t) xs ys→xs[j]? = some x→ys[j]? = some y→bT w (fun b=>c b∈K) t x y:=by
   intro xs
   induction xs with
   | nil=>grind
   | cons a xs ih=>
    intro ys j h hx hy
    cases ys with
    | nil=>simp at hy
    | cons b ys=>
     cases j with
     | zero=>
      simp at hx hy
      subst hx hy
      exact h.1
     | succ j=>exact ih h.2 (by simpa using hx) (by simpa using hy)
  grind
theorem aep {c:bD} {t:Ty} {e:TypeId}  {K':List Nat} {xs:List t.den} {v:Hd} {m:Int} (hm:(xs.length:Int)≤m) (h:HA.holds w c (.pt t e i K xs v m)):HA.holds w c (.tr t e i K' xs v):=by
 rcases h with ⟨rfl,rfl⟩ | ⟨d,e0,s,ys,hei,hl,hr,hT,hR⟩
 ·exact cM.nil
 ·show cM w (fun b=>c b=i) (.slice t) (gz e) xs v
  rw [hei]
  exact ⟨d, .inr ⟨e0,s,rfl,ys,hl,hr,fun j x y hx hy=>hT j x y (by grind) hx hy⟩⟩
theorem MO {ty:Ty} {e:TypeId} {s:EI}  {Kn:List Nat} {xs:List ty.den} {h:Hd} {k:Nat}  {v:Value}  {xo xn:ty.den} (j:Nat) (hj:L[j]? = some (.pt ty e i K xs h (k:Int))) (hei:gz e = .row e0 s) (ho:o.op = .store t x y) (hi:TI P t sz by_ z)
  (hx:aR ρ x = .pointer (some (eQ h (k * ty.sz+off)))) (hy:aR ρ y=v) (hv:v.cells=vs.toArray) (hl:Nat.beq vs.length sz=true) (hones:vs.all Value.oneCell' = true) (hin:off+vs.length≤ty.sz) (hxo:xs[k]? = some xo)
  (hfill : ∀ yo:ty.Refs,∃ yn:ty.Refs,ty.fill xn yn=(ty.fill xo yo).take off++vs++(ty.fill xo yo).drop (off+vs.length)∧∀ w c,am w c L→cM w (fun b=>c b∈Kn) ty s xn yn)
  (h2:Nat.ble 2 i=true) (hn:cf i Kn=false) (hK:K.all (fun q=>!(cf q (i::Kn)))=true) :
  c9 P ρ o L (i::Kn) (fun _:Unit=>undef) (fun _=>[.pt ty e i K (xs.set k xn) h (k+1:Nat), .rep ty (i::K) (xs.set k xn) h]):=by
 classical
 intro a ev w c next Q ha hL hk
 have htihi:=hi; clear hi
 obtain ⟨inf,hi,_,rfl,_⟩:=htihi.get
 have hi2:=Wt h2
 have hn' : i∉Kn:=fun hc=>by rw [mem_iff.2 hc] at hn; cases hn
 have hK' : ∀ q∈K,q≠i∧q∉Kn:=fun q hq=>by
  have:=W3.1 hK q hq
  simp only [YW] at this
  have hm:q∉i::Kn:=fun hc=>by rw [mem_iff.2 hc] at this; cases this
  grind
 have hklt:k<xs.length:=(XW.1 hxo).1
 rcases (show wy w (fun b=>c b=i) (fun b=>c b∈K) ty e xs h k from hL.at hj) with ⟨_,rfl⟩ | ⟨d,e0',s',ys,he,hlen,⟨g,cap,cur,rfl,g2,g3,g4,g5,g6,g7,g8⟩,hT,hR⟩
 ·simp at hklt
 rw [hei] at he
 cases he
 obtain ⟨yo,hyo⟩ : ∃ yo,ys[k]? = some yo:=⟨ys[k]'(by omega),YK _⟩
 obtain ⟨yn,hf1,hf2⟩:=hfill yo
 have hFn:=hf2 w c hL
 have hfl:(ty.fill xo yo).length=ty.sz:=ty.fill_length _ _
 rw [← si hlen hxo hyo] at g6
 obtain ⟨c1,c2⟩:=mA (cs:=ty.fill xo yo) hlen hklt hfl
 have m1:(k+1) * ty.sz≤xs.length * ty.sz:=Yq _ hklt
 have m2:xs.length * ty.sz≤cap * ty.sz:=Yq _ g3
 rw [aaO,agz] at m1
 have hcur:cur.toList=cellsOf ty (xs.take k) (ys.take k)++ty.fill xo yo++cellsOf ty (xs.drop (k+1)) (ys.drop (k+1))++cur.toList.drop (xs.length * ty.sz):=by
  rw [show cellsOf ty (xs.take k) (ys.take k)++ty.fill xo yo++cellsOf ty (xs.drop (k+1)) (ys.drop (k+1))=fA ty xs ys k (ty.fill xo yo) from rfl,← g6,abo]
 have hp:eQ ⟨some ⟨g,0,none⟩,xs.length,cap⟩ (k * ty.sz+off)=⟨g,k * ty.sz+off,none⟩:=by simp [eQ]
 have hst:=mL P g (k * ty.sz+off) e0 (0,0) vs cur w g2 (.inl rfl) (by omega) (Af hones)
 have hrun:(execOp ev o).run P w = .ok .skip (w.setRow g (cur.toList.take (k * ty.sz+off)++vs++cur.toList.drop (k * ty.sz+off+vs.length)).toArray):=by
  simp [execOp,ho,ha,hx,hp,hy,Instr.storeAt,Instr.sureAddr,storeVar,hv,sizeOf,typeInfo,hi,Wo hl,hst,Result.andThen]
 rw [hrun]
 have e1:cur.toList.take (k * ty.sz+off)++vs++cur.toList.drop (k * ty.sz+off+vs.length)=fA ty xs ys k (ty.fill xn yn)++cur.toList.drop (xs.length * ty.sz):=by
  generalize hC:cur.toList.drop (xs.length * ty.sz)=C at hcur
  rw [hcur,hf1]
  exact Du c2 (by omega)
 rw [e1]
 obtain ⟨c3,_⟩:=mA (cs:=ty.fill xn yn) hlen hklt (ty.fill_length _ _)
 let cc:bD:=fun b=>if c b∈Kn then i else c b
 have hgK:c g∉Kn:=fun hb=>hn' (by grind)
 have hsame : ∀ b,b≠g→(w.setRow g (fA ty xs ys k (ty.fill xn yn)++cur.toList.drop (xs.length * ty.sz)).toArray).heap[b]? = w.heap[b]? := fun b hb=>by
  simp [World.setRow,af4,show ¬ g=b from fun e=>hb e.symm]
 have hstp:Stp (i::Kn) w c (w.setRow g (fA ty xs ys k (ty.fill xn yn)++cur.toList.drop (xs.length * ty.sz)).toArray) cc:=by
  refine ⟨by rw [vT]; grind,fun b _ hb=>?_,fun b _ hb=>?_,fun b hb hb2=>?_,⟨rfl,rfl⟩⟩
  ·grind
  ·grind
  ·show 2≤(if c b∈Kn then i else c b)
   rw [vT] at hb
   grind
 have hPt:HA.holds (w.setRow g (fA ty xs ys k (ty.fill xn yn)++cur.toList.drop (xs.length * ty.sz)).toArray) cc (.pt ty e i K (xs.set k xn) ⟨some ⟨g,0,none⟩,xs.length,cap⟩ (k+1:Nat)):=by
  obtain ⟨d2,hFn⟩:=hFn
  have hgcc:cc g=i:=by
   grind
  refine .inr ⟨fun b=>if c b∈Kn then d2 b++[k] else d b,e0,s,ys.set k yn,hei,by grind,⟨g,cap,_,by grind,setRow_heap w g cur _ e0 (0,0) g2,by grind,g4,?_,?_,hgcc,?_⟩,fun q x' y' hq hx' hy' => ?_,fun q x' y' hq hx' hy' => ?_⟩
  ·grind
  ·rw [Y4,sq hlen hklt]
   grind
  ·grind
  ·by_cases hqk:q=k
   ·subst hqk
    rw [Yc hklt] at hx'
    rw [Yc (by omega)] at hy'
    cases hx'; cases hy'
    have h1:bK w (fun b=>c b∈Kn) (fun b=>d2 b++[q]) ty s [q] xn yn:=bK.ren (f:=fun σ=>σ++[q]) (π0:=[]) (fun _ _ _=>rfl) (fun b hb _=>⟨hb,rfl⟩) ty s [] xn yn ⟨[],rfl⟩ hFn
    have h2:bK w (fun b=>c b∈Kn) (fun b=>if c b∈Kn then d2 b++[q] else d b) ty s [q] xn yn:=bK.re (π0:=[q]) (fun b hb _=>⟨hb,by simp [hb]⟩) (eK _) h1
    refine bK.keep (fun b _ (hb:c b∈Kn)=>⟨?_,hsame b fun e=>hgK (by grind)⟩) ty s _ _ _ h2
    grind
   ·rw [Zd (by omega)] at hx' hy'
    have h0:=hT q x' y' (by omega) hx' hy'
    have h1:bK w (fun b=>c b=i∧b≠g) (fun b=>if c b∈Kn then d2 b++[k] else d b) ty s [q] x' y' := bK.re (π0:=[q]) (fun b (hb:c b=i) hu=>⟨⟨hb,fun e=>by
     subst e
     rw [g8] at hu
     exact sF hu rfl⟩,by
      grind⟩) (eK _) h0
    refine bK.keep (fun b _ hb=>⟨?_,hsame b hb.2⟩) ty s _ _ _ h1
    grind
  ·have hqk:q≠k:=by omega
   rw [Zd (by omega)] at hx' hy'
   refine bT.keep (S:=fun b=>c b∈K) (fun b _ (hb:c b∈K)=>⟨?_,hsame b fun e=>?_⟩) ty _ _ (hR q x' y' (by omega) hx' hy')
   ·grind
   grind
 exact hk () _ cc hstp (am.cons hPt (am.cons (KA hPt) (am.nil _ _)))
end
theorem CX {P:Program} {ty e:TypeId} {i:TypeInfo} (ht:P.underlying t=some (.slice e)) (hu:P.underlying u=some .string) (hi:P.info? e=some i) (hz:i.zero=some (.int .u8 0)) (hs:i.size=1) (hby:i.bytes=1)
  {h:Hd} {n:Nat} {xs:List Value} (hown:w.ownsRow 0 e 1 h.val n xs) (s:ByteArray) (h63:n+s.size≤maxLen) (hbytes:n+s.size≤140737488355328) :
  ∃ (h' : Hd) (w' : World),(Builtin.append_ #[t,u] ty #[h.val, .string s]).run P w = .ok h'.val w' ∧ w'.ownsRow 0 e 1 h'.val (n+s.size) (xs++Lib.strCells s)∧w.grownBy w' h.val.ownBlock ∧
   (∀ g,h'.val.ownBlock=some g→h.val.ownBlock=some g∨w.heap.size≤g):=by
 have toHd : ∀ (v' : Value) (w' : World),w'.ownsRow 0 e 1 v' (n+s.size) (xs++Lib.strCells s)→∃ h' : Hd,v' = h'.val:=by
  intro v' w' ho
  rcases ho.2 with ⟨rfl,_⟩ | ⟨g,cap,cur,rfl,_⟩
  ·exact ⟨⟨none,0,0⟩,rfl⟩
  ·exact ⟨⟨some ⟨g,0,none⟩,n+s.size,cap⟩,rfl⟩
 obtain ⟨v0,hv0⟩ : ∃ v,v=h.val:=⟨_,rfl⟩
 rw [← hv0] at hown ⊢
 rcases hown.2 with ⟨hnil,hn0⟩ | ⟨g,cap,cur,hv,_,hg,hnc,hcm,hcs,htake⟩
 ·have hown' : w.ownsRow w.heap.size e 1 v0 n xs:=⟨hown.1, .inl ⟨hnil,hn0⟩⟩
  obtain ⟨v',w',hr,h2,h3,_⟩:=Lib.run_append_own_string (P:=P) w w.heap.size t u ty e i ht hu hi hz hs hby _ n xs hown' s h63 hbytes (Xw _)
  have h2' : w'.ownsRow 0 e 1 v' (n+s.size) (xs++Lib.strCells s):=⟨h2.1,h2.2.imp id fun ⟨g,cap,cur,hv,_,hrest⟩=>⟨g,cap,cur,hv,afB _,hrest⟩⟩
  obtain ⟨h',rfl⟩:=toHd v' w' h2'
  exact ⟨h',w',hr,h2',h3,fun g hg=>.inr (h2.lt g hg).1⟩
 ·obtain ⟨v',w',hr,h2,h3,_⟩:=Lib.run_append_own_string (P:=P) w 0 t u ty e i ht hu hi hz hs hby _ n xs hown s h63 hbytes (afB _)
  have hcs' : cur.size=cap:=by grind
  by_cases hroom:n+s.size≤cap
  ·have hr2:=Lib.run_append_room_string (P:=P) w t u ty e i ht hu hi hs g n cap cur hg s hroom (by omega)
   rw [hv] at hr ⊢
   rw [hr2] at hr
   simp only [Result.ok.injEq] at hr
   obtain ⟨rfl,rfl⟩:=hr
   rw [hv] at h3
   exact ⟨⟨some ⟨g,0,none⟩,n+s.size,cap⟩,_,hr2,h2,h3,fun g' hg' => .inl (by simpa [Value.ownBlock] using hg')⟩
  ·have holds : ∀ j u,xs[j]? = some u→w.cell? ((⟨g,0,none⟩:Addr).add j)=some u:=hown.cells (g:=g) (by rw [hv]; rfl)
   have hr2:=Lib.run_append_grow_string (P:=P) w t u ty e i (.int .u8 0) ht hu hi hz ⟨g,0,none⟩ n cap xs (by grind) holds s (by omega) (by grind) (by rw [hby]; exact growslice_fits (by omega) (by omega))
   rw [hv] at hr ⊢
   rw [hr2] at hr
   simp only [Result.ok.injEq] at hr
   obtain ⟨rfl,rfl⟩:=hr
   rw [hv] at h3
   refine ⟨⟨some ⟨w.heap.size,0,none⟩,n+s.size,_⟩,_,hr2,h2,h3,fun g' hg' => .inr ?_⟩
   simp [Value.ownBlock] at hg'
   omega
section
variable {P:Program} {ρ:dm} {L:List HA} {o:Oper}
abbrev CF:Ty:=.one Int (fun x=>.int .u8 x) (fun _=>rfl)
theorem Me : ∀ (l:List UInt8),(l.map fun b=>Value.int .u8 b.toNat)=cellsOf CF (l.map fun b=>(b.toNat:Int)) (List.replicate l.length ())
 | []=>rfl
 | b::r=>by
  simp only [XH,XM,adE,cellsOf,Me r]
  rfl
theorem FV {e:TypeId} {s:Operand}   {xs:List Int} {h:Hd} {l:List UInt8} (j:Nat)
  (hj:L[j]? = some (.own CF e ci K xs h)) (ho:o.op = .call { callee:=.builtin .append,args:=#[s,x],argTypes:=#[t,u] }) (ht:P.underlying t=some (.slice e)) (hu:P.underlying u=some .string) (hi:TI P e sz by_ (.int .u8 0)) (hs:Nat.beq sz 1=true) (hb:Nat.beq by_ 1=true)
  (hse:aR ρ s=h.val) (hxe:aR ρ x = .string ⟨l.toArray⟩)
  (hroom:decide ((xs.length+l.length) * by_≤140737488355328∧xs.length+l.length≤maxLen)=true) (hci:Nat.ble 2 ci=true) (he:Nat.blt e 1048576=true) :
  c9 P ρ o L [ci] Hd.val (fun h' => [.own CF e ci K (xs++l.map fun b=>(b.toNat:Int)) h']):=by
 intro a ev w c next Q ha hL hk
 have htihi:=hi; clear hi
 obtain ⟨inf,hi,hz,hs1,hb1⟩:=htihi.get
 obtain ⟨rs,hr1,hown,hcol⟩:=hL.at hj
 obtain ⟨hb2,h63⟩:=Yd hroom
 have hs' := Wo hs
 have hb' := Wo hb
 rw [hb',abQ] at hb2
 replace hown:w.ownsRow 0 e 1 h.val xs.length (cellsOf CF xs rs):=hown.plain he
 have hsz:(⟨l.toArray⟩:ByteArray).size=l.length:=by rfl
 obtain ⟨h',w',hrun,ho',hg,hblk⟩:=CX (P:=P) (ty:=o.type) ht hu hi hz (by omega) (by omega) hown ⟨l.toArray⟩ (by omega) (by omega)
 have hex:(execOp ev o).run P w = .ok (.value h'.val) w' := by
  simp [execOp,ho,ha,hse,hxe,resolve,invoke,builtin,hrun,Result.andThen]
 rw [hex]
 have hst:=yP hci hg hcol
 refine hk h' w' _ hst (am.cons ⟨rs++List.replicate l.length (),?_,?_,Dw hblk hcol⟩ (am.nil _ _))
 ·exact (hr1.mono fun x y _=>bT.pure CF x y rfl).append (kP (by simp) fun j x y _ _=>bT.pure CF x y rfl)
 ·rw [eV CF hr1.length,← Me]
  have e1:Lib.strCells ⟨l.toArray⟩=l.map fun b=>Value.int .u8 b.toNat:=by rfl
  rw [hsz,e1] at ho'
  have:=Aa ho'
  grind
end
section
variable {P:Program} {ρ:dm} {L:List HA} {o:Oper}
def w8 (x y z u:Int):Int:=let a:=if y<x then y else x; let b:=if z<a then z else a; if u<b then u else b
theorem LF (ts:Array TypeId) (t:TypeId) (k1 k2 k3 k4:IntKind) (x y z u:Int):(Builtin.min_ ts t #[.int k1 x, .int k2 y, .int k3 z, .int k4 u]).run P w = .ok (.int k1 (w8 x y z u)) w:=by
 rfl
theorem ag4 {ts:Array TypeId} {z u:Operand} {k:IntKind} {a b c d:Int} (ho:o.op = .call { callee:=.builtin .min,args:=#[x,y,z,u],argTypes:=ts }) (hx:aR ρ x = .int k a) (hy:aR ρ y = .int k b) (hz:aR ρ z = .int k c) (hu:aR ρ u = .int k d) :
  br P ρ o L (.int k (w8 a b c d)):=fun ev w c he _=>by
 subst he; simp [execOp,ho,hx,hy,hz,hu,resolve,invoke,builtin,LF,Result.andThen]
theorem MU {ty:Ty} {e:TypeId}   {xs:List ty.den} {h:Hd} {k:Nat}  {v:Value}  {xo xn:ty.den} (j:Nat) (hj:L[j]? = some (.tr ty e i K xs h)) (ho:o.op = .store t x y) (hi:TI P t sz by_ z)
  (hx:aR ρ x = .pointer (some (eQ h (k * ty.sz+off)))) (hy:aR ρ y=v) (hv:v.cells=vs.toArray) (hl:Nat.beq vs.length sz=true) (hones:vs.all Value.oneCell' = true) (hin:off+vs.length≤ty.sz) (hxo:xs[k]? = some xo)
  (hfill : ∀ yo:ty.Refs,ty.fill xn yo=(ty.fill xo yo).take off++vs++(ty.fill xo yo).drop (off+vs.length))
  (htree : ∀ (w:World) (S:Nat→Prop) (d:Nat→List Nat) (ε:EI) (π:List Nat) (yo:ty.Refs),bK w S d ty ε π xo yo→bK w S d ty ε π xn yo) :
  c9 P ρ o L [i] (fun _:Unit=>undef) (fun _=>[.tr ty e i K (xs.set k xn) h]):=by
 intro a ev w c next Q ha hL hk
 have htihi:=hi; clear hi
 obtain ⟨inf,hi,_,rfl,_⟩:=htihi.get
 have hklt:k<xs.length:=(XW.1 hxo).1
 obtain ⟨d,hT⟩:=(show cM w (fun b=>c b=i) (.slice ty) (gz e) xs h from hL.at hj)
 rcases hT with ⟨_,rfl⟩ | ⟨e0,s,hei,ys,hlen,⟨g,cap,cur,rfl,g2,g3,g4,g5,g6,g7,g8⟩,hT⟩
 ·simp at hklt
 obtain ⟨yo,hyo⟩ : ∃ yo,ys[k]? = some yo:=⟨ys[k]'(by omega),YK _⟩
 have hf1:=hfill yo
 have hfl:(ty.fill xo yo).length=ty.sz:=ty.fill_length _ _
 rw [← si hlen hxo hyo] at g6
 obtain ⟨c1,c2⟩:=mA (cs:=ty.fill xo yo) hlen hklt hfl
 have m1:(k+1) * ty.sz≤xs.length * ty.sz:=Yq _ hklt
 have m2:xs.length * ty.sz≤cap * ty.sz:=Yq _ g3
 rw [aaO,agz] at m1
 have hcur:cur.toList=cellsOf ty (xs.take k) (ys.take k)++ty.fill xo yo++cellsOf ty (xs.drop (k+1)) (ys.drop (k+1))++cur.toList.drop (xs.length * ty.sz):=by
  rw [show cellsOf ty (xs.take k) (ys.take k)++ty.fill xo yo++cellsOf ty (xs.drop (k+1)) (ys.drop (k+1))=fA ty xs ys k (ty.fill xo yo) from rfl,← g6,abo]
 have hp:eQ ⟨some ⟨g,0,none⟩,xs.length,cap⟩ (k * ty.sz+off)=⟨g,k * ty.sz+off,none⟩:=by simp [eQ]
 have hst:=mL P g (k * ty.sz+off) e0 (0,0) vs cur w g2 (.inl rfl) (by omega) (Af hones)
 have hrun:(execOp ev o).run P w = .ok .skip (w.setRow g (cur.toList.take (k * ty.sz+off)++vs++cur.toList.drop (k * ty.sz+off+vs.length)).toArray):=by
  simp [execOp,ho,ha,hx,hp,hy,Instr.storeAt,Instr.sureAddr,storeVar,hv,sizeOf,typeInfo,hi,Wo hl,hst,Result.andThen]
 rw [hrun]
 have e1:cur.toList.take (k * ty.sz+off)++vs++cur.toList.drop (k * ty.sz+off+vs.length)=fA ty xs ys k (ty.fill xn yo)++cur.toList.drop (xs.length * ty.sz):=by
  generalize hC:cur.toList.drop (xs.length * ty.sz)=C at hcur
  rw [hcur,hf1]
  exact Du c2 (by omega)
 rw [e1]
 obtain ⟨c3,_⟩:=mA (cs:=ty.fill xn yo) hlen hklt (ty.fill_length _ _)
 have hsame : ∀ b,b≠g→(w.setRow g (fA ty xs ys k (ty.fill xn yo)++cur.toList.drop (xs.length * ty.sz)).toArray).heap[b]? = w.heap[b]? := fun b hb=>by
  simp [World.setRow,af4,show ¬ g=b from fun e=>hb e.symm]
 have hys:ys.set k yo=ys:=by
  refine aac fun q=>?_
  grind
 refine hk () _ c (tY (i:=i) g7) (am.cons ?_ (am.nil _ _))
 show cM _ (fun b=>c b=i) (.slice ty) (gz e) (xs.set k xn) _
 rw [hei]
 refine ⟨d, .inr ⟨e0,s,rfl,ys,by grind,⟨g,cap,_,by grind,setRow_heap w g cur _ e0 (0,0) g2,by grind,g4,?_,?_,g7,g8⟩,fun q x' y' hx' hy' => ?_⟩⟩
 ·grind
 ·rw [Y4]
  have:=sq (t:=ty) (x:=xn) (y:=yo) hlen hklt
  grind
 ·have h0:bK w (fun b=>c b=i) d ty s [q] x' y' := by
   grind
  have h1:bK w (fun b=>c b=i∧b≠g) d ty s [q] x' y' := bK.re (π0:=[q]) (fun b hb hu=>⟨⟨hb,fun e=>by
   subst e
   rw [g8] at hu
   exact sF hu rfl⟩,rfl⟩) (eK _) h0
  exact bK.keep (fun b _ hb=>⟨hb.1,hsame b hb.2⟩) ty s _ _ _ h1
end
section
variable {P:Program} {ρ:dm} {L:List HA} {o:Oper}
end
def ID (w:World) (ty:Ty) (ys:List ty.den) (s:Hd):Prop:=∃ rs:List ty.Refs,ys.length=rs.length∧s.n=ys.length∧(ys.length=0∨∃ b o,s.a=some ⟨b,o,none⟩∧∀ j u,(cellsOf ty ys rs)[j]? = some u→w.cell? ⟨b,o+j,none⟩=some u)
theorem D1 {c:bD} {ty:Ty}  {ys:List ty.den} {s:Hd} (h:HA.holds w c (.rep ty K ys s)):ID w ty ys s:=by
 obtain ⟨rs,hr,hn,hle,hm,hc⟩:=h
 refine ⟨rs,hr.length,hn,?_⟩
 rcases hc with ⟨h1,h2⟩ | ⟨b,off,arr,tt,fz,h1,hS,hbb,hfit,hcells⟩
 ·grind
 ·refine .inr ⟨_,_,h1,fun j u hu=>?_⟩
  rw [mQ hbb]
  grind
theorem af8 {ty:Ty} {xs:List ty.den} {s u:Hd}  (hsz:ty.sz=1) (h:ID w ty xs u) (hp:pX s u 1 lo hi) (hb:lo≤hi∧hi≤xs.length):ID w ty ((xs.take hi.toNat).drop lo.toNat) s:=by
 obtain ⟨rs,hl,hn,hc⟩:=h
 obtain ⟨h0,hsn,hpt⟩:=hp
 have hlen:((xs.take hi.toNat).drop lo.toNat).length=hi.toNat - lo.toNat:=by
  grind
 refine ⟨(rs.take hi.toNat).drop lo.toNat,by simp [hl],by grind,?_⟩
 by_cases hlt:lo<hi
 ·obtain ⟨b,o,ha,hu⟩:=hpt hlt
  right
  refine ⟨_,_,ha,fun j v hv=>?_⟩
  rcases hc with hc | ⟨b',o',hua,hcell⟩
  ·omega
  ·rw [rt ty _ (by simp [hl]),jz ty _ hl,hsz,abQ,abQ,ZT,aew] at hv
   split at hv
   ·have:=hcell _ _ hv
    simp only [eQ,hua,abQ,Addr.mk.injEq,ai3] at hu
    grind
   ·cases hv
 grind
theorem L6 {P:Program} {dT sT ty e:TypeId} (hu:P.underlying dT=some (.slice e')) (hs:(P.info? e').map (·.size)=some 1) {h d s:Hd} {n:Nat} {xs ys:List Value}  (hown:w.ownsRow 0 e 1 h.val n xs)
  (hp:pX d h 1 lo hi) (hb:lo≤hi∧hi≤n) (hsn:s.n=ys.length) (hsc:ys.length=0∨∃ a,s.a=some a∧∀ j u,ys[j]? = some u→w.cell? (a.add j)=some u) (h1 : ∀ v∈ys,v.oneCell' = true) :
  ∃ w',(Builtin.copy_ #[dT,sT] ty #[d.val,s.val]).run P w = .ok (.int .i64 ((min (hi - lo).toNat ys.length:Nat):Int)) w' ∧
   w'.ownsRow 0 e 1 h.val n (xs.take lo.toNat++ys.take (min (hi - lo).toNat ys.length)++xs.drop (lo.toNat+min (hi - lo).toNat ys.length))∧w.grownBy w' h.val.ownBlock:=by
 obtain ⟨h0,hdn,hpt⟩:=hp
 obtain ⟨k,hk⟩ : ∃ k,k=min (hi - lo).toNat ys.length:=⟨_,rfl⟩
 rw [← hk]
 by_cases hk0:k=0
 ·refine ⟨w,?_,?_,⟨rfl,rfl,rfl,Xw _,fun _ _ _=>rfl⟩⟩
  ·rw [hk0]
   exact run_copy_none w dT sT ty e' d.a s.a d.n d.cap s.n s.cap hu hs (by grind)
  ·rw [hk0]
   simpa using hown
 ·obtain ⟨b,o,hda,hpat⟩:=hpt (by omega)
  rcases hsc with hsc | ⟨a,hsa,hcell⟩
  ·omega
  ·have hlk:(ys.take k).length=k:=by grind
   rcases hown.2 with ⟨hv,hn0⟩ | ⟨g,cap,cur,hv,hbg,hg,hnc,hcm,hcs,htake⟩
   ·omega
   ·simp only [Hd.val,Value.slice.injEq] at hv
    obtain ⟨v1,v2,v3⟩:=hv
    simp only [eQ,v1,abQ,afu,Addr.mk.injEq,ai3] at hpat
    obtain ⟨rfl,rfl⟩:=hpat
    have hxl:xs.length=n:=by grind
    have hr:=run_copy_row (P:=P) w dT sT ty e' g lo.toNat d.n d.cap a s.n s.cap cur e (ys.take k) hu hs hg (by grind)
     (fun j v hv=>hcell j v (by grind)) (by grind) (fun v hv=>h1 v (agF hv))
    refine ⟨w.setRow g (cur.toList.take lo.toNat++ys.take k++cur.toList.drop (lo.toNat+(ys.take k).length)).toArray,?_,⟨?_, .inr ⟨g,cap,_,by grind,hbg,setRow_heap w g cur _ e _ hg,hnc,hcm,?_,?_⟩⟩,⟨rfl,rfl,rfl,by simp,fun k _ hk=>setRow_other w g k _ (fun e=>hk (by simp [Hd.val,v1,Value.ownBlock,e]))⟩⟩
    ·simpa only [Hd.val,hda,hsa,hlk,goInt] using hr
    ·grind
    ·grind
    ·have hcl:cur.toList.length=cap:=by grind
     rw [abQ] at htake
     have e1:xs.take lo.toNat=cur.toList.take lo.toNat:=by grind
     have e2:xs.drop (lo.toNat+k)=(cur.toList.drop (lo.toNat+k)).take (n - (lo.toNat+k)):=by rw [← htake,aeR]
     have l1:(cur.toList.take lo.toNat++ys.take k).length=lo.toNat+k:=by grind
     rw [e1,e2,hlk,abQ,Z9,l1,Yr (by omega)]
section
variable {P:Program} {ρ:dm} {L:List HA} {o:Oper}
theorem aeS {e:TypeId} {ty:Ty}   {xs ys:List ty.den} {h d s:Hd}   (hpure:ty.pureB=true) (h1:Nat.beq ty.sz 1=true) (j:Nat)
  (hj:L[j]? = some (.own ty e ci K xs h)) (hd : ∀ w c,am w c L→pX d h 1 lo hi) (hsrc : ∀ w c,am w c L→ID w ty ys s) (ho:o.op = .call { callee:=.builtin .copy,args:=#[x,y],argTypes:=#[t,u] }) (ht:P.underlying t=some (.slice e')) (hi' : TI P e' sz by_ z) (hs:Nat.beq sz 1=true)
  (hx:aR ρ x=d.val) (hy:aR ρ y=s.val) (hb:decide (lo≤hi∧hi≤xs.length)=true) (hci:Nat.ble 2 ci=true) (he:Nat.blt e 1048576=true) :
  c9 P ρ o L [ci] (fun _:Unit=>.int .i64 ((min (hi - lo).toNat ys.length:Nat):Int)) (fun _=>[.own ty e ci K (xs.take lo.toNat++ys.take (min (hi - lo).toNat ys.length)++xs.drop (lo.toNat+min (hi - lo).toNat ys.length)) h]):=by
 intro a ev w c next Q ha hL hk
 have htihi:=hi'; clear hi'
 obtain ⟨inf,hi',hzz,hs1,hb1⟩:=htihi.get
 obtain ⟨rs,hr1,hown,hcol⟩:=hL.at hj
 obtain ⟨rs2,hl2,hn2,hc2⟩:=hsrc w c hL
 obtain ⟨hb1,hb2⟩:=Yd hb
 have hsz1:=Wo h1
 have hs' := Wo hs
 have hlc:(cellsOf ty ys rs2).length=ys.length:=by rw [cT ty hl2,hsz1,abQ]
 replace hown:w.ownsRow 0 e 1 h.val xs.length (cellsOf ty xs rs):=by rw [← hsz1]; exact hown.plain he
 obtain ⟨w',hrun,ho',hg⟩:=L6 (P:=P) (ty:=o.type) (sT:=u) ht (by grind) hown (hd w c hL) ⟨hb1,hb2⟩ (ys:=cellsOf ty ys rs2) (by rw [hlc]; exact hn2) (by rw [hlc]; exact hc2.imp id fun ⟨b,o,h1,h2⟩=>⟨_,h1,fun j u hu=>by rw [fj]; grind⟩) (lj ty)
 rw [hlc] at hrun ho'
 have hex:(execOp ev o).run P w = .ok (.value (.int .i64 ((min (hi - lo).toNat ys.length:Nat):Int))) w' := by
  simp [execOp,ho,ha,hx,hy,resolve,invoke,builtin,hrun,Result.andThen]
 rw [hex]
 have hst:=yP hci hg hcol
 have hlo:=(hd w c hL).1
 have hlen:(xs.take lo.toNat++ys.take (min (hi - lo).toNat ys.length)++xs.drop (lo.toNat+min (hi - lo).toNat ys.length)).length=xs.length:=by
  grind
 refine hk () w' _ hst (am.cons (show (HA.own ty e ci K _ h).holds w' _ from ⟨rs.take lo.toNat++rs2.take (min (hi - lo).toNat ys.length)++rs.drop (lo.toNat+min (hi - lo).toNat ys.length),?_,?_,Dw (fun g hg=>.inl hg) hcol⟩) (am.nil _ _))
 ·exact kP (by have:=hr1.length; grind) fun j x y _ _=>bT.pure ty x y hpure
 ·have:=hr1.length
  rw [hlen,eV ty (by grind),eV ty (by grind),jz ty _ hr1.length,jz ty _ hl2,rt ty _ hr1.length,hsz1]
  simp only [abQ]
  exact Aa ho'
theorem MM {e:TypeId} {klo:IntKind} {i:Int} {ty:Ty}   {xs:List ty.den} {h:Hd}   (k:Nat) (hk:L[k]? = some (.own ty e ci K xs h)) (ho:o.op = .slice t x (some y) none none)
  (ht:P.underlying t=some (.slice e)) (hti:TI P e sz by_ z) (hs:sz=ty.sz) (h1:Nat.beq sz 1=true) (hx:aR ρ x=h.val) (hlo:aR ρ y = .int klo i) (hb:decide (0≤i∧i≤(xs.length:Int)∧(xs.length:Int)≤xs.length)=true) (he:Nat.blt e 1048576=true) :
  c9 P ρ o L [] (fun _:Unit=>(h.cut i.toNat (xs.length:Int).toNat sz).val) (fun _=>[.rep ty (ci::K) ((xs.take (xs.length:Int).toNat).drop i.toNat) (h.cut i.toNat (xs.length:Int).toNat sz), .pure (pX (h.cut i.toNat (xs.length:Int).toNat sz) h 1 i xs.length)]):=fun a ev w c next Q ha hL hn=>by
 obtain ⟨h0,hj,_⟩:=Yd hb
 refine xG (L:=.rep ty (ci::K) xs h::L) (i:=i) (klo:=klo) (khi:=.i64) (j:=xs.length) 0 rfl ho ht hti hs hx hlo rfl hb a ev w c next Q ha (am.cons (zP (hL.at hk)) hL) fun y w' c' hst hF=>hn () w' c' hst (am.cons (hF.at (k:=0) rfl) (am.cons ?_ (am.nil _ _)))
 obtain ⟨ys,hr,hown,hcol⟩:(HA.own ty e ci K xs h).holds w c:=hL.at hk
 have hs1:=Wo h1
 refine ⟨h0,by simp only [Hd.cut]; omega,fun hlt=>?_⟩
 rcases (hown.plain he).2 with ⟨hv,hn0⟩ | ⟨g,cap,cur,hv,_,_,hnc,_⟩
 ·omega
 ·simp only [Hd.val,Value.slice.injEq] at hv
  obtain ⟨v1,v2,v3⟩:=hv
  refine ⟨g,i.toNat,?_,?_⟩
  ·simp only [Hd.cut,v1,v3,hs1,abQ]
   rw [if_neg (by omega)]
   simp [fj]
  ·simp [eQ,v1]
end
end Go.Sm
